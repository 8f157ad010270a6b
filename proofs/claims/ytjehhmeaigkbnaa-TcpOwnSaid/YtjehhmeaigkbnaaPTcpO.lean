/- tcp: a segment that is moved stays as it was, and what is told shares nothing with it: the law TcpOwn. Conditions: none. -/
import Derived.Test.YtjehhmeaigkbnaaOTcp
import Derived.Test.YtjehhmeaigkbnaaPTcpM
namespace Go.Proofs.Ytjehhmeaigkbnaa.X
open Go Go.RowKit Go.Proofs.Ytjehhmeaigkbnaa.Abs Go.Proofs.Ytjehhmeaigkbnaa.Bits
set_option linter.unusedVariables false
set_option linter.unnecessarySimpa false
set_option linter.unusedSimpArgs false
set_option maxRecDepth 100000

theorem mo12 : tcMoveO_step36_12 = tcMove_step36_12 := rfl
theorem ml12 : tcMoveO_loop36_12 = tcMove_loop36_12 := by
  funext x
  unfold tcMoveO_loop36_12 tcMove_loop36_12
  rw [mo12]
theorem mo7 : tcMoveO_step36_7 = tcMove_step36_7 := by
  unfold tcMoveO_step36_7 tcMove_step36_7
  rw [ml12]
theorem ml7 : tcMoveO_loop36_7 = tcMove_loop36_7 := by
  funext x
  unfold tcMoveO_loop36_7 tcMove_loop36_7
  rw [mo7]
theorem moveO_ok (g : TSegment) (a b : Int) (hl : g.options.length * 24 ≤ 140737488351232) (hO : ∀ o ∈ g.options, o.data.length ≤ Lim) : ∃ r, tcMoveO_fn (g9 g (a, (b, ()))) = some r := by
  unfold tcMoveO_fn tcMoveO_tree
  by_cases hf : bits BinOp.and IntKind.i64 g.flags (16 : Int) = 0
  · exact ⟨_, ev_g (by simp [g9] <;> omega) (ev_t (show decide (bits BinOp.and IntKind.i64 g.flags (16 : Int) = 0) = true from decide_eq_true hf) (ev_g (by simp) (ev_r rfl)))⟩
  · have := move_outer b g.options (by omega) hO g.from' g.to ((g.seq + a) % 4294967296) ((g.ack + b) % 4294967296) g.flags g.window g.urgent g.data 0 0 0 0 0 0 0 [] g.options 0 18446744073709551616 rfl (by omega) (by omega)
    rw [List.take_zero, List.map_nil, List.nil_append] at this
    simp only [wrap32u]
    exact ⟨_, ev_g (by simp [g9] <;> omega) (ev_f (show decide (bits BinOp.and IntKind.i64 g.flags (16 : Int) = 0) = false from decide_eq_false hf) (ev_g (by simp) (ev_g (by simp) (ev_opt (show tcMoveO_loop36_7 _ = _ from (congrFun ml7 _).trans this) (ev_g (by simp) (ev_r rfl))))))⟩
theorem eqOpt_same (l : List TOption) (hl : l.length < 9223372036854775807) : eqOpt_fn (l, (l, ())) = some (true, ()) := by
  unfold eqOpt_fn eqOpt_tree
  have := loop_hit (tag := 380004) (f := fun x => (eqOpt_step38_4 x).eval) (l := l) (fun i => ((i : Int), (l, (l, ((l.length : Int), ()))))) (fun _ => false)
      (fun q => match q with | some q => Sum.inl (false, ()) | none => Sum.inr ())
      (fun i x hx => by
        have hi := (List.getElem?_eq_some_iff.1 hx).1
        show (eqOpt_step38_4 _).eval = _
        unfold eqOpt_step38_4
        exact ev_t (by (first | (simp; done) | (simp; omega) | omega)) (ev_g (by simp) (ev_opt (show l[Int.toNat (i : Int)]? = some x by simpa using hx) (ev_g (by simp) (ev_opt (show l[Int.toNat (i : Int)]? = some x by simpa using hx) (ev_f (by simp) (ev_r (by rw [next_i64 i (by omega)]))))))))
      (by show (eqOpt_step38_4 _).eval = _; exact ev_f (by simp) (ev_r rfl)) 18446744073709551616 (by omega)
  have h0 : hit (fun _ => false) l = none := hit_none.2 fun _ _ => rfl
  rw [h0] at this
  exact ev_f (by simp) (ev_opt (show eqOpt_loop38_4 ((0 : Int), (l, (l, ((l.length : Int), ())))) = _ from this) rfl)
theorem own_loopT {N : Nat} (hN : N ≤ 9223372036854775807) {a : List TOption} {x0 x1 x2 x3 x4 x5 x6 : Int} {b : List TOption} {d : List UInt8} : tcpOwn_loop14_5 ((0 : Int), ((N : Int), (N, (a, (x0, (x1, (x2, (x3, (x4, (x5, (x6, (b, (d, ()))))))))))))) = some (a, (x0, (x1, (x2, (x3, (x4, (x5, (x6, (b, (d, ())))))))))) := by
  have key : ∀ (q i n : Nat), i + q = N → q < n → loopO 140005 (fun x => (tcpOwn_step14_5 x).eval) n ((i : Int), ((N : Int), (N, (a, (x0, (x1, (x2, (x3, (x4, (x5, (x6, (b, (d, ()))))))))))))) = some (a, (x0, (x1, (x2, (x3, (x4, (x5, (x6, (b, (d, ())))))))))) := by
    intro q
    induction q with
    | zero =>
      intro i n hi hn
      obtain ⟨n, rfl⟩ : ∃ m, n = m + 1 := ⟨n - 1, by omega⟩
      exact loopO_out (ev_f (by simp; omega) (ev_g (by simp) (ev_r rfl)))
    | succ q ih =>
      intro i n hi hn
      obtain ⟨n, rfl⟩ : ∃ m, n = m + 1 := ⟨n - 1, by omega⟩
      refine (loopO_in ?_).trans (ih (i + 1) n (by omega) (by omega))
      refine ev_t (by simp; omega) (ev_g (by simp; omega) (ev_g (by simp; omega) (ev_g (by simp) (ev_g (by simp) (ev_g (by simp) ?_)))))
      rw [next_i64 i (by omega)]
      rfl
  exact key N 0 _ (by omega) (by omega)
theorem tcpOwn_true {a0 a1 a2 a3 a4 a5 a6 : Int} {o : List TOption} {e : List UInt8} {a b : Int} (b0 : I64 a0) (b1 : I64 a1) (b2 : 0 ≤ a2 ∧ a2 ≤ 4294967295) (b3 : 0 ≤ a3 ∧ a3 ≤ 4294967295) (b4 : I64 a4) (b5 : I64 a5) (b6 : I64 a6) (b7 : BndD 6 (D.st 4 o)) (b8 : e.length ≤ 140737488351232) (h1 : 0 ≤ a ∧ a ≤ 4294967295) (h2 : 0 ≤ b ∧ b ≤ 4294967295) :
    tcpOwn.fn (a0, (a1, (a2, (a3, (a4, (a5, (a6, (o, (e, (a, (b, ()))))))))))) = some (true, ()) := by
  have hb : o.length * 24 ≤ 140737488351232 := b7.1
  have hO : ∀ x ∈ o, x.data.length ≤ Lim := fun x hx => by
    have := b7.2 x hx (.s x.data) (by simp [enc])
    have h : x.data.length ≤ 140737488351232 := this
    unfold Lim
    omega
  obtain ⟨r, hr⟩ := moveO_ok ⟨a0, a1, a2, a3, a4, a5, a6, o, e⟩ a b hb hO
  have he := eqOpt_same o (by omega)
  refine jFS_true ?_
  show Holds (tcpOwn_tree _)
  refine ⟨_, ev_g (by simp; omega) (ev_opt hr (ev_r rfl)), ?_⟩
  intro N hN
  exact ⟨_, ev_g (by simp) (ev_g (by simp) (ev_g (by simp) (ev_g (by simp) (ev_opt (own_loopT hN) (ev_opt tcLives_ok (ev_t rfl (ev_opt he (ev_r rfl)))))))), rfl⟩
end Go.Proofs.Ytjehhmeaigkbnaa.X
