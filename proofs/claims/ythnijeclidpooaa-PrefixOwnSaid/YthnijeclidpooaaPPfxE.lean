/- prefix: the law PrefixOwn. Conditions: none. -/
import Derived.Test.YthnijeclidpooaaPPfx
import Derived.Test.YthnijeclidpooaaOPfx
namespace Go.Proofs.Ythnijeclidpooaa.X
open Go Go.RowKit Go.Proofs.Ythnijeclidpooaa.Abs Go.Proofs.Ythnijeclidpooaa.Bits
set_option linter.unusedVariables false
set_option linter.unnecessarySimpa false
set_option linter.unusedSimpArgs false
set_option maxRecDepth 100000
theorem eqNode_all (l : List TNode) (hlen : l.length * 32 ≤ 140737488355328) : eqNode_fn (l, (l, ())) = some (true, ()) := by
  unfold eqNode_fn eqNode_tree
  have := loop_hit (tag := 280004) (f := fun x => (eqNode_step28_4 x).eval) (l := l) (fun i => ((i : Int), (l, (l, ((l.length : Int), ()))))) (fun _ => false)
      (fun q => match q with | some q => Sum.inl (false, ()) | none => Sum.inr ())
      (fun i x hx => by
        have hi := (List.getElem?_eq_some_iff.1 hx).1
        show (eqNode_step28_4 _).eval = _
        unfold eqNode_step28_4
        exact ev_t (by simp; omega) (ev_g (by simp) (ev_opt (show l[Int.toNat (i : Int)]? = some x by simpa using hx) (ev_g (by simp) (ev_opt (show l[Int.toNat (i : Int)]? = some x by simpa using hx) (ev_f (by simp) (ev_r (by rw [next_i64 i (by omega)]))))))))
      (by show (eqNode_step28_4 _).eval = _; exact ev_f (by simp) (ev_r rfl)) 18446744073709551616 (by omega)
  have h0 : hit (fun _ => false) l = none := hit_none.2 fun _ _ => rfl
  rw [h0] at this
  exact ev_f (by simp) (ev_opt (show eqNode_loop28_4 ((0 : Int), (l, (l, ((l.length : Int), ())))) = _ from this) rfl)
theorem own_loopA (a r k : List TNode) (b : Bool) : ∀ (d i n N : Nat) (ys : List TNode), i + d = N → ys.length = N → N ≤ 9223372036854775807 → d < n →
    loopO 10080010 (fun x => (prefixOwn_step1008_10 x).eval) n ((i : Int), (k, (b, ((N : Int), (ys, (r, (a, ()))))))) = some (k, (b, (r, (a, ())))) := by
  intro d
  induction d with
  | zero =>
    intro i n N ys hi hy hN hn
    obtain ⟨n, rfl⟩ : ∃ m, n = m + 1 := ⟨n - 1, by omega⟩
    exact loopO_out (ev_f (by simp; omega) (ev_g (by simp) (ev_r rfl)))
  | succ d ih =>
    intro i n N ys hi hy hN hn
    obtain ⟨n, rfl⟩ : ∃ m, n = m + 1 := ⟨n - 1, by omega⟩
    have hlt : i < ys.length := by omega
    have hg : ys[Int.toNat (i : Int)]? = some ys[i] := by rw [Int.toNat_natCast]; exact List.getElem?_eq_getElem hlt
    refine (loopO_in (ev_t (by simp; omega) (ev_g (by simp; omega) (ev_opt hg (ev_g (by simp; omega) (ev_opt hg (ev_g (by simp) (ev_g (by simp) (ev_r rfl))))))))).trans ?_
    rw [next_i64 i (by omega)]
    exact ih (i + 1) n N _ (by omega) (by rw [List.length_set]; exact hy) hN (by omega)
theorem own_loopB (r k : List TNode) (b : Bool) : ∀ (d i n N : Nat) (ys : List TNode), i + d = N → ys.length = N → N ≤ 9223372036854775807 → d < n →
    loopO 20080010 (fun x => (prefixOwn_step2008_10 x).eval) n ((i : Int), (k, (b, ((N : Int), (ys, (r, ())))))) = some (k, (b, (r, ()))) := by
  intro d
  induction d with
  | zero =>
    intro i n N ys hi hy hN hn
    obtain ⟨n, rfl⟩ : ∃ m, n = m + 1 := ⟨n - 1, by omega⟩
    exact loopO_out (ev_f (by simp; omega) (ev_r rfl))
  | succ d ih =>
    intro i n N ys hi hy hN hn
    obtain ⟨n, rfl⟩ : ∃ m, n = m + 1 := ⟨n - 1, by omega⟩
    have hlt : i < ys.length := by omega
    have hg : ys[Int.toNat (i : Int)]? = some ys[i] := by rw [Int.toNat_natCast]; exact List.getElem?_eq_getElem hlt
    refine (loopO_in (ev_t (by simp; omega) (ev_g (by simp; omega) (ev_opt hg (ev_g (by simp; omega) (ev_opt hg (ev_g (by simp) (ev_r rfl)))))))).trans ?_
    rw [next_i64 i (by omega)]
    exact ih (i + 1) n N _ (by omega) (by rw [List.length_set]; exact hy) hN (by omega)
theorem prefixOwn_true {ns : List TNode} {a L : Int} (b0 : BndD 6 (D.st 9 ns)) (b1 : 0 ≤ a ∧ a ≤ 4294967295) (b2 : -9223372036854775808 ≤ L ∧ L ≤ 9223372036854775807) : prefixOwn.fn (ns, (a, (L, ()))) = some (true, ()) := by
  have hb : ns.length * 32 ≤ 140737488351232 := b0.1
  have he := eqNode_all ns (by omega)
  have hok : (okA a && okL L) = true := by simp [okA, okL]; omega
  refine jFS_true ?_
  show Holds (prefixOwn_tree _)
  refine ⟨_, ev_g (by simp; omega) (ev_g hok (ev_g hok (ev_opt he (ev_t rfl (ev_r rfl))))), ?_⟩
  intro N hN
  refine ⟨_, ev_g (by simp) (ev_g (by simp) (ev_r rfl)), ?_⟩
  intro ys hys
  refine ⟨_, ev_g (by simp; omega) (ev_g (by simp) (ev_opt (own_loopA ns _ ns _ N 0 _ N ys (by omega) hys (by omega) (by omega)) (ev_t rfl (ev_r rfl)))), ?_⟩
  intro M hM
  refine ⟨_, ev_g (by simp) (ev_g (by simp) (ev_r rfl)), ?_⟩
  intro zs hzs
  exact ⟨_, ev_g (by simp; omega) (ev_opt (own_loopB _ ns _ M 0 _ M zs (by omega) hzs (by omega) (by omega)) (ev_f rfl (ev_opt pLives (ev_t rfl (ev_t rfl (ev_opt he (ev_r rfl))))))), rfl⟩
end Go.Proofs.Ythnijeclidpooaa.X
