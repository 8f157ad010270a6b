/- The laws TcpBack and TcpTold, in plain terms. Conditions: none. -/
import Derived.Test.YtjehhmeaigkbnaaPTcpS
import Derived.Test.YtjehhmeaigkbnaaLTcp2
import Derived.Test.YtjehhmeaigkbnaaAbsQu
namespace Go.Proofs.Ytjehhmeaigkbnaa.X
open Go Go.RowKit Go.Proofs.Ytjehhmeaigkbnaa.Abs Go.Proofs.Ytjehhmeaigkbnaa.Bits
set_option linter.unusedVariables false
set_option linter.unnecessarySimpa false
set_option linter.unusedSimpArgs false
set_option maxRecDepth 100000

theorem tcLives_ok : tcpLives_fn () = some (true, ()) := by kernel_rfl
theorem eqOpt_self (l : List TOption) (hl : l.length ≤ 1048576) : eqOpt_fn (l, (l, ())) = some (true, ()) := by
  unfold eqOpt_fn eqOpt_tree
  have := loop_hit (tag := 380004) (f := fun x => (eqOpt_step38_4 x).eval) (l := l) (fun i => ((i : Int), (l, (l, ((l.length : Int), ()))))) (fun _ => false)
      (fun q => match q with | some q => Sum.inl (false, ()) | none => Sum.inr ())
      (fun i x hx => by
        have hi := (List.getElem?_eq_some_iff.1 hx).1
        show (eqOpt_step38_4 _).eval = _
        unfold eqOpt_step38_4
        exact ev_t (by (first | (simp; done) | (simp; omega) | omega)) (ev_g (by simp) (ev_opt (show l[Int.toNat (i : Int)]? = some x by simpa using hx) (ev_g (by simp) (ev_opt (show l[Int.toNat (i : Int)]? = some x by simpa using hx) (ev_f (by simp) (ev_r (by rw [next_i64 i (by omega)]))))))))
      (by show (eqOpt_step38_4 _).eval = _; exact ev_f (by simp) (ev_r rfl)) 18446744073709551616 (by omega)
  have h0 : hit (fun _ => false) l = none := hit_none.2 fun _ _ => rfl
  rw [h0] at this
  exact ev_f (by simp) (ev_opt (show eqOpt_loop38_4 ((0 : Int), (l, (l, ((l.length : Int), ())))) = _ from this) rfl)
theorem same_self (g : TSegment) (hl : g.options.length ≤ 1048576) : sameSegment_fn (g9 g (g9 g ())) = some (true, ()) :=
  ev_t (by simp) (ev_t (by simp) (ev_t (by simp) (ev_t (by simp) (ev_t (by simp) (ev_t (by simp) (ev_t (by simp) (ev_t (by simp) (ev_opt (eqOpt_self g.options hl) (ev_r rfl)))))))))

theorem obs_len : ∀ l : List TOption, l.length ≤ (obs l).length := by
  intro l
  induction l with
  | nil => simp
  | cons o l ih => rw [obs_cons]; have : 1 ≤ (ob o).length := by unfold ob; split <;> simp
                   simp; omega
theorem ob_mem {l : List TOption} {o : TOption} (h : o ∈ l) : (ob o).length ≤ (obs l).length := by
  induction l with
  | nil => cases h
  | cons a l ih =>
    rw [obs_cons, List.length_append]
    rcases List.mem_cons.1 h with rfl | h
    · omega
    · have := ih h; omega
/-- What is read may be written. -/
theorem read_ok (s : List UInt8) (f t : Int) (hf : U32 f) (ht : U32 t) (hl : s.length ≤ Lim) : (∃ e, e ≠ 0 ∧ tcRead_fn (s, (f, (t, ()))) = some (z9 e)) ∨
    ∃ g, tcRead_fn (s, (f, (t, ()))) = some (g9 g (0, ())) ∧ werr g = 0 ∧ U32 g.seq ∧ U32 g.ack ∧ (sb g f t).length ≤ s.length := by
  rcases tcRead_ex s f t hf ht hl with h | ⟨l, rest, h1, h2, h3, h4, h5, h6, h7, h8, _⟩
  · exact .inl h
  · right
    have hlen := congrArg List.length h5
    simp only [List.length_drop, List.length_take, List.length_append] at hlen
    have ho : (obs l).length ≤ 40 := by omega
    have hb := u8n (s.getD 13 0)
    have hall : l.all okO = true := List.all_eq_true.2 fun o hm => okR_O (h6 o hm) (by have := ob_mem hm; omega)
    have hw : werr (gOf s l) = 0 := werr_of (wAt_bound s 0) (wAt_bound s 2) (wAt_bound s 14) (wAt_bound s 18) ⟨by show (0 : Int) ≤ ((s.getD 13 0).toNat : Int); omega, by show ((s.getD 13 0).toNat : Int) ≤ 255; omega⟩ hall ho (by show (s.drop (tn s)).length ≤ 65455; rw [List.length_drop]; omega)
    refine ⟨gOf s l, h8, hw, lAt_bound s 4, lAt_bound s 8, ?_⟩
    rw [sb_len]
    have pl := pad_len (obs l)
    show 20 + (pad (obs l)).length + (s.drop (tn s)).length ≤ s.length
    rw [List.length_drop]
    have : tn s % 4 = 0 := by unfold tn; omega
    omega
theorem z_same (e : Int) : sameSegment_fn ((z9 e).1, ((z9 e).2.1, ((z9 e).2.2.1, ((z9 e).2.2.2.1, ((z9 e).2.2.2.2.1, ((z9 e).2.2.2.2.2.1, ((z9 e).2.2.2.2.2.2.1, ((z9 e).2.2.2.2.2.2.2.1, ((z9 e).2.2.2.2.2.2.2.2.1, ((0 : Int), ((0 : Int), ((0 : Int), ((0 : Int), ((0 : Int), ((0 : Int), ((0 : Int), ([], ([], ())))))))))))))))))) = some (true, ()) := same_self ⟨0, 0, 0, 0, 0, 0, 0, [], []⟩ (by simp)

theorem back_tail (s : List UInt8) (f t : Int) (hf : U32 f) (ht : U32 t) (hl : s.length ≤ 1048576) {α : Type} (k : _ → Tr α) (r : Option α)
    (h1 : ∀ e, e ≠ 0 → (k (z9 e)).eval = r) (h2 : ∀ g, werr g = 0 → U32 g.seq → U32 g.ack → (sb g f t).length ≤ s.length → (k (g9 g (0, ()))).eval = r) : (Tr.opt (tcRead_fn (s, (f, (t, ())))) k).eval = r := by
  rcases read_ok s f t hf ht (by unfold Lim; omega) with ⟨e, he, h⟩ | ⟨g, h, h3, h4, h5, h6⟩
  · exact ev_opt h (h1 e he)
  · exact ev_opt h (h2 g h3 h4 h5 h6)
theorem werr_len {g : TSegment} (h : werr g = 0) : g.options.length ≤ 1048576 := by
  obtain ⟨_, _, _, _, _, _, h7, _⟩ := werr_in h
  have := obs_len g.options; omega
theorem back_law (g : TSegment) (f t : Int) (s : List UInt8) (hs : U32 g.seq) (ha : U32 g.ack) (hf : U32 f) (ht : U32 t) (hl : g.options.length ≤ 1048576) (hsl : s.length ≤ 1048576) : (tcpBack_tree (g9 g (f, (t, (s, ()))))).eval = some (true, ()) := by
  have hw := tcWrite_ok g f t hs ha hf ht hl
  by_cases h0 : werr g = 0
  · rw [decide_eq_true h0] at hw
    refine ev_opt hw (ev_t rfl (ev_opt (tcRead_sb g f t hf ht hs ha h0) (ev_f rfl (ev_opt (same_self g hl) (ev_f rfl ?_)))))
    refine back_tail s f t hf ht hsl _ _ (fun e he => ?_) (fun h h1 h2 h3 h4 => ?_)
    · exact ev_opt tcLives_ok (ev_f rfl (ev_t (by show (!decide (e = 0)) = true; rw [decide_eq_false he]; rfl) (ev_opt tcLives_ok (ev_t rfl (ev_opt (z_same e) (ev_r rfl))))))
    · have hw2 := tcWrite_ok h f t h2 h3 hf ht (werr_len h1)
      rw [decide_eq_true h1] at hw2
      exact ev_opt tcLives_ok (ev_f rfl (ev_f rfl (ev_opt hw2 (ev_opt (tcRead_sb h f t hf ht h2 h3 h1) (ev_t rfl (ev_t rfl (ev_opt (same_self h (werr_len h1)) (ev_t rfl (ev_r (by simp [h4])))))))))) 
  · rw [decide_eq_false h0] at hw
    refine ev_opt hw (ev_f (decide_eq_false h0) ?_)
    refine back_tail s f t hf ht hsl _ _ (fun e he => ?_) (fun h h1 h2 h3 h4 => ?_)
    · exact ev_opt tcLives_ok (ev_f rfl (ev_t (by show (!decide (e = 0)) = true; rw [decide_eq_false he]; rfl) (ev_opt tcLives_ok (ev_t rfl (ev_opt (z_same e) (ev_r rfl))))))
    · have hw2 := tcWrite_ok h f t h2 h3 hf ht (werr_len h1)
      rw [decide_eq_true h1] at hw2
      exact ev_opt tcLives_ok (ev_f rfl (ev_f rfl (ev_opt hw2 (ev_opt (tcRead_sb h f t hf ht h2 h3 h1) (ev_t rfl (ev_t rfl (ev_opt (same_self h (werr_len h1)) (ev_t rfl (ev_r (by simp [h4]))))))))))
abbrev I64 (x : Int) : Prop := -9223372036854775808 ≤ x ∧ x ≤ 9223372036854775807
theorem tcpBack_true {a0 a1 a2 a3 a4 a5 a6 : Int} {o : List TOption} {d : List UInt8} {f t : Int} {s : List UInt8} (b0 : I64 a0) (b1 : I64 a1) (b2 : 0 ≤ a2 ∧ a2 ≤ 4294967295) (b3 : 0 ≤ a3 ∧ a3 ≤ 4294967295) (b4 : I64 a4) (b5 : I64 a5) (b6 : I64 a6) (b7 : BndD 6 (D.st 4 o)) (u7 : o.length ≤ 1048576) (b8 : d.length ≤ 140737488351232) (h1 : 0 ≤ f ∧ f ≤ 4294967295) (h2 : 0 ≤ t ∧ t ≤ 4294967295) (h3 : s.length < 1048576) :
    (tcpBack_tree (a0, (a1, (a2, (a3, (a4, (a5, (a6, (o, (d, (f, (t, (s, ()))))))))))))).eval = some (true, ()) := back_law ⟨a0, a1, a2, a3, a4, a5, a6, o, d⟩ f t s b2 b3 h1 h2 u7 (by omega)

/-! ### TcpTold -/
theorem told_at (a : Int) (h0 : 0 ≤ a) (h1 : a ≤ 9223372036854775807) : ∃ i k : Nat, k < 8 ∧ IntKind.wrap IntKind.i64 (Int.tdiv a (8 : Int)) = i ∧ Int.tmod a (8 : Int) = k := by
  refine ⟨(a / 8).toNat, (a % 8).toNat, by omega, ?_, ?_⟩
  · rw [Int.tdiv_eq_ediv_of_nonneg h0, wrapI64 ⟨by omega, by omega⟩]; omega
  · rw [Int.tmod_eq_emod_of_nonneg h0]; omega
theorem told_law (g : TSegment) (f t a : Int) (hs : U32 g.seq) (ha : U32 g.ack) (hf : U32 f) (ht : U32 t) (hl : g.options.length ≤ 1048576) (h : I64 a) : (tcpTold_tree (g9 g (f, (t, (a, ()))))).eval = some (true, ()) := by
  have hw := tcWrite_ok g f t hs ha hf ht hl
  by_cases h0 : werr g = 0
  case neg =>
    rw [decide_eq_false h0] at hw
    exact ev_opt hw (ev_opt tcLives_ok (ev_f rfl (ev_t (by simpa using h0) (ev_opt tcLives_ok (ev_r rfl)))))
  rw [decide_eq_true h0] at hw
  refine ev_opt hw (ev_opt tcLives_ok (ev_f rfl (ev_f rfl ?_)))
  by_cases ha0 : a < 0
  · exact ev_t (by simpa using ha0) (ev_opt tcLives_ok (ev_r rfl))
  refine ev_f (by simpa using ha0) (ev_g rfl ?_)
  obtain ⟨i, k, hk, e1, e2⟩ := told_at a (by omega) h.2
  simp only [e1, e2]
  obtain ⟨_, _, _, _, _, _, h7, h8⟩ := werr_in h0
  have pl := pad_len (obs g.options)
  have hlen := sb_len g f t
  by_cases hi : (sb g f t).length ≤ i
  · exact ev_t (by simpa using hi) (ev_opt tcLives_ok (ev_r rfl))
  have hget : (sb g f t)[Int.toNat (i : Int)]? = some ((sb g f t).getD i 0) := by
    rw [Int.toNat_natCast, List.getD_eq_getElem?_getD, List.getElem?_eq_getElem (by omega)]; rfl
  have hfl := flip_eq ((sb g f t).getD i 0) k hk
  refine ev_f (by simpa using hi) (ev_g (by simp; omega) (ev_g rfl (ev_g (by simp; omega) (ev_opt hget (ev_g rfl (ev_g (by simp) (ev_g (by simp; omega) (ev_opt hget (ev_g ?_ ?_)))))))))
  · rw [Int.toNat_natCast]; exact decide_eq_true hfl.2
  simp only [Int.toNat_natCast, hfl.1]
  have hsum := ws_sb g f t
  have hle : ((sb g f t).set i (flip ((sb g f t).getD i 0) k)).length = (sb g f t).length := by simp
  rcases tcRead_ex ((sb g f t).set i (flip ((sb g f t).getD i 0) k)) f t hf ht (by rw [hle]; unfold Lim; omega) with ⟨e, he, hr⟩ | ⟨l, rest, q1, q2, q3, q4, q5, q6, q7, q8, _⟩
  · exact ev_opt hr (ev_t (by show (!decide (e = 0)) = true; rw [decide_eq_false he]; rfl) (ev_opt (z_same e) (ev_r rfl)))
  · exfalso
    have hfl2 := ws_flip (sb g f t) i k (by omega) hk
    unfold sumR at q7
    rw [hle] at q7
    have e3 : ((sb g f t).length : Int) = sn g + g.data.length := by rw [hlen]; unfold sn; omega
    rw [e3] at q7
    have w1 := ws_under f t 6 (sn g + g.data.length) (sb g f t)
    have w2 := ws_under f t 6 (sn g + g.data.length) ((sb g f t).set i (flip ((sb g f t).getD i 0) k))
    omega
theorem tcpTold_true {a0 a1 a2 a3 a4 a5 a6 : Int} {o : List TOption} {d : List UInt8} {f t a : Int} (b0 : I64 a0) (b1 : I64 a1) (b2 : 0 ≤ a2 ∧ a2 ≤ 4294967295) (b3 : 0 ≤ a3 ∧ a3 ≤ 4294967295) (b4 : I64 a4) (b5 : I64 a5) (b6 : I64 a6) (b7 : BndD 6 (D.st 4 o)) (u7 : o.length ≤ 1048576) (b8 : d.length ≤ 140737488351232) (h1 : 0 ≤ f ∧ f ≤ 4294967295) (h2 : 0 ≤ t ∧ t ≤ 4294967295) (h3 : I64 a) :
    (tcpTold_tree (a0, (a1, (a2, (a3, (a4, (a5, (a6, (o, (d, (f, (t, (a, ()))))))))))))).eval = some (true, ()) := told_law ⟨a0, a1, a2, a3, a4, a5, a6, o, d⟩ f t a b2 b3 h1 h2 u7 h3
end Go.Proofs.Ytjehhmeaigkbnaa.X
