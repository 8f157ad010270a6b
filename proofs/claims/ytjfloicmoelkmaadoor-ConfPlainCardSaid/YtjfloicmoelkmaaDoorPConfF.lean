/- conf: the plan's check, and its text. Conditions: none. -/
import Derived.Test.YtjfloicmoelkmaaDoorPConfE
import Derived.Test.YtjfloicmoelkmaaDoorGWrite
namespace Go.Proofs.YtjfloicmoelkmaaDoor.X
open Go Go.RowKit Go.Proofs.YtjfloicmoelkmaaDoor.Abs Go.Proofs.YtjfloicmoelkmaaDoor.Bits
set_option linter.unusedVariables false
set_option linter.unnecessarySimpa false
set_option linter.unusedSimpArgs false
set_option maxRecDepth 100000
def netB (a l : Int) : Bool := decide ((0 : Int) ≤ l) && (decide (l ≤ (32 : Int)) && decide (IntKind.wrap IntKind.u32 (a * (2 : Int) ^ min (Int.toNat l) (32 : Nat)) = (0 : Int)))
theorem net_fn (a l : Int) : ruNet_fn (a, (l, ())) = some (netB a l, ()) := by
  unfold ruNet_fn ruNet_tree netB
  simp only [Tr.eval]
  cases h : decide ((0 : Int) ≤ l) <;> simp only [cond_true, cond_false, Bool.true_and, Bool.false_and]
  cases h2 : decide (l ≤ (32 : Int)) <;> rfl
def bndB (a b : Int) : Bool := decide ((0 : Int) ≤ a) && (decide (a ≤ b) && decide (b ≤ (65535 : Int)))
theorem bnd_fn (a b : Int) : ruBounds_fn (a, (b, ())) = some (bndB a b, ()) := by
  simp only [ruBounds_fn, ruBounds_tree, bndB, Tr.eval, cond_and]
def rightB (r : TRule) : Bool := netB r.fromAddr r.fromLong && (netB r.toAddr r.toLong && (decide ((0 : Int) ≤ r.proto) && (decide (r.proto ≤ (255 : Int)) && (bndB r.fromLow r.fromHigh && bndB r.toLow r.toHigh))))
theorem ruRight_is (r : TRule) : ruRight_fn (r.fromAddr, (r.fromLong, (r.toAddr, (r.toLong, (r.proto, (r.fromLow, (r.fromHigh, (r.toLow, (r.toHigh, (r.pass, ())))))))))) = some (rightB r, ()) := by
  simp only [ruRight_fn, ruRight_tree, rightB, Tr.eval, net_fn, bnd_fn, Option.bind_some, cond_and]
theorem right_long {r : TRule} (h : rightB r = true) : 0 ≤ r.fromLong ∧ r.fromLong ≤ 32 ∧ 0 ≤ r.toLong ∧ r.toLong ≤ 32 := by
  simp only [rightB, netB, Bool.and_eq_true, decide_eq_true_eq] at h
  exact ⟨h.1.1, h.1.2.1, h.2.1.1, h.2.1.2.1⟩
def ruChk (l : List TRule) : Int := if 64 < l.length then 2 else if l.all rightB then 0 else 4
theorem ruChk_zero {l : List TRule} : ruChk l = 0 ↔ l.length ≤ 64 ∧ ∀ r ∈ l, rightB r = true := by
  unfold ruChk
  split
  · simp; omega
  · split
    · rename_i h1 h2; simp only [List.all_eq_true] at h2; exact ⟨fun _ => ⟨by omega, h2⟩, fun _ => rfl⟩
    · rename_i h1 h2; simp only [List.all_eq_true] at h2; exact ⟨fun h => by omega, fun h => (h2 h.2).elim⟩
theorem check_fn (l : List TRule) : ruCheck_fn (l, ()) = some (ruChk l, ()) := by
  unfold ruCheck_fn ruCheck_tree
  by_cases hl : 64 < l.length
  · exact ev_t (by simp; omega) (ev_r (by unfold ruChk; rw [if_pos hl]))
  · refine ev_f (by simp; omega) ?_
    have := loop_hit (tag := 360004) (f := fun x => (ruCheck_step36_4 x).eval) (l := l) (fun i => ((i : Int), (l, ((l.length : Int), ())))) (fun r => !rightB r)
      (fun o => match o with | some _ => Sum.inl ((4 : Int), ()) | none => Sum.inr ())
      (fun i x hx => by
        have hi := (List.getElem?_eq_some_iff.1 hx).1
        have e : (ruCheck_step36_4 ((i : Int), (l, ((l.length : Int), ())))).eval = match !rightB x with | true => some (.inr (Sum.inl ((4 : Int), ()))) | false => some (.inl (((i + 1 : Nat) : Int), (l, ((l.length : Int), ())))) := by
          unfold ruCheck_step36_4
          refine ev_t (by simp; omega) (ev_g (by simp) (ev_opt (show l[Int.toNat (i : Int)]? = some x by simpa using hx) (ev_opt (ruRight_is x) ?_)))
          cases rightB x with
          | true => exact ev_f rfl (ev_r (by rw [next_i64 i (by omega)]))
          | false => exact ev_t rfl (ev_r rfl)
        exact e.trans (by cases rightB x <;> rfl))
      (by show (ruCheck_step36_4 _).eval = _; exact ev_f (by simp) (ev_r rfl)) 18446744073709551616 (by omega)
    refine ev_opt (show ruCheck_loop36_4 ((0 : Int), (l, ((l.length : Int), ()))) = _ from this) ?_
    cases h : hit (fun r => !rightB r) l with
    | none =>
      have := hit_none.1 h
      have e : ruChk l = 0 := ruChk_zero.2 ⟨by omega, fun r hr => by simpa using this r hr⟩
      rw [e]; rfl
    | some q =>
      have h1 := (hit_at (i := q.1) (x := q.2) h)
      have e : ruChk l = 4 := by
        unfold ruChk
        rw [if_neg hl, if_neg]
        intro hall
        have := List.all_eq_true.1 hall q.2 (List.mem_of_getElem? h1.1)
        simp [this] at h1
      rw [e]; rfl
/-- A plan that is right. -/
structure PlanOk (p : PL) : Prop where
  l : 64 ≤ p.l ∧ p.l ≤ 65472
  s : 64 ≤ p.s ∧ p.s ≤ 65472
  li : 1 ≤ p.li ∧ p.li ≤ 1000000
  ra : 0 ≤ p.ra ∧ p.ra ≤ 1000000
  mo : 1 ≤ p.mo ∧ p.mo ≤ 1000000000
  few : p.ru.length ≤ 64
  ru : ∀ r ∈ p.ru, rightB r = true
theorem po_ok (b : Int) : ∃ e, poCheck_fn (b, ((0 : Int), ())) = some (e, ()) ∧ (e = 0 → 64 ≤ b ∧ b ≤ 65472) := by
  by_cases h1 : b < 64
  · exact ⟨1, ev_t (decide_eq_true h1) (ev_r rfl), fun h => by cases h⟩
  by_cases h2 : 65472 < b
  · exact ⟨1, ev_f (decide_eq_false h1) (ev_t (decide_eq_true h2) (ev_r rfl)), fun h => by cases h⟩
  by_cases h3 : Int.tmod b 64 = 0
  · exact ⟨0, ev_f (decide_eq_false h1) (ev_f (decide_eq_false h2) (ev_g rfl (ev_f (by simp [h3]) (ev_r rfl)))), fun _ => by omega⟩
  · exact ⟨1, ev_f (decide_eq_false h1) (ev_f (decide_eq_false h2) (ev_g rfl (ev_t (by simp [h3]) (ev_r rfl)))), fun h => by cases h⟩
theorem chk_ex (p : PL) : ∃ e, confCheck_fn (p.o, (p.l, (p.s, (p.li, (p.ra, (p.mo, (p.ru, (p.ot, ())))))))) = some (e, ()) ∧ (e = 0 → PlanOk p) := by
  obtain ⟨e1, k1, q1⟩ := po_ok p.l
  obtain ⟨e2, k2, q2⟩ := po_ok p.s
  by_cases h1 : e1 = 0
  case neg => exact ⟨1, ev_opt k1 (ev_t (by simp [h1]) (ev_r rfl)), fun h => by cases h⟩
  by_cases h2 : e2 = 0
  case neg => exact ⟨1, ev_opt k1 (ev_f (by simp [h1]) (ev_opt k2 (ev_t (by simp [h2]) (ev_r rfl)))), fun h => by cases h⟩
  by_cases h3 : p.li < 1
  · exact ⟨1, ev_opt k1 (ev_f (by simp [h1]) (ev_opt k2 (ev_f (by simp [h2]) (ev_t (decide_eq_true h3) (ev_r rfl))))), fun h => by cases h⟩
  by_cases h4 : 1000000 < p.li
  · exact ⟨1, ev_opt k1 (ev_f (by simp [h1]) (ev_opt k2 (ev_f (by simp [h2]) (ev_f (decide_eq_false h3) (ev_t (decide_eq_true h4) (ev_r rfl)))))), fun h => by cases h⟩
  by_cases h5 : p.ra < 0
  · exact ⟨1, ev_opt k1 (ev_f (by simp [h1]) (ev_opt k2 (ev_f (by simp [h2]) (ev_f (decide_eq_false h3) (ev_f (decide_eq_false h4) (ev_t (decide_eq_true h5) (ev_r rfl))))))), fun h => by cases h⟩
  by_cases h6 : 1000000 < p.ra
  · exact ⟨1, ev_opt k1 (ev_f (by simp [h1]) (ev_opt k2 (ev_f (by simp [h2]) (ev_f (decide_eq_false h3) (ev_f (decide_eq_false h4) (ev_f (decide_eq_false h5) (ev_t (decide_eq_true h6) (ev_r rfl)))))))), fun h => by cases h⟩
  by_cases h7 : p.mo < 1
  · exact ⟨1, ev_opt k1 (ev_f (by simp [h1]) (ev_opt k2 (ev_f (by simp [h2]) (ev_f (decide_eq_false h3) (ev_f (decide_eq_false h4) (ev_f (decide_eq_false h5) (ev_f (decide_eq_false h6) (ev_t (decide_eq_true h7) (ev_r rfl))))))))), fun h => by cases h⟩
  by_cases h8 : 1000000000 < p.mo
  · exact ⟨1, ev_opt k1 (ev_f (by simp [h1]) (ev_opt k2 (ev_f (by simp [h2]) (ev_f (decide_eq_false h3) (ev_f (decide_eq_false h4) (ev_f (decide_eq_false h5) (ev_f (decide_eq_false h6) (ev_f (decide_eq_false h7) (ev_t (decide_eq_true h8) (ev_r rfl)))))))))), fun h => by cases h⟩
  refine ⟨ruChk p.ru, ev_opt k1 (ev_f (by simp [h1]) (ev_opt k2 (ev_f (by simp [h2]) (ev_f (decide_eq_false h3) (ev_f (decide_eq_false h4) (ev_f (decide_eq_false h5) (ev_f (decide_eq_false h6) (ev_f (decide_eq_false h7) (ev_f (decide_eq_false h8) (ev_opt (check_fn p.ru) (ev_r rfl))))))))))), fun h => ?_⟩
  obtain ⟨r1, r2⟩ := ruChk_zero.1 h
  exact ⟨q1 h1, q2 h2, by omega, by omega, by omega, r1, r2⟩
theorem chk_some (p : PL) : confCheck_fn (p.o, (p.l, (p.s, (p.li, (p.ra, (p.mo, (p.ru, (p.ot, ())))))))) = some (chk p, ()) ∧ (chk p = 0 → PlanOk p) := by
  obtain ⟨e, h1, h2⟩ := chk_ex p
  have : chk p = e := by unfold chk; rw [h1]
  rw [this]; exact ⟨h1, h2⟩
theorem cRead_is (s : Tx) : cRead_fn (s, ()) = some (resR (readF s)) := cRead_ok s fun p => ⟨_, (chk_some p).1⟩
/-! ### The text -/
structure AdrP (p : PL) : Prop where
  o : U32 p.o
  ru : ∀ r ∈ p.ru, U32 r.fromAddr ∧ U32 r.toAddr
def vd' (b : Bool) : Tx := if b then wPass else wDrop
def netT (a l : Int) : Tx := shw a ++ 47 :: Lib.itoa l
def bndT (a b : Int) : Tx := Lib.itoa a ++ 45 :: Lib.itoa b
def ruleW (r : TRule) : List Tx := [vd' r.pass, netT r.fromAddr r.fromLong, netT r.toAddr r.toLong, Lib.itoa r.proto, bndT r.fromLow r.fromHigh, bndT r.toLow r.toHigh]
def headW (p : PL) : List (List Tx) := [[wOut, shw p.o], [wPorts, Lib.itoa p.l, Lib.itoa p.s], [wLife, Lib.itoa p.li], [wRate, Lib.itoa p.ra, Lib.itoa p.mo]]
def linesW (p : PL) : List (List Tx) := headW p ++ p.ru.map ruleW ++ [[wElse, vd' p.ot]]
def ln (ws : List Tx) : Tx := Lib.join ws [32] ++ [10]
def txt (p : PL) : Tx := (linesW p).flatMap ln
theorem itoa_len {n : Int} (h : 0 ≤ n ∧ n ≤ 1000000000) : (Lib.itoa n).length ≤ 10 := by
  rw [itoa_dec h.1]; exact dec_len 9 _ (by omega)
theorem netT_len (a l : Int) (h : 0 ≤ l ∧ l ≤ 1000000000) : (netT a l).length ≤ 26 := by
  have := shw_len a; have := itoa_len h
  unfold netT; simp; omega
theorem bndT_len (a b : Int) (h : 0 ≤ a ∧ a ≤ 1000000000) (h2 : 0 ≤ b ∧ b ≤ 1000000000) : (bndT a b).length ≤ 21 := by
  have := itoa_len h; have := itoa_len h2
  unfold bndT; simp; omega
theorem vd_len (b : Bool) : (vd' b).length = 4 := by cases b <;> rfl
theorem cfNet_ok (a l : Int) (ha : U32 a) (h : 0 ≤ l ∧ l ≤ 1000000000) : cfNet_fn (a, (l, ())) = some (netT a l, ()) := by
  have h1 := shw_len a; have h2 := itoa_len h
  refine ev_opt (show_ok a ha) (ev_g (by simp; omega) (ev_g (decide_eq_true ⟨by omega, by omega⟩) (ev_g (by simp; omega) (ev_r ?_))))
  unfold netT; simp
theorem cfBounds_ok (a b : Int) (h : 0 ≤ a ∧ a ≤ 1000000000) (h2 : 0 ≤ b ∧ b ≤ 1000000000) : cfBounds_fn (a, (b, ())) = some (bndT a b, ()) := by
  have k1 := itoa_len h; have k2 := itoa_len h2
  refine ev_g (decide_eq_true ⟨by omega, by omega⟩) (ev_g (by simp; omega) (ev_g (decide_eq_true ⟨by omega, by omega⟩) (ev_g (by simp; omega) (ev_r ?_))))
  unfold bndT; simp
theorem cfVerdict_ok (b : Bool) : cfVerdict_fn (b, ()) = some (vd' b, ()) := by cases b <;> rfl
theorem right_nums {r : TRule} (h : rightB r = true) : (0 ≤ r.fromLong ∧ r.fromLong ≤ 32) ∧ (0 ≤ r.toLong ∧ r.toLong ≤ 32) ∧ (0 ≤ r.proto ∧ r.proto ≤ 255) ∧ (0 ≤ r.fromLow ∧ r.fromLow ≤ 65535) ∧ (0 ≤ r.fromHigh ∧ r.fromHigh ≤ 65535) ∧ (0 ≤ r.toLow ∧ r.toLow ≤ 65535) ∧ (0 ≤ r.toHigh ∧ r.toHigh ≤ 65535) := by
  simp only [rightB, netB, bndB, Bool.and_eq_true, decide_eq_true_eq] at h
  omega
theorem ruleW_len {r : TRule} (h : rightB r = true) : (Lib.join (ruleW r) [32]).length ≤ 200 := by
  obtain ⟨h1, h2, h3, h4, h5, h6, h7⟩ := right_nums h
  have k1 := netT_len r.fromAddr r.fromLong (by omega); have k2 := netT_len r.toAddr r.toLong (by omega); have k3 := itoa_len (n := r.proto) (by omega)
  have k4 := bndT_len r.fromLow r.fromHigh (by omega) (by omega); have k5 := bndT_len r.toLow r.toHigh (by omega) (by omega); have k6 := vd_len r.pass
  unfold ruleW Lib.join
  simp [List.intercalate]
  omega
end Go.Proofs.YtjfloicmoelkmaaDoor.X
