/- SerialTrim: what is left of a row of numbered bytes. -/
import Derived.Test.YtmnbhoklphakjaaPList
import Derived.Test.YtmnbhoklphakjaaLTrim
import Derived.Lib.IndexMore
namespace Go.Proofs.Ytmnbhoklphakjaa.X
open Go Go.RowKit Go.Proofs.Ytmnbhoklphakjaa.Abs
set_option maxRecDepth 100000
set_option linter.unusedVariables false
set_option linter.unusedSimpArgs false
set_option linter.unnecessarySimpa false
theorem wi (x : Int) (h : -9223372036854775808 ≤ x ∧ x ≤ 9223372036854775807) : IntKind.wrap IntKind.i64 x = x := by
  simp only [IntKind.wrap, IntKind.bits, IntKind.signed]
  simp
  omega
theorem seLives_ok : seLives_fn () = some (true, ()) := by kernel_rfl
/-- All of a row's bytes are within. -/
def AllW (t f z : Int) (d : List UInt8) : Prop := ∀ k : Nat, k < d.length → (t + k - f) % 4294967296 < z
/-- What is left stands in the row, where its number says, and is within. -/
def Left (t f z : Int) (d : List UInt8) (a : Int) (s : List UInt8) : Prop :=
  (s = [] ∧ a = f) ∨ (s ≠ [] ∧ ∃ j : Nat, j + s.length ≤ d.length ∧ s = List.drop j (List.take (j + s.length) d) ∧ a = (t + j) % 4294967296 ∧ AllW a f z s)
theorem trim_ex {t f z : Int} {d : List UInt8} (ht : 0 ≤ t ∧ t ≤ 4294967295) (hf : 0 ≤ f ∧ f ≤ 4294967295) (hz : 0 ≤ z ∧ z ≤ 4294967295) (hd : d.length ≤ 140737488351232) :
    ∃ (a : Int) (s : List UInt8), seTrim_fn (t, (d, (f, (z, ())))) = some (a, (s, ())) ∧ Left t f z d a s ∧ (AllW t f z d → d ≠ [] → s = d ∧ a = t) := by
  have lp := loopO_ex (tag := 250003) (f := fun x => (seTrim_step25_3 x).eval)
    (fun x => ∃ (i : Nat) (s : List UInt8) (a : Int), i ≤ d.length ∧ x = (s, (a, ((i : Int), (d, (t, (z, (f, ()))))))) ∧ Left t f z d a s ∧ (AllW t f z d → (i = 0 ∧ s = []) ∨ (i = d.length ∧ s = d ∧ a = t)))
    (fun y => ∃ (s : List UInt8) (a : Int), y = (s, (a, ())) ∧ Left t f z d a s ∧ (AllW t f z d → d ≠ [] → s = d ∧ a = t)) (fun x => d.length - x.2.2.1.toNat)
    (by
      rintro _ ⟨i, s, a, hi, rfl, hL, hA⟩
      by_cases hlt : i < d.length
      case neg =>
        refine .inl ⟨_, ev_f (decide_eq_false (by omega)) (ev_r rfl), s, a, rfl, hL, fun h hne => ?_⟩
        rcases hA h with ⟨q1, q2⟩ | ⟨q1, q2, q3⟩
        · exact absurd (List.eq_nil_of_length_eq_zero (by omega)) hne
        · exact ⟨q2, q3⟩
      obtain ⟨o, ho⟩ : ∃ o : Int, o = (t + i - f) % 4294967296 := ⟨_, rfl⟩
      have hoff : IntKind.wrap IntKind.u32 (IntKind.wrap IntKind.u32 (t + IntKind.wrap IntKind.u32 (i : Int)) - f) = o := by rw [wrap32u, wrap32u, wrap32u]; omega
      have hat : IntKind.wrap IntKind.u32 (t + IntKind.wrap IntKind.u32 (i : Int)) = (t + i) % 4294967296 := by rw [wrap32u, wrap32u]; omega
      have hR : IntKind.wrap IntKind.u64 (IntKind.wrap IntKind.i64 ((d.length : Int) - i)) = (d.length : Int) - i := by rw [wi _ (by omega), wrap64u]; omega
      have ho1 : IntKind.wrap IntKind.u64 o = o := by rw [wrap64u]; omega
      have hS : IntKind.wrap IntKind.u64 ((4294967296 : Int) - o) = 4294967296 - o := by rw [wrap64u]; omega
      have hS2 : IntKind.wrap IntKind.i64 ((4294967296 : Int) - o) = 4294967296 - o := wi _ (by omega)
      show (∃ b, (seTrim_step25_3 (s, (a, ((i : Int), (d, (t, (z, (f, ())))))))).eval = some (.inr b) ∧ _) ∨ ∃ a', (seTrim_step25_3 (s, (a, ((i : Int), (d, (t, (z, (f, ())))))))).eval = some (.inl a') ∧ _ ∧ _
      unfold seTrim_step25_3
      simp only [hat] at hoff
      simp only [hat, hoff, hR, ho1, hS, hS2]
      by_cases hw : z ≤ o
      · by_cases hb : (d.length : Int) - i ≤ 4294967296 - o
        · refine .inl ⟨_, ev_t (decide_eq_true (by omega)) (ev_t (decide_eq_true hw) (ev_t (decide_eq_true hb) (ev_r rfl))), s, a, rfl, hL, fun h hne => ?_⟩
          rcases hA h with ⟨q1, q2⟩ | ⟨q1, q2, q3⟩
          · have := h 0 (by omega); subst q1; omega
          · omega
        · refine .inr ⟨_, ev_t (decide_eq_true (by omega)) (ev_t (decide_eq_true hw) (ev_f (decide_eq_false hb) (ev_r rfl))), ⟨i + (4294967296 - o).toNat, s, a, by omega, by rw [wi _ (by omega), show (i : Int) + (4294967296 - o) = ((i + (4294967296 - o).toNat : Nat) : Int) by omega], hL, fun h => ?_⟩, ?_⟩
          · rcases hA h with ⟨q1, q2⟩ | ⟨q1, q2, q3⟩
            · have := h 0 (by omega); subst q1; omega
            · omega
          · show d.length - (IntKind.wrap IntKind.i64 ((i : Int) + (4294967296 - o))).toNat < d.length - ((i : Int)).toNat
            rw [wi _ (by omega)]; omega
      · have hB : IntKind.wrap IntKind.u64 (IntKind.wrap IntKind.u32 (z - o)) = z - o := by rw [wrap32u, wrap64u]; omega
        obtain ⟨n, hn⟩ : ∃ n : Nat, (n : Int) = if (d.length : Int) - i < z - o then (d.length : Int) - i else z - o := ⟨(if (d.length : Int) - i < z - o then (d.length : Int) - i else z - o).toNat, by split <;> omega⟩
        have hn1 : n ≤ d.length - i ∧ (n : Int) ≤ z - o ∧ 0 < n ∧ ((n : Int) = z - o ∨ n = d.length - i) := by split at hn <;> omega
        have hwn : IntKind.wrap IntKind.i64 (n : Int) = n := wi _ (by omega)
        have hwi : IntKind.wrap IntKind.i64 ((i : Int) + n) = ((i + n : Nat) : Int) := wi _ (by omega)
        simp only [hB, if_true, ← hn, hwn, hwi]
        have hall : AllW t f z d → i = 0 → n = d.length := by
          intro h h0
          rcases hn1.2.2.2 with q | q
          · by_cases q2 : n < d.length
            · have := h n q2; subst h0; omega
            · omega
          · omega
        by_cases hl : s.length < n
        · have hsl : (List.drop i (List.take (i + n) d)).length = n := by rw [List.length_drop, List.length_take]; omega
          refine .inr ⟨_, ev_t (decide_eq_true (by omega)) (ev_f (decide_eq_false hw) (ev_t (decide_eq_true (by omega)) (ev_g (decide_eq_true (by omega)) (ev_r rfl)))), ⟨i + n, List.drop i (List.take (i + n) d), (t + i) % 4294967296, by omega, rfl, .inr ⟨fun q => ?_, i, by omega, by rw [hsl], rfl, ?_⟩, fun h => ?_⟩, ?_⟩
          · rw [q] at hsl; simp at hsl; omega
          · intro k hk
            rw [hsl] at hk
            omega
          · rcases hA h with ⟨q1, q2⟩ | ⟨q1, q2, q3⟩
            · have e := hall h q1
              subst q1
              exact .inr ⟨by omega, by rw [e]; simp, by omega⟩
            · omega
          · show d.length - ((i + n : Nat) : Int).toNat < d.length - ((i : Nat) : Int).toNat
            omega
        · refine .inr ⟨_, ev_t (decide_eq_true (by omega)) (ev_f (decide_eq_false hw) (ev_f (decide_eq_false (by omega)) (ev_r rfl))), ⟨i + n, s, a, by omega, rfl, hL, fun h => ?_⟩, ?_⟩
          · rcases hA h with ⟨q1, q2⟩ | ⟨q1, q2, q3⟩
            · subst q2; simp at hl; omega
            · omega
          · show d.length - ((i + n : Nat) : Int).toNat < d.length - ((i : Nat) : Int).toNat
            omega) 18446744073709551616 ([], (f, ((0 : Int), (d, (t, (z, (f, ()))))))) ⟨0, [], f, by omega, rfl, .inl ⟨rfl, rfl⟩, fun _ => .inl ⟨rfl, rfl⟩⟩ (by show d.length - (0 : Int).toNat < 18446744073709551616; omega)
  obtain ⟨_, h1, s, a, rfl, h2, h3⟩ := lp
  exact ⟨a, s, ev_opt (show seTrim_loop25_3 _ = _ from h1) (ev_r rfl), h2, h3⟩
theorem way_ok {t a : Int} (ht : 0 ≤ t ∧ t ≤ 4294967295) (ha : 0 ≤ a ∧ a ≤ 4294967295) : rWay_fn (t, (a, ())) = some ((a - t) % 4294967296, ()) := by
  have e1 : IntKind.wrap IntKind.i64 t = t := wi _ (by omega)
  have e2 : IntKind.wrap IntKind.i64 a = a := wi _ (by omega)
  have e3 : IntKind.wrap IntKind.i64 (a - t) = a - t := wi _ (by omega)
  unfold rWay_fn rWay_tree
  simp only [e1, e2, e3]
  by_cases h : a - t < 0
  · exact ev_t (decide_eq_true h) (ev_r (by rw [wi _ (by omega), show a - t + 4294967296 = (a - t) % 4294967296 by omega]))
  · exact ev_f (decide_eq_false h) (ev_r (by rw [show (a - t) % 4294967296 = a - t by omega]))
theorem within_ok {t f z : Int} {k : Nat} (h : (t + k - f) % 4294967296 < z) : seWithin_fn (IntKind.wrap IntKind.u32 (t + IntKind.wrap IntKind.u32 (k : Int)), (f, (z, ()))) = some (true, ()) := by
  refine ev_r ?_
  show (decide (IntKind.wrap IntKind.u32 (IntKind.wrap IntKind.u32 (t + IntKind.wrap IntKind.u32 (k : Int)) - f) < z), ()) = _
  have e : IntKind.wrap IntKind.u32 (IntKind.wrap IntKind.u32 (t + IntKind.wrap IntKind.u32 (k : Int)) - f) = (t + k - f) % 4294967296 := by rw [wrap32u, wrap32u, wrap32u]; omega
  rw [e, decide_eq_true h]
theorem contains_piece {d s : List UInt8} {j : Nat} (hj : j + s.length ≤ d.length) (h : s = List.drop j (List.take (j + s.length) d)) : Lib.contains d s = true := by
  have ho : Lib.occAt d s j = true := by
    show s.isPrefixOf (d.drop j) = true
    rw [List.isPrefixOf_iff_prefix]
    have : s = (d.drop j).take s.length := by
      rw [List.take_drop]; exact h
    rw [this]; exact List.take_prefix _ _
  unfold Lib.contains
  rcases Lib.index_spec d s with ⟨_, h2⟩ | ⟨i, h1, _⟩
  · have := h2 j (by omega); rw [ho] at this; cases this
  · rw [h1]; exact decide_eq_true (by omega)
theorem kSerialTrim_true {t : Int} {d : List UInt8} {f z : Int} (ht : 0 ≤ t ∧ t ≤ 4294967295) (hd : d.length ≤ 140737488351232) (hf : 0 ≤ f ∧ f ≤ 4294967295) (hz : 0 ≤ z ∧ z ≤ 4294967295) :
    (kSerialTrim_tree (t, (d, (f, (z, ()))))).eval = some (true, ()) := by
  obtain ⟨a, s, r1, hL, hA⟩ := trim_ex ht hf hz hd
  refine ev_opt r1 (ev_opt seLives_ok (ev_f rfl ?_))
  by_cases h5 : (5000 : Int) < d.length
  · exact ev_t (decide_eq_true h5) (ev_opt seLives_ok (ev_r rfl))
  refine ev_f (decide_eq_false h5) ?_
  have hs : s.length ≤ d.length := by
    rcases hL with ⟨rfl, _⟩ | ⟨_, j, h, _⟩
    · simp
    · omega
  have ha : 0 ≤ a ∧ a ≤ 4294967295 := by
    rcases hL with ⟨_, rfl⟩ | ⟨_, j, _, _, rfl, _⟩
    · exact hf
    · omega
  obtain ⟨b, u, r2, hL2, hA2⟩ := trim_ex (t := a) (d := s) ha hf hz (by omega)
  have hbu : b = a ∧ u = s := by
    rcases hL with ⟨rfl, rfl⟩ | ⟨hne, j, _, _, _, h4⟩
    · rcases hL2 with ⟨rfl, rfl⟩ | ⟨hne, j, h, _⟩
      · exact ⟨rfl, rfl⟩
      · exact absurd (List.eq_nil_of_length_eq_zero (by simp at h; simp [h.2])) hne
    · have := hA2 h4 hne; exact ⟨this.2, this.1⟩
  obtain ⟨rfl, rfl⟩ := hbu
  refine ev_opt r2 (ev_f (by simp) (ev_f (by simp) ?_))
  rcases hL with ⟨rfl, rfl⟩ | ⟨hne, j, h1, h2, h3, h4⟩
  · exact ev_t (decide_eq_true rfl) (ev_r (by simp))
  refine ev_f (decide_eq_false hne) ?_
  have hway : rWay_fn (t, (b, ())) = some ((j : Int), ()) := by
    rw [way_ok ht ha]
    have : (b - t) % 4294967296 = j := by omega
    rw [this]
  have e1 : IntKind.wrap IntKind.i64 ((j : Int) + (u.length : Int)) = ((j + u.length : Nat) : Int) := wi _ (by omega)
  refine ev_opt hway ?_
  refine ev_f (decide_eq_false (by show ¬ (d.length : Int) < IntKind.wrap IntKind.i64 ((j : Int) + (u.length : Int)); rw [e1]; omega)) ?_
  refine ev_g (decide_eq_true (by show 0 ≤ (j : Int) ∧ (j : Int) ≤ IntKind.wrap IntKind.i64 ((j : Int) + (u.length : Int)) ∧ IntKind.wrap IntKind.i64 ((j : Int) + (u.length : Int)) ≤ (d.length : Int); rw [e1]; omega)) ?_
  refine ev_f (by
    show (!decide (List.drop (Int.toNat (j : Int)) (List.take (Int.toNat (IntKind.wrap IntKind.i64 ((j : Int) + (u.length : Int)))) d) = u)) = false
    rw [e1, Int.toNat_natCast, Int.toNat_natCast, ← h2]; simp) ?_
  refine ev_g (decide_eq_true (by omega)) (ev_f (by rw [contains_piece h1 h2]; rfl) ?_)
  have lp := loop_hit (tag := 100013) (f := fun x => (kSerialTrim_step10_13 x).eval) (l := u) (fun i => ((i : Int), (z, (f, (b, (t, (d, (u, ((u.length : Int), ()))))))))) (fun _ => false) (fun _ => Sum.inr (z, (f, (t, (d, (u, ()))))))
      (fun i x hx => by
        have hi := (List.getElem?_eq_some_iff.1 hx).1
        have e1 : IntKind.wrap IntKind.i64 ((i : Int) + (1 : Int)) = ((i + 1 : Nat) : Int) := wi _ (by omega)
        exact ev_t (decide_eq_true (by omega)) (ev_opt (within_ok (h4 i hi)) (ev_f rfl (ev_r (by rw [e1])))))
      (ev_f (decide_eq_false (by omega)) (ev_r rfl)) 18446744073709551616 (by omega)
  refine ev_opt (show kSerialTrim_loop10_13 ((0 : Int), (z, (f, (b, (t, (d, (u, ((u.length : Int), ())))))))) = _ from lp) ?_
  have lq := loopO_ex (tag := 100020) (f := fun x => (kSerialTrim_step10_20 x).eval)
    (fun x => ∃ (i : Nat) (w : Bool), i ≤ d.length ∧ x = ((i : Int), (z, (f, (t, (w, (d, (u, ((d.length : Int), ())))))))) ∧ (w = true → ∀ k : Nat, k < i → (t + k - f) % 4294967296 < z))
    (fun y => ∃ w : Bool, y = (d, (u, (w, ()))) ∧ (w = true → AllW t f z d)) (fun x => d.length - x.1.toNat)
    (by
      rintro _ ⟨i, w, hi, rfl, hw⟩
      by_cases hlt : i < d.length
      case neg =>
        exact .inl ⟨_, ev_f (decide_eq_false (by omega)) (ev_r rfl), w, rfl, fun h k hk => hw h k (by omega)⟩
      have e1 : IntKind.wrap IntKind.i64 ((i : Int) + (1 : Int)) = ((i + 1 : Nat) : Int) := wi _ (by omega)
      refine .inr ?_
      have hμ : d.length - (((i + 1 : Nat) : Int)).toNat < d.length - ((i : Nat) : Int).toNat := by omega
      cases w with
      | false => exact ⟨((i + 1 : Nat), (z, (f, (t, (false, (d, (u, ((d.length : Int), ()))))))) ), ev_t (decide_eq_true (by omega)) (ev_f rfl (ev_r (by rw [e1]))), ⟨i + 1, false, by omega, rfl, fun h => by cases h⟩, hμ⟩
      | true =>
        by_cases hin : (t + i - f) % 4294967296 < z
        · exact ⟨((i + 1 : Nat), (z, (f, (t, (true, (d, (u, ((d.length : Int), ()))))))) ), ev_t (decide_eq_true (by omega)) (ev_t rfl (ev_opt (within_ok hin) (ev_r (by rw [e1])))), ⟨i + 1, true, by omega, rfl, fun h k hk => by
            by_cases hk2 : k = i
            · subst hk2; exact hin
            · exact hw h k (by omega)⟩, hμ⟩
        · have hno : seWithin_fn (IntKind.wrap IntKind.u32 (t + IntKind.wrap IntKind.u32 (i : Int)), (f, (z, ()))) = some (false, ()) := by
            refine ev_r ?_
            show (decide (IntKind.wrap IntKind.u32 (IntKind.wrap IntKind.u32 (t + IntKind.wrap IntKind.u32 (i : Int)) - f) < z), ()) = _
            have e : IntKind.wrap IntKind.u32 (IntKind.wrap IntKind.u32 (t + IntKind.wrap IntKind.u32 (i : Int)) - f) = (t + i - f) % 4294967296 := by rw [wrap32u, wrap32u, wrap32u]; omega
            rw [e, decide_eq_false hin]
          exact ⟨((i + 1 : Nat), (z, (f, (t, (false, (d, (u, ((d.length : Int), ()))))))) ), ev_t (decide_eq_true (by omega)) (ev_t rfl (ev_opt hno (ev_r (by rw [e1])))), ⟨i + 1, false, by omega, rfl, fun h => by cases h⟩, hμ⟩) 18446744073709551616 ((0 : Int), (z, (f, (t, (true, (d, (u, ((d.length : Int), ())))))))) ⟨0, true, by omega, rfl, fun _ k hk => by omega⟩ (by show d.length - (0 : Int).toNat < 18446744073709551616; omega)
  obtain ⟨_, q1, w, rfl, q2⟩ := lq
  refine ev_opt (show kSerialTrim_loop10_20 _ = _ from q1) ?_
  cases w with
  | false => exact ev_t rfl (ev_r rfl)
  | true =>
    have hdne : d ≠ [] := by
      intro e; subst e; simp at h1; exact hne h1.2
    have := hA (q2 rfl) hdne
    refine ev_f rfl (ev_r ?_)
    show (decide (u = d), ()) = _
    rw [decide_eq_true this.1]
end Go.Proofs.Ytmnbhoklphakjaa.X
