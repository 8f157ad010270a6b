/- sum: the laws SumRests and SumFixes, in plain terms. Conditions: none. -/
import Derived.Test.YtmnbhoklphakjaaPSum
import Derived.Test.YtmnbhoklphakjaaPList
import Derived.Test.YtmnbhoklphakjaaLSum
import Derived.Test.YtmnbhoklphakjaaAbsQ
import Derived.KernelRfl
namespace Go.Proofs.Ytmnbhoklphakjaa.X
open Go Go.RowKit Go.Proofs.Ytmnbhoklphakjaa.Abs Go.Proofs.Ytmnbhoklphakjaa.Bits
set_option linter.unusedVariables false
set_option linter.unnecessarySimpa false
set_option linter.unusedSimpArgs false

theorem sumLives_ok : sumLives_fn () = some (true, ()) := by kernel_rfl
theorem word_fn (x : Int) : kWord_fn (x, ()) = some (wd x, ()) := by
  unfold kWord_fn kWord_tree
  simp only [wrap8u, fdiv8]
  exact ev_g rfl (ev_g (by simp; omega) (ev_g (by simp; omega) (ev_r rfl)))
theorem ws_zero : ∀ l : List UInt8, ws l = 0 ↔ ∀ b ∈ l, b = 0
  | [] => by simp [ws]
  | [a] => by
    have h : a.toNat = 0 ↔ a = 0 := ⟨fun h => by rw [← UInt8.ofNat_toNat (x := a), h]; rfl, fun h => by rw [h]; rfl⟩
    simp only [ws, List.mem_singleton, forall_eq]
    rw [← h]; omega
  | a :: b :: r => by
    have h : a.toNat = 0 ↔ a = 0 := ⟨fun h => by rw [← UInt8.ofNat_toNat (x := a), h]; rfl, fun h => by rw [h]; rfl⟩
    have h' : b.toNat = 0 ↔ b = 0 := ⟨fun h => by rw [← UInt8.ofNat_toNat (x := b), h]; rfl, fun h => by rw [h]; rfl⟩
    have ih := ws_zero r
    simp only [ws, List.mem_cons, forall_eq_or_imp]
    rw [← h, ← h', ← ih]; omega
theorem count_zero (l : List UInt8) : decide (((Lib.countByte l (0 : UInt8) : Nat) : Int) = (l.length : Int)) = decide (ws l = 0) := by
  rw [decide_eq_decide, ws_zero]
  unfold Lib.countByte
  rw [show ((List.count 0 l : Nat) : Int) = (l.length : Int) ↔ List.count 0 l = l.length by omega, List.count_eq_length]
  exact ⟨fun h b hb => (h b hb).symm, fun h b hb => (h b hb).symm⟩
theorem tmod2 (n : Nat) : Int.tmod (n : Int) 2 = ((n % 2 : Nat) : Int) := by
  rw [Int.tmod_eq_emod_of_nonneg (by omega)]; omega
theorem ws_word (l : List UInt8) (o : Nat) (he : l.length % 2 = 0) (ho : o ≤ 65535) : ws (l ++ wd (o : Int)) = ws l + o := by
  rw [ws_app l _ he]
  have := ws_wd (o : Int)
  omega
theorem sumRests_true {s : List UInt8} {o : Int} (b0 : s.length ≤ 140737488351232) (b1 : 0 ≤ o ∧ o ≤ 65535) : (sumRests_tree (s, (o, ()))).eval = some (true, ()) := by
  obtain ⟨o, rfl⟩ := Int.eq_ofNat_of_zero_le b1.1
  have ho : o ≤ 65535 := by omega
  unfold sumRests_tree
  refine ev_opt sumLives_ok (ev_f rfl (ev_g rfl (ev_ite (fun _ => ev_opt sumLives_ok (ev_r rfl)) fun hev => ?_)))
  have he : s.length % 2 = 0 := by
    have : ¬ Int.tmod (s.length : Int) 2 = 1 := by simpa using hev
    rw [tmod2] at this; omega
  have hle := ear_le (ws s)
  have hmod := ear_mod (ws s)
  have hzero := ear_zero (ws s)
  have hL : ∀ x : Int, (s ++ wd x).length ≤ Lim := fun x => by simp [wd]; unfold Lim; omega
  generalize hc : 65535 - ear (ws s) = c at *
  have hcl : c ≤ 65535 := by omega
  have e1 : sumOf_fn (s, ()) = some ((c : Int), ()) := by rw [of_fn s (by unfold Lim; omega)]; congr 2; omega
  have e3 := right_fn (s ++ wd (o : Int)) (hL o)
  rw [ws_word s o he ho] at e3
  have e5 := right_fn (s ++ wd (c : Int)) (hL c)
  rw [ws_word s c he hcl] at e5
  refine ev_opt e1 (ev_opt (word_fn _) (ev_g (by simp [wd]; omega) (ev_opt e3 ?_)))
  have tail : ∀ (X : Bool) (T : Tr (Bool × Unit)), T = .ite (decide ((↑(Lib.countByte s (0 : UInt8)) : Int) = (↑(List.length s) : Int))) (
      .ret (decide (ws s + o ≠ 0 ∧ (ws s + o) % 65535 = 0) == decide ((o : Int) = (65535 : Int)), ())) (
      .opt (β := ((List UInt8) × Unit)) ((kWord_fn ((c : Int), ()))) (fun r4 =>
      .grd (decide (List.length s + List.length r4.1 ≤ (9223372036854775807 : Nat))) (
      .opt (β := (Bool × Unit)) ((sumRight_fn (s ++ r4.1, ()))) (fun r5 =>
      .ite (r5.1) (
       .ret (decide (ws s + o ≠ 0 ∧ (ws s + o) % 65535 = 0) == X, ())) (
       .ret (false, ())))))) → (ws s ≠ 0 → decide (ws s + o ≠ 0 ∧ (ws s + o) % 65535 = 0) = X) → T.eval = some (true, ()) := by
    rintro X T rfl hX
    by_cases hz : ws s = 0
    · refine ev_t (by rw [count_zero]; simpa using hz) (ev_r ?_)
      rw [hz, show decide ((0 : Nat) + o ≠ 0 ∧ (0 + o) % 65535 = 0) = decide ((o : Int) = 65535) by rw [decide_eq_decide]; omega]
      simp
    · refine ev_f (by rw [count_zero]; simpa using hz) (ev_opt (word_fn _) (ev_g (by simp [wd]; omega) (ev_opt e5 (ev_t (by simp; omega) (ev_r ?_)))))
      rw [hX hz]; simp
  refine ev_ite (fun h1 => tail true _ rfl fun hz => ?_) fun h1 => ev_ite (fun h2 => ev_ite (fun h3 => tail true _ rfl fun hz => ?_) fun h3 => ev_ite (fun h4 => tail _ _ rfl fun hz => ?_) fun h4 => tail false _ rfl fun hz => ?_) fun h2 => ev_ite (fun h4 => tail _ _ rfl fun hz => ?_) fun h4 => tail false _ rfl fun hz => ?_
  · have h1 : (o : Int) = c := of_decide_eq_true h1
    rw [decide_eq_true_eq]; omega
  · have h3 : (c : Int) = 65535 := of_decide_eq_true h3
    omega
  · have h2 : (o : Int) = 0 := of_decide_eq_true h2
    have h4 : (o : Int) = 65535 := of_decide_eq_true h4
    omega
  · have h1 : ¬ (o : Int) = c := of_decide_eq_false h1
    have h2 : (o : Int) = 0 := of_decide_eq_true h2
    rw [decide_eq_false_iff_not]; omega
  · have h4 : (o : Int) = 65535 := of_decide_eq_true h4
    rw [decide_eq_decide]; omega
  · have h1 : ¬ (o : Int) = c := of_decide_eq_false h1
    have h2 : ¬ (o : Int) = 0 := of_decide_eq_false h2
    have h4 : ¬ (o : Int) = 65535 := of_decide_eq_false h4
    rw [decide_eq_false_iff_not]; omega
theorem sumFixes_true {s : List UInt8} {at' now : Int} (b0 : s.length ≤ 140737488351232) (b1 : -9223372036854775808 ≤ at' ∧ at' ≤ 9223372036854775807) (b2 : 0 ≤ now ∧ now ≤ 65535) : (sumFixes_tree (s, (at', (now, ())))).eval = some (true, ()) := by
  obtain ⟨o, rfl⟩ := Int.eq_ofNat_of_zero_le b2.1
  have ho : o ≤ 65535 := by omega
  unfold sumFixes_tree
  refine ev_opt sumLives_ok (ev_f rfl (ev_g rfl (ev_ite (fun _ => ev_opt sumLives_ok (ev_r rfl)) fun hev => ev_ite (fun _ => ev_opt sumLives_ok (ev_r rfl)) fun h0 => ev_g rfl (ev_ite (fun _ => ev_opt sumLives_ok (ev_r rfl)) fun hae => ev_ite (fun _ => ev_opt sumLives_ok (ev_r rfl)) fun hal => ?_))))
  have he : s.length % 2 = 0 := by
    have : ¬ Int.tmod (s.length : Int) 2 = 1 := by simpa using hev
    rw [tmod2] at this; omega
  have h0 : 0 ≤ at' := by simpa using h0
  obtain ⟨k, rfl⟩ := Int.eq_ofNat_of_zero_le h0
  have hke : k % 2 = 0 := by
    have : ¬ Int.tmod (k : Int) 2 = 1 := by simpa using hae
    rw [tmod2] at this; omega
  have hkl : k + 2 ≤ s.length := by
    have : ¬ (s.length : Int) ≤ k := by simpa using hal
    omega
  have n1 : IntKind.wrap IntKind.i64 ((k : Int) + (1 : Int)) = ((k + 1 : Nat) : Int) := next_i64 k (by omega)
  have n2 : IntKind.wrap IntKind.i64 ((k : Int) + (2 : Int)) = ((k + 2 : Nat) : Int) := by
    have := wrap_nat .i64 (k + 2) (by show k + 2 < 2 ^ 64; omega) (fun _ => by show k + 2 < 2 ^ 63; omega)
    simpa using this
  simp only [n1, n2, Int.toNat_natCast, List.take_length, List.drop_zero, or_u16]
  refine ev_g (by simp; omega) (ev_g rfl (ev_g (by simp; omega) (ev_g (by simp; omega) (ev_opt (word_fn _) (ev_g (by simp [wd]; omega) (ev_g (by simp; omega) (ev_g (by simp [wd]; omega) ?_)))))))
  -- the text's parts
  have hw := wAt_bound s k
  obtain ⟨old, hold⟩ := Int.eq_ofNat_of_zero_le hw.1
  have hold' : wv (List.getD s k 0) (List.getD s (k + 1) 0) = (old : Int) := hold
  have holdl : old ≤ 65535 := by omega
  have hs : s = s.take k ++ (wd (old : Int) ++ s.drop (k + 2)) := by
    conv => lhs; rw [← List.take_append_drop k s]
    congr 1
    rw [← hold']
    rw [wd_wv, List.drop_eq_getElem_cons (by omega), List.drop_eq_getElem_cons (i := k + 1) (by omega)]
    simp [List.getD_eq_getElem?_getD, List.getElem?_eq_getElem (show k < s.length by omega), List.getElem?_eq_getElem (show k + 1 < s.length by omega)]
  have htk : (s.take k).length % 2 = 0 := by simp; omega
  have wss : ws s = ws (s.take k) + old + ws (s.drop (k + 2)) := by
    have h1 : ws s = ws (s.take k ++ (wd (old : Int) ++ s.drop (k + 2))) := congrArg ws hs
    rw [h1, ws_app _ _ htk, ws_app (wd (old : Int)) _ (by simp [wd])]
    have := ws_wd (old : Int)
    omega
  have wst : ws (s.take k ++ wd (o : Int) ++ s.drop (k + 2)) = ws (s.take k) + o + ws (s.drop (k + 2)) := by
    rw [List.append_assoc, ws_app _ _ htk, ws_app (wd (o : Int)) _ (by simp [wd])]
    have := ws_wd (o : Int)
    omega
  have hle := ear_le (ws s)
  have hmod := ear_mod (ws s)
  have e1 : sumOf_fn (s, ()) = some (((65535 - ear (ws s) : Nat) : Int), ()) := by rw [of_fn s (by unfold Lim; omega)]; congr 2; omega
  have e2 := fix_fn (65535 - ear (ws s)) old o (by omega) holdl ho
  generalize hE : 65535 - (65535 - ear (ws s)) + (65535 - old) + o = z at e2
  have hle2 := ear_le z
  have hmod2 := ear_mod z
  generalize hc : 65535 - ear z = c at *
  have e2' : sumFix_fn (((65535 - ear (ws s) : Nat) : Int), ((old : Int), ((o : Int), ()))) = some ((c : Int), ()) := by rw [e2]; congr 2; omega
  have hcl : c ≤ 65535 := by omega
  refine ev_opt e1 (ev_opt (b := ((c : Int), ())) (by rw [hold']; exact e2') (ev_ite (fun _ => ev_r rfl) fun hcount => ?_))
  rw [count_zero, wst] at hcount
  have hne : ¬ ws (s.take k) + o + ws (s.drop (k + 2)) = 0 := by simpa using hcount
  have hte : (s.take k ++ wd (o : Int) ++ s.drop (k + 2)).length % 2 = 0 := by simp [wd]; omega
  have e5 := right_fn (s.take k ++ wd (o : Int) ++ s.drop (k + 2) ++ wd (c : Int)) (by simp [wd]; unfold Lim; omega)
  rw [ws_word _ c hte hcl, wst] at e5
  refine ev_opt (word_fn _) (ev_g (by simp [wd]; omega) (ev_opt e5 (ev_r ?_)))
  have : decide (ws (s.take k) + o + ws (s.drop (k + 2)) + c ≠ 0 ∧ (ws (s.take k) + o + ws (s.drop (k + 2)) + c) % 65535 = 0) = true := by
    rw [decide_eq_true_eq]
    omega
  rw [this]
end Go.Proofs.Ytmnbhoklphakjaa.X
