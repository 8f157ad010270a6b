/- custkeep.bucketLives returns true; custref.BucketRight. -/
import Derived.Test.YtlbmdkclbmcpdaaBucketR
import Derived.Test.YtlbmdkclbmcpdaaEqBool
namespace Go.Proofs.Ytlbmdkclbmcpdaa.Bucket
open Go.RowKit Go.Proofs.Ytlbmdkclbmcpdaa.Bits Go.Proofs.Ytlbmdkclbmcpdaa.Mem Go.Proofs.Ytlbmdkclbmcpdaa.Row
set_option linter.unusedVariables false

theorem between_any (n lo hi : Int) (w : World) :
    Calls Try.prog 35 #[.int .i64 n, .int .i64 lo, .int .i64 hi] w fun e w' => e = .returned (.bool (decide (lo ≤ n) && decide (n ≤ hi))) ∧ w = w' := by
  refine first_of (n < lo) _ (fun h1 => ?_) (fun h1 => first_of (hi < n) _ (fun h2 => ?_) (fun h2 => ?_))
  all_goals
    go_enter Try.func35, Try.ntmps35
    go_wp2
    go_ret
    exact ⟨ret_bool (by rw [eq_comm, Bool.eq_iff_iff] <;> simp <;> omega), rfl⟩

theorem between_yes (n lo hi : Int) (w : World) (h : lo ≤ n ∧ n ≤ hi) :
    Calls Try.prog 35 #[.int .i64 n, .int .i64 lo, .int .i64 hi] w fun e w' => e = .returned (.bool true) ∧ w = w' :=
  (between_any n lo hi w).mono fun e w' ⟨h1, h2⟩ => ⟨by rw [h1, decide_eq_true h.1, decide_eq_true h.2]; rfl, h2⟩
theorem between_no (n lo hi : Int) (w : World) (h : n < lo ∨ hi < n) :
    Calls Try.prog 35 #[.int .i64 n, .int .i64 lo, .int .i64 hi] w fun e w' => e = .returned (.bool false) ∧ w = w' :=
  (between_any n lo hi w).mono fun e w' ⟨h1, h2⟩ => ⟨by
    have : (decide (lo ≤ n) && decide (n ≤ hi)) = false := by rw [Bool.eq_false_iff]; simp; omega
    rw [h1, this], h2⟩

theorem run_lives : runF 2 10 5 0 [(1, 8), (2, 9)] = (bc 2 10 0 2, [false, true], 0) := by kernel_rfl

theorem lives (w : World) : Calls Try.prog 16 #[] w fun e w' => e = .returned (.bool true) ∧ Below w.heap.size w w' := by
  have hD : Drops (w.alloc (.cells #[.int .i64 1, .int .i64 8, .int .i64 2, .int .i64 9] 46)) (some ⟨w.heap.size, 0, none⟩) 2 [(1, 8), (2, 9)] :=
    ⟨rfl, fun _ => ⟨w.heap.size, 0, rfl, by simp, fun i hi => by
      match i, hi with
      | 0, _ => exact ⟨by simp, by simp⟩
      | 1, _ => exact ⟨by simp, by simp⟩⟩⟩
  go_enter Try.func16, Try.ntmps16
  go_wp2_with fail
  refine (Run_any 2 10 5 0 _ _ _ _ _ hD (by omega)).mono ?_
  rintro e w1 ⟨v, rfl, hown, hbel⟩
  rw [run_lives] at hown ⊢
  obtain ⟨x, cap, rfl, hrow, hx⟩ := EqBool.BoolRow.of_owns hown
  have HB := Lib.hid hbel
  have HX := Lib.hid hrow
  clear hown hbel hx hD hrow
  go_wp2_with fail
  refine (EqBool.any x _ 2 2 cap 2 [false, true] [false, true] _ ((HX.out.alloc _).alloc _) ?_ (by omega) (by omega)).mono ?_
  · have hl := EqBool.BoolRow.lit (w1.alloc (.cells #[.int .i64 2, .int .i64 10, .int .i64 0, .int .i64 2] 40)) [false, true] 4
    rw [World.size_alloc] at hl
    exact hl
  · rintro e w' ⟨rfl, q, rfl⟩
    have hq : (([false, true] : List Bool) == [false, true]) = true := by decide
    go_wp2
    go_ret
    refine ⟨rfl, below_drewN ?_ _⟩
    have h1 := ((Below.refl w.heap.size w).alloc (Nat.le_refl _) (.cells #[.int .i64 1, .int .i64 8, .int .i64 2, .int .i64 9] 46)).trans (HB.out.mono (by simp))
    have h2 := h1.size
    exact (h1.alloc h2 _).alloc (by simp; omega) _

theorem right_any (r m s a : Int) (w : World) :
    Calls Try.prog 19 #[.agg (bc r m s a)] w fun e w' => e = .returned (.int .i64 (bcheck r m s a)) ∧ w' = w.alloc (.cells (bc r m s a) 40) := by
  refine first_of (r < 0) _ (fun h1 => ?_) (fun h1 => first_of (1000000 < r) _ (fun h2 => ?_) (fun h2 => first_of (m < 1) _ (fun h3 => ?_) (fun h3 => first_of (1000000000 < m) _ (fun h4 => ?_) (fun h4 => first_of (s < 0) _ (fun h5 => ?_) (fun h5 => first_of (m < s) _ (fun h6 => ?_) (fun h6 => first_of (a < 0) _ (fun h7 => ?_) (fun h7 => first_of (1099511627776 < a) _ (fun h8 => ?_) (fun h8 => ?_))))))))
  all_goals
    go_enter Try.func19, Try.ntmps19
    go_wp2_with (first | (go_at_call 35; refine (between_yes _ _ _ _ (by omega)).mono ?_; rintro e w' ⟨rfl, rfl⟩) | (go_at_call 35; refine (between_no _ _ _ _ (by omega)).mono ?_; rintro e w' ⟨rfl, rfl⟩))
    go_ret
    exact ⟨ret_int (by unfold bcheck; repeat' split
                       all_goals omega), rfl⟩
end Go.Proofs.Ytlbmdkclbmcpdaa.Bucket
