/- The law SerialOrder returns true, whatever comes in. -/
import Derived.Test.YtmnbhoklphakjaaSerial
import Derived.Lib.SmallJoins
namespace Go.Proofs.Ytmnbhoklphakjaa.SerialOrder
open Go.RowKit Go.PlainAid Go.Proofs.Ytmnbhoklphakjaa.Bits Go.Proofs.Ytmnbhoklphakjaa.Serial

set_option linter.unusedVariables false
set_option maxHeartbeats 800000 in
theorem walk (a b c d : Int) (w : World) (ha : 0 ≤ a ∧ a ≤ 4294967295) (hb : 0 ≤ b ∧ b ≤ 4294967295) (hc : 0 ≤ c ∧ c ≤ 4294967295) (hd : 0 ≤ d ∧ d ≤ 4294967295) :
    Calls Try.prog 6 #[.int .u32 a, .int .u32 b, .int .u32 c, .int .u32 d] w fun e w' => e = .returned (.bool true) ∧ Below w.heap.size w w' := by
  have l1 : lessB a a = false := by unfold lessB way; simp
  have l2 : lessB ((a + d) % 4294967296) ((b + d) % 4294967296) = lessB a b := by unfold lessB way; rw [decide_eq_decide]; omega
  have w1 : 0 ≤ way a b ∧ way a b ≤ 4294967295 := by unfold way; omega
  have w2 : 0 ≤ way b c ∧ way b c ≤ 4294967295 := by unfold way; omega
  have b1 : 0 ≤ (a + d) % 4294967296 ∧ (a + d) % 4294967296 ≤ 4294967295 := by omega
  have b2 : 0 ≤ (b + d) % 4294967296 ∧ (b + d) % 4294967296 ≤ 4294967295 := by omega
  have hc1 : ((a != b) = false ∧ lessB a b = false) ∨ ((a != b) = true ∧ ((a - b) % 4294967296 != 2147483648) = false ∧ lessB a b = false) ∨
      ((a != b) = true ∧ ((a - b) % 4294967296 != 2147483648) = true ∧ lessB a b = true ∧ lessB b a = false) ∨ ((a != b) = true ∧ ((a - b) % 4294967296 != 2147483648) = true ∧ lessB a b = false ∧ lessB b a = true) := by
    unfold lessB way
    simp only [bne_iff_ne, bne_eq_false_iff_eq, decide_eq_false_iff_not, decide_eq_true_eq, ne_eq]
    omega
  have hc2 : lessB a b = true → lessB b c = false ∨ (lessB b c = true ∧ 2147483648 ≤ way a b + way b c) ∨ (lessB b c = true ∧ ¬ 2147483648 ≤ way a b + way b c ∧ lessB a c = true) := by
    unfold lessB way
    simp only [decide_eq_false_iff_not, decide_eq_true_eq]
    omega
  rcases hc1 with ⟨h1, h2⟩ | ⟨h1, h2, h3⟩ | ⟨h1, h2, h3, h4⟩ | ⟨h1, h2, h3, h4⟩
  · clear hc2
    go_enter Try.func6, Try.ntmps6
    go_wp2_with (first | (go_at_call 15; refine (lives _).mono ?_; rintro e w' ⟨rfl, k, rfl⟩) | (go_at_call 16; refine (less_any _ _ _ (by omega) (by omega)).mono ?_; rintro e w' ⟨rfl, rfl⟩) | (go_at_call 17; refine (way_any _ _ _ (by omega) (by omega)).mono ?_; rintro e w' ⟨rfl, rfl⟩))
    go_ret
    exact ⟨rfl, Joins.below_draws _ _ _⟩
  · clear hc2
    go_enter Try.func6, Try.ntmps6
    go_wp2_with (first | (go_at_call 15; refine (lives _).mono ?_; rintro e w' ⟨rfl, k, rfl⟩) | (go_at_call 16; refine (less_any _ _ _ (by omega) (by omega)).mono ?_; rintro e w' ⟨rfl, rfl⟩) | (go_at_call 17; refine (way_any _ _ _ (by omega) (by omega)).mono ?_; rintro e w' ⟨rfl, rfl⟩))
    go_ret
    exact ⟨rfl, Joins.below_draws _ _ _⟩
  · rcases hc2 h3 with h5 | ⟨h5, h6⟩ | ⟨h5, h6, h7⟩
    all_goals clear hc2
    · go_enter Try.func6, Try.ntmps6
      go_wp2_with (first | (go_at_call 15; refine (lives _).mono ?_; rintro e w' ⟨rfl, k, rfl⟩) | (go_at_call 16; refine (less_any _ _ _ (by omega) (by omega)).mono ?_; rintro e w' ⟨rfl, rfl⟩) | (go_at_call 17; refine (way_any _ _ _ (by omega) (by omega)).mono ?_; rintro e w' ⟨rfl, rfl⟩))
      go_ret
      exact ⟨rfl, Joins.below_draws _ _ _⟩
    · go_enter Try.func6, Try.ntmps6
      go_wp2_with (first | (go_at_call 15; refine (lives _).mono ?_; rintro e w' ⟨rfl, k, rfl⟩) | (go_at_call 16; refine (less_any _ _ _ (by omega) (by omega)).mono ?_; rintro e w' ⟨rfl, rfl⟩) | (go_at_call 17; refine (way_any _ _ _ (by omega) (by omega)).mono ?_; rintro e w' ⟨rfl, rfl⟩))
      go_ret
      exact ⟨rfl, Joins.below_draws _ _ _⟩
    · go_enter Try.func6, Try.ntmps6
      go_wp2_with (first | (go_at_call 15; refine (lives _).mono ?_; rintro e w' ⟨rfl, k, rfl⟩) | (go_at_call 16; refine (less_any _ _ _ (by omega) (by omega)).mono ?_; rintro e w' ⟨rfl, rfl⟩) | (go_at_call 17; refine (way_any _ _ _ (by omega) (by omega)).mono ?_; rintro e w' ⟨rfl, rfl⟩))
      go_ret
      exact ⟨rfl, Joins.below_draws _ _ _⟩
  · clear hc2
    go_enter Try.func6, Try.ntmps6
    go_wp2_with (first | (go_at_call 15; refine (lives _).mono ?_; rintro e w' ⟨rfl, k, rfl⟩) | (go_at_call 16; refine (less_any _ _ _ (by omega) (by omega)).mono ?_; rintro e w' ⟨rfl, rfl⟩) | (go_at_call 17; refine (way_any _ _ _ (by omega) (by omega)).mono ?_; rintro e w' ⟨rfl, rfl⟩))
    go_ret
    exact ⟨rfl, Joins.below_draws _ _ _⟩
end Go.Proofs.Ytmnbhoklphakjaa.SerialOrder
