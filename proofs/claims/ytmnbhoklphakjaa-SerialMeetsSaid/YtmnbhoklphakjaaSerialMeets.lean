/- The law SerialMeets returns true, whatever comes in. -/
import Derived.Test.YtmnbhoklphakjaaSerial
import Derived.Lib.SmallJoins
namespace Go.Proofs.Ytmnbhoklphakjaa.SerialMeets
open Go.RowKit Go.PlainAid Go.Proofs.Ytmnbhoklphakjaa.Bits Go.Proofs.Ytmnbhoklphakjaa.Serial
set_option linter.unusedVariables false

theorem meets_comm (a n b m : Int) : meetsB b m a n = meetsB a n b m := by
  unfold meetsB
  cases decide (0 < n) <;> cases decide (0 < m) <;> cases inB b a n <;> cases inB a b m <;> rfl

theorem meets_self (a n : Int) : meetsB a n a n = decide (0 < n) := by
  have e : inB a a n = decide (0 < n) := by unfold inB way; simp
  unfold meetsB; rw [e]; cases decide (0 < n) <;> rfl

set_option maxHeartbeats 800000 in
theorem walk (a n b m x : Int) (w : World) (ha : 0 ≤ a ∧ a ≤ 4294967295) (hn : 0 ≤ n ∧ n ≤ 4294967295) (hb : 0 ≤ b ∧ b ≤ 4294967295) (hm : 0 ≤ m ∧ m ≤ 4294967295) (hx : 0 ≤ x ∧ x ≤ 4294967295) :
    Calls Try.prog 7 #[.int .u32 a, .int .u32 n, .int .u32 b, .int .u32 m, .int .u32 x] w fun e w' => e = .returned (.bool true) ∧ Below w.heap.size w w' := by
  have l1 := meets_comm a n b m
  have l2 := meets_self a n
  have hc : meetsB a n b m = true ∨ (meetsB a n b m = false ∧ inB x a n = false) ∨ (meetsB a n b m = false ∧ inB x a n = true ∧ inB x b m = false) := by
    unfold meetsB inB way
    simp only [decide_eq_false_iff_not, decide_eq_true_eq, Bool.and_eq_true, Bool.or_eq_true, Bool.and_eq_false_iff, Bool.or_eq_false_iff]
    omega
  rcases hc with h1 | ⟨h1, h2⟩ | ⟨h1, h2, h3⟩
  · go_enter Try.func7, Try.ntmps7
    go_wp2_with (first | (go_at_call 15; refine (lives _).mono ?_; rintro e w' ⟨rfl, k, rfl⟩) | (go_at_call 18; refine (meets_any _ _ _ _ _ (by omega) (by omega) (by omega) (by omega)).mono ?_; rintro e w' ⟨rfl, rfl⟩) | (go_at_call 19; refine (within_any _ _ _ _ (by omega) (by omega) (by omega)).mono ?_; rintro e w' ⟨rfl, rfl⟩))
    go_ret
    exact ⟨rfl, Joins.below_draws _ _ _⟩
  · go_enter Try.func7, Try.ntmps7
    go_wp2_with (first | (go_at_call 15; refine (lives _).mono ?_; rintro e w' ⟨rfl, k, rfl⟩) | (go_at_call 18; refine (meets_any _ _ _ _ _ (by omega) (by omega) (by omega) (by omega)).mono ?_; rintro e w' ⟨rfl, rfl⟩) | (go_at_call 19; refine (within_any _ _ _ _ (by omega) (by omega) (by omega)).mono ?_; rintro e w' ⟨rfl, rfl⟩))
    go_ret
    exact ⟨rfl, Joins.below_draws _ _ _⟩
  · go_enter Try.func7, Try.ntmps7
    go_wp2_with (first | (go_at_call 15; refine (lives _).mono ?_; rintro e w' ⟨rfl, k, rfl⟩) | (go_at_call 18; refine (meets_any _ _ _ _ _ (by omega) (by omega) (by omega) (by omega)).mono ?_; rintro e w' ⟨rfl, rfl⟩) | (go_at_call 19; refine (within_any _ _ _ _ (by omega) (by omega) (by omega)).mono ?_; rintro e w' ⟨rfl, rfl⟩))
    go_ret
    exact ⟨rfl, Joins.below_draws _ _ _⟩
end Go.Proofs.Ytmnbhoklphakjaa.SerialMeets
