/- The contracts of package serial, but Trim. -/
import Derived.Test.YtmnbhoklphakjaaRows
import Derived.Test.YtmnbhoklphakjaaBits
import Derived.WalkKit
import Derived.Handy
import Derived.BigQuiet
import Derived.Deep.QuietTactic
import Derived.Outline
import Derived.Lib.Hide
import Derived.PlainAid
import Derived.LoopN
import Derived.WalkSpells
import Derived.WalkLawsBesides
namespace Go.Proofs.Ytmnbhoklphakjaa.Serial
open Go.RowKit Go.PlainAid Go.Proofs.Ytmnbhoklphakjaa.Bits
set_option linter.unusedVariables false

/-- How far b is behind a, going round. -/
def way (a b : Int) : Int := (b - a) % 4294967296
def lessB (a b : Int) : Bool := decide (0 < way a b ∧ way a b < 2147483648)
def inB (x a n : Int) : Bool := decide (way a x < n)
def meetsB (a n b m : Int) : Bool := decide (0 < n) && (decide (0 < m) && (inB b a n || inB a b m))

theorem less_eq (a b : Int) : decide (0 < RowKit.wrap32 ((b - a) % 4294967296)) = lessB a b := by
  unfold lessB way wrap32; rw [decide_eq_decide]; omega

theorem less_any (a b : Int) (w : World) (ha : 0 ≤ a ∧ a ≤ 4294967295) (hb : 0 ≤ b ∧ b ≤ 4294967295) :
    Calls Try.prog 16 #[.int .u32 a, .int .u32 b] w fun e w' => e = .returned (.bool (lessB a b)) ∧ w = w' := by
  go_enter Try.func16, Try.ntmps16
  go_wp2
  go_ret
  exact ⟨ret_bool (less_eq a b), rfl⟩

theorem within_any (x a n : Int) (w : World) (hx : 0 ≤ x ∧ x ≤ 4294967295) (ha : 0 ≤ a ∧ a ≤ 4294967295) (hn : 0 ≤ n ∧ n ≤ 4294967295) :
    Calls Try.prog 19 #[.int .u32 x, .int .u32 a, .int .u32 n] w fun e w' => e = .returned (.bool (inB x a n)) ∧ w = w' := by
  go_enter Try.func19, Try.ntmps19
  go_wp2
  go_ret
  exact ⟨rfl, rfl⟩

theorem meets_any (a n b m : Int) (w : World) (ha : 0 ≤ a ∧ a ≤ 4294967295) (hn : 0 ≤ n ∧ n ≤ 4294967295) (hb : 0 ≤ b ∧ b ≤ 4294967295) (hm : 0 ≤ m ∧ m ≤ 4294967295) :
    Calls Try.prog 18 #[.int .u32 a, .int .u32 n, .int .u32 b, .int .u32 m] w fun e w' => e = .returned (.bool (meetsB a n b m)) ∧ w = w' := by
  obtain ⟨r, hr⟩ : ∃ r, r = meetsB a n b m := ⟨_, rfl⟩
  rw [← hr]
  unfold meetsB at hr
  by_cases h1 : 0 < n
  · by_cases h2 : 0 < m
    · cases h3 : inB b a n
      · rw [decide_eq_true h1, decide_eq_true h2, h3] at hr
        have HR := Lib.hid hr; clear hr
        go_enter Try.func18, Try.ntmps18
        go_wp2_with (go_at_call 19; refine (within_any _ _ _ _ (by assumption) (by assumption) (by assumption)).mono ?_; rintro e w' ⟨rfl, rfl⟩)
        go_ret
        exact ⟨ret_bool (by rw [HR.out]; simp), rfl⟩
      · rw [decide_eq_true h1, decide_eq_true h2, h3] at hr
        have HR := Lib.hid hr; clear hr
        go_enter Try.func18, Try.ntmps18
        go_wp2_with (go_at_call 19; refine (within_any _ _ _ _ (by assumption) (by assumption) (by assumption)).mono ?_; rintro e w' ⟨rfl, rfl⟩)
        go_ret
        exact ⟨ret_bool (by rw [HR.out]; simp), rfl⟩
    · rw [decide_eq_true h1, decide_eq_false h2] at hr
      have HR := Lib.hid hr; clear hr
      go_enter Try.func18, Try.ntmps18
      go_wp2_with fail
      go_ret
      exact ⟨ret_bool (by rw [HR.out]; simp), rfl⟩
  · rw [decide_eq_false h1] at hr
    have HR := Lib.hid hr; clear hr
    go_enter Try.func18, Try.ntmps18
    go_wp2_with fail
    go_ret
    exact ⟨ret_bool (by rw [HR.out]; simp), rfl⟩

theorem way_any (a b : Int) (w : World) (ha : 0 ≤ a ∧ a ≤ 4294967295) (hb : 0 ≤ b ∧ b ≤ 4294967295) :
    Calls Try.prog 17 #[.int .u32 a, .int .u32 b] w fun e w' => e = .returned (.int .i64 (way a b)) ∧ w = w' := by
  by_cases h : b - a < 0
  · go_enter Try.func17, Try.ntmps17
    go_wp2
    go_ret
    exact ⟨ret_int (by unfold way; omega), rfl⟩
  · go_enter Try.func17, Try.ntmps17
    go_wp2
    go_ret
    exact ⟨ret_int (by unfold way; omega), rfl⟩

theorem trim_lives (w : World) : Calls Try.prog 25 #[.int .u32 4294967294, .string ⟨#[97, 98, 99, 100]⟩, .int .u32 4294967295, .int .u32 2] w fun e w' => e = .returned (.tuple #[.int .u32 4294967295, .string ⟨#[98, 99]⟩]) ∧ ∃ k, w' = w.drewN k := by
  go_enter Try.func25, Try.ntmps25
  go_wp2
  go_rounds 4
  go_ret2
  exact ⟨rfl, 0, rfl⟩

theorem lives (w : World) : Calls Try.prog 15 #[] w fun e w' => e = .returned (.bool true) ∧ ∃ k, w' = w.drewN k := by
  have e1 : lessB 4294967295 0 = true := by decide
  have e2 : lessB 0 4294967295 = false := by decide
  have e3 : inB 1 4294967295 3 = true := by decide
  go_enter Try.func15, Try.ntmps15
  go_wp2_with (first | (go_at_call 19; refine (within_any _ _ _ _ (by omega) (by omega) (by omega)).mono ?_; rintro e w' ⟨rfl, rfl⟩) | (go_at_call 16; refine (less_any _ _ _ (by omega) (by omega)).mono ?_; rintro e w' ⟨rfl, rfl⟩) | (go_at_call 25; refine (trim_lives _).mono ?_; rintro e w' ⟨rfl, k, rfl⟩))
  go_ret
  exact ⟨rfl, _, rfl⟩
end Go.Proofs.Ytmnbhoklphakjaa.Serial
