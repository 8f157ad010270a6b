/- The contracts of package bucket: Check, level, Level, Take. -/
import Derived.Test.YtlbmdkclbmcpdaaRows
import Derived.Test.YtlbmdkclbmcpdaaBits
import Derived.Test.YtlbmdkclbmcpdaaMem
import Derived.WalkKit
import Derived.Handy
import Derived.BigQuiet
import Derived.Deep.QuietTactic
import Derived.Outline
import Derived.Lib.Hide
import Derived.WalkSpells
import Derived.WalkLawsBesides
namespace Go.Proofs.Ytlbmdkclbmcpdaa.Bucket
open Go.RowKit Go.Proofs.Ytlbmdkclbmcpdaa.Bits Go.Proofs.Ytlbmdkclbmcpdaa.Mem
set_option linter.unusedVariables false

abbrev bc (r m s a : Int) : Array Value := #[.int .i64 r, .int .i64 m, .int .i64 s, .int .i64 a]

def bcheck (r m s a : Int) : Int :=
  if r < 0 ∨ 1000000 < r ∨ m < 1 ∨ 1000000000 < m then 1 else if s < 0 ∨ m < s ∨ a < 0 ∨ 1099511627776 < a then 4 else 0

theorem bcheck_ok {r m s a : Int} (hc : bcheck r m s a = 0) : 0 ≤ r ∧ r ≤ 1000000 ∧ 1 ≤ m ∧ m ≤ 1000000000 ∧ 0 ≤ s ∧ s ≤ m ∧ 0 ≤ a ∧ a ≤ 1099511627776 := by
  unfold bcheck at hc; repeat' split at hc
  all_goals omega

theorem bcheck_mk {r m s a : Int} (hc : 0 ≤ r ∧ r ≤ 1000000 ∧ 1 ≤ m ∧ m ≤ 1000000000 ∧ 0 ≤ s ∧ s ≤ m ∧ 0 ≤ a ∧ a ≤ 1099511627776) : bcheck r m s a = 0 := by
  unfold bcheck; repeat' split
  all_goals omega

theorem first_of (p q : Prop) (a : p → q) (b : ¬ p → q) : q := by by_cases h : p; exact a h; exact b h

theorem check_any (r m s a : Int) (w : World) :
    Calls Try.prog 33 #[.agg (bc r m s a)] w fun e w' => e = .returned (.int .i64 (bcheck r m s a)) ∧ w' = w.alloc (.cells (bc r m s a) 40) := by
  refine first_of (r < 0) _ (fun h1 => ?_) (fun h1 => first_of (1000000 < r) _ (fun h2 => ?_) (fun h2 => first_of (m < 1) _ (fun h3 => ?_) (fun h3 => first_of (1000000000 < m) _ (fun h4 => ?_) (fun h4 => first_of (s < 0) _ (fun h5 => ?_) (fun h5 => first_of (m < s) _ (fun h6 => ?_) (fun h6 => first_of (a < 0) _ (fun h7 => ?_) (fun h7 => first_of (1099511627776 < a) _ (fun h8 => ?_) (fun h8 => ?_))))))))
  all_goals
    go_enter Try.func33, Try.ntmps33
    go_wp2
    go_ret
    exact ⟨ret_int (by unfold bcheck; repeat' split
                       all_goals omega), rfl⟩

def lev (r m s a now : Int) : Int := if m ≤ s + r * (if 1000000000 < now - a then 1000000000 else now - a) then m else s + r * (if 1000000000 < now - a then 1000000000 else now - a)

theorem mul_bd (r t : Int) (h0 : 0 ≤ r) (h1 : r ≤ 1000000) (h2 : 0 ≤ t) (h3 : t ≤ 1000000000) : 0 ≤ r * t ∧ r * t ≤ 1000000000000000 := by
  refine ⟨Int.mul_nonneg h0 h2, ?_⟩
  have a := Int.mul_le_mul h1 h3 h2 (by omega)
  omega

theorem level_any (r m s a now : Int) (w : World) (hc : bcheck r m s a = 0) (hn : a ≤ now ∧ now ≤ 1099511627776) :
    Calls Try.prog 34 #[.agg (bc r m s a), .int .i64 now] w fun e w' => e = .returned (.int .i64 (lev r m s a now)) ∧ w' = w.alloc (.cells (bc r m s a) 40) := by
  have hb := bcheck_ok hc
  clear hc
  by_cases h1 : 1000000000 < now - a
  · by_cases h2 : m ≤ s + r * 1000000000
    all_goals
      go_enter Try.func34, Try.ntmps34
      go_wp2
      go_ret
      exact ⟨ret_int (by unfold lev; rw [if_pos (show 1000000000 < now - a by omega)]; repeat' split
                         all_goals omega), rfl⟩
  · have hp := mul_bd r (now - a) hb.1 hb.2.1 (by omega) (by omega)
    by_cases h2 : m ≤ s + r * (now - a)
    all_goals
      go_enter Try.func34, Try.ntmps34
      go_wp2
      go_ret
      exact ⟨ret_int (by unfold lev; rw [if_neg (show ¬ 1000000000 < now - a by omega)]; repeat' split
                         all_goals omega), rfl⟩

/-- What Level answers. -/
def levelF (r m s a now : Int) : Int × Int :=
  if bcheck r m s a = 0 then if now < a ∨ 1099511627776 < now then (0, 1) else (lev r m s a now, 0) else (0, bcheck r m s a)

theorem lev_bd {r m s a now : Int} (hc : bcheck r m s a = 0) (hn : a ≤ now) : s ≤ lev r m s a now ∧ lev r m s a now ≤ m ∧ 0 ≤ lev r m s a now := by
  have hb := bcheck_ok hc
  have hp := mul_bd r (if 1000000000 < now - a then 1000000000 else now - a) hb.1 hb.2.1 (by split <;> omega) (by split <;> omega)
  unfold lev
  generalize r * (if 1000000000 < now - a then 1000000000 else now - a) = q at *
  split <;> omega

theorem Level_any (r m s a now : Int) (w : World) :
    Calls Try.prog 18 #[.agg (bc r m s a), .int .i64 now] w fun e w' => e = .returned (.tuple #[.int .i64 (levelF r m s a now).1, .int .i64 (levelF r m s a now).2]) ∧ Below w.heap.size w w' := by
  obtain ⟨out, hout⟩ : ∃ x, x = levelF r m s a now := ⟨_, rfl⟩
  rw [← hout]
  unfold levelF at hout
  by_cases hc : bcheck r m s a = 0
  · rw [if_pos hc] at hout
    have hcc := Lib.hid hc
    by_cases h1 : now < a ∨ 1099511627776 < now
    · rw [if_pos h1] at hout
      have HO := Lib.hid hout
      have hz : (bcheck r m s a != 0) = false := by rw [hc]; rfl
      clear hc hout
      refine first_of (now < a) _ (fun h2 => ?_) (fun h2 => first_of (1099511627776 < now) _ (fun h3 => ?_) (fun h3 => absurd h1 (by omega)))
      all_goals
        clear h1
        go_enter Try.func18, Try.ntmps18
        go_wp2_with (first | (go_at_call 33; refine (check_any _ _ _ _ _).mono ?_; rintro e w' ⟨rfl, rfl⟩))
        go_ret2
        obtain rfl := HO.out
        exact ⟨rfl, by go_grown⟩
    · rw [if_neg h1] at hout
      have HO := Lib.hid hout
      have hz : (bcheck r m s a != 0) = false := by rw [hc]; rfl
      have hnn := Lib.hid (show a ≤ now ∧ now ≤ 1099511627776 by omega)
      have h2 : ¬ now < a := by omega
      have h3 : ¬ 1099511627776 < now := by omega
      clear hc hout h1
      go_enter Try.func18, Try.ntmps18
      go_wp2_with (first | (go_at_call 33; refine (check_any _ _ _ _ _).mono ?_; rintro e w' ⟨rfl, rfl⟩) | (go_at_call 34; refine (level_any _ _ _ _ _ _ hcc.out hnn.out).mono ?_; rintro e w' ⟨rfl, rfl⟩))
      go_ret2
      obtain rfl := HO.out
      exact ⟨rfl, by go_grown⟩
  · rw [if_neg hc] at hout
    have HO := Lib.hid hout
    have hz : (bcheck r m s a != 0) = true := by simpa using hc
    clear hc hout
    go_enter Try.func18, Try.ntmps18
    go_wp2_with (first | (go_at_call 33; refine (check_any _ _ _ _ _).mono ?_; rintro e w' ⟨rfl, rfl⟩))
    go_ret2
    obtain rfl := HO.out
    exact ⟨rfl, by go_grown⟩

/-- What Take answers: the bucket behind, whether it passed, and the error. -/
def takeF (r m s a now n : Int) : Array Value × Bool × Int :=
  if bcheck r m s a = 0 then
    if now < a ∨ 1099511627776 < now ∨ n < 0 ∨ 1000000000 < n then (bc 0 0 0 0, false, 1) else
    if lev r m s a now < n then (bc r m (lev r m s a now) now, false, 0) else (bc r m (lev r m s a now - n) now, true, 0)
  else (bc 0 0 0 0, false, bcheck r m s a)

theorem Take_any (r m s a now n : Int) (w : World) :
    Calls Try.prog 25 #[.agg (bc r m s a), .int .i64 now, .int .i64 n] w fun e w' => e = .returned (.tuple #[.agg (takeF r m s a now n).1, .bool (takeF r m s a now n).2.1, .int .i64 (takeF r m s a now n).2.2]) ∧ Below w.heap.size w w' := by
  obtain ⟨out, hout⟩ : ∃ x, x = takeF r m s a now n := ⟨_, rfl⟩
  rw [← hout]
  unfold takeF at hout
  by_cases hc : bcheck r m s a = 0
  · rw [if_pos hc] at hout
    have hcc := Lib.hid hc
    have hz : (bcheck r m s a != 0) = false := by rw [hc]; rfl
    by_cases h1 : now < a ∨ 1099511627776 < now ∨ n < 0 ∨ 1000000000 < n
    · rw [if_pos h1] at hout
      have HO := Lib.hid hout
      clear hc hout
      refine first_of (now < a) _ (fun h2 => ?_) (fun h2 => first_of (1099511627776 < now) _ (fun h3 => ?_) (fun h3 => first_of (n < 0) _ (fun h4 => ?_) (fun h4 => first_of (1000000000 < n) _ (fun h5 => ?_) (fun h5 => absurd h1 (by omega)))))
      all_goals
        clear h1
        go_enter Try.func25, Try.ntmps25
        go_wp2_with (first | (go_at_call 33; refine (check_any _ _ _ _ _).mono ?_; rintro e w' ⟨rfl, rfl⟩) | (go_at_call 34; refine (level_any _ _ _ _ _ _ hcc.out hnn.out).mono ?_; rintro e w' ⟨rfl, rfl⟩))
        obtain rfl := HO.out
        go_returns
        exact ⟨rfl, by go_grown⟩
    · rw [if_neg h1] at hout
      have hnn := Lib.hid (show a ≤ now ∧ now ≤ 1099511627776 by omega)
      have h2 : ¬ now < a := by omega
      have h3 : ¬ 1099511627776 < now := by omega
      have h4 : ¬ n < 0 := by omega
      have h5 : ¬ 1000000000 < n := by omega
      have hlv := lev_bd hc (show a ≤ now by omega)
      have hbb := bcheck_ok hc
      clear hc h1
      by_cases h6 : lev r m s a now < n
      · rw [if_pos h6] at hout
        have HO := Lib.hid hout
        clear hout
        go_enter Try.func25, Try.ntmps25
        go_wp2_with (first | (go_at_call 33; refine (check_any _ _ _ _ _).mono ?_; rintro e w' ⟨rfl, rfl⟩) | (go_at_call 34; refine (level_any _ _ _ _ _ _ hcc.out hnn.out).mono ?_; rintro e w' ⟨rfl, rfl⟩))
        obtain rfl := HO.out
        go_returns
        exact ⟨rfl, by go_grown⟩
      · rw [if_neg h6] at hout
        have HO := Lib.hid hout
        clear hout
        go_enter Try.func25, Try.ntmps25
        go_wp2_with (first | (go_at_call 33; refine (check_any _ _ _ _ _).mono ?_; rintro e w' ⟨rfl, rfl⟩) | (go_at_call 34; refine (level_any _ _ _ _ _ _ hcc.out hnn.out).mono ?_; rintro e w' ⟨rfl, rfl⟩))
        obtain rfl := HO.out
        go_returns
        exact ⟨rfl, by go_grown⟩
  · rw [if_neg hc] at hout
    have HO := Lib.hid hout
    have hz : (bcheck r m s a != 0) = true := by simpa using hc
    clear hc hout
    go_enter Try.func25, Try.ntmps25
    go_wp2_with (first | (go_at_call 33; refine (check_any _ _ _ _ _).mono ?_; rintro e w' ⟨rfl, rfl⟩))
    obtain rfl := HO.out
    go_returns
    exact ⟨rfl, by go_grown⟩
end Go.Proofs.Ytlbmdkclbmcpdaa.Bucket
