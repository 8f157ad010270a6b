/- The law SumJoins returns true, whatever comes in. -/
import Derived.Test.YtmnbhoklphakjaaSum
import Derived.WalkSpells
import Derived.WalkLawsBesides
import Derived.Lib.SmallJoins
namespace Go.Proofs.Ytmnbhoklphakjaa.SumJoins
open Go.RowKit Go.PlainAid Go.Proofs.Ytmnbhoklphakjaa.Bits Go.Proofs.Ytmnbhoklphakjaa.Sum

theorem wsum_append : ∀ (l r : List UInt8), l.length % 2 = 0 → wsum (l ++ r) = wsum l + wsum r
  | [], r, _ => by simp [wsum]
  | [a], r, h => by simp at h
  | a :: b :: l, r, h => by
    have := wsum_append l r (by simp at h; omega)
    simp only [List.cons_append, wsum, this]; omega

theorem fz_fz (x y : Int) (hx : 0 ≤ x) (hy : 0 ≤ y) : fz (fz x + y) = fz (x + y) := by
  unfold fz
  repeat' split
  all_goals omega

set_option maxHeartbeats 400000 in
theorem walk (n : Int) (a b : ByteArray) (w : World) (hn : 0 ≤ n ∧ n ≤ 65535) (ha : a.size ≤ 140737488351232) (hb : b.size ≤ 140737488351232) :
    Calls Try.prog 3 #[.int .u16 n, .string a, .string b] w fun e w' => e = .returned (.bool true) ∧ Below w.heap.size w w' := by
  have e1 := fz_bd (n + wsum a.data.toList)
  by_cases h1 : a.size % 2 = 1
  · have t1 : ((a.size : Int) % 2 == 1) = true := by simp; omega
    clear h1
    go_enter Try.func3, Try.ntmps3
    go_wp2_with (go_at_call 13; refine (lives _).mono ?_; rintro e w' ⟨rfl, k, rfl⟩)
    go_ret
    exact ⟨rfl, Joins.below_draws _ _ _⟩
  · by_cases h2 : b.size % 2 = 1
    · have t1 : ((a.size : Int) % 2 == 1) = false := by simp; omega
      have t2 : ((b.size : Int) % 2 == 1) = true := by simp; omega
      clear h1 h2
      go_enter Try.func3, Try.ntmps3
      go_wp2_with (go_at_call 13; refine (lives _).mono ?_; rintro e w' ⟨rfl, k, rfl⟩)
      go_ret
      exact ⟨rfl, Joins.below_draws _ _ _⟩
    · have t1 : ((a.size : Int) % 2 == 1) = false := by simp; omega
      have t2 : ((b.size : Int) % 2 == 1) = false := by simp; omega
      have c1 : (fz (fz (n + wsum a.data.toList) + wsum b.data.toList) == fz (n + wsum (a.data.toList ++ b.data.toList))) = true := by
        have := (wsum_bd a.data.toList).1
        have := (wsum_bd b.data.toList).1
        rw [wsum_append _ _ (by simp; omega), fz_fz _ _ (by omega) (by omega), Int.add_assoc]; simp
      have c2 : (fz (n + wsum (a.data.toList ++ b.data.toList)) == fz (n + wsum (b.data.toList ++ a.data.toList))) = true := by
        rw [wsum_append _ _ (by simp; omega), wsum_append _ _ (by simp; omega), Int.add_comm (wsum b.data.toList)]; simp
      have z1 : (a ++ b).size ≤ 281474976710656 := by simp; omega
      have z2 : (b ++ a).size ≤ 281474976710656 := by simp; omega
      clear h1 h2
      go_enter Try.func3, Try.ntmps3
      go_wp2_with (first | (go_at_call 13; refine (lives _).mono ?_; rintro e w' ⟨rfl, k, rfl⟩) | (go_at_call 14; refine (add_any _ _ _ (by omega) (by omega) (by omega)).mono ?_; rintro e w' ⟨rfl, k, rfl⟩))
      go_ret
      exact ⟨rfl, Joins.below_draws _ _ _⟩
end Go.Proofs.Ytmnbhoklphakjaa.SumJoins
