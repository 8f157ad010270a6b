/- The law BucketFull returns true, whatever comes in. -/
import Derived.Test.YtlbmdkclbmcpdaaBucketT
import Derived.Test.YtlbmdkclbmcpdaaBucketL
namespace Go.Proofs.Ytlbmdkclbmcpdaa.BucketFull
open Go.RowKit Go.Proofs.Ytlbmdkclbmcpdaa.Bits Go.Proofs.Ytlbmdkclbmcpdaa.Mem Go.Proofs.Ytlbmdkclbmcpdaa.Bucket Go.Proofs.Ytlbmdkclbmcpdaa.Read
set_option linter.unusedVariables false

theorem lev_full {r m s a now : Int} (hc : bcheck r m s a = 0) (hn : a ≤ now) (hr : r ≠ 0) (h : m ≤ now - a) : lev r m s a now = m := by
  have hb := bcheck_ok hc
  have e : (if 1000000000 < now - a then 1000000000 else now - a) ≥ m := by split <;> omega
  have h1 : (1 : Int) * m ≤ r * (if 1000000000 < now - a then 1000000000 else now - a) := Int.mul_le_mul (by omega) e (by omega) (by omega)
  unfold lev
  generalize r * (if 1000000000 < now - a then 1000000000 else now - a) = q at *
  split <;> omega

theorem below_then {B : Nat} {w a b : World} (h : Below B w a) (hB : B ≤ w.heap.size) (h2 : Below a.heap.size a b) : Below B w b := h.trans (h2.mono (Nat.le_trans hB h.size))

theorem core (r m s a now : Int) (w : World) : Calls Try.prog 8 #[.agg (bc r m s a), .int .i64 now] w fun e w' => e = .returned (.bool true) ∧ Below w.heap.size w w' := by
  have hL := Level_any r m s a now
  obtain ⟨out, hout⟩ : ∃ x, x = levelF r m s a now := ⟨_, rfl⟩
  rw [← hout] at hL
  obtain ⟨v, e⟩ := out
  unfold levelF at hout
  have hcase : (e ≠ 0 ∧ v = 0) ∨ (e = 0 ∧ bcheck r m s a = 0 ∧ s ≤ v ∧ v ≤ m ∧ a ≤ now ∧ now ≤ 1099511627776 ∧ 0 ≤ a ∧ (r = 0 ∨ now - a < m ∨ v = m)) := by
    split at hout
    · rename_i hc
      split at hout
      · cases hout; left; exact ⟨by decide, rfl⟩
      · rename_i h1
        cases hout
        right
        have hb := lev_bd hc (show a ≤ now by omega)
        have hk := bcheck_ok hc
        refine ⟨rfl, hc, hb.1, hb.2.1, by omega, by omega, by omega, ?_⟩
        by_cases hr : r = 0
        · exact Or.inl hr
        · by_cases hm : now - a < m
          · exact Or.inr (Or.inl hm)
          · exact Or.inr (Or.inr (lev_full hc (by omega) hr (by omega)))
    · rename_i hc
      cases hout; left; exact ⟨hc, rfl⟩
  have HL := Lib.hid hL
  clear hL hout
  rcases hcase with ⟨he, rfl⟩ | ⟨rfl, hc, h1, h2, h3, h4, h5, h6⟩
  · have hz : (e != 0) = true := by simpa using he
    clear he
    go_enter Try.func8, Try.ntmps8
    go_wp2_with (first | (go_at_call 18; refine (HL.out _).mono ?_; rintro e1 w1 ⟨rfl, hb1⟩) | (go_at_call 16; refine (lives _).mono ?_; rintro e2 w2 ⟨rfl, hb2⟩))
    go_ret
    exact ⟨rfl, below_then (below_then (below_then ((Below.refl _ _).alloc (Nat.le_refl _) _) (Nat.le_refl _) hb1) (Nat.le_refl _) (by assumption)) (Nat.le_refl _) (by assumption)⟩
  · have HC := Lib.hid hc
    clear hc
    rcases h6 with rfl | h6 | rfl
    all_goals
      go_enter Try.func8, Try.ntmps8
      go_wp2_with fail
      refine (HL.out _).mono ?_
      rintro e1 w1 ⟨rfl, hb1⟩
      have hB1 := Blk.below (Blk.new w _ _) hb1 (Blk.lt (Blk.new w _ _))
      have hs := hb1.size
      have HB1 := Lib.hid hb1
      clear hb1
      go_wp2_with fail
      refine (lives _).mono ?_
      rintro e2 w2 ⟨rfl, hb2⟩
      have hB2 := hB1.below hb2 (Blk.lt hB1)
      have c0 := hB2.cell 0
      have c1 := hB2.cell 1
      have c2 := hB2.cell 2
      have c3 := hB2.cell 3
      dsimp [bc] at c0 c1 c2 c3
      have HB2 := Lib.hid hb2
      clear hb2 hB1 hB2
      go_wp2_with (first | (go_at_call 19; refine (right_any _ _ _ _ _).mono ?_; rintro e3 w3 ⟨rfl, rfl⟩))
      all_goals go_ret
      all_goals try subst r
      all_goals exact ⟨ret_bool (by rw [HC.out]; rfl), (below_then (below_then ((Below.refl _ _).alloc (Nat.le_refl _) _) (Nat.le_refl _) HB1.out) (Nat.le_refl _) HB2.out).alloc (by have := HB2.out.size; have := HB1.out.size; simp at *; omega) _⟩

theorem walk (c : Array Value) (now : Int) (w : World) (hc : Rd Try.prog w 40 c.toList) (hn : -9223372036854775808 ≤ now ∧ now ≤ 9223372036854775807) :
    Calls Try.prog 8 #[.agg c, .int .i64 now] w fun e w' => e = .returned (.bool true) ∧ Below w.heap.size w w' := by
  obtain ⟨r, m, s, a, rfl⟩ := read_bucket hc
  exact core r m s a now w
end Go.Proofs.Ytlbmdkclbmcpdaa.BucketFull
