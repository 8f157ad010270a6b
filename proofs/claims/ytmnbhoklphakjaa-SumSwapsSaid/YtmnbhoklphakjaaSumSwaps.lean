/- The law SumSwaps returns true, whatever comes in. -/
import Derived.Test.YtmnbhoklphakjaaSum
import Derived.Test.YtmnbhoklphakjaaMem
import Derived.WalkSpells
import Derived.WalkLawsBesides
import Derived.Lib.SmallJoins
import Derived.RegionTactic
import Derived.Lib.Hide
namespace Go.Proofs.Ytmnbhoklphakjaa.SumSwaps
open Go.RowKit Go.PlainAid Go.Proofs.Ytmnbhoklphakjaa.Bits Go.Proofs.Ytmnbhoklphakjaa.Sum Go.Proofs.Ytmnbhoklphakjaa.Mem

/-- The first j words swapped. -/
def swp : Nat → List UInt8 → List UInt8
  | 0, l => l
  | j + 1, a :: b :: r => b :: a :: swp j r
  | _ + 1, l => l

theorem swp_length : ∀ (j : Nat) (l : List UInt8), (swp j l).length = l.length
  | 0, l => rfl
  | j + 1, a :: b :: r => by simp [swp, swp_length j r]
  | j + 1, [] => rfl
  | j + 1, [a] => rfl

theorem swp_at : ∀ (j : Nat) (l : List UInt8) (h : 2 * j + 1 < l.length), (swp j l)[2 * j]'(by rw [swp_length]; omega) = l[2 * j] ∧ (swp j l)[2 * j + 1]'(by rw [swp_length]; omega) = l[2 * j + 1]
  | 0, l, h => ⟨rfl, rfl⟩
  | j + 1, a :: b :: r, h => by
    have := swp_at j r (by simp at h; omega)
    exact this
  | j + 1, [], h => by simp at h
  | j + 1, [a], h => by simp at h

theorem swp_step : ∀ (j : Nat) (l : List UInt8) (h : 2 * j + 1 < l.length), ((swp j l).set (2 * j) (l[2 * j + 1])).set (2 * j + 1) (l[2 * j]) = swp (j + 1) l
  | 0, a :: b :: r, h => by simp [swp]
  | j + 1, a :: b :: r, h => by
    have := swp_step j r (by simp at h; omega)
    have h' : 2 * j + 1 < r.length := by simp at h; omega
    show (b :: a :: (((swp j r).set (2 * j) (r[2 * j + 1]'(h'))).set (2 * j + 1) (r[2 * j]'(by omega)))) = _
    rw [this]; rfl
  | 0, [], h => by simp at h
  | 0, [a], h => by simp at h
  | j + 1, [], h => by simp at h
  | j + 1, [a], h => by simp at h

theorem wsum_swp : ∀ (j : Nat) (l : List UInt8), 2 * j = l.length → ∃ q r : Int, 0 ≤ q ∧ 0 ≤ r ∧ 256 * wsum l = wsum (swp j l) + 65535 * q ∧ 256 * wsum (swp j l) = wsum l + 65535 * r
  | 0, l, h => by
    have : l = [] := List.eq_nil_of_length_eq_zero (by omega)
    subst this; exact ⟨0, 0, by omega, by omega, by simp [wsum, swp], by simp [wsum, swp]⟩
  | j + 1, a :: b :: r, h => by
    obtain ⟨q, q', h0, h1, h2, h3⟩ := wsum_swp j r (by simp at h; omega)
    refine ⟨q + a.toNat, q' + b.toNat, by omega, by omega, by simp only [wsum, swp]; omega, by simp only [wsum, swp]; omega⟩
  | j + 1, [], h => by simp at h
  | j + 1, [a], h => by simp at h; omega

theorem fz_swp (A B q r : Int) (hA : 0 ≤ A) (hB : 0 ≤ B) (hq : 0 ≤ q) (hr : 0 ≤ r) (h1 : 256 * A = B + 65535 * q) (h2 : 256 * B = A + 65535 * r) : fz B = fz A * 256 % 65536 + fz A / 256 := by
  by_cases hz : A = 0
  · have : B = 0 := by omega
    subst hz; subst this; decide
  · have hz' : ¬ A ≤ 0 := by omega
    have hb' : ¬ B ≤ 0 := by omega
    unfold fz
    rw [if_neg hz', if_neg hb']
    obtain ⟨c, hc⟩ : ∃ c, c = (A - 1) / 65535 := ⟨_, rfl⟩
    obtain ⟨a, ha⟩ : ∃ a, a = (A - 1) % 65535 + 1 := ⟨_, rfl⟩
    rw [← ha]
    obtain ⟨hi, hhi⟩ : ∃ hi, hi = a / 256 := ⟨_, rfl⟩
    obtain ⟨lo, hlo⟩ : ∃ lo, lo = a % 256 := ⟨_, rfl⟩
    have e1 : A = 65535 * c + a := by omega
    have e2 : a = 256 * hi + lo := by omega
    have e3 : a * 256 % 65536 = 256 * lo := by omega
    rw [e3, ← hhi]
    have e4 : B = 256 * lo + hi + 65535 * (hi + 256 * c - q) := by omega
    have e5 : 1 ≤ 256 * lo + hi ∧ 256 * lo + hi ≤ 65535 := by omega
    rw [e4]
    omega

theorem or_swp (n : Int) (h0 : 0 ≤ n) (h1 : n ≤ 65535) : bits BinOp.or IntKind.u16 (n * 256 % 65536) (n / 256) = n * 256 % 65536 + n / 256 := by
  have e : n * 256 % 65536 = (n % 256) * 2 ^ 8 := by omega
  rw [e]
  exact bits_or_disjoint .u16 8 (n % 256) (n / 256) (by omega) (by omega) (by show _ < 256; omega) (by show n % 256 * 256 + n / 256 < 65536; omega) (by intro h; cases h)

set_option maxHeartbeats 400000 in
theorem walk (s : ByteArray) (w : World) (hs : s.size ≤ 140737488351232) :
    Calls Try.prog 4 #[.string s] w fun e w' => e = .returned (.bool true) ∧ Below w.heap.size w w' := by
  by_cases h1 : s.size % 2 = 1
  · have t1 : ((s.size : Int) % 2 == 1) = true := by simp; omega
    clear h1
    go_enter Try.func4, Try.ntmps4
    go_wp2_with (go_at_call 13; refine (lives _).mono ?_; rintro e w' ⟨rfl, k, rfl⟩)
    go_ret
    exact ⟨rfl, Joins.below_draws _ _ _⟩
  · have t1 : ((s.size : Int) % 2 == 1) = false := by simp; omega
    have hlen : s.data.toList.length = s.size := by simp
    obtain ⟨h, hh⟩ : ∃ h, 2 * h = s.size := ⟨s.size / 2, by omega⟩
    have hconv := fun w : World => run_bytes_of_string (P := Try.prog) w 9 26 5 s Try.underlying9 Try.underlying26 Try.underlying5
    have HH := Lib.hid hh
    clear h1 hh
    go_enter Try.func4, Try.ntmps4
    go_wp2_with (first | (go_at_call 13; refine (lives _).mono ?_; rintro e w' ⟨rfl, k, rfl⟩))
    generalize grownCap (w.drewN k) s.size 0 5 = cap
    have hB : Byt ((w.drewN (k + 1)).alloc (.cells (bytesRow s cap) 5 ((bytesRow s cap).size, (bytesRow s cap).size + 1))) w.heap.size s.data.toList := Byt.of_string (w.drewN (k + 1)) s 5 cap
    have hL : Below w.heap.size w ((w.drewN (k + 1)).alloc (.cells (bytesRow s cap) 5 ((bytesRow s cap).size, (bytesRow s cap).size + 1))) := (Joins.below_draws _ _ _).alloc (by simp) _
    generalize (w.drewN (k + 1)).alloc (.cells (bytesRow s cap) 5 ((bytesRow s cap).size, (bytesRow s cap).size + 1)) = W1 at *
    clear hconv
    go_loopw [4] (fun i wr => ∃ j : Nat, 2 * j ≤ s.size ∧ i = .int .i64 (2 * (j : Int)) ∧ Byt wr w.heap.size (swp j s.data.toList) ∧ Below w.heap.size w wr) (fun i _ => (s.size : Int).toNat - (intOf i).toNat)
    case atStart => exact ⟨0, by omega, rfl, hB, hL⟩
    case round =>
      obtain ⟨j, hj, rfl, hB', hL'⟩ := hrel
      by_cases hlt : 2 * j < s.size
      · have hj1 : 2 * j + 1 < s.size := by have := HH.out; omega
        have hl2 : 2 * j + 1 < (swp j s.data.toList).length := by rw [swp_length, hlen]; omega
        have hc0 := hB'.cell (2 * j) (by omega)
        have hc1 := hB'.cell (2 * j + 1) hl2
        have hf0 := hB'.frozen (2 * j) (by omega)
        have hf1 := hB'.frozen (2 * j + 1) hl2
        have hsa := swp_at j s.data.toList (by rw [hlen]; exact hj1)
        rw [hsa.1] at hc0
        rw [hsa.2] at hc1
        have hst := swp_step j s.data.toList (by rw [hlen]; exact hj1)
        have hx0 := (s.data.toList[2 * j]'(by rw [hlen]; omega)).toNat_lt
        have hx1 := (s.data.toList[2 * j + 1]'(by rw [hlen]; omega)).toNat_lt
        generalize s.data.toList[2 * j] = x0 at *
        generalize s.data.toList[2 * j + 1] = x1 at *
        have hs1 := (hB'.set (2 * j) (by omega) (x1.toNat : Int) (by omega) (by omega)).set (2 * j + 1) (by rw [List.length_set]; exact hl2) (x0.toNat : Int) (by omega) (by omega)
        have e0 : UInt8.ofNat (x0.toNat : Int).toNat = x0 := by simp
        have e1 : UInt8.ofNat (x1.toNat : Int).toNat = x1 := by simp
        rw [e0, e1, hst] at hs1
        have HS := Lib.hid hs1.drew
        have HL := Lib.hid ((hL'.setCell (p := ⟨w.heap.size, 2 * j, none⟩) (Nat.le_refl _) (.int .u8 (x1.toNat : Int))).setCell (p := ⟨w.heap.size, 2 * j + 1, none⟩) (Nat.le_refl _) (.int .u8 (x0.toNat : Int))).drew
        clear hs1 hst hsa e0 e1 hB hL hB' hL'
        go_wp2
        go_region
        go_wp2
        go_roundw
        case rel => exact ⟨j + 1, by omega, by go_num, HS.out, HL.out⟩
        case measure => simp [intOf]; omega
      · have hj' : 2 * j = s.size := by have := HH.out; omega
        have ha := wsum_bd s.data.toList
        have hbd := wsum_bd (swp j s.data.toList)
        obtain ⟨q, r, hq, hr, e1, e2⟩ := wsum_swp j s.data.toList (by rw [hlen]; exact hj')
        have e3 := fz_swp _ _ q r ha.1 hbd.1 hq hr e1 e2
        have hfb := fz_bd (wsum s.data.toList)
        have e4 := or_swp _ hfb.1 hfb.2
        have hl' : (swp j s.data.toList).length = s.size := by rw [swp_length]; exact hlen
        have hback : ∀ nq, (convert 26 9 (.slice (some ⟨w.heap.size, 0, none⟩) s.size cap)).run Try.prog (wr.drewN nq) = .ok (.string ⟨(swp j s.data.toList).toArray⟩) (wr.drewN nq) := fun nq => by
          have := (hB'.drewN nq).back (P := Try.prog) 26 9 5 cap Try.underlying26 Try.underlying5 Try.underlying9
          rw [hl'] at this; exact this
        have hsz : (⟨(swp j s.data.toList).toArray⟩ : ByteArray).size = s.size := by show (swp j s.data.toList).toArray.size = s.size; rw [List.size_toArray]; exact hl'
        have e5 : (fz (wsum (⟨(swp j s.data.toList).toArray⟩ : ByteArray).data.toList) == bits BinOp.or IntKind.u16 (IntKind.u16.wrap (fz (wsum s.data.toList) * 256)) (fz (wsum s.data.toList) / 256)) = true := by
          rw [show IntKind.u16.wrap (fz (wsum s.data.toList) * 256) = fz (wsum s.data.toList) * 256 % 65536 from IntKind.wrap_u16 _, e4]; simp only [beq_iff_eq]; exact e3
        clear e1 e2 e3 e4 hl' hB' hB hL hbd ha
        generalize (⟨(swp j s.data.toList).toArray⟩ : ByteArray) = t at *
        have HL := Lib.hid hL'
        clear hL' hj'
        go_wp2_with (first | (go_at_call 14; refine (add_any _ _ _ (by omega) (by omega) (by omega)).mono ?_; rintro e w' ⟨rfl, k, rfl⟩))
        go_ret
        exact ⟨rfl, below_drewN HL.out _⟩
end Go.Proofs.Ytmnbhoklphakjaa.SumSwaps
