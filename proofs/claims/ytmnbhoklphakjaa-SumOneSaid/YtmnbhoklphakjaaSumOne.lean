/- The law SumOne returns true, whatever comes in. -/
import Derived.Test.YtmnbhoklphakjaaSum
import Derived.Test.YtmnbhoklphakjaaMem
import Derived.WalkSpells
import Derived.WalkLawsBesides
import Derived.Lib.SmallJoins
import Derived.RegionTactic
import Derived.Lib.Hide
namespace Go.Proofs.Ytmnbhoklphakjaa.SumOne
open Go.RowKit Go.PlainAid Go.Proofs.Ytmnbhoklphakjaa.Bits Go.Proofs.Ytmnbhoklphakjaa.Sum Go.Proofs.Ytmnbhoklphakjaa.Mem

theorem wsum_set : ∀ (l : List UInt8) (j : Nat) (h : j < l.length) (b : UInt8), wsum (l.set j b) = wsum l + (if j % 2 = 0 then 256 else 1) * ((b.toNat : Int) - (l[j].toNat : Int))
  | [a], 0, _, b => by simp [wsum]; omega
  | a :: c :: r, 0, _, b => by simp [wsum]; omega
  | a :: c :: r, 1, _, b => by simp [wsum]; omega
  | a :: c :: r, j + 2, h, b => by
    have := wsum_set r j (by simp at h; omega) b
    have e : (j + 2) % 2 = j % 2 := by omega
    simp only [List.set_cons_succ, wsum, this, List.getElem_cons_succ, e]; omega
  | [], j, h, b => by simp at h
  | [a], j + 1, h, b => by simp at h

theorem xor_bit : ∀ (m : Fin 8) (x : Fin 256), x.val ^^^ 2 ^ m.val < 256 ∧ (x.val ^^^ 2 ^ m.val = x.val + 2 ^ m.val ∨ (x.val ^^^ 2 ^ m.val) + 2 ^ m.val = x.val) := by decide +kernel

theorem two_pow_small (m : Nat) (h : m < 8) : 1 ≤ (2 : Nat) ^ m ∧ (2 : Nat) ^ m ≤ 128 := by
  match m, h with
  | 0, _ | 1, _ | 2, _ | 3, _ | 4, _ | 5, _ | 6, _ | 7, _ => decide

theorem xor_byte (m : Nat) (h : m < 8) (b : UInt8) : ∃ y : Int, bits BinOp.xor IntKind.u8 (b.toNat : Int) (2 ^ m % 256) = y ∧ 0 ≤ y ∧ y ≤ 255 ∧ ∃ d : Int, 1 ≤ d ∧ d ≤ 128 ∧ (y - (b.toNat : Int) = d ∨ y - (b.toNat : Int) = -d) := by
  have hp := two_pow_small m h
  have hb := b.toNat_lt
  obtain ⟨h1, h2⟩ := xor_bit ⟨m, h⟩ ⟨b.toNat, by omega⟩
  simp only at h1 h2
  have e : ((2 : Int) ^ m % 256) = ((2 ^ m : Nat) : Int) := by
    have e1 : (2 : Int) ^ m = ((2 ^ m : Nat) : Int) := by norm_cast
    rw [e1]; omega
  refine ⟨((b.toNat ^^^ 2 ^ m : Nat) : Int), by rw [e, bits_xor_nat .u8 _ _ (by show _ < 256; omega) (by show _ < 256; omega) (by intro h; cases h)], by omega, by omega, ((2 ^ m : Nat) : Int), by omega, by omega, by omega⟩

theorem fz_ne (x d : Int) (hx : 0 ≤ x) (hy : 0 ≤ x + d) (hd : d ≠ 0) (h1 : -65534 ≤ d) (h2 : d ≤ 65534) : fz x ≠ fz (x + d) := by
  unfold fz
  repeat' split
  all_goals omega

set_option maxHeartbeats 400000 in
theorem walk (s : ByteArray) (at' : Int) (w : World) (hs : s.size ≤ 140737488351232) (ha : -9223372036854775808 ≤ at' ∧ at' ≤ 9223372036854775807) :
    Calls Try.prog 5 #[.string s, .int .i64 at'] w fun e w' => e = .returned (.bool true) ∧ Below w.heap.size w w' := by
  by_cases h1 : at' < 0
  · go_enter Try.func5, Try.ntmps5
    go_wp2_with (go_at_call 13; refine (lives _).mono ?_; rintro e w' ⟨rfl, k, rfl⟩)
    go_ret
    exact ⟨rfl, Joins.below_draws _ _ _⟩
  · obtain ⟨n, rfl⟩ := Int.eq_ofNat_of_zero_le (show 0 ≤ at' by omega)
    by_cases h2 : s.size ≤ n / 8
    · have h3 : (s.size : Int) ≤ (n : Int) / 8 := by omega
      go_enter Try.func5, Try.ntmps5
      go_wp2_with (go_at_call 13; refine (lives _).mono ?_; rintro e w' ⟨rfl, k, rfl⟩)
      go_ret
      exact ⟨rfl, Joins.below_draws _ _ _⟩
    · have h3 : (n : Int) / 8 < (s.size : Int) := by omega
      have hconv := fun w : World => run_bytes_of_string (P := Try.prog) w 9 26 5 s Try.underlying9 Try.underlying26 Try.underlying5
      go_enter Try.func5, Try.ntmps5
      go_wp2_with (first | (go_at_call 13; refine (lives _).mono ?_; rintro e w' ⟨rfl, k, rfl⟩) | (go_at_call 14; refine (add_any _ _ _ (by omega) (by omega) (by omega)).mono ?_; rintro e w' ⟨rfl, k, rfl⟩))
      generalize grownCap (w.drewN k) s.size 0 5 = cap
      have hB : Byt ((w.drewN (k + 1)).alloc (.cells (bytesRow s cap) 5 ((bytesRow s cap).size, (bytesRow s cap).size + 1))) w.heap.size s.data.toList := Byt.of_string (w.drewN (k + 1)) s 5 cap
      have hL : Below w.heap.size w ((w.drewN (k + 1)).alloc (.cells (bytesRow s cap) 5 ((bytesRow s cap).size, (bytesRow s cap).size + 1))) := (Joins.below_draws _ _ _).alloc (by simp) _
      have hZ : ((w.drewN (k + 1)).alloc (.cells (bytesRow s cap) 5 ((bytesRow s cap).size, (bytesRow s cap).size + 1))).heap.size = w.heap.size + 1 := by simp
      generalize (w.drewN (k + 1)).alloc (.cells (bytesRow s cap) 5 ((bytesRow s cap).size, (bytesRow s cap).size + 1)) = W1 at *
      have hlen : s.data.toList.length = s.size := by simp
      have hlt : n / 8 < s.data.toList.length := by rw [hlen]; omega
      have hc := hB.cell (n / 8) hlt
      have hf := hB.frozen (n / 8) hlt
      clear hconv
      have hws0 := wsum_set s.data.toList (n / 8) hlt
      generalize s.data.toList[n / 8] = b0 at hc hws0
      obtain ⟨y, hy, hy0, hy1, d, hd1, hd2, hyd⟩ := xor_byte (n % 8) (by omega) b0
      have hset := (hB.set (n / 8) hlt y hy0 hy1).drew
      have hL2 : Below w.heap.size w (W1.setCell ⟨w.heap.size, n / 8, none⟩ (.int .u8 y)).drew := (hL.setCell (Nat.le_refl _) _).drew
      have HB := Lib.hid hB; have HL := Lib.hid hL; have HS := Lib.hid hset; have HL2 := Lib.hid hL2; have HW := Lib.hid hws0; have HY := Lib.hid hyd
      clear hB hL hset hL2 hws0 hyd
      go_region
      have hset := HS.out
      have hL2 := HL2.out
      have hws := HW.out (UInt8.ofNat y.toNat)
      have hyd := HY.out
      have hof : ((UInt8.ofNat y.toNat).toNat : Int) = y := by
        have : (UInt8.ofNat y.toNat).toNat = y.toNat := by simp; omega
        omega
      rw [hof] at hws
      have hl' : (s.data.toList.set (n / 8) (UInt8.ofNat y.toNat)).length = s.size := by rw [List.length_set]; exact hlen
      clear HB HL HS HL2 HW HY hc hf hy
      generalize s.data.toList.set (n / 8) (UInt8.ofNat y.toNat) = l' at *
      generalize (W1.setCell ⟨w.heap.size, n / 8, none⟩ (.int .u8 y)).drew = W2 at *
      have hback : ∀ nq, (convert 26 9 (.slice (some ⟨w.heap.size, 0, none⟩) s.size cap)).run Try.prog (W2.drewN nq) = .ok (.string ⟨l'.toArray⟩) (W2.drewN nq) := fun nq => by
        have := (hset.drewN nq).back (P := Try.prog) 26 9 5 cap Try.underlying26 Try.underlying5 Try.underlying9
        rw [hl'] at this; exact this
      have hsz : (⟨l'.toArray⟩ : ByteArray).size = s.size := by show l'.toArray.size = s.size; rw [List.size_toArray]; exact hl'
      have hne : fz (wsum s.data.toList) ≠ fz (wsum l') := by
        have b0 := (wsum_bd s.data.toList).1
        have b1 := (wsum_bd l').1
        by_cases hpar : n / 8 % 2 = 0
        · rw [if_pos hpar] at hws; rw [hws] at b1 ⊢; exact fz_ne _ _ b0 b1 (by omega) (by omega) (by omega)
        · rw [if_neg hpar] at hws; rw [hws] at b1 ⊢; exact fz_ne _ _ b0 b1 (by omega) (by omega) (by omega)
      have hne' : (fz (wsum s.data.toList) != fz (wsum l')) = true := by simpa using hne
      have hld : (⟨l'.toArray⟩ : ByteArray).data.toList = l' := rfl
      generalize (⟨l'.toArray⟩ : ByteArray) = t at *
      rw [← hld] at hne'
      clear hld hws hset hl' hne hyd hof
      go_wp2
      go_quiet (((go_at_call 14; exact Calls.quiet_of (add_any _ _ _ (by omega) (by omega) (by omega)))))
      go_wp2
      go_ret
      exact ⟨rfl, below_drewN hL2 _⟩
end Go.Proofs.Ytmnbhoklphakjaa.SumOne
