/- The contracts of package sum. -/
import Derived.Test.YtmnbhoklphakjaaRows
import Derived.Test.YtmnbhoklphakjaaBits
import Derived.WalkKit
import Derived.Handy
import Derived.BigQuiet
import Derived.Deep.QuietTactic
import Derived.Outline
import Derived.Lib.Hide
import Derived.PlainAid
import Derived.Lib.IndexBytes
import Derived.Lib.Strings
namespace Go.Proofs.Ytmnbhoklphakjaa.Sum
open Go.RowKit Go.PlainAid Go.Proofs.Ytmnbhoklphakjaa.Bits

def fz (n : Int) : Int := if n ≤ 0 then 0 else (n - 1) % 65535 + 1

theorem fz_small (n : Int) (h0 : 0 ≤ n) (h1 : n ≤ 65535) : fz n = n := by unfold fz; split <;> omega
theorem fz_step (m : Int) (h : 65535 < m) : fz (m / 65536 + m % 65536) = fz m := by unfold fz; split <;> split <;> omega

theorem fold_any (n : Int) (w : World) (h0 : 0 ≤ n) (h1 : n ≤ 18446744073709551615) :
    Calls Try.prog 32 #[.int .u64 n] w fun e w' => e = .returned (.int .u16 (fz n)) ∧ w = w' := by
  go_enter Try.func32, Try.ntmps32
  go_wp2
  go_loop [0] (fun t => ∃ m : Int, 0 ≤ m ∧ m ≤ 18446744073709551615 ∧ t = .int .u64 m ∧ fz m = fz n) (fun t => (intOf t).toNat)
  case atStart => exact ⟨n, h0, h1, rfl, rfl⟩
  case round =>
    obtain ⟨m, hm0, hm1, rfl, hf⟩ := hrel
    have hF := Lib.hid hf
    clear hf
    have hb : bits BinOp.and IntKind.u64 m 65535 = m % 65536 := bits_and_mask .u64 16 m hm0 (by show m < 18446744073709551616; omega) (by decide) (by intro h; cases h)
    go_wp2
    · go_round
      case rel => exact ⟨m / 65536 + m % 65536, by omega, by omega, rfl, by rw [fz_step m (by assumption)]; exact hF.out⟩
      case measure => simp [intOf]; omega
    · go_ret
      have e := fz_small m hm0 (by assumption)
      exact ⟨ret_int (by rw [← hF.out, e]), rfl⟩

/-- The sum of the words of a text. -/
def wsum : List UInt8 → Int
  | [] => 0
  | [a] => 256 * (a.toNat : Int)
  | a :: b :: r => 256 * (a.toNat : Int) + (b.toNat : Int) + wsum r

theorem wsum_bd : ∀ l : List UInt8, 0 ≤ wsum l ∧ wsum l ≤ 65535 * (l.length : Int)
  | [] => by simp [wsum]
  | [a] => by have := a.toNat_lt; simp [wsum]; omega
  | a :: b :: r => by have := wsum_bd r; have := a.toNat_lt; have := b.toNat_lt; simp [wsum]; omega

theorem bt_list (t : ByteArray) (k : Nat) (h : k < t.size) : bt t k = ((t.data.toList[k]'(by simpa using h)).toNat : Int) := by
  unfold bt; rw [dif_pos h]; rfl

theorem wsum_two' : ∀ (l : List UInt8) (h : 1 < l.length), wsum l = (l[0].toNat : Int) * 256 + (l[1].toNat : Int) + wsum (l.drop 2)
  | [], h => by simp at h
  | [a], h => by simp at h
  | a :: b :: r, _ => by simp [wsum]; omega
theorem wsum_one' : ∀ (l : List UInt8) (h : l.length = 1), wsum l = ((l[0]'(by omega)).toNat : Int) * 256
  | [], h => by simp at h
  | [a], _ => by simp [wsum]; omega
  | a :: b :: r, h => by simp at h

theorem wsum_two (t : ByteArray) (h : 1 < t.size) : wsum t.data.toList = bt t 0 * 256 + bt t 1 + wsum (t.extract 2 t.size).data.toList := by
  rw [bt_list t 0 (by omega), bt_list t 1 h, Lib.extract_to_end]
  exact wsum_two' _ (by simpa using h)

theorem wsum_one (t : ByteArray) (h : t.size = 1) : wsum t.data.toList = bt t 0 * 256 := by
  rw [bt_list t 0 (by omega)]
  exact wsum_one' _ (by simpa using h)

theorem wsum_none (t : ByteArray) (h : t.size = 0) : wsum t.data.toList = 0 := by
  have hl : t.data.toList = [] := List.eq_nil_of_length_eq_zero (by simpa using h)
  rw [hl]; rfl

theorem empty_iff (t : ByteArray) : t.toList.isEmpty = decide (t.size = 0) := by
  rw [Lib.toList_data, Bool.eq_iff_iff, List.isEmpty_iff, decide_eq_true_eq]
  constructor
  · intro h; have : t.data.toList.length = 0 := by rw [h]; rfl
    simpa using this
  · intro h; exact List.eq_nil_of_length_eq_zero (by simpa using h)

theorem add_any (n : Int) (s : ByteArray) (w : World) (h0 : 0 ≤ n) (h1 : n ≤ 65535) (hs : s.size ≤ 281474976710656) :
    Calls Try.prog 14 #[.int .u16 n, .string s] w fun e w' => e = .returned (.int .u16 (fz (n + wsum s.data.toList))) ∧ ∃ k, w' = w.drewN k := by
  go_enter Try.func14, Try.ntmps14
  go_wp2
  go_loopw [1, 5] (fun s' m wr => ∃ (t : ByteArray) (x : Int) (k : Nat), t.size ≤ s.size ∧ 0 ≤ x ∧ x + 65535 * (t.size : Int) ≤ 65535 + 65535 * (s.size : Int) ∧ s' = .string t ∧ m = .int .u64 x ∧ x + wsum t.data.toList = n + wsum s.data.toList ∧ wr = w.drewN k) (fun s' _ _ => match s' with | .string t => t.size | _ => 0)
  case atStart => exact ⟨s, n, 0, by omega, by omega, by omega, rfl, rfl, rfl, rfl⟩
  case round =>
    obtain ⟨t, x, k, ht, hx0, hx1, rfl, rfl, hsum, rfl⟩ := hrel
    have hS := Lib.hid hsum
    clear hsum
    have hb := get_bt t
    have b0 := bt_nonneg t 0
    have b0' := bt_le t 0
    have b1 := bt_nonneg t 1
    have b1' := bt_le t 1
    have hor : 1 < t.size → bits BinOp.or IntKind.u64 (bt t 0 * 256) (bt t 1) = bt t 0 * 256 + bt t 1 := fun _ => bits_or_disjoint .u64 8 (bt t 0) (bt t 1) b0 b1 (by show bt t 1 < 256; omega) (by show bt t 0 * 256 + bt t 1 < 18446744073709551616; omega) (by intro h; cases h)
    by_cases h2 : 1 < t.size
    · have hor := hor h2
      go_wp2
      go_quiet (fail)
      go_wp2
      have hw := wsum_two t h2
      go_roundw
      case rel => exact ⟨t.extract 2 t.size, x + (bt t 0 * 256 + bt t 1), k + nq, by simp; omega, by omega, by simp; omega, rfl, rfl, by have := hS.out; omega, rfl⟩
      case measure => simp; omega
    · clear hor
      by_cases h1 : t.size = 1
      · have hne : (!t.toList.isEmpty) = true := by rw [empty_iff, decide_eq_false (by omega)]; rfl
        have H1 := Lib.hid (wsum_one t h1)
        have h1 : 0 < t.size := by omega
        go_wp2_with (go_at_call 32; refine (fold_any _ _ (by omega) (by omega)).mono ?_; rintro e w' ⟨rfl, rfl⟩)
        go_ret
        exact ⟨ret_int (by rw [← hS.out, H1.out]), _, rfl⟩
      · have hne : (!t.toList.isEmpty) = false := by rw [empty_iff, decide_eq_true (by omega)]; rfl
        have H1 := Lib.hid (wsum_none t (by omega))
        go_wp2_with (go_at_call 32; refine (fold_any _ _ (by omega) (by omega)).mono ?_; rintro e w' ⟨rfl, rfl⟩)
        go_ret
        exact ⟨ret_int (by rw [← hS.out, H1.out]; simp), _, rfl⟩

theorem fz_bd (n : Int) : 0 ≤ fz n ∧ fz n ≤ 65535 := by unfold fz; split <;> omega

theorem of_any (s : ByteArray) (w : World) (hs : s.size ≤ 281474976710656) :
    Calls Try.prog 27 #[.string s] w fun e w' => e = .returned (.int .u16 (65535 - fz (wsum s.data.toList))) ∧ ∃ k, w' = w.drewN k := by
  have hb := fz_bd (wsum s.data.toList)
  have hn := not_u16 (fz (wsum s.data.toList)) hb.1 hb.2
  go_enter Try.func27, Try.ntmps27
  go_wp2_with (go_at_call 14; refine (add_any _ _ _ (by omega) (by omega) hs).mono ?_; rintro e w' ⟨rfl, k, rfl⟩)
  go_ret
  exact ⟨rfl, _, rfl⟩

theorem right_any (s : ByteArray) (w : World) (hs : s.size ≤ 281474976710656) :
    Calls Try.prog 28 #[.string s] w fun e w' => e = .returned (.bool (fz (wsum s.data.toList) == 65535)) ∧ ∃ k, w' = w.drewN k := by
  have hb := fz_bd (wsum s.data.toList)
  go_enter Try.func28, Try.ntmps28
  go_wp2_with (go_at_call 14; refine (add_any _ _ _ (by omega) (by omega) hs).mono ?_; rintro e w' ⟨rfl, k, rfl⟩)
  go_ret
  exact ⟨rfl, _, rfl⟩

theorem fix_any (a b c : Int) (w : World) (ha : 0 ≤ a) (ha' : a ≤ 65535) (hb : 0 ≤ b) (hb' : b ≤ 65535) (hc : 0 ≤ c) (hc' : c ≤ 65535) :
    Calls Try.prog 31 #[.int .u16 a, .int .u16 b, .int .u16 c] w fun e w' => e = .returned (.int .u16 (65535 - fz (65535 - a + (65535 - b) + c))) ∧ w = w' := by
  have hbb := fz_bd (65535 - a + (65535 - b) + c)
  have na := not_u16 a ha ha'
  have nb := not_u16 b hb hb'
  have nc := not_u16 _ hbb.1 hbb.2
  go_enter Try.func31, Try.ntmps31
  go_wp2_with (go_at_call 32; refine (fold_any _ _ (by omega) (by omega)).mono ?_; rintro e w' ⟨rfl, rfl⟩)
  go_ret
  exact ⟨rfl, rfl⟩

theorem lives (w : World) : Calls Try.prog 13 #[] w fun e w' => e = .returned (.bool true) ∧ ∃ k, w' = w.drewN k := by
  have e1 : 65535 - fz (wsum [0, 1, 242, 3, 244, 245, 246, 247]) = 8717 := by decide
  have e2 : (fz (wsum [255, 255]) == 65535) = true := by decide
  have e3 : (fz (wsum []) == 65535) = false := by decide
  have e4 : (65535 - fz 122353 == 8717) = true := by decide
  go_enter Try.func13, Try.ntmps13
  go_wp2_with (first | (go_at_call 27; refine (of_any _ _ (by decide)).mono ?_; rintro e w' ⟨rfl, k, rfl⟩) | (go_at_call 28; refine (right_any _ _ (by decide)).mono ?_; rintro e w' ⟨rfl, k, rfl⟩) | (go_at_call 31; refine (fix_any _ _ _ _ (by omega) (by omega) (by omega) (by omega) (by omega) (by omega)).mono ?_; rintro e w' ⟨rfl, rfl⟩))
  go_ret
  exact ⟨rfl, _, rfl⟩
end Go.Proofs.Ytmnbhoklphakjaa.Sum
