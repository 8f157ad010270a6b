/- wheel.list and math/bits.Len: what they come to. Conditions: none. -/
import Derived.Test.YtnhiilbmgkbbaaaGWheel
import Derived.Test.YtnhiilbmgkbbaaaPWhN
import Derived.KernelRfl
namespace Go.Proofs.Ytnhiilbmgkbbaaa.X
open Go Go.RowKit Go.Proofs.Ytnhiilbmgkbbaaa.Abs Go.Proofs.Ytnhiilbmgkbbaaa.Bits
set_option linter.unusedVariables false
set_option linter.unnecessarySimpa false
set_option linter.unusedSimpArgs false
set_option maxRecDepth 100000

theorem wri (x : Int) (h : -9223372036854775808 ≤ x ∧ x ≤ 9223372036854775807) : IntKind.wrap IntKind.i64 x = x := by
  simp only [IntKind.wrap, IntKind.bits, IntKind.signed]
  simp
  omega
theorem tab_hex : ∀ y : Fin 256, 0 < y.val → 1 ≤ (bsGWheel_0.getD y.val 0).toNat ∧ (y.val < 16 → (bsGWheel_0.getD y.val 0).toNat ≤ 4) ∧ (16 ≤ y.val → 5 ≤ (bsGWheel_0.getD y.val 0).toNat) ∧ (bsGWheel_0.getD y.val 0).toNat ≤ 8 := by decide +kernel
theorem tab_int (y : Int) (h0 : 0 < y) (h1 : y < 256) : 1 ≤ ((bsGWheel_0.getD y.toNat 0).toNat : Int) ∧ (y < 16 → ((bsGWheel_0.getD y.toNat 0).toNat : Int) ≤ 4) ∧ (16 ≤ y → 5 ≤ ((bsGWheel_0.getD y.toNat 0).toNat : Int)) ∧ ((bsGWheel_0.getD y.toNat 0).toNat : Int) ≤ 8 := by
  have := tab_hex ⟨y.toNat, by omega⟩ (by show 0 < y.toNat; omega)
  simp only at this
  omega
theorem tab_len : ((bsGWheel_0.length : Nat) : Int) = 256 := by decide +kernel
/-- In which part the uppermost bit is. -/
structure Hex (x m : Int) : Prop where
  h0 : x < 16 → 1 ≤ m ∧ m ≤ 4
  h1 : 16 ≤ x → x < 256 → 5 ≤ m ∧ m ≤ 8
  h2 : 256 ≤ x → x < 4096 → 9 ≤ m ∧ m ≤ 12
  h3 : 4096 ≤ x → x < 65536 → 13 ≤ m ∧ m ≤ 16
  h4 : 65536 ≤ x → x < 1048576 → 17 ≤ m ∧ m ≤ 20
  h5 : 1048576 ≤ x → 21 ≤ m ∧ m ≤ 24
theorem len_fn (x : Int) (h0 : 0 < x) (h1 : x < 16777216) : ∃ m : Int, bLen_fn (x, ()) = some (m, ()) ∧ Hex x m := by
  suffices h : ∃ m : Int, bLen64_fn (x, ()) = some (m, ()) ∧ Hex x m by
    obtain ⟨m, e, hm⟩ := h
    refine ⟨m, ?_, hm⟩
    unfold bLen_fn bLen_tree
    exact ev_opt e (ev_r rfl)
  unfold bLen64_fn bLen64_tree
  simp only [fdiv8, fdiv16, wrap8u, tab_len]
  by_cases c1 : 65536 ≤ x
  · have e : x / 65536 % 256 = x / 65536 := by omega
    obtain ⟨t1, t2, t3, t4⟩ := tab_int (x / 65536) (by omega) (by omega)
    refine ⟨_, ev_f (decide_eq_false (by omega)) (ev_t (decide_eq_true c1) (ev_g rfl (ev_f (decide_eq_false (by omega)) (ev_g (decide_eq_true (by omega)) (ev_r rfl))))), ?_⟩
    rw [e]
    generalize ((bsGWheel_0.getD (x / 65536).toNat 0).toNat : Int) = t at *
    rw [wri t (by omega), wri _ (by omega)]
    constructor <;> intros <;> omega
  · by_cases c2 : 256 ≤ x
    · have e : x / 256 % 256 = x / 256 := by omega
      obtain ⟨t1, t2, t3, t4⟩ := tab_int (x / 256) (by omega) (by omega)
      refine ⟨_, ev_f (decide_eq_false (by omega)) (ev_f (decide_eq_false c1) (ev_t (decide_eq_true c2) (ev_g rfl (ev_g (decide_eq_true (by omega)) (ev_r rfl))))), ?_⟩
      rw [e]
      generalize ((bsGWheel_0.getD (x / 256).toNat 0).toNat : Int) = t at *
      rw [wri t (by omega), wri _ (by omega)]
      constructor <;> intros <;> omega
    · have e : x % 256 = x := by omega
      obtain ⟨t1, t2, t3, t4⟩ := tab_int x (by omega) (by omega)
      refine ⟨_, ev_f (decide_eq_false (by omega)) (ev_f (decide_eq_false c1) (ev_f (decide_eq_false c2) (ev_g (decide_eq_true (by omega)) (ev_r rfl)))), ?_⟩
      rw [e]
      generalize ((bsGWheel_0.getD x.toNat 0).toNat : Int) = t at *
      rw [wri t (by omega), wri _ (by omega)]
      constructor <;> intros <;> omega
/-- Where the parts above k are alike. -/
theorem xor_div (a b j : Nat) : (a ^^^ b) / 2 ^ j = (a / 2 ^ j) ^^^ (b / 2 ^ j) := by
  rw [← Nat.shiftRight_eq_div_pow, ← Nat.shiftRight_eq_div_pow, ← Nat.shiftRight_eq_div_pow, Nat.shiftRight_xor_distrib]
theorem xor_zero {a b : Nat} (h : a ^^^ b = 0) : a = b := by
  have : a ^^^ (a ^^^ b) = a := by rw [h, Nat.xor_zero]
  rw [← Nat.xor_assoc, Nat.xor_self, Nat.zero_xor] at this
  exact this.symm
theorem xor_same (a b j : Nat) : (a ^^^ b) < 2 ^ j ↔ a / 2 ^ j = b / 2 ^ j := by
  have h := xor_div a b j
  constructor
  · intro hl
    rw [Nat.div_eq_of_lt hl] at h
    exact xor_zero h.symm
  · intro e
    rw [e, Nat.xor_self] at h
    exact (Nat.div_eq_zero_iff_lt (Nat.two_pow_pos j)).1 h
theorem and15 (x : Int) (h0 : 0 ≤ x) (h1 : x < 16777216) : bits BinOp.and IntKind.i64 x (15 : Int) = x % 16 := by
  have := bits_and_mask .i64 4 x h0 (by show x < 18446744073709551616; omega) (by decide) (fun _ => by show x < 9223372036854775808; omega)
  exact this
theorem list_fn {now a : Int} (h0 : 0 ≤ now) (h1 : now < 16777216) (h2 : 0 ≤ a) (h3 : a < 16777216) (hne : now ≠ a) : wList_fn (now, (a, ())) = some (lst now a, ()) := by
  obtain ⟨n, rfl⟩ := Int.eq_ofNat_of_zero_le h0
  obtain ⟨m, rfl⟩ := Int.eq_ofNat_of_zero_le h2
  have hn : n < 16777216 := by omega
  have hm : m < 16777216 := by omega
  have hx : bits BinOp.xor IntKind.i64 (n : Int) (m : Int) = ((n ^^^ m : Nat) : Int) := bits_xor_nat .i64 n m (by show n < 2 ^ 64; omega) (by show m < 2 ^ 64; omega) (fun _ => ⟨by show n < 2 ^ 63; omega, by show m < 2 ^ 63; omega⟩)
  have hlt : (n ^^^ m) < 16777216 := Nat.xor_lt_two_pow (n := 24) hn hm
  have hpos : 0 < (n ^^^ m) := by
    rcases Nat.eq_zero_or_pos (n ^^^ m) with e | e
    · have := xor_zero e; omega
    · exact e
  obtain ⟨l, hl, hh⟩ := len_fn ((n ^^^ m : Nat) : Int) (by omega) (by omega)
  have x4 := xor_same n m 4
  have x8 := xor_same n m 8
  have x12 := xor_same n m 12
  have x16 := xor_same n m 16
  have x20 := xor_same n m 20
  obtain ⟨g0, g1, g2, g3, g4, g5⟩ := hh
  have hw : IntKind.wrap IntKind.u64 (((n ^^^ m : Nat) : Int)) = ((n ^^^ m : Nat) : Int) := by rw [wrap64u]; omega
  generalize (n ^^^ m) = x at *
  have hr : 1 ≤ l ∧ l ≤ 24 := by omega
  unfold wList_fn wList_tree
  simp only [hx, hw]
  refine ev_opt hl ?_
  have e1 : IntKind.wrap IntKind.i64 (l - 1) = l - 1 := wri _ (by omega)
  have e2 : Int.tdiv (l - 1) 4 = (l - 1) / 4 := Int.tdiv_eq_ediv_of_nonneg (by omega)
  have hk : (l - 1) / 4 = 0 ∨ (l - 1) / 4 = 1 ∨ (l - 1) / 4 = 2 ∨ (l - 1) / 4 = 3 ∨ (l - 1) / 4 = 4 ∨ (l - 1) / 4 = 5 := by omega
  simp only [e1, e2]
  unfold lst
  rcases hk with k | k | k | k | k | k
  · have hb : x < 16 := by omega
    simp only [k]
    refine ev_g rfl (ev_g rfl (ev_r ?_))
    have s : Int.fdiv (m : Int) ((2 : Int) ^ min (Int.toNat (IntKind.wrap IntKind.i64 (4 * IntKind.wrap IntKind.i64 0))) 64) = (m : Int) := by
      show Int.fdiv (m : Int) 1 = m
      rw [fdiv_pos _ (by decide)]; omega
    rw [s, and15 _ (by omega) (by omega), if_neg (by omega), if_neg (by omega), if_neg (by omega), if_neg (by omega), if_neg (by omega)]
    have : IntKind.wrap IntKind.i64 (16 * IntKind.wrap IntKind.i64 0) = 0 := by rfl
    rw [this, wri _ (by omega), Int.zero_add]
  · have hb : 16 ≤ x ∧ x < 256 := by omega
    simp only [k]
    refine ev_g rfl (ev_g rfl (ev_r ?_))
    have s : Int.fdiv (m : Int) ((2 : Int) ^ min (Int.toNat (IntKind.wrap IntKind.i64 (4 * IntKind.wrap IntKind.i64 1))) 64) = (m : Int) / 16 := by
      show Int.fdiv (m : Int) 16 = _
      rw [fdiv_pos _ (by decide)]
    rw [s, and15 _ (by omega) (by omega), if_neg (by omega), if_neg (by omega), if_neg (by omega), if_neg (by omega), if_pos (by omega)]
    have : IntKind.wrap IntKind.i64 (16 * IntKind.wrap IntKind.i64 1) = 16 := by rfl
    rw [this, wri _ (by omega)]
  · have hb : 256 ≤ x ∧ x < 4096 := by omega
    simp only [k]
    refine ev_g rfl (ev_g rfl (ev_r ?_))
    have s : Int.fdiv (m : Int) ((2 : Int) ^ min (Int.toNat (IntKind.wrap IntKind.i64 (4 * IntKind.wrap IntKind.i64 2))) 64) = (m : Int) / 256 := by
      show Int.fdiv (m : Int) 256 = _
      rw [fdiv_pos _ (by decide)]
    rw [s, and15 _ (by omega) (by omega), if_neg (by omega), if_neg (by omega), if_neg (by omega), if_pos (by omega)]
    have : IntKind.wrap IntKind.i64 (16 * IntKind.wrap IntKind.i64 2) = 32 := by rfl
    rw [this, wri _ (by omega)]
  · have hb : 4096 ≤ x ∧ x < 65536 := by omega
    simp only [k]
    refine ev_g rfl (ev_g rfl (ev_r ?_))
    have s : Int.fdiv (m : Int) ((2 : Int) ^ min (Int.toNat (IntKind.wrap IntKind.i64 (4 * IntKind.wrap IntKind.i64 3))) 64) = (m : Int) / 4096 := by
      show Int.fdiv (m : Int) 4096 = _
      rw [fdiv_pos _ (by decide)]
    rw [s, and15 _ (by omega) (by omega), if_neg (by omega), if_neg (by omega), if_pos (by omega)]
    have : IntKind.wrap IntKind.i64 (16 * IntKind.wrap IntKind.i64 3) = 48 := by rfl
    rw [this, wri _ (by omega)]
  · have hb : 65536 ≤ x ∧ x < 1048576 := by omega
    simp only [k]
    refine ev_g rfl (ev_g rfl (ev_r ?_))
    have s : Int.fdiv (m : Int) ((2 : Int) ^ min (Int.toNat (IntKind.wrap IntKind.i64 (4 * IntKind.wrap IntKind.i64 4))) 64) = (m : Int) / 65536 := by
      show Int.fdiv (m : Int) 65536 = _
      rw [fdiv_pos _ (by decide)]
    rw [s, and15 _ (by omega) (by omega), if_neg (by omega), if_pos (by omega)]
    have : IntKind.wrap IntKind.i64 (16 * IntKind.wrap IntKind.i64 4) = 64 := by rfl
    rw [this, wri _ (by omega)]
  · have hb : 1048576 ≤ x := by omega
    simp only [k]
    refine ev_g rfl (ev_g rfl (ev_r ?_))
    have s : Int.fdiv (m : Int) ((2 : Int) ^ min (Int.toNat (IntKind.wrap IntKind.i64 (4 * IntKind.wrap IntKind.i64 5))) 64) = (m : Int) / 1048576 := by
      show Int.fdiv (m : Int) 1048576 = _
      rw [fdiv_pos _ (by decide)]
    rw [s, and15 _ (by omega) (by omega), if_pos (by omega)]
    have : IntKind.wrap IntKind.i64 (16 * IntKind.wrap IntKind.i64 5) = 80 := by rfl
    rw [this, wri _ (by omega)]
end Go.Proofs.Ytnhiilbmgkbbaaa.X
