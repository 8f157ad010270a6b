/- Bitwise operations on integers that lie in range, as sums, quotients and remainders. -/
import Derived.WalkKit
namespace Go.Proofs.Ytnhiilbmgkbbaaa.Bits
open Go

@[go_sem] theorem signed_u8 : IntKind.u8.signed = false := rfl
@[go_sem] theorem signed_u16 : IntKind.u16.signed = false := rfl
@[go_sem] theorem signed_u32 : IntKind.u32.signed = false := rfl
@[go_sem] theorem signed_u64 : IntKind.u64.signed = false := rfl
@[go_sem] theorem signed_i64 : IntKind.i64.signed = true := rfl

theorem ofInt_nat (w : Nat) (n : Nat) (h : n < 2 ^ w) : (BitVec.ofInt w (n : Int)).toNat = n := by
  rw [BitVec.ofInt_natCast, BitVec.toNat_ofNat]; exact Nat.mod_eq_of_lt h

theorem wrap_nat (k : IntKind) (n : Nat) (h : n < 2 ^ k.bits) (hs : k.signed = true → n < 2 ^ (k.bits - 1)) : k.wrap (n : Int) = (n : Int) := by
  have hb : (2 : Int) ^ k.bits = ((2 ^ k.bits : Nat) : Int) := by norm_cast
  have h2 : (2 : Nat) ^ k.bits = 2 ^ (k.bits - 1) + 2 ^ (k.bits - 1) := by cases k <;> rfl
  have hm : n % 2 ^ k.bits = n := Nat.mod_eq_of_lt h
  unfold IntKind.wrap
  by_cases hk : k.signed = true
  · have := hs hk
    cases k <;> simp_all [IntKind.bits, IntKind.signed] <;> omega
  · cases k <;> simp_all [IntKind.bits, IntKind.signed] <;> omega

theorem bits_and_nat (k : IntKind) (a b : Nat) (ha : a < 2 ^ k.bits) (hb : b < 2 ^ k.bits) (hs : k.signed = true → a < 2 ^ (k.bits - 1)) :
    bits .and k (a : Int) (b : Int) = ((a &&& b : Nat) : Int) := by
  have h1 := ofInt_nat k.bits a ha
  have h2 := ofInt_nat k.bits b hb
  have h3 : a &&& b ≤ a := Nat.and_le_left
  show k.wrap ((BitVec.ofInt k.bits (a : Int) &&& BitVec.ofInt k.bits (b : Int)).toNat : Int) = _
  rw [BitVec.toNat_and, h1, h2]
  exact wrap_nat k _ (by omega) (fun h => by have := hs h; omega)

theorem bits_or_nat (k : IntKind) (a b : Nat) (ha : a < 2 ^ k.bits) (hb : b < 2 ^ k.bits) (hs : k.signed = true → a < 2 ^ (k.bits - 1) ∧ b < 2 ^ (k.bits - 1)) :
    bits .or k (a : Int) (b : Int) = ((a ||| b : Nat) : Int) := by
  have h1 := ofInt_nat k.bits a ha
  have h2 := ofInt_nat k.bits b hb
  show k.wrap ((BitVec.ofInt k.bits (a : Int) ||| BitVec.ofInt k.bits (b : Int)).toNat : Int) = _
  rw [BitVec.toNat_or, h1, h2]
  exact wrap_nat k _ (Nat.or_lt_two_pow ha hb) (fun h => Nat.or_lt_two_pow (hs h).1 (hs h).2)

theorem bits_xor_nat (k : IntKind) (a b : Nat) (ha : a < 2 ^ k.bits) (hb : b < 2 ^ k.bits) (hs : k.signed = true → a < 2 ^ (k.bits - 1) ∧ b < 2 ^ (k.bits - 1)) :
    bits .xor k (a : Int) (b : Int) = ((a ^^^ b : Nat) : Int) := by
  have h1 := ofInt_nat k.bits a ha
  have h2 := ofInt_nat k.bits b hb
  show k.wrap ((BitVec.ofInt k.bits (a : Int) ^^^ BitVec.ofInt k.bits (b : Int)).toNat : Int) = _
  rw [BitVec.toNat_xor, h1, h2]
  exact wrap_nat k _ (Nat.xor_lt_two_pow ha hb) (fun h => Nat.xor_lt_two_pow (hs h).1 (hs h).2)

/-- A mask of the j lowest bits. -/
theorem bits_and_mask (k : IntKind) (j : Nat) (x : Int) (h0 : 0 ≤ x) (h1 : x < 2 ^ k.bits) (hj : j < k.bits) (hs : k.signed = true → x < 2 ^ (k.bits - 1)) :
    bits .and k x (2 ^ j - 1) = x % 2 ^ j := by
  obtain ⟨n, rfl⟩ := Int.eq_ofNat_of_zero_le h0
  have e : ((2 : Int) ^ j - 1) = ((2 ^ j - 1 : Nat) : Int) := by
    rw [Int.ofNat_sub (Nat.one_le_two_pow)]; norm_cast
  have hlt : (2 : Nat) ^ j < 2 ^ k.bits := Nat.pow_lt_pow_right (by omega) hj
  have h1' : n < 2 ^ k.bits := by exact_mod_cast h1
  rw [e, bits_and_nat k n _ h1' (by omega) (fun h => by exact_mod_cast hs h), Nat.and_two_pow_sub_one_eq_mod]
  norm_cast

/-- Two parts that share no bit. -/
theorem bits_or_disjoint (k : IntKind) (j : Nat) (x y : Int) (hx : 0 ≤ x) (hy : 0 ≤ y) (hy' : y < 2 ^ j) (h1 : x * 2 ^ j + y < 2 ^ k.bits) (hs : k.signed = true → x * 2 ^ j + y < 2 ^ (k.bits - 1)) :
    bits .or k (x * 2 ^ j) y = x * 2 ^ j + y := by
  obtain ⟨a, rfl⟩ := Int.eq_ofNat_of_zero_le hx
  obtain ⟨b, rfl⟩ := Int.eq_ofNat_of_zero_le hy
  have hb : b < 2 ^ j := by exact_mod_cast hy'
  have e : ((a : Int) * 2 ^ j) = ((a * 2 ^ j : Nat) : Int) := by norm_cast
  have h1' : a * 2 ^ j + b < 2 ^ k.bits := by exact_mod_cast h1
  have hs' : k.signed = true → a * 2 ^ j + b < 2 ^ (k.bits - 1) := fun h => by exact_mod_cast hs h
  rw [e, bits_or_nat k _ b (by omega) (by omega) (fun h => by have := hs' h; omega)]
  have : a * 2 ^ j ||| b = a * 2 ^ j + b := by
    rw [← Nat.shiftLeft_eq, Nat.shiftLeft_add_eq_or_of_lt hb]
  rw [this]; norm_cast

/-- Every bit turned, of an unsigned kind. -/
theorem bits_not (k : IntKind) (x : Int) (hk : k.signed = false) (h0 : 0 ≤ x) (h1 : x < 2 ^ k.bits) : bits .xor k (2 ^ k.bits - 1) x = 2 ^ k.bits - 1 - x := by
  obtain ⟨n, rfl⟩ := Int.eq_ofNat_of_zero_le h0
  have hn : n < 2 ^ k.bits := by exact_mod_cast h1
  have h2 := ofInt_nat k.bits n hn
  have ho : BitVec.ofInt k.bits (2 ^ k.bits - 1) = BitVec.allOnes k.bits := by
    apply BitVec.eq_of_toNat_eq
    have e : ((2 : Int) ^ k.bits - 1) = ((2 ^ k.bits - 1 : Nat) : Int) := by
      rw [Int.ofNat_sub (Nat.one_le_two_pow)]; norm_cast
    rw [e, ofInt_nat _ _ (by omega), BitVec.toNat_allOnes]
  show k.wrap ((BitVec.ofInt k.bits (2 ^ k.bits - 1) ^^^ BitVec.ofInt k.bits (n : Int)).toNat : Int) = _
  rw [ho, BitVec.allOnes_xor, BitVec.toNat_not, h2, wrap_nat k _ (by omega) (fun h => by rw [hk] at h; cases h)]
  rw [Nat.sub_sub, Int.ofNat_sub (by omega)]
  push_cast
  omega

theorem not_u8 (x : Int) (h0 : 0 ≤ x) (h1 : x ≤ 255) : bits .xor .u8 IntKind.u8.max x = 255 - x := bits_not .u8 x rfl h0 (by show x < 256; omega)
theorem not_u16 (x : Int) (h0 : 0 ≤ x) (h1 : x ≤ 65535) : bits .xor .u16 IntKind.u16.max x = 65535 - x := bits_not .u16 x rfl h0 (by show x < 65536; omega)
theorem not_u32 (x : Int) (h0 : 0 ≤ x) (h1 : x ≤ 4294967295) : bits .xor .u32 IntKind.u32.max x = 4294967295 - x := bits_not .u32 x rfl h0 (by show x < 4294967296; omega)
theorem not_u64 (x : Int) (h0 : 0 ≤ x) (h1 : x ≤ 18446744073709551615) : bits .xor .u64 IntKind.u64.max x = 18446744073709551615 - x := bits_not .u64 x rfl h0 (by show x < 18446744073709551616; omega)

theorem ret_int {k : IntKind} {a b : Int} (h : a = b) : Ending.returned (.int k a) = .returned (.int k b) := by rw [h]
theorem ret_bool {a b : Bool} (h : a = b) : Ending.returned (.bool a) = .returned (.bool b) := by rw [h]
theorem ret_str {a b : ByteArray} (h : a = b) : Ending.returned (.string a) = .returned (.string b) := by rw [h]

end Go.Proofs.Ytnhiilbmgkbbaaa.Bits
