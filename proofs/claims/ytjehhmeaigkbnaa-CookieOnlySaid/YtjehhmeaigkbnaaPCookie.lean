/- cookie: what its functions compute, in plain terms. Conditions: none. -/
import Derived.Test.YtjehhmeaigkbnaaLCookie
import Derived.Test.YtjehhmeaigkbnaaPSipC
namespace Go.Proofs.Ytjehhmeaigkbnaa.X
open Go Go.RowKit Go.Proofs.Ytjehhmeaigkbnaa.Abs Go.Proofs.Ytjehhmeaigkbnaa.Bits
set_option linter.unusedVariables false
set_option linter.unusedSimpArgs false

theorem wrap8u (x : Int) : IntKind.u8.wrap x = x % 256 := by
  simp only [IntKind.wrap, IntKind.bits, IntKind.signed]
  simp
theorem wrap32u (x : Int) : IntKind.u32.wrap x = x % 4294967296 := by
  simp only [IntKind.wrap, IntKind.bits, IntKind.signed]
  simp
theorem fdiv_pos (x : Int) {y : Int} (h : 0 ≤ y) : x.fdiv y = x / y := Int.fdiv_eq_ediv_of_nonneg _ h

def byteOf (x : Int) : UInt8 := UInt8.ofNat (x % 256).toNat
def long32 (x : Int) : List UInt8 := [byteOf (x / 16777216), byteOf (x / 65536), byteOf (x / 256), byteOf x]
theorem mod256 (x : Int) : 0 ≤ x % 256 ∧ x % 256 < 256 := by omega
theorem long_fn (x : Int) : coLong_fn (x, ()) = some (long32 x, ()) := by
  unfold coLong_fn coLong_tree
  simp only [Tr.eval, wrap8u, mod256, and_self, decide_true, cond_true, long32, byteOf]
  rw [fdiv_pos x (by decide), fdiv_pos x (by decide), fdiv_pos x (by decide)]
  rfl
theorem port_fn (x : Int) : coPort_fn (x, ()) = some (decide (0 ≤ x ∧ x ≤ 65535), ()) := by
  unfold coPort_fn coPort_tree
  by_cases h : 0 ≤ x
  · simp [Tr.eval, h]
  · simp [Tr.eval, h]
theorem long32_len (x : Int) : (long32 x).length = 4 := rfl
theorem sipOf_some (k0 k1 : Int) (l : List UInt8) (h : l.length ≤ 140737488351232) : ∃ n, sipOf_fn (k0, (k1, (l, ()))) = some (n, ()) := by
  obtain ⟨v, w, u, q, r, m, k, n, _, _, _, _, h5⟩ := tailOk k0 k1 l [] h (by simp)
  rw [List.append_nil] at h5
  exact ⟨n, h5⟩
theorem and24 (x : Int) : 0 ≤ bits .and .u64 x 16777215 ∧ bits .and .u64 x 16777215 < 16777216 := by
  have e : bits .and .u64 x 16777215 = IntKind.u64.wrap (BitVec.ofInt 64 x &&& BitVec.ofInt 64 16777215).toNat := rfl
  have h : (BitVec.ofInt 64 x &&& BitVec.ofInt 64 16777215).toNat ≤ 16777215 := by
    rw [BitVec.toNat_and]
    exact Nat.le_trans Nat.and_le_right (by decide)
  rw [e, wrap64u]; omega
theorem and31 (x : Int) : bits .and .i64 x 31 = x % 32 := by
  have e : bits .and .i64 x 31 = IntKind.i64.wrap (BitVec.ofInt 64 x &&& BitVec.ofInt 64 31).toNat := rfl
  have h : (BitVec.ofInt 64 x &&& BitVec.ofInt 64 31).toNat = (x % 32).toNat := by
    rw [BitVec.toNat_and, BitVec.toNat_ofInt, show (BitVec.ofInt 64 31).toNat = 2 ^ 5 - 1 from rfl, Nat.and_two_pow_sub_one_eq_mod]
    omega
  rw [e, h, wrapI64 ⟨by omega, by omega⟩]; omega

/-- The cookie of a count, an index and a number. -/
def cook (c i h : Int) : Int := (c * 8 + i) * 16777216 + h
theorem cook_eq (c i h : Int) (hc : 0 ≤ c ∧ c ≤ 31) (hi : 0 ≤ i ∧ i ≤ 7) (hh : 0 ≤ h ∧ h < 16777216) :
    bits BinOp.or IntKind.u32 (IntKind.wrap IntKind.u32 (bits BinOp.or IntKind.i64 (IntKind.wrap IntKind.i64 (c * (2 : Int) ^ (27 : Nat))) (IntKind.wrap IntKind.i64 (i * (2 : Int) ^ (24 : Nat))))) (IntKind.wrap IntKind.u32 h) = cook c i h := by
  have e1 : IntKind.i64.wrap (c * 2 ^ 27) = c * 2 ^ 27 := wrapI64 ⟨by omega, by omega⟩
  have e2 : IntKind.i64.wrap (i * 2 ^ 24) = i * 2 ^ 24 := wrapI64 ⟨by omega, by omega⟩
  rw [e1, e2, bits_or_disjoint .i64 27 c (i * 2 ^ 24) (by omega) (by omega) (by omega) (by show _ < (2 : Int) ^ 64; omega) (fun _ => by show _ < (2 : Int) ^ 63; omega)]
  have e3 : IntKind.u32.wrap (c * 2 ^ 27 + i * 2 ^ 24) = (c * 8 + i) * 2 ^ 24 := by rw [wrap32u]; omega
  have e4 : IntKind.u32.wrap h = h := by rw [wrap32u]; omega
  rw [e3, e4, bits_or_disjoint .u32 24 (c * 8 + i) h (by omega) (by omega) (by omega) (by show _ < (2 : Int) ^ 32; omega) (fun h => by cases h)]
  unfold cook; omega
theorem cook_back (c i h : Int) (hc : 0 ≤ c ∧ c ≤ 31) (hi : 0 ≤ i ∧ i ≤ 7) (hh : 0 ≤ h ∧ h < 16777216) :
    IntKind.wrap IntKind.i64 (Int.fdiv (cook c i h) ((2 : Int) ^ (27 : Nat))) = c ∧ IntKind.wrap IntKind.i64 (bits BinOp.and IntKind.u32 (Int.fdiv (cook c i h) ((2 : Int) ^ (24 : Nat))) (7 : Int)) = i := by
  rw [fdiv_pos _ (by decide), fdiv_pos _ (by decide)]
  have e1 : cook c i h / 2 ^ 27 = c := by unfold cook; omega
  have e2 : cook c i h / 2 ^ 24 = c * 8 + i := by unfold cook; omega
  rw [e1, e2]
  refine ⟨wrapI64 ⟨by omega, by omega⟩, ?_⟩
  have e3 : bits .and .u32 (c * 8 + i) 7 = (c * 8 + i) % 2 ^ 3 := bits_and_mask .u32 3 _ (by omega) (by show _ < (2 : Int) ^ 32; omega) (by decide) (fun h => by cases h)
  rw [e3, wrapI64 ⟨by omega, by omega⟩]; omega

/-- The number in a cookie. -/
def hashOf (n : Int) : Int := bits BinOp.and IntKind.u64 n 16777215
def text (a b fp tp seq c i : Int) : List UInt8 := long32 a ++ long32 b ++ long32 (IntKind.wrap IntKind.u32 (bits BinOp.or IntKind.i64 (IntKind.wrap IntKind.i64 (fp * (2 : Int) ^ (16 : Nat))) tp)) ++ long32 seq ++ [byteOf c, byteOf i]
def okArgs (fp tp c i : Int) : Prop := (0 ≤ fp ∧ fp ≤ 65535) ∧ (0 ≤ tp ∧ tp ≤ 65535) ∧ (0 ≤ c ∧ c ≤ 31) ∧ (0 ≤ i ∧ i ≤ 7)
instance (fp tp c i : Int) : Decidable (okArgs fp tp c i) := by unfold okArgs; exact inferInstance
theorem text_len (a b fp tp seq c i : Int) : (text a b fp tp seq c i).length = 18 := rfl
theorem make_fn (k0 k1 a b fp tp seq c i : Int) : ∃ n, sipOf_fn (k0, (k1, (text a b fp tp seq c i, ()))) = some (n, ()) ∧
    coMake_fn (k0, (k1, (a, (b, (fp, (tp, (seq, (c, (i, ()))))))))) = if okArgs fp tp c i then some (cook c i (hashOf n), (0, ())) else some (0, (1, ())) := by
  obtain ⟨n, hn⟩ := sipOf_some k0 k1 (text a b fp tp seq c i) (by rw [text_len]; omega)
  refine ⟨n, hn, ?_⟩
  unfold coMake_fn coMake_tree
  by_cases h1 : 0 ≤ fp ∧ fp ≤ 65535
  · by_cases h2 : 0 ≤ tp ∧ tp ≤ 65535
    · by_cases h3 : c < 0
      · rw [if_neg (by unfold okArgs; omega)]
        simp only [Tr.eval, port_fn, h1, h2, h3, decide_true, Option.bind_some, Bool.not_true, cond_false, cond_true, and_self]
      · by_cases h4 : 31 < c
        · rw [if_neg (by unfold okArgs; omega)]
          simp only [Tr.eval, port_fn, h1, h2, h3, h4, decide_true, decide_false, Option.bind_some, Bool.not_true, cond_false, cond_true, and_self]
        · by_cases h5 : i < 0
          · rw [if_neg (by unfold okArgs; omega)]
            simp only [Tr.eval, port_fn, h1, h2, h3, h4, h5, decide_true, decide_false, Option.bind_some, Bool.not_true, cond_false, cond_true, and_self]
          · by_cases h6 : 7 < i
            · rw [if_neg (by unfold okArgs; omega)]
              simp only [Tr.eval, port_fn, h1, h2, h3, h4, h5, h6, decide_true, decide_false, Option.bind_some, Bool.not_true, cond_false, cond_true, and_self]
            · rw [if_pos (by unfold okArgs; omega)]
              have hc := cook_eq c i (hashOf n) (by omega) (by omega) (and24 n)
              unfold hashOf at hc
              have ht : long32 a ++ long32 b ++ long32 (IntKind.wrap IntKind.u32 (bits BinOp.or IntKind.i64 (IntKind.wrap IntKind.i64 (fp * (2 : Int) ^ (16 : Nat))) tp)) ++ long32 seq ++ [UInt8.ofNat (c % 256).toNat, UInt8.ofNat (i % 256).toNat] = text a b fp tp seq c i := rfl
              simp only [Tr.eval, port_fn, h1, h2, h3, h4, h5, h6, decide_true, decide_false, Option.bind_some, Bool.not_true, cond_false, cond_true, and_self, long_fn, wrap8u, mod256, List.length_append, long32_len, ht, hn, hc, hashOf, List.length_cons, List.length_nil, Nat.reduceAdd, Nat.reduceLeDiff]
    · rw [if_neg (by unfold okArgs; omega)]
      simp only [Tr.eval, port_fn, h1, h2, decide_true, decide_false, Option.bind_some, Bool.not_true, Bool.not_false, cond_false, cond_true, and_self]
  · rw [if_neg (by unfold okArgs; omega)]
    simp only [Tr.eval, port_fn, h1, decide_false, Option.bind_some, Bool.not_false, cond_true]
theorem cookLives : cookieLives_fn () = some (true, ()) := by kernel_rfl
end Go.Proofs.Ytjehhmeaigkbnaa.X
