/- Words, bytes, sums of words: arithmetic alone. Conditions: none. -/
import Derived.Test.YtnhiilbmgkbbaaaAbsY
import Derived.Test.YtnhiilbmgkbbaaaLoop
import Derived.Test.YtnhiilbmgkbbaaaBits
namespace Go.Proofs.Ytnhiilbmgkbbaaa.X
open Go Go.RowKit Go.Proofs.Ytnhiilbmgkbbaaa.Abs Go.Proofs.Ytnhiilbmgkbbaaa.Bits
set_option linter.unusedVariables false
set_option linter.unusedSimpArgs false

theorem wrap8u (x : Int) : IntKind.u8.wrap x = x % 256 := by
  simp only [IntKind.wrap, IntKind.bits, IntKind.signed]
  simp
theorem wrap16u (x : Int) : IntKind.u16.wrap x = x % 65536 := by
  simp only [IntKind.wrap, IntKind.bits, IntKind.signed]
  simp
theorem wrap32u (x : Int) : IntKind.u32.wrap x = x % 4294967296 := by
  simp only [IntKind.wrap, IntKind.bits, IntKind.signed]
  simp
theorem wrap64u (x : Int) : IntKind.u64.wrap x = x % 18446744073709551616 := by
  simp only [IntKind.wrap, IntKind.bits, IntKind.signed]
  simp
theorem fdiv_pos (x : Int) {y : Int} (h : 0 ≤ y) : x.fdiv y = x / y := Int.fdiv_eq_ediv_of_nonneg _ h
theorem fdiv8 (x : Int) : x.fdiv ((2 : Int) ^ (8 : Nat)) = x / 256 := fdiv_pos x (by decide)
theorem fdiv16 (x : Int) : x.fdiv ((2 : Int) ^ (16 : Nat)) = x / 65536 := fdiv_pos x (by decide)
theorem u8n (b : UInt8) : b.toNat < 256 := UInt8.toNat_lt b
theorem byte_lt (l : List UInt8) (i : Nat) : (0 : Int) ≤ ((List.getD l i 0).toNat : Int) ∧ ((List.getD l i 0).toNat : Int) < 256 := by
  have := u8n (List.getD l i 0); omega

def byteOf (x : Int) : UInt8 := UInt8.ofNat (x % 256).toNat
theorem byteOf_nat (x : Int) : ((byteOf x).toNat : Int) = x % 256 := by
  unfold byteOf
  rw [UInt8.toNat_ofNat']; omega
theorem byteOf_self (b : UInt8) : byteOf (b.toNat : Int) = b := by
  have h := u8n b
  apply UInt8.toNat_inj.1
  have := byteOf_nat (b.toNat : Int)
  omega
/-- A word as two bytes. -/
def wd (x : Int) : List UInt8 := [byteOf (x / 256), byteOf x]
@[simp] theorem wd_len (x : Int) : (wd x).length = 2 := rfl
/-- A word out of two bytes. -/
def wv (a b : UInt8) : Int := (a.toNat : Int) * 256 + (b.toNat : Int)
theorem wv_bound (a b : UInt8) : 0 ≤ wv a b ∧ wv a b ≤ 65535 := by
  have := u8n a; have := u8n b; unfold wv; omega
theorem wv_wd (x : Int) : wv (byteOf (x / 256)) (byteOf x) = x % 65536 := by
  unfold wv; rw [byteOf_nat, byteOf_nat]; omega
theorem wd_wv (a b : UInt8) : wd (wv a b) = [a, b] := by
  have h1 := u8n a; have h2 := u8n b
  have e1 : byteOf (wv a b / 256) = a := by
    rw [show wv a b / 256 = (a.toNat : Int) by unfold wv; omega]; exact byteOf_self a
  have e2 : byteOf (wv a b) = b := by
    apply UInt8.toNat_inj.1
    have := byteOf_nat (wv a b)
    unfold wv at this ⊢; omega
  unfold wd; rw [e1, e2]
/-- A word in a text. -/
def wAt (l : List UInt8) (i : Nat) : Int := wv (l.getD i 0) (l.getD (i + 1) 0)
theorem wAt_bound (l : List UInt8) (i : Nat) : 0 ≤ wAt l i ∧ wAt l i ≤ 65535 := wv_bound _ _
theorem wAt_app_left (l k : List UInt8) (i : Nat) (h : i + 1 < l.length) : wAt (l ++ k) i = wAt l i := by
  unfold wAt
  rw [List.getD_eq_getElem?_getD, List.getD_eq_getElem?_getD, List.getD_eq_getElem?_getD, List.getD_eq_getElem?_getD, List.getElem?_append_left (by omega), List.getElem?_append_left h]
theorem wAt_app_right (l k : List UInt8) (i : Nat) (h : l.length ≤ i) : wAt (l ++ k) i = wAt k (i - l.length) := by
  unfold wAt
  rw [List.getD_eq_getElem?_getD, List.getD_eq_getElem?_getD, List.getD_eq_getElem?_getD, List.getD_eq_getElem?_getD, List.getElem?_append_right h, List.getElem?_append_right (by omega), show i + 1 - l.length = i - l.length + 1 by omega]
/-- A long in a text. -/
def lAt (l : List UInt8) (i : Nat) : Int := wAt l i * 65536 + wAt l (i + 2)
theorem lAt_bound (l : List UInt8) (i : Nat) : 0 ≤ lAt l i ∧ lAt l i ≤ 4294967295 := by
  have := wAt_bound l i; have := wAt_bound l (i + 2); unfold lAt; omega
theorem wAt_wd (x : Int) (k : List UInt8) : wAt (wd x ++ k) 0 = x % 65536 := wv_wd x
/-- A long as four bytes. -/
def lg (x : Int) : List UInt8 := wd (x / 65536) ++ wd x
@[simp] theorem lg_len (x : Int) : (lg x).length = 4 := rfl
/-- Two bytes make a word: in 64 bits. -/
theorem or_i64 (a b : UInt8) : bits .or .i64 (IntKind.i64.wrap (IntKind.i64.wrap (a.toNat : Int) * (2 : Int) ^ (8 : Nat))) (IntKind.i64.wrap (b.toNat : Int)) = wv a b := by
  have h1 := u8n a; have h2 := u8n b
  have e1 : IntKind.i64.wrap (a.toNat : Int) = a.toNat := wrapI64 ⟨by omega, by omega⟩
  have e2 : IntKind.i64.wrap (b.toNat : Int) = b.toNat := wrapI64 ⟨by omega, by omega⟩
  have e3 : IntKind.i64.wrap ((a.toNat : Int) * 2 ^ 8) = (a.toNat : Int) * 2 ^ 8 := wrapI64 ⟨by omega, by omega⟩
  rw [e1, e2, e3, bits_or_disjoint .i64 8 a.toNat b.toNat (by omega) (by omega) (by omega) (by show _ < (2 : Int) ^ 64; omega) (fun _ => by show _ < (2 : Int) ^ 63; omega)]
  unfold wv; omega
theorem or_u64 (a b : UInt8) : bits .or .u64 (IntKind.u64.wrap (IntKind.u64.wrap (a.toNat : Int) * (2 : Int) ^ (8 : Nat))) (IntKind.u64.wrap (b.toNat : Int)) = wv a b := by
  have h1 := u8n a; have h2 := u8n b
  rw [wrap64u, wrap64u, wrap64u]
  have e1 : ((a.toNat : Int) % 18446744073709551616 * 2 ^ 8) % 18446744073709551616 = (a.toNat : Int) * 2 ^ 8 := by omega
  have e2 : (b.toNat : Int) % 18446744073709551616 = b.toNat := by omega
  rw [e1, e2, bits_or_disjoint .u64 8 a.toNat b.toNat (by omega) (by omega) (by omega) (by show _ < (2 : Int) ^ 64; omega) (fun h => by cases h)]
  unfold wv; omega
theorem or_u16 (a b : UInt8) : bits .or .u16 (IntKind.u16.wrap (IntKind.u16.wrap (a.toNat : Int) * (2 : Int) ^ (8 : Nat))) (IntKind.u16.wrap (b.toNat : Int)) = wv a b := by
  have h1 := u8n a; have h2 := u8n b
  rw [wrap16u, wrap16u, wrap16u]
  have e1 : ((a.toNat : Int) % 65536 * 2 ^ 8) % 65536 = (a.toNat : Int) * 2 ^ 8 := by omega
  have e2 : (b.toNat : Int) % 65536 = b.toNat := by omega
  rw [e1, e2, bits_or_disjoint .u16 8 a.toNat b.toNat (by omega) (by omega) (by omega) (by show _ < (2 : Int) ^ 16; omega) (fun h => by cases h)]
  unfold wv; omega

/-! ### Sums of words -/
/-- The sum of a text's words. -/
def ws : List UInt8 → Nat
  | [] => 0
  | [a] => a.toNat * 256
  | a :: b :: r => a.toNat * 256 + b.toNat + ws r
theorem ws_app : ∀ (l k : List UInt8), l.length % 2 = 0 → ws (l ++ k) = ws l + ws k
  | [], k, _ => by simp [ws]
  | [a], k, h => by simp at h
  | a :: b :: r, k, h => by
    have := ws_app r k (by simp at h; omega)
    simp only [List.cons_append, ws, this]; omega
theorem ws_le : ∀ (l : List UInt8), ws l ≤ 65535 * l.length
  | [] => by simp [ws]
  | [a] => by have := u8n a; simp [ws]; omega
  | a :: b :: r => by
    have := ws_le r; have := u8n a; have := u8n b
    simp only [ws, List.length_cons]; omega
theorem ws_wd (x : Int) : (ws (wd x) : Int) = x % 65536 := by
  have := wv_wd x
  unfold wv at this
  simp only [wd, ws]; omega
theorem ws_wd_app (x : Int) (l : List UInt8) : (ws (wd x ++ l) : Int) = x % 65536 + ws l := by
  have h := ws_app (wd x) l (by simp); have := ws_wd x; omega
theorem ws_cons2 (a b : UInt8) (r : List UInt8) : (ws (a :: b :: r) : Int) = wv a b + ws r := by
  simp only [ws, wv]; omega
/-- End-around: a number folded into sixteen bits. -/
def ear (n : Nat) : Nat := if n = 0 then 0 else (n - 1) % 65535 + 1
theorem ear_le (n : Nat) : ear n ≤ 65535 := by unfold ear; split <;> omega
theorem ear_small (n : Nat) (h : n ≤ 65535) : ear n = n := by unfold ear; split <;> omega
theorem ear_mod (n : Nat) : ear n % 65535 = n % 65535 := by unfold ear; split <;> omega
theorem ear_full (n : Nat) : ear n = 65535 ↔ (n ≠ 0 ∧ n % 65535 = 0) := by unfold ear; split <;> omega
theorem ear_zero (n : Nat) : ear n = 0 ↔ n = 0 := by unfold ear; split <;> omega
theorem ear_round (n : Nat) : ear (n / 65536 + n % 65536) = ear n := by unfold ear; split <;> split <;> omega
theorem ear_add (n m : Nat) : ear (ear n + m) = ear (n + m) := by unfold ear; split <;> split <;> split <;> omega

/-! ### Steps through a tree -/
theorem ev_opt {α β : Type} {o : Option β} {k : β → Tr α} {b : β} {r : Option α} (h : o = some b) (h2 : (k b).eval = r) : (Tr.opt o k).eval = r := by rw [h]; exact h2
theorem ev_t {α : Type} {c : Bool} {t e : Tr α} {r : Option α} (h : c = true) (h2 : t.eval = r) : (Tr.ite c t e).eval = r := by rw [h]; exact h2
theorem ev_f {α : Type} {c : Bool} {t e : Tr α} {r : Option α} (h : c = false) (h2 : e.eval = r) : (Tr.ite c t e).eval = r := by rw [h]; exact h2
theorem ev_g {α : Type} {c : Bool} {t : Tr α} {r : Option α} (h : c = true) (h2 : t.eval = r) : (Tr.grd c t).eval = r := by rw [h]; exact h2
theorem ev_ite {α : Type} {c : Bool} {t e : Tr α} {r : Option α} (h1 : c = true → t.eval = r) (h2 : c = false → e.eval = r) : (Tr.ite c t e).eval = r := by
  cases c
  · exact h2 rfl
  · exact h1 rfl
theorem ev_r {α : Type} {a b : α} (h : a = b) : (Tr.ret a).eval = some b := by rw [h]; rfl

/-! ### A bit that is other -/
theorem ws_set : ∀ (l : List UInt8) (i : Nat) (b : UInt8), i < l.length → (ws (l.set i b) : Int) = ws l + ((b.toNat : Int) - ((l.getD i 0).toNat : Int)) * (if i % 2 = 0 then 256 else 1)
  | [a], 0, b, _ => by simp [ws]; omega
  | a :: c :: r, 0, b, _ => by simp [ws]; omega
  | a :: c :: r, 1, b, _ => by simp [ws]; omega
  | a :: c :: r, i + 2, b, h => by
    have := ws_set r i b (by simp at h; omega)
    have e1 : (a :: c :: r).set (i + 2) b = a :: c :: r.set i b := rfl
    have e2 : (a :: c :: r).getD (i + 2) 0 = r.getD i 0 := rfl
    rw [e1, e2]
    simp only [ws]
    rw [show (i + 2) % 2 = i % 2 by omega]
    omega
  | [a], i + 1, b, h => by simp at h
  | [], i, b, h => by simp at h
/-- A byte with one bit that is other. -/
def flip (b : UInt8) (k : Nat) : UInt8 := UInt8.ofNat (b.toNat ^^^ 2 ^ k)
theorem flip_nat : ∀ (b : Fin 256) (k : Fin 8), (b.val ^^^ 2 ^ k.val) < 256 ∧ ((b.val ^^^ 2 ^ k.val) = b.val + 2 ^ k.val ∨ (b.val ^^^ 2 ^ k.val) + 2 ^ k.val = b.val) := by decide +kernel
theorem flip_step (b : UInt8) (k : Nat) (hk : k < 8) : ((flip b k).toNat : Int) = b.toNat + 2 ^ k ∨ ((flip b k).toNat : Int) = b.toNat - 2 ^ k := by
  have := flip_nat ⟨b.toNat, u8n b⟩ ⟨k, hk⟩
  simp only at this
  have e : (flip b k).toNat = b.toNat ^^^ 2 ^ k := by
    unfold flip; rw [UInt8.toNat_ofNat']; omega
  rw [e]
  rcases this.2 with h | h
  · left; rw [h]; simp
  · right
    have : ((b.toNat ^^^ 2 ^ k : Nat) : Int) + ((2 ^ k : Nat) : Int) = b.toNat := by rw [← Int.natCast_add, h]
    simp at this ⊢; omega
theorem flip_ne (b : UInt8) (k : Nat) (hk : k < 8) : flip b k ≠ b := by
  intro h
  have := flip_step b k hk
  rw [h] at this
  have : (0 : Int) < 2 ^ k := Int.pow_pos (by decide)
  omega
/-- With one bit that is other a text has another sum: not even end-around is it the same. -/
theorem ws_flip (l : List UInt8) (i k : Nat) (hi : i < l.length) (hk : k < 8) : ws (l.set i (flip (l.getD i 0) k)) % 65535 ≠ ws l % 65535 := by
  have h := ws_set l i (flip (l.getD i 0) k) hi
  have h2 := flip_step (l.getD i 0) k hk
  generalize (ws (l.set i (flip (l.getD i 0) k))) = x at h ⊢
  generalize ws l = y at h ⊢
  generalize ((flip (l.getD i 0) k).toNat : Int) = p at h h2
  generalize ((l.getD i 0).toNat : Int) = q at h h2
  have hc : k = 0 ∨ k = 1 ∨ k = 2 ∨ k = 3 ∨ k = 4 ∨ k = 5 ∨ k = 6 ∨ k = 7 := by omega
  split at h <;> rcases hc with rfl | rfl | rfl | rfl | rfl | rfl | rfl | rfl <;> omega
theorem flip_eq (b : UInt8) (k : Nat) (hk : k < 8) : UInt8.ofNat (Int.toNat (bits BinOp.xor IntKind.u8 (b.toNat : Int) (IntKind.wrap IntKind.u8 ((1 : Int) * (2 : Int) ^ min k (8 : Nat))))) = flip b k ∧
    0 ≤ bits BinOp.xor IntKind.u8 (b.toNat : Int) (IntKind.wrap IntKind.u8 ((1 : Int) * (2 : Int) ^ min k (8 : Nat))) ∧ bits BinOp.xor IntKind.u8 (b.toNat : Int) (IntKind.wrap IntKind.u8 ((1 : Int) * (2 : Int) ^ min k (8 : Nat))) < 256 := by
  have hp : 2 ^ k < 256 := by
    have : 2 ^ k ≤ 2 ^ 7 := Nat.pow_le_pow_right (by decide) (by omega)
    omega
  have e1 : IntKind.wrap IntKind.u8 ((1 : Int) * (2 : Int) ^ min k (8 : Nat)) = ((2 ^ k : Nat) : Int) := by
    rw [Nat.min_eq_left (by omega), wrap8u, Int.one_mul]
    have : ((2 : Int) ^ k) = ((2 ^ k : Nat) : Int) := by simp
    rw [this]
    generalize 2 ^ k = q at hp
    omega
  rw [e1, bits_xor_nat .u8 b.toNat (2 ^ k) (u8n b) hp (fun h => by cases h)]
  have := flip_nat ⟨b.toNat, u8n b⟩ ⟨k, hk⟩
  simp only at this
  refine ⟨?_, by omega, by omega⟩
  rw [Int.toNat_natCast]; rfl
end Go.Proofs.Ytnhiilbmgkbbaaa.X
