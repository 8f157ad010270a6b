/- ports: what its functions compute, in plain terms (bits of a number). Conditions: none. -/
import Derived.Test.YtlbmdkclbmcpdaaDoorLPorts
import Derived.Test.YtlbmdkclbmcpdaaDoorPList
import Derived.Test.YtlbmdkclbmcpdaaDoorLoop
namespace Go.Proofs.YtlbmdkclbmcpdaaDoor.X
open Go Go.RowKit Go.Proofs.YtlbmdkclbmcpdaaDoor.Abs Go.Proofs.YtlbmdkclbmcpdaaDoor.Bits
set_option linter.unusedVariables false
set_option linter.unusedSimpArgs false

/-! ### How many bits are set -/
def pcn : Nat → Nat → Nat
  | 0, _ => 0
  | n + 1, x => x % 2 + pcn n (x / 2)
theorem pcn_le : ∀ (n x : Nat), pcn n x ≤ n
  | 0, x => Nat.le_refl _
  | n + 1, x => by have := pcn_le n (x / 2); simp only [pcn]; omega
theorem pcn_zero : ∀ n : Nat, pcn n 0 = 0
  | 0 => rfl
  | n + 1 => by simp only [pcn, Nat.zero_mod, Nat.zero_div, pcn_zero n]
theorem pcn_app : ∀ (m n q r : Nat), r < 2 ^ m → pcn (m + n) (2 ^ m * q + r) = pcn m r + pcn n q
  | 0, n, q, r, h => by
    have : r = 0 := by simpa using h
    subst this; simp [pcn]
  | m + 1, n, q, r, h => by
    have e : 2 ^ (m + 1) * q + r = 2 * (2 ^ m * q + r / 2) + r % 2 := by
      rw [Nat.pow_succ]
      have : 2 ^ m * 2 * q = 2 * (2 ^ m * q) := by rw [Nat.mul_comm (2 ^ m) 2, Nat.mul_assoc]
      omega
    have hr : r / 2 < 2 ^ m := by rw [Nat.pow_succ] at h; omega
    have ih := pcn_app m n q (r / 2) hr
    rw [show m + 1 + n = (m + n) + 1 by omega]
    simp only [pcn]
    rw [e]
    have e1 : (2 * (2 ^ m * q + r / 2) + r % 2) % 2 = r % 2 := by omega
    have e2 : (2 * (2 ^ m * q + r / 2) + r % 2) / 2 = 2 ^ m * q + r / 2 := by omega
    rw [e1, e2, ih]
    omega
theorem pcn_full : ∀ (n x : Nat), x < 2 ^ n → pcn n x = n → x = 2 ^ n - 1
  | 0, x, h, _ => by simp at h; simp [h]
  | n + 1, x, h, e => by
    simp only [pcn] at e
    have := pcn_le n (x / 2)
    have hx : x / 2 < 2 ^ n := by rw [Nat.pow_succ] at h; omega
    have ih := pcn_full n (x / 2) hx (by omega)
    rw [Nat.pow_succ] at h ⊢
    omega
theorem pcn_set : ∀ (n k x : Nat), k < n → x.testBit k = false → pcn n (x + 2 ^ k) = pcn n x + 1
  | 0, k, x, h, _ => by omega
  | n + 1, 0, x, h, hb => by
    have : x % 2 = 0 := by
      rw [Nat.testBit_zero] at hb
      have := of_decide_eq_false hb
      omega
    simp only [pcn, Nat.pow_zero]
    rw [show (x + 1) / 2 = x / 2 by omega]
    omega
  | n + 1, k + 1, x, h, hb => by
    have ih := pcn_set n k (x / 2) (by omega) (by rw [Nat.testBit_succ] at hb; exact hb)
    simp only [pcn]
    have e : (x + 2 ^ (k + 1)) / 2 = x / 2 + 2 ^ k := by rw [Nat.pow_succ]; omega
    have e2 : (x + 2 ^ (k + 1)) % 2 = x % 2 := by rw [Nat.pow_succ]; omega
    rw [e, e2, ih]
    omega

/-! ### The library's way to count them -/
def m55 : Nat → Nat
  | 0 => 0
  | n + 1 => 256 * m55 n + 85
def m33 : Nat → Nat
  | 0 => 0
  | n + 1 => 256 * m33 n + 51
def m0f : Nat → Nat
  | 0 => 0
  | n + 1 => 256 * m0f n + 15
def s1 (n x : Nat) : Nat := (x / 2 &&& m55 n) + (x &&& m55 n)
def s2 (n x : Nat) : Nat := (x / 4 &&& m33 n) + (x &&& m33 n)
def s3 (n x : Nat) : Nat := (x / 16 + x) &&& m0f n
theorem and_256 (q r M m : Nat) (hr : r < 256) (hm : m < 256) : (256 * q + r) &&& (256 * M + m) = 256 * (q &&& M) + (r &&& m) := by
  have h1 := Nat.and_div_two_pow (a := 256 * q + r) (b := 256 * M + m) (n := 8)
  have h2 := Nat.and_mod_two_pow (a := 256 * q + r) (b := 256 * M + m) (n := 8)
  have e1 : (256 * q + r) / 2 ^ 8 = q := by omega
  have e2 : (256 * M + m) / 2 ^ 8 = M := by omega
  have e3 : (256 * q + r) % 2 ^ 8 = r := by omega
  have e4 : (256 * M + m) % 2 ^ 8 = m := by omega
  rw [e1, e2] at h1
  rw [e3, e4] at h2
  omega
theorem and_le_m (x : Nat) {M : Nat} : x &&& M ≤ M := Nat.and_le_right
theorem byte1 : ∀ (c : Fin 2) (r : Fin 256), (128 * c.val + r.val / 2) &&& 85 = (r.val / 2 &&& 85) ∧ (r.val / 2 &&& 85) + (r.val &&& 85) < 256 := by decide +kernel
theorem byte2 : ∀ (c : Fin 4) (r : Fin 256), (64 * c.val + r.val / 4) &&& 51 = (r.val / 4 &&& 51) ∧ (r.val / 4 &&& 51) + (r.val &&& 51) < 256 := by decide +kernel
theorem byte3 : ∀ (c : Fin 5) (r : Fin 69), (16 * c.val + r.val / 16 + r.val) < 256 ∧ (16 * c.val + r.val / 16 + r.val) &&& 15 = (r.val / 16 + r.val) &&& 15 := by decide +kernel
def t1 (r : Nat) : Nat := (r / 2 &&& 85) + (r &&& 85)
def t2 (r : Nat) : Nat := (r / 4 &&& 51) + (r &&& 51)
def t3 (r : Nat) : Nat := (r / 16 + r) &&& 15
theorem byteP : ∀ r : Fin 256, t1 r.val < 256 ∧ t2 (t1 r.val) < 69 ∧ t2 (t1 r.val) % 16 < 5 ∧ t3 (t2 (t1 r.val)) = pcn 8 r.val := by decide +kernel
theorem s1_step (n q r : Nat) (hr : r < 256) : s1 (n + 1) (256 * q + r) = 256 * s1 n q + t1 r := by
  have h := byte1 ⟨q % 2, by omega⟩ ⟨r, hr⟩
  simp only at h
  unfold s1 t1
  have e : (256 * q + r) / 2 = 256 * (q / 2) + (128 * (q % 2) + r / 2) := by omega
  rw [e, m55, and_256 _ _ _ _ (by omega) (by omega), and_256 _ _ _ _ hr (by omega), h.1]
  omega
theorem s2_step (n q r : Nat) (hr : r < 256) : s2 (n + 1) (256 * q + r) = 256 * s2 n q + t2 r := by
  have h := byte2 ⟨q % 4, by omega⟩ ⟨r, hr⟩
  simp only at h
  unfold s2 t2
  have e : (256 * q + r) / 4 = 256 * (q / 4) + (64 * (q % 4) + r / 4) := by omega
  rw [e, m33, and_256 _ _ _ _ (by omega) (by omega), and_256 _ _ _ _ hr (by omega), h.1]
  omega
theorem s3_step (n q r : Nat) (hr : r < 69) (hq : q % 16 < 5) : s3 (n + 1) (256 * q + r) = 256 * s3 n q + t3 r := by
  have h := byte3 ⟨q % 16, hq⟩ ⟨r, hr⟩
  simp only at h
  unfold s3 t3
  have e : (256 * q + r) / 16 + (256 * q + r) = 256 * (q / 16 + q) + (16 * (q % 16) + r / 16 + r) := by omega
  rw [e, m0f, and_256 _ _ _ _ h.1 (by omega), h.2]
def dg : Nat → Nat → Nat
  | 0, _ => 0
  | n + 1, x => 256 * dg n (x / 256) + pcn 8 (x % 256)
theorem s_dg : ∀ n x : Nat, s3 n (s2 n (s1 n x)) = dg n x ∧ s2 n (s1 n x) % 16 < 5
  | 0, x => by simp [s1, s2, s3, m55, m33, m0f, dg]
  | n + 1, x => by
    obtain ⟨h1, h2⟩ := s_dg n (x / 256)
    have hr : x % 256 < 256 := by omega
    obtain ⟨b1, b2, b3, b4⟩ := byteP ⟨x % 256, hr⟩
    simp only at b1 b2 b3 b4
    have e : x = 256 * (x / 256) + x % 256 := by omega
    have e1 : s1 (n + 1) x = 256 * s1 n (x / 256) + t1 (x % 256) := by
      conv => lhs; rw [e]
      exact s1_step n _ _ hr
    rw [e1, s2_step n _ _ b1, s3_step n _ _ b2 h2, h1, b4]
    refine ⟨rfl, ?_⟩
    omega
theorem fold8a (y Y1 Y2 Y3 Y4 Y5 Y6 p0 p1 p2 p3 p4 p5 p6 p7 : Nat) (h0 : p0 ≤ 8) (h1 : p1 ≤ 8) (h2 : p2 ≤ 8) (h3 : p3 ≤ 8) (h4 : p4 ≤ 8) (h5 : p5 ≤ 8) (h6 : p6 ≤ 8) (h7 : p7 ≤ 8)
    (hy : y = 256 * Y1 + p0) (k1 : Y1 = 256 * Y2 + p1) (k2 : Y2 = 256 * Y3 + p2) (k3 : Y3 = 256 * Y4 + p3) (k4 : Y4 = 256 * Y5 + p4) (k5 : Y5 = 256 * Y6 + p5) (k6 : Y6 = 256 * p7 + p6) :
    y / 256 = Y1 ∧ (y + Y1) / 65536 = Y2 + Y3 ∧ (y + Y1 + (Y2 + Y3)) / 4294967296 = (Y4 + Y5) + (Y6 + p7) ∧ Y6 ≤ 2056 ∧ Y5 ≤ 526344 ∧ Y4 ≤ 134744072 ∧ Y3 ≤ 34494482440 ∧ Y2 ≤ 8830587504648 ∧ Y1 ≤ 2260630401189896 ∧ y ≤ 578721382704613384 := by
  have b6 : Y6 ≤ 2056 := by clear hy k1 k2 k3 k4 k5; omega
  have b5 : Y5 ≤ 526344 := by clear hy k1 k2 k3 k4 k6; omega
  have b4 : Y4 ≤ 134744072 := by clear hy k1 k2 k3 k5 k6; omega
  have b3 : Y3 ≤ 34494482440 := by clear hy k1 k2 k4 k5 k6; omega
  have b2 : Y2 ≤ 8830587504648 := by clear hy k1 k3 k4 k5 k6; omega
  have b1 : Y1 ≤ 2260630401189896 := by clear hy k2 k3 k4 k5 k6; omega
  have b0 : y ≤ 578721382704613384 := by clear k1 k2 k3 k4 k5 k6; omega
  refine ⟨by omega, ?_, ?_, b6, b5, b4, b3, b2, b1, b0⟩
  · have f1 : y + Y1 = 65536 * (Y2 + Y3) + (256 * (p1 + p2) + (p0 + p1)) := by clear k4 k5 k6; omega
    rw [f1]; clear f1 hy k1 k2 k3 k4 k5 k6 b0 b1 b2 b3 b4 b5 b6; omega
  · have f2 : y + Y1 + (Y2 + Y3) = 4294967296 * (Y4 + Y5 + (Y6 + p7)) + ((16777216 * (p3 + p4) + 65536 * (p2 + p3) + (256 * (p1 + p2) + (p0 + p1))) + (16777216 * (p5 + p6) + 65536 * (p4 + p5) + (256 * (p3 + p4) + (p2 + p3)))) := by omega
    rw [f2]; clear f2 hy k1 k2 k3 k4 k5 k6 b0 b1 b2 b3 b4 b5 b6; omega
theorem fold8b (y Y1 Y2 Y3 Y4 Y5 Y6 p0 p1 p2 p3 p4 p5 p6 p7 : Nat) (h0 : p0 ≤ 8) (h1 : p1 ≤ 8) (h2 : p2 ≤ 8) (h3 : p3 ≤ 8) (h4 : p4 ≤ 8) (h5 : p5 ≤ 8) (h6 : p6 ≤ 8) (h7 : p7 ≤ 8)
    (hy : y = 256 * Y1 + p0) (k1 : Y1 = 256 * Y2 + p1) (k2 : Y2 = 256 * Y3 + p2) (k3 : Y3 = 256 * Y4 + p3) (k4 : Y4 = 256 * Y5 + p4) (k5 : Y5 = 256 * Y6 + p5) (k6 : Y6 = 256 * p7 + p6) :
    (y + Y1 + (Y2 + Y3) + ((Y4 + Y5) + (Y6 + p7))) % 128 = p0 + p1 + p2 + p3 + p4 + p5 + p6 + p7 := by
  have f4 : y + Y1 + (Y2 + Y3) + ((Y4 + Y5) + (Y6 + p7)) = 128 * (2 * (Y1 + Y2 + Y3 + Y4 + Y5 + Y6 + p7)) + (p0 + p1 + p2 + p3 + p4 + p5 + p6 + p7) := by clear h0 h1 h2 h3 h4 h5 h6 h7; omega
  have hp : p0 + p1 + p2 + p3 + p4 + p5 + p6 + p7 < 128 := by clear f4 hy k1 k2 k3 k4 k5 k6; omega
  rw [f4, Nat.mul_add_mod, Nat.mod_eq_of_lt hp]
theorem fold8 (y Y1 Y2 Y3 Y4 Y5 Y6 p0 p1 p2 p3 p4 p5 p6 p7 : Nat) (h0 : p0 ≤ 8) (h1 : p1 ≤ 8) (h2 : p2 ≤ 8) (h3 : p3 ≤ 8) (h4 : p4 ≤ 8) (h5 : p5 ≤ 8) (h6 : p6 ≤ 8) (h7 : p7 ≤ 8)
    (hy : y = 256 * Y1 + p0) (k1 : Y1 = 256 * Y2 + p1) (k2 : Y2 = 256 * Y3 + p2) (k3 : Y3 = 256 * Y4 + p3) (k4 : Y4 = 256 * Y5 + p4) (k5 : Y5 = 256 * Y6 + p5) (k6 : Y6 = 256 * p7 + p6)
    (z1 z2 z3 : Nat) (e1 : z1 = y + y / 256) (e2 : z2 = z1 + z1 / 65536) (e3 : z3 = z2 + z2 / 4294967296) :
    y < 2 ^ 62 ∧ z1 < 2 ^ 63 ∧ z2 < 2 ^ 63 ∧ z3 < 2 ^ 63 ∧ z3 % 128 = p0 + p1 + p2 + p3 + p4 + p5 + p6 + p7 := by
  obtain ⟨a1, a2, a3, b6, b5, b4, b3, b2, b1, b0⟩ := fold8a y Y1 Y2 Y3 Y4 Y5 Y6 p0 p1 p2 p3 p4 p5 p6 p7 h0 h1 h2 h3 h4 h5 h6 h7 hy k1 k2 k3 k4 k5 k6
  have hm := fold8b y Y1 Y2 Y3 Y4 Y5 Y6 p0 p1 p2 p3 p4 p5 p6 p7 h0 h1 h2 h3 h4 h5 h6 h7 hy k1 k2 k3 k4 k5 k6
  rw [a1] at e1
  rw [e1, a2] at e2
  rw [e2, a3] at e3
  rw [e3, hm]
  clear hm a1 a2 a3 hy k1 k2 k3 k4 k5 k6 e3
  refine ⟨by omega, by omega, by omega, by omega, rfl⟩
theorem pcn_cut (n y : Nat) : pcn (8 + n) y = pcn 8 (y % 256) + pcn n (y / 256) := by
  have := pcn_app 8 n (y / 256) (y % 256) (Nat.mod_lt _ (by decide))
  rw [show 2 ^ 8 * (y / 256) + y % 256 = y by omega] at this
  exact this
theorem pcn_64 (f : Nat → Nat) (hf : f = pcn 8) (x x1 x2 x3 x4 x5 x6 x7 : Nat) (e1 : x1 = x / 256) (e2 : x2 = x1 / 256) (e3 : x3 = x2 / 256) (e4 : x4 = x3 / 256) (e5 : x5 = x4 / 256) (e6 : x6 = x5 / 256) (e7 : x7 = x6 / 256) (h : x7 < 256) :
    pcn 64 x = f (x % 256) + (f (x1 % 256) + (f (x2 % 256) + (f (x3 % 256) + (f (x4 % 256) + (f (x5 % 256) + (f (x6 % 256) + f (x7 % 256))))))) := by
  subst hf
  have c0 := pcn_cut 56 x
  have c1 := pcn_cut 48 x1
  have c2 := pcn_cut 40 x2
  have c3 := pcn_cut 32 x3
  have c4 := pcn_cut 24 x4
  have c5 := pcn_cut 16 x5
  have c6 := pcn_cut 8 x6
  rw [← e1] at c0
  rw [← e2] at c1
  rw [← e3] at c2
  rw [← e4] at c3
  rw [← e5] at c4
  rw [← e6] at c5
  rw [← e7] at c6
  refine c0.trans (congrArg _ (c1.trans (congrArg _ (c2.trans (congrArg _ (c3.trans (congrArg _ (c4.trans (congrArg _ (c5.trans (congrArg _ (c6.trans (congrArg _ ?_)))))))))))))
  rw [Nat.mod_eq_of_lt h]
theorem dg_s (n x : Nat) : dg (n + 1) x = 256 * dg n (x / 256) + pcn 8 (x % 256) := rfl
theorem dg8 (x : Nat) (hx : x < 2 ^ 64) (z1 z2 z3 : Nat) (e1 : z1 = dg 8 x + dg 8 x / 256) (e2 : z2 = z1 + z1 / 65536) (e3 : z3 = z2 + z2 / 4294967296) :
    dg 8 x < 2 ^ 62 ∧ z1 < 2 ^ 63 ∧ z2 < 2 ^ 63 ∧ z3 < 2 ^ 63 ∧ z3 % 128 = pcn 64 x := by
  have hl : ∀ y : Nat, dg 2 y = 256 * pcn 8 (y / 256 % 256) + pcn 8 (y % 256) := fun y => by
    rw [dg_s 1, dg_s 0]
    show 256 * (256 * 0 + _) + _ = _
    rw [Nat.mul_zero, Nat.zero_add]
  have h7 : x / 256 / 256 / 256 / 256 / 256 / 256 / 256 < 256 := by omega
  have hp := pcn_64 _ rfl x _ _ _ _ _ _ _ rfl rfl rfl rfl rfl rfl rfl h7
  have := fold8 (dg 8 x) _ _ _ _ _ _ _ _ _ _ _ _ _ _ (pcn_le 8 _) (pcn_le 8 _) (pcn_le 8 _) (pcn_le 8 _) (pcn_le 8 _) (pcn_le 8 _) (pcn_le 8 _) (pcn_le 8 _) (dg_s 7 x) (dg_s 6 _) (dg_s 5 _) (dg_s 4 _) (dg_s 3 _) (dg_s 2 _) (hl _) z1 z2 z3 e1 e2 e3
  obtain ⟨q0, q1, q2, q3, q4⟩ := this
  refine ⟨q0, q1, q2, q3, ?_⟩
  rw [q4, hp]
  simp only [Nat.add_assoc]

/-! ### Numbers of 64 bits -/
theorem w64 (a : Nat) (h : a < 2 ^ 64) : IntKind.wrap IntKind.u64 (a : Int) = (a : Int) := by
  simp only [IntKind.wrap, IntKind.bits, IntKind.signed]
  simp
  omega
theorem and64 (a b : Nat) (ha : a < 2 ^ 64) (hb : b < 2 ^ 64) : bits BinOp.and IntKind.u64 (a : Int) (b : Int) = ((a &&& b : Nat) : Int) := bits_and_nat .u64 a b ha hb (fun h => by cases h)
theorem fdn (a k : Nat) : Int.fdiv (a : Int) ((2 : Int) ^ k) = ((a / 2 ^ k : Nat) : Int) := by
  rw [Int.fdiv_eq_ediv_of_nonneg _ (by exact_mod_cast Nat.zero_le (2 ^ k))]
  norm_cast
theorem ones_fn (t : Nat) (ht : t < 2 ^ 64) : ones64_fn ((t : Int), ()) = some (((pcn 64 t : Nat) : Int), ()) := by
  have h : ∀ o1 o2 o3 o4 o5 : Int,
      o1 = IntKind.wrap IntKind.u64 (bits BinOp.and IntKind.u64 (Int.fdiv (t : Int) ((2 : Int) ^ (1 : Nat))) (6148914691236517205 : Int) + bits BinOp.and IntKind.u64 (t : Int) (6148914691236517205 : Int)) →
      o2 = IntKind.wrap IntKind.u64 (bits BinOp.and IntKind.u64 (Int.fdiv o1 ((2 : Int) ^ (2 : Nat))) (3689348814741910323 : Int) + bits BinOp.and IntKind.u64 o1 (3689348814741910323 : Int)) →
      o3 = bits BinOp.and IntKind.u64 (IntKind.wrap IntKind.u64 (Int.fdiv o2 ((2 : Int) ^ (4 : Nat)) + o2)) (1085102592571150095 : Int) →
      o4 = IntKind.wrap IntKind.u64 (o3 + Int.fdiv o3 ((2 : Int) ^ (8 : Nat))) →
      o5 = IntKind.wrap IntKind.u64 (o4 + Int.fdiv o4 ((2 : Int) ^ (16 : Nat))) →
      ones64_fn ((t : Int), ()) = some (bits BinOp.and IntKind.i64 (IntKind.wrap IntKind.i64 (IntKind.wrap IntKind.u64 (o5 + Int.fdiv o5 ((2 : Int) ^ (32 : Nat))))) (127 : Int), ()) := by
    rintro _ _ _ _ _ rfl rfl rfl rfl rfl
    rfl
  have b1 : s1 8 t < 2 ^ 64 := by
    have h1 : t / 2 &&& m55 8 ≤ m55 8 := Nat.and_le_right
    have h2 : t &&& m55 8 ≤ m55 8 := Nat.and_le_right
    have : m55 8 = 6148914691236517205 := rfl
    unfold s1; omega
  have b2 : s2 8 (s1 8 t) ≤ 7378697629483820646 := by
    have h1 : s1 8 t / 4 &&& m33 8 ≤ m33 8 := Nat.and_le_right
    have h2 : s1 8 t &&& m33 8 ≤ m33 8 := Nat.and_le_right
    have : m33 8 = 3689348814741910323 := rfl
    unfold s2; omega
  obtain ⟨d1, d2⟩ := s_dg 8 t
  obtain ⟨q0, q1, q2, q3, q4⟩ := dg8 t ht _ _ _ rfl rfl rfl
  have c1 : ((s1 8 t : Nat) : Int) = IntKind.wrap IntKind.u64 (bits BinOp.and IntKind.u64 (Int.fdiv (t : Int) ((2 : Int) ^ (1 : Nat))) (6148914691236517205 : Int) + bits BinOp.and IntKind.u64 (t : Int) (6148914691236517205 : Int)) := by
    rw [fdn, show (6148914691236517205 : Int) = ((m55 8 : Nat) : Int) from rfl, and64 _ _ (by omega) (by decide), and64 _ _ ht (by decide), ← Int.natCast_add]
    exact (w64 _ b1).symm
  have c2 : ((s2 8 (s1 8 t) : Nat) : Int) = IntKind.wrap IntKind.u64 (bits BinOp.and IntKind.u64 (Int.fdiv ((s1 8 t : Nat) : Int) ((2 : Int) ^ (2 : Nat))) (3689348814741910323 : Int) + bits BinOp.and IntKind.u64 ((s1 8 t : Nat) : Int) (3689348814741910323 : Int)) := by
    rw [fdn, show (3689348814741910323 : Int) = ((m33 8 : Nat) : Int) from rfl, and64 _ _ (by omega) (by decide), and64 _ _ b1 (by decide), ← Int.natCast_add]
    exact (w64 _ (Nat.lt_of_le_of_lt b2 (by decide))).symm
  have c3 : ((dg 8 t : Nat) : Int) = bits BinOp.and IntKind.u64 (IntKind.wrap IntKind.u64 (Int.fdiv ((s2 8 (s1 8 t) : Nat) : Int) ((2 : Int) ^ (4 : Nat)) + ((s2 8 (s1 8 t) : Nat) : Int))) (1085102592571150095 : Int) := by
    rw [fdn, ← Int.natCast_add, w64 _ (by omega), show (1085102592571150095 : Int) = ((m0f 8 : Nat) : Int) from rfl, and64 _ _ (by omega) (by decide), ← d1]
    rfl
  have c4 : ((dg 8 t + dg 8 t / 256 : Nat) : Int) = IntKind.wrap IntKind.u64 (((dg 8 t : Nat) : Int) + Int.fdiv ((dg 8 t : Nat) : Int) ((2 : Int) ^ (8 : Nat))) := by
    rw [fdn, ← Int.natCast_add]
    exact (w64 _ (Nat.lt_of_lt_of_le q1 (by decide))).symm
  have c5 := h _ _ _ _ _ c1 c2 c3 c4 rfl
  rw [c5]
  rw [fdn _ 16, ← Int.natCast_add, w64 _ (Nat.lt_of_lt_of_le q2 (by decide)), fdn _ 32, ← Int.natCast_add, w64 _ (Nat.lt_of_lt_of_le q3 (by decide))]
  have hw : ∀ a : Nat, a < 2 ^ 63 → bits BinOp.and IntKind.i64 (IntKind.wrap IntKind.i64 (a : Int)) (127 : Int) = ((a % 128 : Nat) : Int) := fun a ha => by
    have e : IntKind.wrap IntKind.i64 (a : Int) = (a : Int) := wrap_nat .i64 a (Nat.lt_of_lt_of_le ha (by decide)) (fun _ => ha)
    rw [e]
    have := bits_and_mask .i64 7 (a : Int) (by omega) (by have : (2 : Int) ^ IntKind.i64.bits = 18446744073709551616 := rfl; omega) (by decide) (fun _ => by have : (2 : Int) ^ (IntKind.i64.bits - 1) = 9223372036854775808 := rfl; omega)
    rw [show (127 : Int) = 2 ^ 7 - 1 from rfl, this]
    norm_cast
  rw [hw _ q3]
  exact congrArg (fun n : Nat => (some ((n : Int), ()) : Option (Int × Unit))) q4

/-! ### Let -/
def frI (a1 : Int) : Int := bits BinOp.xor IntKind.u64 (if IntKind.signed IntKind.u64 = true then (-1 : Int) else IntKind.max IntKind.u64) a1
def mkI (a2 : Int) : Int := IntKind.wrap IntKind.u64 ((6148914691236517205 : Int) * (2 : Int) ^ min (Int.toNat (bits BinOp.and IntKind.i64 a2 (1 : Int))) (64 : Nat))
def oneI (k : Int) : Int := IntKind.wrap IntKind.u64 ((1 : Int) * (2 : Int) ^ min (Int.toNat k) (64 : Nat))
def letEnd (a0 a1 k : Int) : Tr (Int × (Int × (Int × (Int × Unit)))) := .ret (a0, (bits BinOp.or IntKind.u64 a1 (oneI k), (IntKind.wrap IntKind.i64 (a0 + k), ((0 : Int), ()))))
def letLow (a0 a1 x : Int) : Tr (Int × (Int × (Int × (Int × Unit)))) :=
  .grd (decide ((0 : Int) ≤ x ∧ x ≤ (18446744073709551615 : Int))) (.grd (decide ((0 : Int) ≤ ctzI x)) (letEnd a0 a1 (ctzI x)))
def letTz (a0 a1 a2 : Int) : Tr (Int × (Int × (Int × (Int × Unit)))) :=
  .grd (decide ((0 : Int) ≤ bits BinOp.and IntKind.i64 a2 (1 : Int))) (
  .ite (decide (bits BinOp.and IntKind.u64 (frI a1) (mkI a2) = (0 : Int))) (letLow a0 a1 (frI a1)) (letLow a0 a1 (bits BinOp.and IntKind.u64 (frI a1) (mkI a2))))
def letMain (a0 a1 a2 : Int) : Tr (Int × (Int × (Int × (Int × Unit)))) :=
  .ite (decide (IntKind.wrap IntKind.i64 (a2 - a0) < (0 : Int))) (letTz a0 a1 a2) (
  .ite (decide ((63 : Int) < IntKind.wrap IntKind.i64 (a2 - a0))) (letTz a0 a1 a2) (
  .grd (decide ((0 : Int) ≤ IntKind.wrap IntKind.i64 (a2 - a0))) (
  .ite (decide (bits BinOp.and IntKind.u64 (Int.fdiv (frI a1) ((2 : Int) ^ min (Int.toNat (IntKind.wrap IntKind.i64 (a2 - a0))) (64 : Nat))) (1 : Int) = (0 : Int))) (letTz a0 a1 a2) (
  .grd (decide ((0 : Int) ≤ IntKind.wrap IntKind.i64 (a2 - a0))) (letEnd a0 a1 (IntKind.wrap IntKind.i64 (a2 - a0)))))))
theorem portsLet_short (a0 a1 a2 : Int) : portsLet_fn (a0, (a1, (a2, ()))) = (Tr.opt (β := (Int × Unit)) (portsCheck_fn (a0, (a1, ()))) (fun r0 =>
  .ite (!decide (r0.1 = (0 : Int))) (.ite (!decide (r0.1 = (0 : Int))) (.ret ((0 : Int), ((0 : Int), ((0 : Int), (r0.1, ()))))) (letMain a0 a1 a2)) (
  .ite (decide (a2 < (0 : Int))) (.ite true (.ret ((0 : Int), ((0 : Int), ((0 : Int), ((1 : Int), ()))))) (letMain a0 a1 a2)) (
  .ite (decide ((65535 : Int) < a2)) (.ite true (.ret ((0 : Int), ((0 : Int), ((0 : Int), ((1 : Int), ()))))) (letMain a0 a1 a2)) (
  .ite (decide (a1 = (18446744073709551615 : Int))) (.ite true (.ret ((0 : Int), ((0 : Int), ((0 : Int), ((6 : Int), ()))))) (letMain a0 a1 a2)) (
  .ite (!decide (r0.1 = (0 : Int))) (.ret ((0 : Int), ((0 : Int), ((0 : Int), (r0.1, ()))))) (letMain a0 a1 a2))))))).eval := rfl
def baseOk (b : Int) : Prop := 64 ≤ b ∧ b ≤ 65472 ∧ b % 64 = 0
theorem check_eq (b t : Int) : portsCheck_fn (b, (t, ())) = some (if 64 ≤ b ∧ b ≤ 65472 ∧ b % 64 = 0 then (0 : Int) else 1, ()) := by
  show (portsCheck_tree (b, (t, ()))).eval = _
  by_cases h1 : b < 64
  · refine ev_t (by simpa using h1) ?_
    rw [if_neg (by omega)]; rfl
  · refine ev_f (by simpa using h1) ?_
    by_cases h2 : 65472 < b
    · refine ev_t (by simpa using h2) ?_
      rw [if_neg (by omega)]; rfl
    · refine ev_f (by simpa using h2) (ev_g rfl ?_)
      have e : Int.tmod b 64 = b % 64 := Int.tmod_eq_emod_of_nonneg (by omega)
      by_cases h3 : b % 64 = 0
      · refine ev_f (by rw [e]; simpa using h3) ?_
        rw [if_pos (by omega)]; rfl
      · refine ev_t (by rw [e]; simpa using h3) ?_
        rw [if_neg (by omega)]; rfl
theorem check_ok {b : Int} (t : Int) (h : baseOk b) : portsCheck_fn (b, (t, ())) = some ((0 : Int), ()) := by
  rw [check_eq]; exact congrArg (fun z : Int => some (z, ())) (if_pos h)
theorem check_no {b : Int} (t : Int) (h : ¬ baseOk b) : portsCheck_fn (b, (t, ())) = some ((1 : Int), ()) := by
  rw [check_eq]; exact congrArg (fun z : Int => some (z, ())) (if_neg h)
theorem fr_nat (t : Nat) (ht : t < 2 ^ 64) : frI (t : Int) = ((2 ^ 64 - (t + 1) : Nat) : Int) := by
  have := not_u64 (t : Int) (by omega) (by omega)
  unfold frI
  rw [show (if IntKind.signed IntKind.u64 = true then (-1 : Int) else IntKind.max IntKind.u64) = IntKind.u64.max from rfl, this]
  omega
theorem fr_bit (t : Nat) (ht : t < 2 ^ 64) (i : Nat) : (2 ^ 64 - (t + 1)).testBit i = (decide (i < 64) && !t.testBit i) := Nat.testBit_two_pow_sub_succ ht i
theorem mk_nat (w : Int) (hw : 0 ≤ w ∧ w ≤ 65535) : 0 ≤ bits BinOp.and IntKind.i64 w (1 : Int) ∧ ((w % 2 = 0 ∧ mkI w = ((6148914691236517205 : Nat) : Int)) ∨ (w % 2 = 1 ∧ mkI w = ((12297829382473034410 : Nat) : Int))) := by
  have e : bits BinOp.and IntKind.i64 w (1 : Int) = w % 2 := by
    have := bits_and_mask .i64 1 w hw.1 (by have : (2 : Int) ^ IntKind.i64.bits = 18446744073709551616 := rfl; omega) (by decide) (fun _ => by have : (2 : Int) ^ (IntKind.i64.bits - 1) = 9223372036854775808 := rfl; omega)
    exact this
  unfold mkI
  rw [e]
  refine ⟨by omega, ?_⟩
  have h2 : w % 2 = 0 ∨ w % 2 = 1 := by omega
  rcases h2 with h | h
  · left; rw [h]; exact ⟨rfl, by decide⟩
  · right; rw [h]; exact ⟨rfl, by decide⟩
theorem mask_bit : ∀ i : Fin 64, Nat.testBit 6148914691236517205 i.val = decide (i.val % 2 = 0) ∧ Nat.testBit 12297829382473034410 i.val = decide (i.val % 2 = 1) := by decide +kernel
theorem one_nat (k : Nat) (hk : k < 64) : oneI (k : Int) = ((2 ^ k : Nat) : Int) := by
  unfold oneI
  rw [Int.toNat_natCast, Nat.min_eq_left (by omega), Int.one_mul]
  have : ((2 : Int) ^ k) = ((2 ^ k : Nat) : Int) := by norm_cast
  rw [this]
  exact w64 _ (Nat.pow_lt_pow_right (by decide) hk)
theorem bit_eq (x k : Nat) (hx : x < 2 ^ 64) (hk : k < 64) : decide (bits BinOp.and IntKind.u64 (Int.fdiv (x : Int) ((2 : Int) ^ min (Int.toNat (k : Int)) (64 : Nat))) (1 : Int) = (0 : Int)) = !x.testBit k := by
  rw [Int.toNat_natCast, Nat.min_eq_left (by omega), fdn, show (1 : Int) = ((1 : Nat) : Int) from rfl, and64 _ _ (Nat.lt_of_le_of_lt (Nat.div_le_self _ _) hx) (by decide), Nat.and_one_is_mod, Nat.testBit_eq_decide_div_mod_eq]
  by_cases h : x / 2 ^ k % 2 = 1
  · rw [h]; decide
  · rw [show x / 2 ^ k % 2 = 0 by omega]; decide
theorem ctz_ok (x : Nat) (h0 : x ≠ 0) (hx : x < 2 ^ 64) : ∃ k : Nat, ctzI (x : Int) = (k : Int) ∧ k < 64 ∧ x.testBit k = true := by
  obtain ⟨h1, h2⟩ := Lib.lowest_bit 64 x h0 hx
  refine ⟨Lib.ctz 64 x, by unfold ctzI; rw [Int.toNat_natCast], h2, ?_⟩
  have := congrArg (fun y => Nat.testBit y (Lib.ctz 64 x)) h1
  simp only [Nat.testBit_and, Nat.testBit_two_pow_self] at this
  exact (Bool.and_eq_true_iff.1 this).1
theorem letEnd_eq (b : Int) (t k : Nat) (hb : baseOk b) (ht : t < 2 ^ 64) (hk : k < 64) : (letEnd b (t : Int) (k : Int)).eval = some (b, (((t ||| 2 ^ k : Nat) : Int), (b + (k : Int), ((0 : Int), ())))) := by
  unfold letEnd
  have hw : IntKind.wrap IntKind.i64 (b + (k : Int)) = b + (k : Int) := by
    have := hb.1; have := hb.2.1
    simp only [IntKind.wrap, IntKind.bits, IntKind.signed]
    simp
    omega
  have hp : 2 ^ k < 2 ^ 64 := Nat.pow_lt_pow_right (by decide) hk
  have hor : bits BinOp.or IntKind.u64 (t : Int) ((2 ^ k : Nat) : Int) = ((t ||| 2 ^ k : Nat) : Int) := bits_or_nat .u64 t (2 ^ k) ht hp (fun h => by cases h)
  rw [one_nat k hk, hw, hor]
  rfl
theorem letLow_eq (b : Int) (t x : Nat) (hb : baseOk b) (ht : t < 2 ^ 64) (h0 : x ≠ 0) (hx : x < 2 ^ 64) : ∃ k : Nat, k < 64 ∧ x.testBit k = true ∧ (letLow b (t : Int) (x : Int)).eval = some (b, (((t ||| 2 ^ k : Nat) : Int), (b + (k : Int), ((0 : Int), ())))) := by
  obtain ⟨k, h1, h2, h3⟩ := ctz_ok x h0 hx
  refine ⟨k, h2, h3, ?_⟩
  unfold letLow
  rw [h1]
  refine ev_g (decide_eq_true (by omega)) (ev_g (decide_eq_true (by omega)) (letEnd_eq b t k hb ht h2))
theorem ne_zero_bit (x : Nat) (h : x ≠ 0) : ∃ i, x.testBit i = true := Nat.exists_testBit_of_ne_zero h
/-- Let, when there is one. -/
theorem let_ok (b w : Int) (t : Nat) (hb : baseOk b) (ht : t < 2 ^ 64) (hf : t ≠ 2 ^ 64 - 1) (hw : 0 ≤ w ∧ w ≤ 65535) :
    ∃ k : Nat, k < 64 ∧ t.testBit k = false ∧ portsLet_fn (b, ((t : Int), (w, ()))) = some (b, (((t ||| 2 ^ k : Nat) : Int), (b + (k : Int), ((0 : Int), ())))) ∧
      ((∃ j : Nat, j < 64 ∧ t.testBit j = false ∧ (b + (j : Int)) % 2 = w % 2) → (b + (k : Int)) % 2 = w % 2) ∧ (∀ j : Nat, j < 64 → t.testBit j = false → b + (j : Int) = w → k = j) := by
  have hF : 2 ^ 64 - (t + 1) < 2 ^ 64 := by omega
  have hF0 : 2 ^ 64 - (t + 1) ≠ 0 := by omega
  have hbb := hb
  obtain ⟨hb1, hb2, hb3⟩ := hb
  have hkk : IntKind.wrap IntKind.i64 (w - b) = w - b := by
    simp only [IntKind.wrap, IntKind.bits, IntKind.signed]
    simp
    omega
  have tz : (∀ j : Nat, j < 64 → t.testBit j = false → b + (j : Int) ≠ w) → ∃ k : Nat, k < 64 ∧ t.testBit k = false ∧ (letTz b (t : Int) w).eval = some (b, (((t ||| 2 ^ k : Nat) : Int), (b + (k : Int), ((0 : Int), ())))) ∧
      ((∃ j : Nat, j < 64 ∧ t.testBit j = false ∧ (b + (j : Int)) % 2 = w % 2) → (b + (k : Int)) % 2 = w % 2) ∧ (∀ j : Nat, j < 64 → t.testBit j = false → b + (j : Int) = w → k = j) := by
    intro hno
    obtain ⟨m1, m2⟩ := mk_nat w hw
    have main : ∀ (m : Nat) (p : Int), p = w % 2 → m < 2 ^ 64 → (∀ i : Nat, i < 64 → (m.testBit i = true ↔ (i : Int) % 2 = p)) → mkI w = (m : Int) → ∃ k : Nat, k < 64 ∧ t.testBit k = false ∧ (letTz b (t : Int) w).eval = some (b, (((t ||| 2 ^ k : Nat) : Int), (b + (k : Int), ((0 : Int), ())))) ∧
        ((∃ j : Nat, j < 64 ∧ t.testBit j = false ∧ (b + (j : Int)) % 2 = w % 2) → (b + (k : Int)) % 2 = w % 2) ∧ (∀ j : Nat, j < 64 → t.testBit j = false → b + (j : Int) = w → k = j) := by
      intro m p hp hm hbit he
      have hand : bits BinOp.and IntKind.u64 (frI (t : Int)) (mkI w) = (((2 ^ 64 - (t + 1)) &&& m : Nat) : Int) := by
        rw [fr_nat t ht, he]; exact and64 _ _ hF hm
      have hle : (2 ^ 64 - (t + 1)) &&& m < 2 ^ 64 := Nat.lt_of_le_of_lt Nat.and_le_right hm
      by_cases hz : (2 ^ 64 - (t + 1)) &&& m = 0
      · obtain ⟨k, k1, k2, k3⟩ := letLow_eq b t _ hbb ht hF0 hF
        rw [fr_bit t ht k, decide_eq_true k1, Bool.true_and, Bool.not_eq_true'] at k2
        refine ⟨k, k1, k2, ?_, ?_, fun j j1 j2 j3 => absurd j3 (hno j j1 j2)⟩
        · unfold letTz
          refine ev_g (decide_eq_true m1) (ev_t (decide_eq_true (by rw [hand, hz]; rfl)) ?_)
          rw [fr_nat t ht]; exact k3
        · rintro ⟨j, j1, j2, j3⟩
          have hj : ((2 ^ 64 - (t + 1)) &&& m).testBit j = true := by
            rw [Nat.testBit_and, fr_bit t ht j, j2, decide_eq_true j1]
            simp only [Bool.not_false, Bool.and_self, Bool.true_and]
            exact (hbit j j1).2 (by omega)
          rw [hz, Nat.zero_testBit] at hj
          cases hj
      · obtain ⟨k, k1, k2, k3⟩ := letLow_eq b t _ hbb ht hz hle
        rw [Nat.testBit_and, fr_bit t ht k, decide_eq_true k1, Bool.true_and, Bool.and_eq_true, Bool.not_eq_true'] at k2
        have hpar := (hbit k k1).1 k2.2
        refine ⟨k, k1, k2.1, ?_, fun _ => by omega, fun j j1 j2 j3 => absurd j3 (hno j j1 j2)⟩
        unfold letTz
        refine ev_g (decide_eq_true m1) (ev_f (decide_eq_false (by rw [hand]; exact_mod_cast hz)) ?_)
        rw [hand]; exact k3
    rcases m2 with ⟨h1, h2⟩ | ⟨h1, h2⟩
    · refine main _ 0 h1.symm (by decide) (fun i hi => ?_) h2
      rw [(mask_bit ⟨i, hi⟩).1, decide_eq_true_eq]
      show i % 2 = 0 ↔ _
      omega
    · refine main _ 1 h1.symm (by decide) (fun i hi => ?_) h2
      rw [(mask_bit ⟨i, hi⟩).2, decide_eq_true_eq]
      show i % 2 = 1 ↔ _
      omega
  have full : decide ((t : Int) = (18446744073709551615 : Int)) = false := decide_eq_false (by omega)
  have head : ∀ r, (letMain b (t : Int) w).eval = r → portsLet_fn (b, ((t : Int), (w, ()))) = r := by
    intro r hr
    rw [portsLet_short]
    exact ev_opt (check_ok _ hbb) (ev_f rfl (ev_f (decide_eq_false (by omega)) (ev_f (decide_eq_false (by omega)) (ev_f full (ev_f rfl hr)))))
  by_cases c1 : w - b < 0
  · obtain ⟨k, k1, k2, k3, k4, k5⟩ := tz (fun j j1 j2 j3 => by omega)
    refine ⟨k, k1, k2, head _ ?_, k4, k5⟩
    unfold letMain
    rw [hkk]
    exact ev_t (decide_eq_true c1) k3
  by_cases c2 : 63 < w - b
  · obtain ⟨k, k1, k2, k3, k4, k5⟩ := tz (fun j j1 j2 j3 => by omega)
    refine ⟨k, k1, k2, head _ ?_, k4, k5⟩
    unfold letMain
    rw [hkk]
    exact ev_f (decide_eq_false c1) (ev_t (decide_eq_true c2) k3)
  obtain ⟨q, hq⟩ := Int.eq_ofNat_of_zero_le (show 0 ≤ w - b by omega)
  have hq64 : q < 64 := by omega
  have hbq := bit_eq (2 ^ 64 - (t + 1)) q hF hq64
  rw [fr_bit t ht q, decide_eq_true hq64, Bool.true_and, Bool.not_not] at hbq
  cases hc : t.testBit q with
  | true =>
    rw [hc] at hbq
    obtain ⟨k, k1, k2, k3, k4, k5⟩ := tz (fun j j1 j2 j3 => by
      have : j = q := by omega
      subst this; rw [hc] at j2; cases j2)
    refine ⟨k, k1, k2, head _ ?_, k4, k5⟩
    unfold letMain
    rw [hkk, hq, fr_nat t ht]
    exact ev_f (decide_eq_false (by omega)) (ev_f (decide_eq_false (by omega)) (ev_g (decide_eq_true (by omega)) (ev_t hbq k3)))
  | false =>
    rw [hc] at hbq
    refine ⟨q, hq64, hc, head _ ?_, fun _ => by omega, fun j j1 j2 j3 => by omega⟩
    unfold letMain
    rw [hkk, hq, fr_nat t ht]
    exact ev_f (decide_eq_false (by omega)) (ev_f (decide_eq_false (by omega)) (ev_g (decide_eq_true (by omega)) (ev_f hbq (ev_g (decide_eq_true (by omega)) (letEnd_eq b t q hbb ht hq64)))))
/-- Let, when there is none. -/
theorem let_no (b t w : Int) (h : ¬ (baseOk b ∧ (0 ≤ w ∧ w ≤ 65535) ∧ t ≠ 18446744073709551615)) : ∃ e : Int, e ≠ 0 ∧ portsLet_fn (b, (t, (w, ()))) = some ((0 : Int), ((0 : Int), ((0 : Int), (e, ())))) := by
  rw [portsLet_short]
  by_cases hb : baseOk b
  · by_cases h1 : w < 0
    · exact ⟨1, by decide, ev_opt (check_ok _ hb) (ev_f rfl (ev_t (decide_eq_true h1) (ev_t rfl rfl)))⟩
    by_cases h2 : 65535 < w
    · exact ⟨1, by decide, ev_opt (check_ok _ hb) (ev_f rfl (ev_f (decide_eq_false h1) (ev_t (decide_eq_true h2) (ev_t rfl rfl))))⟩
    have ht : t = 18446744073709551615 := by
      by_cases ht : t = 18446744073709551615
      · exact ht
      · exact absurd ⟨hb, ⟨by omega, by omega⟩, ht⟩ h
    exact ⟨6, by decide, ev_opt (check_ok _ hb) (ev_f rfl (ev_f (decide_eq_false h1) (ev_f (decide_eq_false h2) (ev_t (decide_eq_true ht) (ev_t rfl rfl)))))⟩
  · exact ⟨1, by decide, ev_opt (check_no _ hb) (ev_t rfl (ev_t rfl rfl))⟩
theorem let_full (b w : Int) (hb : baseOk b) (hw : 0 ≤ w ∧ w ≤ 65535) : portsLet_fn (b, ((18446744073709551615 : Int), (w, ()))) = some ((0 : Int), ((0 : Int), ((0 : Int), ((6 : Int), ())))) := by
  rw [portsLet_short]
  exact ev_opt (check_ok _ hb) (ev_f rfl (ev_f (decide_eq_false (by omega)) (ev_f (decide_eq_false (by omega)) (ev_t rfl (ev_t rfl rfl)))))
/-! ### End, Free -/
theorem end_ok (b : Int) (t k : Nat) (hb : baseOk b) (ht : t < 2 ^ 64) (hk : k < 64) (hbit : t.testBit k = true) : portsEnd_fn (b, ((t : Int), (b + (k : Int), ()))) = some (b, (((t ^^^ 2 ^ k : Nat) : Int), ((0 : Int), ()))) := by
  have hb1 := hb.1
  have hb2 := hb.2.1
  have hw : IntKind.wrap IntKind.i64 (b + (63 : Int)) = b + 63 := by
    simp only [IntKind.wrap, IntKind.bits, IntKind.signed]
    simp
    omega
  have hw2 : IntKind.wrap IntKind.i64 (b + (k : Int) - b) = (k : Int) := by
    rw [show b + (k : Int) - b = (k : Int) by omega]
    simp only [IntKind.wrap, IntKind.bits, IntKind.signed]
    simp
    omega
  have hp : 2 ^ k < 2 ^ 64 := Nat.pow_lt_pow_right (by decide) hk
  have hx : bits BinOp.xor IntKind.u64 (t : Int) ((2 ^ k : Nat) : Int) = ((t ^^^ 2 ^ k : Nat) : Int) := bits_xor_nat .u64 t (2 ^ k) ht hp (fun h => by cases h)
  have h1 := one_nat k hk
  unfold oneI at h1
  show (portsEnd_tree _).eval = _
  unfold portsEnd_tree
  simp only [hw, hw2]
  refine ev_opt (check_ok _ hb) (ev_f rfl (ev_f (decide_eq_false (by omega)) (ev_f (decide_eq_false (by omega)) (ev_g (decide_eq_true (by omega)) (ev_f ?_ (ev_g (decide_eq_true (by omega)) ?_))))))
  · rw [bit_eq t k ht hk, hbit]; rfl
  · rw [h1, hx]; rfl
theorem end_no (b : Int) (t : Nat) (q : Int) (ht : t < 2 ^ 64) (h : ¬ (baseOk b ∧ ∃ k : Nat, k < 64 ∧ t.testBit k = true ∧ q = b + (k : Int))) : ∃ e : Int, e ≠ 0 ∧ portsEnd_fn (b, ((t : Int), (q, ()))) = some ((0 : Int), ((0 : Int), (e, ()))) := by
  by_cases hb : baseOk b
  case neg => exact ⟨1, by decide, ev_opt (check_no _ hb) (ev_t rfl rfl)⟩
  have hb1 := hb.1
  have hb2 := hb.2.1
  have hw : IntKind.wrap IntKind.i64 (b + (63 : Int)) = b + 63 := by
    simp only [IntKind.wrap, IntKind.bits, IntKind.signed]
    simp
    omega
  refine ⟨7, by decide, ?_⟩
  show (portsEnd_tree _).eval = _
  unfold portsEnd_tree
  simp only [hw]
  refine ev_opt (check_ok _ hb) (ev_f rfl (ev_ite (fun _ => rfl) fun c1 => ev_ite (fun _ => rfl) fun c2 => ?_))
  have c1 := of_decide_eq_false c1
  have c2 := of_decide_eq_false c2
  obtain ⟨k, hk⟩ := Int.eq_ofNat_of_zero_le (show 0 ≤ q - b by omega)
  have hk64 : k < 64 := by omega
  have hw2 : IntKind.wrap IntKind.i64 (q - b) = (k : Int) := by
    rw [hk]
    simp only [IntKind.wrap, IntKind.bits, IntKind.signed]
    simp
    omega
  simp only [hw2]
  refine ev_g (decide_eq_true (by omega)) (ev_t ?_ rfl)
  rw [bit_eq t k ht hk64]
  cases hc : t.testBit k with
  | false => rfl
  | true => exact absurd ⟨hb, k, hk64, hc, by omega⟩ h
theorem free_ok (b : Int) (t : Nat) (hb : baseOk b) (ht : t < 2 ^ 64) : portsFree_fn (b, ((t : Int), ())) = some (64 - ((pcn 64 t : Nat) : Int), ((0 : Int), ())) := by
  have hle := pcn_le 64 t
  show (portsFree_tree _).eval = _
  refine ev_opt (check_ok _ hb) (ev_f rfl (ev_opt (ones_fn t ht) ?_))
  have hw : IntKind.wrap IntKind.i64 ((64 : Int) - ((pcn 64 t : Nat) : Int)) = 64 - ((pcn 64 t : Nat) : Int) := by
    simp only [IntKind.wrap, IntKind.bits, IntKind.signed]
    simp
    omega
  show (Tr.ret (IntKind.wrap IntKind.i64 ((64 : Int) - ((pcn 64 t : Nat) : Int)), ((0 : Int), ()))).eval = _
  rw [hw]; rfl
theorem free_no (b t : Int) (hb : ¬ baseOk b) : portsFree_fn (b, (t, ())) = some ((0 : Int), ((1 : Int), ())) := by
  show (portsFree_tree _).eval = _
  exact ev_opt (check_no _ hb) (ev_t rfl rfl)
/-! ### Bits -/
theorem or_bit (t k i : Nat) : (t ||| 2 ^ k).testBit i = (t.testBit i || decide (k = i)) := by rw [Nat.testBit_or, Nat.testBit_two_pow]
theorem xor_bit (t k i : Nat) : (t ^^^ 2 ^ k).testBit i = (t.testBit i ^^ decide (k = i)) := by rw [Nat.testBit_xor, Nat.testBit_two_pow]
theorem or_lt (t k : Nat) (ht : t < 2 ^ 64) (hk : k < 64) : t ||| 2 ^ k < 2 ^ 64 := Nat.or_lt_two_pow ht (Nat.pow_lt_pow_right (by decide) hk)
theorem xor_lt (t k : Nat) (ht : t < 2 ^ 64) (hk : k < 64) : t ^^^ 2 ^ k < 2 ^ 64 := Nat.xor_lt_two_pow ht (Nat.pow_lt_pow_right (by decide) hk)
theorem or_add' : ∀ (k t : Nat), t.testBit k = false → t ||| 2 ^ k = t + 2 ^ k
  | 0, t, h => by
    rw [Nat.testBit_zero] at h
    have := of_decide_eq_false h
    apply Nat.eq_of_testBit_eq
    intro i
    obtain ⟨m, rfl⟩ : ∃ m, t = 2 * m := ⟨t / 2, by omega⟩
    cases i with
    | zero => simp
    | succ i =>
      have e1 : (2 * m + 2 ^ 0) / 2 = m := by omega
      rw [Nat.testBit_or, Nat.testBit_succ (2 * m + 2 ^ 0), e1, Nat.testBit_succ (2 * m)]
      simp [Nat.testBit_succ]
  | k + 1, t, h => by
    rw [Nat.testBit_succ] at h
    have ih := or_add' k (t / 2) h
    have h1 := Nat.or_div_two (a := t) (b := 2 ^ (k + 1))
    have h2 : (t ||| 2 ^ (k + 1)) % 2 = t % 2 := by
      have := Nat.or_mod_two_eq_one (a := t) (b := 2 ^ (k + 1))
      have e : 2 ^ (k + 1) % 2 = 0 := by rw [Nat.pow_succ]; omega
      omega
    have e2 : 2 ^ (k + 1) / 2 = 2 ^ k := by rw [Nat.pow_succ]; omega
    rw [e2, ih] at h1
    have e3 : 2 ^ (k + 1) = 2 * 2 ^ k := by rw [Nat.pow_succ]; omega
    omega
theorem or_add (t k : Nat) (h : t.testBit k = false) : t ||| 2 ^ k = t + 2 ^ k := or_add' k t h
theorem or_xor (t k : Nat) (h : t.testBit k = false) : (t ||| 2 ^ k) ^^^ 2 ^ k = t := by
  apply Nat.eq_of_testBit_eq
  intro i
  rw [xor_bit, or_bit]
  by_cases hi : k = i
  · subst hi; rw [h]; simp
  · rw [decide_eq_false hi]; simp
theorem lives_eq : portsLives_fn () = some (true, ()) := by kernel_rfl
end Go.Proofs.YtlbmdkclbmcpdaaDoor.X
