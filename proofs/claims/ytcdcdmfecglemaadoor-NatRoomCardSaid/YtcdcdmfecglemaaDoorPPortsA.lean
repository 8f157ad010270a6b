/- ports: what Check, Let and End compute, in plain terms (bits of a number). Conditions: none. -/
import Derived.Test.YtcdcdmfecglemaaDoorGPorts
import Derived.Test.YtcdcdmfecglemaaDoorPList
import Derived.Test.YtcdcdmfecglemaaDoorLoop
namespace Go.Proofs.YtcdcdmfecglemaaDoor.X
open Go Go.RowKit Go.Proofs.YtcdcdmfecglemaaDoor.Abs Go.Proofs.YtcdcdmfecglemaaDoor.Bits
set_option linter.unusedVariables false
set_option linter.unusedSimpArgs false

/-! ### Numbers of 64 bits -/
theorem w64 (a : Nat) (h : a < 2 ^ 64) : IntKind.wrap IntKind.u64 (a : Int) = (a : Int) := by
  simp only [IntKind.wrap, IntKind.bits, IntKind.signed]
  simp
  omega
theorem and64 (a b : Nat) (ha : a < 2 ^ 64) (hb : b < 2 ^ 64) : bits BinOp.and IntKind.u64 (a : Int) (b : Int) = ((a &&& b : Nat) : Int) := bits_and_nat .u64 a b ha hb (fun h => by cases h)
theorem fdn (a k : Nat) : Int.fdiv (a : Int) ((2 : Int) ^ k) = ((a / 2 ^ k : Nat) : Int) := by
  rw [Int.fdiv_eq_ediv_of_nonneg _ (by exact_mod_cast Nat.zero_le (2 ^ k))]
  norm_cast
/-! ### Let -/
def frI (a1 : Int) : Int := bits BinOp.xor IntKind.u64 (if IntKind.signed IntKind.u64 = true then (-1 : Int) else IntKind.max IntKind.u64) a1
def mkI (a2 : Int) : Int := IntKind.wrap IntKind.u64 ((6148914691236517205 : Int) * (2 : Int) ^ min (Int.toNat (bits BinOp.and IntKind.i64 a2 (1 : Int))) (64 : Nat))
def oneI (k : Int) : Int := IntKind.wrap IntKind.u64 ((1 : Int) * (2 : Int) ^ min (Int.toNat k) (64 : Nat))
def letEnd (a0 a1 k : Int) : Tr (Int × (Int × (Int × (Int × Unit)))) := .ret (a0, (bits BinOp.or IntKind.u64 a1 (oneI k), (IntKind.wrap IntKind.i64 (a0 + k), ((0 : Int), ()))))
def letLow (a0 a1 x : Int) : Tr (Int × (Int × (Int × (Int × Unit)))) :=
  .grd (decide ((0 : Int) ≤ x ∧ x ≤ (18446744073709551615 : Int))) (.grd (decide ((0 : Int) ≤ ctzI x)) (letEnd a0 a1 (ctzI x)))
def letTz (a0 a1 a2 : Int) : Tr (Int × (Int × (Int × (Int × Unit)))) :=
  .grd (decide ((0 : Int) ≤ bits BinOp.and IntKind.i64 a2 (1 : Int))) (
  .ite (decide (bits BinOp.and IntKind.u64 (frI a1) (mkI a2) = (0 : Int))) (letLow a0 a1 (frI a1)) (letLow a0 a1 (bits BinOp.and IntKind.u64 (frI a1) (mkI a2))))
def letMain (a0 a1 a2 : Int) : Tr (Int × (Int × (Int × (Int × Unit)))) :=
  .ite (decide (IntKind.wrap IntKind.i64 (a2 - a0) < (0 : Int))) (letTz a0 a1 a2) (
  .ite (decide ((63 : Int) < IntKind.wrap IntKind.i64 (a2 - a0))) (letTz a0 a1 a2) (
  .grd (decide ((0 : Int) ≤ IntKind.wrap IntKind.i64 (a2 - a0))) (
  .ite (decide (bits BinOp.and IntKind.u64 (Int.fdiv (frI a1) ((2 : Int) ^ min (Int.toNat (IntKind.wrap IntKind.i64 (a2 - a0))) (64 : Nat))) (1 : Int) = (0 : Int))) (letTz a0 a1 a2) (
  .grd (decide ((0 : Int) ≤ IntKind.wrap IntKind.i64 (a2 - a0))) (letEnd a0 a1 (IntKind.wrap IntKind.i64 (a2 - a0)))))))
theorem portsLet_short (a0 a1 a2 : Int) : portsLet_fn (a0, (a1, (a2, ()))) = (Tr.opt (β := (Int × Unit)) (portsCheck_fn (a0, (a1, ()))) (fun r0 =>
  .ite (!decide (r0.1 = (0 : Int))) (.ite (!decide (r0.1 = (0 : Int))) (.ret ((0 : Int), ((0 : Int), ((0 : Int), (r0.1, ()))))) (letMain a0 a1 a2)) (
  .ite (decide (a2 < (0 : Int))) (.ite true (.ret ((0 : Int), ((0 : Int), ((0 : Int), ((1 : Int), ()))))) (letMain a0 a1 a2)) (
  .ite (decide ((65535 : Int) < a2)) (.ite true (.ret ((0 : Int), ((0 : Int), ((0 : Int), ((1 : Int), ()))))) (letMain a0 a1 a2)) (
  .ite (decide (a1 = (18446744073709551615 : Int))) (.ite true (.ret ((0 : Int), ((0 : Int), ((0 : Int), ((6 : Int), ()))))) (letMain a0 a1 a2)) (
  .ite (!decide (r0.1 = (0 : Int))) (.ret ((0 : Int), ((0 : Int), ((0 : Int), (r0.1, ()))))) (letMain a0 a1 a2))))))).eval := rfl
def baseOk (b : Int) : Prop := 64 ≤ b ∧ b ≤ 65472 ∧ b % 64 = 0
theorem check_eq (b t : Int) : portsCheck_fn (b, (t, ())) = some (if 64 ≤ b ∧ b ≤ 65472 ∧ b % 64 = 0 then (0 : Int) else 1, ()) := by
  show (portsCheck_tree (b, (t, ()))).eval = _
  by_cases h1 : b < 64
  · refine ev_t (by simpa using h1) ?_
    rw [if_neg (by omega)]; rfl
  · refine ev_f (by simpa using h1) ?_
    by_cases h2 : 65472 < b
    · refine ev_t (by simpa using h2) ?_
      rw [if_neg (by omega)]; rfl
    · refine ev_f (by simpa using h2) (ev_g rfl ?_)
      have e : Int.tmod b 64 = b % 64 := Int.tmod_eq_emod_of_nonneg (by omega)
      by_cases h3 : b % 64 = 0
      · refine ev_f (by rw [e]; simpa using h3) ?_
        rw [if_pos (by omega)]; rfl
      · refine ev_t (by rw [e]; simpa using h3) ?_
        rw [if_neg (by omega)]; rfl
theorem check_ok {b : Int} (t : Int) (h : baseOk b) : portsCheck_fn (b, (t, ())) = some ((0 : Int), ()) := by
  rw [check_eq]; exact congrArg (fun z : Int => some (z, ())) (if_pos h)
theorem check_no {b : Int} (t : Int) (h : ¬ baseOk b) : portsCheck_fn (b, (t, ())) = some ((1 : Int), ()) := by
  rw [check_eq]; exact congrArg (fun z : Int => some (z, ())) (if_neg h)
theorem fr_nat (t : Nat) (ht : t < 2 ^ 64) : frI (t : Int) = ((2 ^ 64 - (t + 1) : Nat) : Int) := by
  have := not_u64 (t : Int) (by omega) (by omega)
  unfold frI
  rw [show (if IntKind.signed IntKind.u64 = true then (-1 : Int) else IntKind.max IntKind.u64) = IntKind.u64.max from rfl, this]
  omega
theorem fr_bit (t : Nat) (ht : t < 2 ^ 64) (i : Nat) : (2 ^ 64 - (t + 1)).testBit i = (decide (i < 64) && !t.testBit i) := Nat.testBit_two_pow_sub_succ ht i
theorem mk_nat (w : Int) (hw : 0 ≤ w ∧ w ≤ 65535) : 0 ≤ bits BinOp.and IntKind.i64 w (1 : Int) ∧ ((w % 2 = 0 ∧ mkI w = ((6148914691236517205 : Nat) : Int)) ∨ (w % 2 = 1 ∧ mkI w = ((12297829382473034410 : Nat) : Int))) := by
  have e : bits BinOp.and IntKind.i64 w (1 : Int) = w % 2 := by
    have := bits_and_mask .i64 1 w hw.1 (by have : (2 : Int) ^ IntKind.i64.bits = 18446744073709551616 := rfl; omega) (by decide) (fun _ => by have : (2 : Int) ^ (IntKind.i64.bits - 1) = 9223372036854775808 := rfl; omega)
    exact this
  unfold mkI
  rw [e]
  refine ⟨by omega, ?_⟩
  have h2 : w % 2 = 0 ∨ w % 2 = 1 := by omega
  rcases h2 with h | h
  · left; rw [h]; exact ⟨rfl, by decide⟩
  · right; rw [h]; exact ⟨rfl, by decide⟩
theorem mask_bit : ∀ i : Fin 64, Nat.testBit 6148914691236517205 i.val = decide (i.val % 2 = 0) ∧ Nat.testBit 12297829382473034410 i.val = decide (i.val % 2 = 1) := by decide +kernel
theorem one_nat (k : Nat) (hk : k < 64) : oneI (k : Int) = ((2 ^ k : Nat) : Int) := by
  unfold oneI
  rw [Int.toNat_natCast, Nat.min_eq_left (by omega), Int.one_mul]
  have : ((2 : Int) ^ k) = ((2 ^ k : Nat) : Int) := by norm_cast
  rw [this]
  exact w64 _ (Nat.pow_lt_pow_right (by decide) hk)
theorem bit_eq (x k : Nat) (hx : x < 2 ^ 64) (hk : k < 64) : decide (bits BinOp.and IntKind.u64 (Int.fdiv (x : Int) ((2 : Int) ^ min (Int.toNat (k : Int)) (64 : Nat))) (1 : Int) = (0 : Int)) = !x.testBit k := by
  rw [Int.toNat_natCast, Nat.min_eq_left (by omega), fdn, show (1 : Int) = ((1 : Nat) : Int) from rfl, and64 _ _ (Nat.lt_of_le_of_lt (Nat.div_le_self _ _) hx) (by decide), Nat.and_one_is_mod, Nat.testBit_eq_decide_div_mod_eq]
  by_cases h : x / 2 ^ k % 2 = 1
  · rw [h]; decide
  · rw [show x / 2 ^ k % 2 = 0 by omega]; decide
theorem ctz_ok (x : Nat) (h0 : x ≠ 0) (hx : x < 2 ^ 64) : ∃ k : Nat, ctzI (x : Int) = (k : Int) ∧ k < 64 ∧ x.testBit k = true := by
  obtain ⟨h1, h2⟩ := Lib.lowest_bit 64 x h0 hx
  refine ⟨Lib.ctz 64 x, by unfold ctzI; rw [Int.toNat_natCast], h2, ?_⟩
  have := congrArg (fun y => Nat.testBit y (Lib.ctz 64 x)) h1
  simp only [Nat.testBit_and, Nat.testBit_two_pow_self] at this
  exact (Bool.and_eq_true_iff.1 this).1
theorem letEnd_eq (b : Int) (t k : Nat) (hb : baseOk b) (ht : t < 2 ^ 64) (hk : k < 64) : (letEnd b (t : Int) (k : Int)).eval = some (b, (((t ||| 2 ^ k : Nat) : Int), (b + (k : Int), ((0 : Int), ())))) := by
  unfold letEnd
  have hw : IntKind.wrap IntKind.i64 (b + (k : Int)) = b + (k : Int) := by
    have := hb.1; have := hb.2.1
    simp only [IntKind.wrap, IntKind.bits, IntKind.signed]
    simp
    omega
  have hp : 2 ^ k < 2 ^ 64 := Nat.pow_lt_pow_right (by decide) hk
  have hor : bits BinOp.or IntKind.u64 (t : Int) ((2 ^ k : Nat) : Int) = ((t ||| 2 ^ k : Nat) : Int) := bits_or_nat .u64 t (2 ^ k) ht hp (fun h => by cases h)
  rw [one_nat k hk, hw, hor]
  rfl
theorem letLow_eq (b : Int) (t x : Nat) (hb : baseOk b) (ht : t < 2 ^ 64) (h0 : x ≠ 0) (hx : x < 2 ^ 64) : ∃ k : Nat, k < 64 ∧ x.testBit k = true ∧ (letLow b (t : Int) (x : Int)).eval = some (b, (((t ||| 2 ^ k : Nat) : Int), (b + (k : Int), ((0 : Int), ())))) := by
  obtain ⟨k, h1, h2, h3⟩ := ctz_ok x h0 hx
  refine ⟨k, h2, h3, ?_⟩
  unfold letLow
  rw [h1]
  refine ev_g (decide_eq_true (by omega)) (ev_g (decide_eq_true (by omega)) (letEnd_eq b t k hb ht h2))
theorem ne_zero_bit (x : Nat) (h : x ≠ 0) : ∃ i, x.testBit i = true := Nat.exists_testBit_of_ne_zero h
/-- Let, when there is one. -/
theorem let_ok (b w : Int) (t : Nat) (hb : baseOk b) (ht : t < 2 ^ 64) (hf : t ≠ 2 ^ 64 - 1) (hw : 0 ≤ w ∧ w ≤ 65535) :
    ∃ k : Nat, k < 64 ∧ t.testBit k = false ∧ portsLet_fn (b, ((t : Int), (w, ()))) = some (b, (((t ||| 2 ^ k : Nat) : Int), (b + (k : Int), ((0 : Int), ())))) ∧
      ((∃ j : Nat, j < 64 ∧ t.testBit j = false ∧ (b + (j : Int)) % 2 = w % 2) → (b + (k : Int)) % 2 = w % 2) ∧ (∀ j : Nat, j < 64 → t.testBit j = false → b + (j : Int) = w → k = j) := by
  have hF : 2 ^ 64 - (t + 1) < 2 ^ 64 := by omega
  have hF0 : 2 ^ 64 - (t + 1) ≠ 0 := by omega
  have hbb := hb
  obtain ⟨hb1, hb2, hb3⟩ := hb
  have hkk : IntKind.wrap IntKind.i64 (w - b) = w - b := by
    simp only [IntKind.wrap, IntKind.bits, IntKind.signed]
    simp
    omega
  have tz : (∀ j : Nat, j < 64 → t.testBit j = false → b + (j : Int) ≠ w) → ∃ k : Nat, k < 64 ∧ t.testBit k = false ∧ (letTz b (t : Int) w).eval = some (b, (((t ||| 2 ^ k : Nat) : Int), (b + (k : Int), ((0 : Int), ())))) ∧
      ((∃ j : Nat, j < 64 ∧ t.testBit j = false ∧ (b + (j : Int)) % 2 = w % 2) → (b + (k : Int)) % 2 = w % 2) ∧ (∀ j : Nat, j < 64 → t.testBit j = false → b + (j : Int) = w → k = j) := by
    intro hno
    obtain ⟨m1, m2⟩ := mk_nat w hw
    have main : ∀ (m : Nat) (p : Int), p = w % 2 → m < 2 ^ 64 → (∀ i : Nat, i < 64 → (m.testBit i = true ↔ (i : Int) % 2 = p)) → mkI w = (m : Int) → ∃ k : Nat, k < 64 ∧ t.testBit k = false ∧ (letTz b (t : Int) w).eval = some (b, (((t ||| 2 ^ k : Nat) : Int), (b + (k : Int), ((0 : Int), ())))) ∧
        ((∃ j : Nat, j < 64 ∧ t.testBit j = false ∧ (b + (j : Int)) % 2 = w % 2) → (b + (k : Int)) % 2 = w % 2) ∧ (∀ j : Nat, j < 64 → t.testBit j = false → b + (j : Int) = w → k = j) := by
      intro m p hp hm hbit he
      have hand : bits BinOp.and IntKind.u64 (frI (t : Int)) (mkI w) = (((2 ^ 64 - (t + 1)) &&& m : Nat) : Int) := by
        rw [fr_nat t ht, he]; exact and64 _ _ hF hm
      have hle : (2 ^ 64 - (t + 1)) &&& m < 2 ^ 64 := Nat.lt_of_le_of_lt Nat.and_le_right hm
      by_cases hz : (2 ^ 64 - (t + 1)) &&& m = 0
      · obtain ⟨k, k1, k2, k3⟩ := letLow_eq b t _ hbb ht hF0 hF
        rw [fr_bit t ht k, decide_eq_true k1, Bool.true_and, Bool.not_eq_true'] at k2
        refine ⟨k, k1, k2, ?_, ?_, fun j j1 j2 j3 => absurd j3 (hno j j1 j2)⟩
        · unfold letTz
          refine ev_g (decide_eq_true m1) (ev_t (decide_eq_true (by rw [hand, hz]; rfl)) ?_)
          rw [fr_nat t ht]; exact k3
        · rintro ⟨j, j1, j2, j3⟩
          have hj : ((2 ^ 64 - (t + 1)) &&& m).testBit j = true := by
            rw [Nat.testBit_and, fr_bit t ht j, j2, decide_eq_true j1]
            simp only [Bool.not_false, Bool.and_self, Bool.true_and]
            exact (hbit j j1).2 (by omega)
          rw [hz, Nat.zero_testBit] at hj
          cases hj
      · obtain ⟨k, k1, k2, k3⟩ := letLow_eq b t _ hbb ht hz hle
        rw [Nat.testBit_and, fr_bit t ht k, decide_eq_true k1, Bool.true_and, Bool.and_eq_true, Bool.not_eq_true'] at k2
        have hpar := (hbit k k1).1 k2.2
        refine ⟨k, k1, k2.1, ?_, fun _ => by omega, fun j j1 j2 j3 => absurd j3 (hno j j1 j2)⟩
        unfold letTz
        refine ev_g (decide_eq_true m1) (ev_f (decide_eq_false (by rw [hand]; exact_mod_cast hz)) ?_)
        rw [hand]; exact k3
    rcases m2 with ⟨h1, h2⟩ | ⟨h1, h2⟩
    · refine main _ 0 h1.symm (by decide) (fun i hi => ?_) h2
      rw [(mask_bit ⟨i, hi⟩).1, decide_eq_true_eq]
      show i % 2 = 0 ↔ _
      omega
    · refine main _ 1 h1.symm (by decide) (fun i hi => ?_) h2
      rw [(mask_bit ⟨i, hi⟩).2, decide_eq_true_eq]
      show i % 2 = 1 ↔ _
      omega
  have full : decide ((t : Int) = (18446744073709551615 : Int)) = false := decide_eq_false (by omega)
  have head : ∀ r, (letMain b (t : Int) w).eval = r → portsLet_fn (b, ((t : Int), (w, ()))) = r := by
    intro r hr
    rw [portsLet_short]
    exact ev_opt (check_ok _ hbb) (ev_f rfl (ev_f (decide_eq_false (by omega)) (ev_f (decide_eq_false (by omega)) (ev_f full (ev_f rfl hr)))))
  by_cases c1 : w - b < 0
  · obtain ⟨k, k1, k2, k3, k4, k5⟩ := tz (fun j j1 j2 j3 => by omega)
    refine ⟨k, k1, k2, head _ ?_, k4, k5⟩
    unfold letMain
    rw [hkk]
    exact ev_t (decide_eq_true c1) k3
  by_cases c2 : 63 < w - b
  · obtain ⟨k, k1, k2, k3, k4, k5⟩ := tz (fun j j1 j2 j3 => by omega)
    refine ⟨k, k1, k2, head _ ?_, k4, k5⟩
    unfold letMain
    rw [hkk]
    exact ev_f (decide_eq_false c1) (ev_t (decide_eq_true c2) k3)
  obtain ⟨q, hq⟩ := Int.eq_ofNat_of_zero_le (show 0 ≤ w - b by omega)
  have hq64 : q < 64 := by omega
  have hbq := bit_eq (2 ^ 64 - (t + 1)) q hF hq64
  rw [fr_bit t ht q, decide_eq_true hq64, Bool.true_and, Bool.not_not] at hbq
  cases hc : t.testBit q with
  | true =>
    rw [hc] at hbq
    obtain ⟨k, k1, k2, k3, k4, k5⟩ := tz (fun j j1 j2 j3 => by
      have : j = q := by omega
      subst this; rw [hc] at j2; cases j2)
    refine ⟨k, k1, k2, head _ ?_, k4, k5⟩
    unfold letMain
    rw [hkk, hq, fr_nat t ht]
    exact ev_f (decide_eq_false (by omega)) (ev_f (decide_eq_false (by omega)) (ev_g (decide_eq_true (by omega)) (ev_t hbq k3)))
  | false =>
    rw [hc] at hbq
    refine ⟨q, hq64, hc, head _ ?_, fun _ => by omega, fun j j1 j2 j3 => by omega⟩
    unfold letMain
    rw [hkk, hq, fr_nat t ht]
    exact ev_f (decide_eq_false (by omega)) (ev_f (decide_eq_false (by omega)) (ev_g (decide_eq_true (by omega)) (ev_f hbq (ev_g (decide_eq_true (by omega)) (letEnd_eq b t q hbb ht hq64)))))
/-- Let, when there is none. -/
theorem let_no (b t w : Int) (h : ¬ (baseOk b ∧ (0 ≤ w ∧ w ≤ 65535) ∧ t ≠ 18446744073709551615)) : ∃ e : Int, e ≠ 0 ∧ portsLet_fn (b, (t, (w, ()))) = some ((0 : Int), ((0 : Int), ((0 : Int), (e, ())))) := by
  rw [portsLet_short]
  by_cases hb : baseOk b
  · by_cases h1 : w < 0
    · exact ⟨1, by decide, ev_opt (check_ok _ hb) (ev_f rfl (ev_t (decide_eq_true h1) (ev_t rfl rfl)))⟩
    by_cases h2 : 65535 < w
    · exact ⟨1, by decide, ev_opt (check_ok _ hb) (ev_f rfl (ev_f (decide_eq_false h1) (ev_t (decide_eq_true h2) (ev_t rfl rfl))))⟩
    have ht : t = 18446744073709551615 := by
      by_cases ht : t = 18446744073709551615
      · exact ht
      · exact absurd ⟨hb, ⟨by omega, by omega⟩, ht⟩ h
    exact ⟨6, by decide, ev_opt (check_ok _ hb) (ev_f rfl (ev_f (decide_eq_false h1) (ev_f (decide_eq_false h2) (ev_t (decide_eq_true ht) (ev_t rfl rfl)))))⟩
  · exact ⟨1, by decide, ev_opt (check_no _ hb) (ev_t rfl (ev_t rfl rfl))⟩
theorem let_full (b w : Int) (hb : baseOk b) (hw : 0 ≤ w ∧ w ≤ 65535) : portsLet_fn (b, ((18446744073709551615 : Int), (w, ()))) = some ((0 : Int), ((0 : Int), ((0 : Int), ((6 : Int), ())))) := by
  rw [portsLet_short]
  exact ev_opt (check_ok _ hb) (ev_f rfl (ev_f (decide_eq_false (by omega)) (ev_f (decide_eq_false (by omega)) (ev_t rfl (ev_t rfl rfl)))))
/-! ### End, Free -/
theorem end_ok (b : Int) (t k : Nat) (hb : baseOk b) (ht : t < 2 ^ 64) (hk : k < 64) (hbit : t.testBit k = true) : portsEnd_fn (b, ((t : Int), (b + (k : Int), ()))) = some (b, (((t ^^^ 2 ^ k : Nat) : Int), ((0 : Int), ()))) := by
  have hb1 := hb.1
  have hb2 := hb.2.1
  have hw : IntKind.wrap IntKind.i64 (b + (63 : Int)) = b + 63 := by
    simp only [IntKind.wrap, IntKind.bits, IntKind.signed]
    simp
    omega
  have hw2 : IntKind.wrap IntKind.i64 (b + (k : Int) - b) = (k : Int) := by
    rw [show b + (k : Int) - b = (k : Int) by omega]
    simp only [IntKind.wrap, IntKind.bits, IntKind.signed]
    simp
    omega
  have hp : 2 ^ k < 2 ^ 64 := Nat.pow_lt_pow_right (by decide) hk
  have hx : bits BinOp.xor IntKind.u64 (t : Int) ((2 ^ k : Nat) : Int) = ((t ^^^ 2 ^ k : Nat) : Int) := bits_xor_nat .u64 t (2 ^ k) ht hp (fun h => by cases h)
  have h1 := one_nat k hk
  unfold oneI at h1
  show (portsEnd_tree _).eval = _
  unfold portsEnd_tree
  simp only [hw, hw2]
  refine ev_opt (check_ok _ hb) (ev_f rfl (ev_f (decide_eq_false (by omega)) (ev_f (decide_eq_false (by omega)) (ev_g (decide_eq_true (by omega)) (ev_f ?_ (ev_g (decide_eq_true (by omega)) ?_))))))
  · rw [bit_eq t k ht hk, hbit]; rfl
  · rw [h1, hx]; rfl
theorem end_no (b : Int) (t : Nat) (q : Int) (ht : t < 2 ^ 64) (h : ¬ (baseOk b ∧ ∃ k : Nat, k < 64 ∧ t.testBit k = true ∧ q = b + (k : Int))) : ∃ e : Int, e ≠ 0 ∧ portsEnd_fn (b, ((t : Int), (q, ()))) = some ((0 : Int), ((0 : Int), (e, ()))) := by
  by_cases hb : baseOk b
  case neg => exact ⟨1, by decide, ev_opt (check_no _ hb) (ev_t rfl rfl)⟩
  have hb1 := hb.1
  have hb2 := hb.2.1
  have hw : IntKind.wrap IntKind.i64 (b + (63 : Int)) = b + 63 := by
    simp only [IntKind.wrap, IntKind.bits, IntKind.signed]
    simp
    omega
  refine ⟨7, by decide, ?_⟩
  show (portsEnd_tree _).eval = _
  unfold portsEnd_tree
  simp only [hw]
  refine ev_opt (check_ok _ hb) (ev_f rfl (ev_ite (fun _ => rfl) fun c1 => ev_ite (fun _ => rfl) fun c2 => ?_))
  have c1 := of_decide_eq_false c1
  have c2 := of_decide_eq_false c2
  obtain ⟨k, hk⟩ := Int.eq_ofNat_of_zero_le (show 0 ≤ q - b by omega)
  have hk64 : k < 64 := by omega
  have hw2 : IntKind.wrap IntKind.i64 (q - b) = (k : Int) := by
    rw [hk]
    simp only [IntKind.wrap, IntKind.bits, IntKind.signed]
    simp
    omega
  simp only [hw2]
  refine ev_g (decide_eq_true (by omega)) (ev_t ?_ rfl)
  rw [bit_eq t k ht hk64]
  cases hc : t.testBit k with
  | false => rfl
  | true => exact absurd ⟨hb, k, hk64, hc, by omega⟩ h
/-! ### Bits -/
theorem or_bit (t k i : Nat) : (t ||| 2 ^ k).testBit i = (t.testBit i || decide (k = i)) := by rw [Nat.testBit_or, Nat.testBit_two_pow]
theorem xor_bit (t k i : Nat) : (t ^^^ 2 ^ k).testBit i = (t.testBit i ^^ decide (k = i)) := by rw [Nat.testBit_xor, Nat.testBit_two_pow]
theorem or_lt (t k : Nat) (ht : t < 2 ^ 64) (hk : k < 64) : t ||| 2 ^ k < 2 ^ 64 := Nat.or_lt_two_pow ht (Nat.pow_lt_pow_right (by decide) hk)
theorem xor_lt (t k : Nat) (ht : t < 2 ^ 64) (hk : k < 64) : t ^^^ 2 ^ k < 2 ^ 64 := Nat.xor_lt_two_pow ht (Nat.pow_lt_pow_right (by decide) hk)
theorem or_add' : ∀ (k t : Nat), t.testBit k = false → t ||| 2 ^ k = t + 2 ^ k
  | 0, t, h => by
    rw [Nat.testBit_zero] at h
    have := of_decide_eq_false h
    apply Nat.eq_of_testBit_eq
    intro i
    obtain ⟨m, rfl⟩ : ∃ m, t = 2 * m := ⟨t / 2, by omega⟩
    cases i with
    | zero => simp
    | succ i =>
      have e1 : (2 * m + 2 ^ 0) / 2 = m := by omega
      rw [Nat.testBit_or, Nat.testBit_succ (2 * m + 2 ^ 0), e1, Nat.testBit_succ (2 * m)]
      simp [Nat.testBit_succ]
  | k + 1, t, h => by
    rw [Nat.testBit_succ] at h
    have ih := or_add' k (t / 2) h
    have h1 := Nat.or_div_two (a := t) (b := 2 ^ (k + 1))
    have h2 : (t ||| 2 ^ (k + 1)) % 2 = t % 2 := by
      have := Nat.or_mod_two_eq_one (a := t) (b := 2 ^ (k + 1))
      have e : 2 ^ (k + 1) % 2 = 0 := by rw [Nat.pow_succ]; omega
      omega
    have e2 : 2 ^ (k + 1) / 2 = 2 ^ k := by rw [Nat.pow_succ]; omega
    rw [e2, ih] at h1
    have e3 : 2 ^ (k + 1) = 2 * 2 ^ k := by rw [Nat.pow_succ]; omega
    omega
theorem or_add (t k : Nat) (h : t.testBit k = false) : t ||| 2 ^ k = t + 2 ^ k := or_add' k t h
theorem or_xor (t k : Nat) (h : t.testBit k = false) : (t ||| 2 ^ k) ^^^ 2 ^ k = t := by
  apply Nat.eq_of_testBit_eq
  intro i
  rw [xor_bit, or_bit]
  by_cases hi : k = i
  · subst hi; rw [h]; simp
  · rw [decide_eq_false hi]; simp
end Go.Proofs.YtcdcdmfecglemaaDoor.X
