/- eth: how addresses are shown and read. Conditions: none. -/
import Derived.Test.YtmnbhoklphakjaaPEth
import Derived.Test.YtmnbhoklphakjaaHEth
namespace Go.Proofs.Ytmnbhoklphakjaa.X
open Go Go.RowKit Go.Proofs.Ytmnbhoklphakjaa.Abs Go.Proofs.Ytmnbhoklphakjaa.Bits
set_option linter.unusedVariables false
set_option linter.unnecessarySimpa false
set_option linter.unusedSimpArgs false
set_option maxRecDepth 100000

def hexs : List UInt8 := [48, 49, 50, 51, 52, 53, 54, 55, 56, 57, 97, 98, 99, 100, 101, 102]
def hx (x : Int) : UInt8 := List.getD hexs x.toNat 0
def hex2 (x : Int) : List UInt8 := [hx (x / 16), hx (x % 16)]
theorem and15 {x : Int} (h : 0 ≤ x ∧ x ≤ 255) : bits BinOp.and IntKind.u8 x (15 : Int) = x % 16 := bits_and_mask .u8 4 x h.1 (by show x < 256; omega) (by decide) (fun h => by cases h)
theorem fdiv4 (x : Int) : Int.fdiv x ((2 : Int) ^ (4 : Nat)) = x / 16 := fdiv_pos x (by decide)
theorem gu8 (b : UInt8) : decide ((0 : Int) ≤ (b.toNat : Int) ∧ (b.toNat : Int) < (256 : Int)) = true := by
  have := u8n b
  simp; omega
theorem show_round (i : Nat) (hi : i < 6) (m0 m1 m2 m3 m4 m5 x : Int) (l : List UInt8) (hx' : [m0, m1, m2, m3, m4, m5][i]? = some x) (hb : 0 ≤ x ∧ x ≤ 255) (hl : l.length ≤ 100) :
    (ethShow_step24_3 ((i : Int), (m0, (m1, (m2, (m3, (m4, (m5, (l, ()))))))))).eval = some (.inl (((i + 1 : Nat) : Int), (m0, (m1, (m2, (m3, (m4, (m5, ((if i = 0 then l else l ++ [58]) ++ hex2 x, ()))))))))) := by
  unfold ethShow_step24_3
  refine ev_t (by simp; omega) (ev_g (by simp) (ev_opt (show [m0, m1, m2, m3, m4, m5][Int.toNat (i : Int)]? = some x by simpa using hx') ?_))
  simp only [and15 hb, fdiv4]
  have h1 : 0 ≤ x / 16 ∧ x / 16 < 16 := by omega
  have h2 : 0 ≤ x % 16 ∧ x % 16 < 16 := by omega
  have hlen : ∀ (a b : UInt8), ([a, b] : List UInt8).length = 2 := fun _ _ => rfl
  by_cases h0 : i = 0
  · subst h0
    refine ev_f (by simp) (ev_g rfl (ev_g (decide_eq_true h1) (ev_g (decide_eq_true h2) (ev_g (gu8 _) (ev_g (gu8 _) (ev_g (by simp; omega) (ev_g (by simp) (ev_r ?_))))))))
    rw [next_i64 0 (by decide)]
    simp [hex2, hx, hexs]
  · refine ev_t (by simp; omega) (ev_g rfl (ev_g (by simp; omega) (ev_g rfl (ev_g (decide_eq_true h1) (ev_g (decide_eq_true h2) (ev_g (gu8 _) (ev_g (gu8 _) (ev_g (by simp; omega) (ev_g (by simp) (ev_r ?_))))))))))
    rw [next_i64 i (by omega), if_neg h0]
    simp [hex2, hx, hexs]
def showL (m0 m1 m2 m3 m4 m5 : Int) : List UInt8 := [hx (m0 / 16), hx (m0 % 16), 58, hx (m1 / 16), hx (m1 % 16), 58, hx (m2 / 16), hx (m2 % 16), 58, hx (m3 / 16), hx (m3 % 16), 58, hx (m4 / 16), hx (m4 % 16), 58, hx (m5 / 16), hx (m5 % 16)]
def Oct (x : Int) : Prop := 0 ≤ x ∧ x ≤ 255
theorem show_ok {m0 m1 m2 m3 m4 m5 : Int} (h0 : Oct m0) (h1 : Oct m1) (h2 : Oct m2) (h3 : Oct m3) (h4 : Oct m4) (h5 : Oct m5) : ethShow_fn (m0, (m1, (m2, (m3, (m4, (m5, ())))))) = some (showL m0 m1 m2 m3 m4 m5, ()) := by
  unfold ethShow_fn ethShow_tree
  refine ev_g rfl (ev_opt (b := (showL m0 m1 m2 m3 m4 m5, ())) ?_ (ev_r rfl))
  show loopO _ (fun x => (ethShow_step24_3 x).eval) 18446744073709551616 (((0 : Nat) : Int), (m0, (m1, (m2, (m3, (m4, (m5, ([], ())))))))) = _
  have e : (18446744073709551616 : Nat) = 18446744073709551609 + 1 + 1 + 1 + 1 + 1 + 1 + 1 := by decide
  rw [e]
  rw [loopO_in (show_round 0 (by decide) m0 m1 m2 m3 m4 m5 m0 _ rfl h0 (by simp [hex2]))]
  rw [loopO_in (show_round 1 (by decide) m0 m1 m2 m3 m4 m5 m1 _ rfl h1 (by simp [hex2]))]
  rw [loopO_in (show_round 2 (by decide) m0 m1 m2 m3 m4 m5 m2 _ rfl h2 (by simp [hex2]))]
  rw [loopO_in (show_round 3 (by decide) m0 m1 m2 m3 m4 m5 m3 _ rfl h3 (by simp [hex2]))]
  rw [loopO_in (show_round 4 (by decide) m0 m1 m2 m3 m4 m5 m4 _ rfl h4 (by simp [hex2]))]
  rw [loopO_in (show_round 5 (by decide) m0 m1 m2 m3 m4 m5 m5 _ rfl h5 (by simp [hex2]))]
  exact loopO_out (ev_f (by decide) (ev_g (by simp) (ev_r rfl)))

def dgo (b : UInt8) : Bool := (decide (48 ≤ b.toNat) && decide (b.toNat ≤ 57)) || (decide (97 ≤ b.toNat) && decide (b.toNat ≤ 102))
def dv (b : UInt8) : Int := if dgo b then if b.toNat ≤ 57 then (b.toNat : Int) - 48 else (b.toNat : Int) - 87 else 0
theorem digit_fn (b : UInt8) : ethDigit_fn ((b.toNat : Int), ()) = some (dv b, (dgo b, ())) := by
  have hb := u8n b
  unfold ethDigit_fn ethDigit_tree dv dgo
  by_cases h1 : 48 ≤ b.toNat
  · refine ev_t (by simp; omega) ?_
    by_cases h2 : b.toNat ≤ 57
    · exact ev_t (by simp; omega) (ev_r (by simp [h1, h2, wrap8u]; omega))
    · refine ev_f (by simp; omega) ?_
      by_cases h3 : 97 ≤ b.toNat
      · refine ev_t (by simp; omega) ?_
        by_cases h4 : b.toNat ≤ 102
        · exact ev_t (by simp; omega) (ev_r (by simp [h1, h2, h3, h4, wrap8u]; omega))
        · exact ev_f (by simp; omega) (ev_r (by simp [h1, h2, h3, h4]))
      · exact ev_f (by simp; omega) (ev_r (by simp [h1, h2, h3]))
  · refine ev_f (by simp; omega) (ev_f (by simp; omega) (ev_r ?_))
    have h3 : ¬ 97 ≤ b.toNat := by omega
    simp [h1, h3]
theorem dv_bound (b : UInt8) : 0 ≤ dv b ∧ dv b ≤ 15 := by
  unfold dv dgo
  split
  · rename_i h
    simp only [Bool.or_eq_true, Bool.and_eq_true, decide_eq_true_eq] at h
    split <;> omega
  · omega
theorem hx_dv : ∀ b : Fin 256, dgo (UInt8.ofNat b.val) = true → hx (dv (UInt8.ofNat b.val)) = UInt8.ofNat b.val := by decide +kernel
theorem hx_dv' (b : UInt8) (h : dgo b = true) : hx (dv b) = b := by
  have := hx_dv ⟨b.toNat, u8n b⟩
  simp only [UInt8.ofNat_toNat] at this
  exact this h
theorem dv_hx : ∀ n : Fin 16, dgo (hx (n.val : Int)) = true ∧ dv (hx (n.val : Int)) = (n.val : Int) := by decide +kernel
theorem dv_hx' {x : Int} (h : 0 ≤ x ∧ x < 16) : dgo (hx x) = true ∧ dv (hx x) = x := by
  obtain ⟨n, rfl⟩ := Int.eq_ofNat_of_zero_le h.1
  exact dv_hx ⟨n, by have := h.2; omega⟩
theorem or_dv (a b : UInt8) : bits BinOp.or IntKind.u8 (IntKind.wrap IntKind.u8 (dv a * (2 : Int) ^ (4 : Nat))) (dv b) = dv a * 16 + dv b := by
  have h1 := dv_bound a
  have h2 := dv_bound b
  have e : IntKind.wrap IntKind.u8 (dv a * (2 : Int) ^ (4 : Nat)) = dv a * (2 : Int) ^ (4 : Nat) := by rw [wrap8u]; omega
  rw [e, bits_or_disjoint .u8 4 _ _ h1.1 h2.1 (by omega) (by show dv a * 2 ^ 4 + dv b < 256; omega) (fun h => by cases h)]
  rfl
def okAt (s : List UInt8) (i : Nat) : Bool := dgo (s.getD (3 * i) 0) && (dgo (s.getD (3 * i + 1) 0) && (decide (i = 5) || decide (s.getD (3 * i + 2) 0 = 58)))
def valAt (s : List UInt8) (i : Nat) : Int := dv (s.getD (3 * i) 0) * 16 + dv (s.getD (3 * i + 1) 0)
theorem b58 (b : UInt8) : decide ((b.toNat : Int) = 58) = decide (b = 58) := by
  rw [decide_eq_decide]
  constructor
  · intro h
    have : b.toNat = 58 := by omega
    rw [← UInt8.ofNat_toNat (x := b), this]; rfl
  · rintro rfl; rfl
theorem parse_round0 (s : List UInt8) (hs : s.length = 17) (z0 z1 z2 z3 z4 z5 v0 v1 v2 v3 v4 v5 : Int) : (ethParse_step23_5 (0, (s, (z0, (z1, (z2, (z3, (z4, (z5, (v0, (v1, (v2, (v3, (v4, (v5, ()))))))))))))))).eval = if okAt s 0 then some (.inl (1, (s, (z0, (z1, (z2, (z3, (z4, (z5, (valAt s 0, (v1, (v2, (v3, (v4, (v5, ()))))))))))))))) else some (.inr (.inl (10, (0, (0, (0, (0, (0, (0, ()))))))))) := by
  unfold ethParse_step23_5 okAt valAt
  refine ev_t (by decide) (ev_g (by rw [hs]; decide) (ev_opt (digit_fn (s.getD 0 0)) (ev_g (by rw [hs]; decide) (ev_opt (digit_fn (s.getD 1 0)) ?_))))
  cases hA : dgo (s.getD 0 0) with
  | false => exact ev_t rfl (ev_r rfl)
  | true =>
  refine ev_f rfl ?_
  cases hB : dgo (s.getD 1 0) with
  | false => exact ev_t rfl (ev_r rfl)
  | true =>
  refine ev_f rfl ?_
  refine ev_t (by decide) (ev_g (by rw [hs]; decide) ?_)
  cases hC : decide (s.getD 2 0 = 58) with
  | false => exact ev_t (by show (!decide (((s.getD 2 0).toNat : Int) = 58)) = true; rw [b58, hC]; rfl) (ev_r rfl)
  | true => exact ev_f (by show (!decide (((s.getD 2 0).toNat : Int) = 58)) = false; rw [b58, hC]; rfl) (ev_g rfl (ev_t (by decide) (ev_r (by rw [or_dv]; rfl))))
theorem parse_round1 (s : List UInt8) (hs : s.length = 17) (z0 z1 z2 z3 z4 z5 v0 v1 v2 v3 v4 v5 : Int) : (ethParse_step23_5 (1, (s, (z0, (z1, (z2, (z3, (z4, (z5, (v0, (v1, (v2, (v3, (v4, (v5, ()))))))))))))))).eval = if okAt s 1 then some (.inl (2, (s, (z0, (z1, (z2, (z3, (z4, (z5, (v0, (valAt s 1, (v2, (v3, (v4, (v5, ()))))))))))))))) else some (.inr (.inl (10, (0, (0, (0, (0, (0, (0, ()))))))))) := by
  unfold ethParse_step23_5 okAt valAt
  refine ev_t (by decide) (ev_g (by rw [hs]; decide) (ev_opt (digit_fn (s.getD 3 0)) (ev_g (by rw [hs]; decide) (ev_opt (digit_fn (s.getD 4 0)) ?_))))
  cases hA : dgo (s.getD 3 0) with
  | false => exact ev_t rfl (ev_r rfl)
  | true =>
  refine ev_f rfl ?_
  cases hB : dgo (s.getD 4 0) with
  | false => exact ev_t rfl (ev_r rfl)
  | true =>
  refine ev_f rfl ?_
  refine ev_t (by decide) (ev_g (by rw [hs]; decide) ?_)
  cases hC : decide (s.getD 5 0 = 58) with
  | false => exact ev_t (by show (!decide (((s.getD 5 0).toNat : Int) = 58)) = true; rw [b58, hC]; rfl) (ev_r rfl)
  | true => exact ev_f (by show (!decide (((s.getD 5 0).toNat : Int) = 58)) = false; rw [b58, hC]; rfl) (ev_g rfl (ev_f (by decide) (ev_t (by decide) (ev_r (by rw [or_dv]; rfl)))))
theorem parse_round2 (s : List UInt8) (hs : s.length = 17) (z0 z1 z2 z3 z4 z5 v0 v1 v2 v3 v4 v5 : Int) : (ethParse_step23_5 (2, (s, (z0, (z1, (z2, (z3, (z4, (z5, (v0, (v1, (v2, (v3, (v4, (v5, ()))))))))))))))).eval = if okAt s 2 then some (.inl (3, (s, (z0, (z1, (z2, (z3, (z4, (z5, (v0, (v1, (valAt s 2, (v3, (v4, (v5, ()))))))))))))))) else some (.inr (.inl (10, (0, (0, (0, (0, (0, (0, ()))))))))) := by
  unfold ethParse_step23_5 okAt valAt
  refine ev_t (by decide) (ev_g (by rw [hs]; decide) (ev_opt (digit_fn (s.getD 6 0)) (ev_g (by rw [hs]; decide) (ev_opt (digit_fn (s.getD 7 0)) ?_))))
  cases hA : dgo (s.getD 6 0) with
  | false => exact ev_t rfl (ev_r rfl)
  | true =>
  refine ev_f rfl ?_
  cases hB : dgo (s.getD 7 0) with
  | false => exact ev_t rfl (ev_r rfl)
  | true =>
  refine ev_f rfl ?_
  refine ev_t (by decide) (ev_g (by rw [hs]; decide) ?_)
  cases hC : decide (s.getD 8 0 = 58) with
  | false => exact ev_t (by show (!decide (((s.getD 8 0).toNat : Int) = 58)) = true; rw [b58, hC]; rfl) (ev_r rfl)
  | true => exact ev_f (by show (!decide (((s.getD 8 0).toNat : Int) = 58)) = false; rw [b58, hC]; rfl) (ev_g rfl (ev_f (by decide) (ev_f (by decide) (ev_t (by decide) (ev_r (by rw [or_dv]; rfl))))))
theorem parse_round3 (s : List UInt8) (hs : s.length = 17) (z0 z1 z2 z3 z4 z5 v0 v1 v2 v3 v4 v5 : Int) : (ethParse_step23_5 (3, (s, (z0, (z1, (z2, (z3, (z4, (z5, (v0, (v1, (v2, (v3, (v4, (v5, ()))))))))))))))).eval = if okAt s 3 then some (.inl (4, (s, (z0, (z1, (z2, (z3, (z4, (z5, (v0, (v1, (v2, (valAt s 3, (v4, (v5, ()))))))))))))))) else some (.inr (.inl (10, (0, (0, (0, (0, (0, (0, ()))))))))) := by
  unfold ethParse_step23_5 okAt valAt
  refine ev_t (by decide) (ev_g (by rw [hs]; decide) (ev_opt (digit_fn (s.getD 9 0)) (ev_g (by rw [hs]; decide) (ev_opt (digit_fn (s.getD 10 0)) ?_))))
  cases hA : dgo (s.getD 9 0) with
  | false => exact ev_t rfl (ev_r rfl)
  | true =>
  refine ev_f rfl ?_
  cases hB : dgo (s.getD 10 0) with
  | false => exact ev_t rfl (ev_r rfl)
  | true =>
  refine ev_f rfl ?_
  refine ev_t (by decide) (ev_g (by rw [hs]; decide) ?_)
  cases hC : decide (s.getD 11 0 = 58) with
  | false => exact ev_t (by show (!decide (((s.getD 11 0).toNat : Int) = 58)) = true; rw [b58, hC]; rfl) (ev_r rfl)
  | true => exact ev_f (by show (!decide (((s.getD 11 0).toNat : Int) = 58)) = false; rw [b58, hC]; rfl) (ev_g rfl (ev_f (by decide) (ev_f (by decide) (ev_f (by decide) (ev_t (by decide) (ev_r (by rw [or_dv]; rfl)))))))
theorem parse_round4 (s : List UInt8) (hs : s.length = 17) (z0 z1 z2 z3 z4 z5 v0 v1 v2 v3 v4 v5 : Int) : (ethParse_step23_5 (4, (s, (z0, (z1, (z2, (z3, (z4, (z5, (v0, (v1, (v2, (v3, (v4, (v5, ()))))))))))))))).eval = if okAt s 4 then some (.inl (5, (s, (z0, (z1, (z2, (z3, (z4, (z5, (v0, (v1, (v2, (v3, (valAt s 4, (v5, ()))))))))))))))) else some (.inr (.inl (10, (0, (0, (0, (0, (0, (0, ()))))))))) := by
  unfold ethParse_step23_5 okAt valAt
  refine ev_t (by decide) (ev_g (by rw [hs]; decide) (ev_opt (digit_fn (s.getD 12 0)) (ev_g (by rw [hs]; decide) (ev_opt (digit_fn (s.getD 13 0)) ?_))))
  cases hA : dgo (s.getD 12 0) with
  | false => exact ev_t rfl (ev_r rfl)
  | true =>
  refine ev_f rfl ?_
  cases hB : dgo (s.getD 13 0) with
  | false => exact ev_t rfl (ev_r rfl)
  | true =>
  refine ev_f rfl ?_
  refine ev_t (by decide) (ev_g (by rw [hs]; decide) ?_)
  cases hC : decide (s.getD 14 0 = 58) with
  | false => exact ev_t (by show (!decide (((s.getD 14 0).toNat : Int) = 58)) = true; rw [b58, hC]; rfl) (ev_r rfl)
  | true => exact ev_f (by show (!decide (((s.getD 14 0).toNat : Int) = 58)) = false; rw [b58, hC]; rfl) (ev_g rfl (ev_f (by decide) (ev_f (by decide) (ev_f (by decide) (ev_f (by decide) (ev_t (by decide) (ev_r (by rw [or_dv]; rfl))))))))
theorem parse_round5 (s : List UInt8) (hs : s.length = 17) (z0 z1 z2 z3 z4 z5 v0 v1 v2 v3 v4 v5 : Int) : (ethParse_step23_5 (5, (s, (z0, (z1, (z2, (z3, (z4, (z5, (v0, (v1, (v2, (v3, (v4, (v5, ()))))))))))))))).eval = if okAt s 5 then some (.inl (6, (s, (z0, (z1, (z2, (z3, (z4, (z5, (v0, (v1, (v2, (v3, (v4, (valAt s 5, ()))))))))))))))) else some (.inr (.inl (10, (0, (0, (0, (0, (0, (0, ()))))))))) := by
  unfold ethParse_step23_5 okAt valAt
  refine ev_t (by decide) (ev_g (by rw [hs]; decide) (ev_opt (digit_fn (s.getD 15 0)) (ev_g (by rw [hs]; decide) (ev_opt (digit_fn (s.getD 16 0)) ?_))))
  cases hA : dgo (s.getD 15 0) with
  | false => exact ev_t rfl (ev_r rfl)
  | true =>
  refine ev_f rfl ?_
  cases hB : dgo (s.getD 16 0) with
  | false => exact ev_t rfl (ev_r rfl)
  | true =>
  refine ev_f rfl ?_
  exact ev_f (by decide) (ev_g rfl (ev_f (by decide) (ev_f (by decide) (ev_f (by decide) (ev_f (by decide) (ev_f (by decide) (ev_t (by decide) (ev_r (by rw [or_dv]; rfl)))))))))
def allOk (s : List UInt8) : Bool := okAt s 0 && (okAt s 1 && (okAt s 2 && (okAt s 3 && (okAt s 4 && okAt s 5))))
theorem parse_fn (s : List UInt8) : ethParse_fn (s, ()) = some (if s.length = 17 ∧ allOk s = true then (valAt s 0, (valAt s 1, (valAt s 2, (valAt s 3, (valAt s 4, (valAt s 5, (0, ()))))))) else (0, (0, (0, (0, (0, (0, (10, ())))))))) := by
  unfold ethParse_fn ethParse_tree
  by_cases hl : s.length = 17
  case neg => rw [if_neg (fun h => hl h.1)]; exact ev_t (by simp; omega) (ev_r rfl)
  refine ev_f (by simp; omega) ?_
  have hloop : ethParse_loop23_5 (0, (s, (0, (0, (0, (0, (0, (0, (0, (0, (0, (0, (0, (0, ())))))))))))))) = some (if allOk s = true then .inr (0, (0, (0, (0, (0, (0, (valAt s 0, (valAt s 1, (valAt s 2, (valAt s 3, (valAt s 4, (valAt s 5, ())))))))))))) else .inl (10, (0, (0, (0, (0, (0, (0, ())))))))) := by
    show loopO _ (fun x => (ethParse_step23_5 x).eval) 18446744073709551616 (0, (s, (0, (0, (0, (0, (0, (0, (0, (0, (0, (0, (0, (0, ())))))))))))))) = _
    have e : (18446744073709551616 : Nat) = 18446744073709551609 + 1 + 1 + 1 + 1 + 1 + 1 + 1 := by decide
    rw [e]
    unfold allOk
    have r0 := parse_round0 s hl 0 0 0 0 0 0 0 0 0 0 0 0
    cases h0 : okAt s 0 with
    | false => rw [h0] at r0; rw [loopO_out r0]; rfl
    | true =>
    rw [h0] at r0
    rw [loopO_in r0]
    have r1 := parse_round1 s hl 0 0 0 0 0 0 (valAt s 0) 0 0 0 0 0
    cases h1 : okAt s 1 with
    | false => rw [h1] at r1; rw [loopO_out r1]; rfl
    | true =>
    rw [h1] at r1
    rw [loopO_in r1]
    have r2 := parse_round2 s hl 0 0 0 0 0 0 (valAt s 0) (valAt s 1) 0 0 0 0
    cases h2 : okAt s 2 with
    | false => rw [h2] at r2; rw [loopO_out r2]; rfl
    | true =>
    rw [h2] at r2
    rw [loopO_in r2]
    have r3 := parse_round3 s hl 0 0 0 0 0 0 (valAt s 0) (valAt s 1) (valAt s 2) 0 0 0
    cases h3 : okAt s 3 with
    | false => rw [h3] at r3; rw [loopO_out r3]; rfl
    | true =>
    rw [h3] at r3
    rw [loopO_in r3]
    have r4 := parse_round4 s hl 0 0 0 0 0 0 (valAt s 0) (valAt s 1) (valAt s 2) (valAt s 3) 0 0
    cases h4 : okAt s 4 with
    | false => rw [h4] at r4; rw [loopO_out r4]; rfl
    | true =>
    rw [h4] at r4
    rw [loopO_in r4]
    have r5 := parse_round5 s hl 0 0 0 0 0 0 (valAt s 0) (valAt s 1) (valAt s 2) (valAt s 3) (valAt s 4) 0
    cases h5 : okAt s 5 with
    | false => rw [h5] at r5; rw [loopO_out r5]; rfl
    | true =>
    rw [h5] at r5
    rw [loopO_in r5]
    exact loopO_out (ev_f (by decide) (ev_r rfl))
  refine ev_opt hloop ?_
  cases ha : allOk s with
  | true => rw [if_pos rfl, if_pos ⟨hl, rfl⟩]; rfl
  | false => rw [if_neg (by decide), if_neg (fun h => by cases h.2)]; rfl
theorem parse_show {m0 m1 m2 m3 m4 m5 : Int} (h0 : Oct m0) (h1 : Oct m1) (h2 : Oct m2) (h3 : Oct m3) (h4 : Oct m4) (h5 : Oct m5) : ethParse_fn (showL m0 m1 m2 m3 m4 m5, ()) = some (m0, (m1, (m2, (m3, (m4, (m5, (0, ()))))))) := by
  have key : ∀ x : Int, Oct x → dgo (hx (x / 16)) = true ∧ dgo (hx (x % 16)) = true ∧ dv (hx (x / 16)) * 16 + dv (hx (x % 16)) = x := fun x hx' => by
    have a1 := dv_hx' (x := x / 16) (by have := hx'.1; have := hx'.2; omega)
    have a2 := dv_hx' (x := x % 16) (by omega)
    exact ⟨a1.1, a2.1, by rw [a1.2, a2.2]; omega⟩
  obtain ⟨a0, b0, c0⟩ := key m0 h0
  obtain ⟨a1, b1, c1⟩ := key m1 h1
  obtain ⟨a2, b2, c2⟩ := key m2 h2
  obtain ⟨a3, b3, c3⟩ := key m3 h3
  obtain ⟨a4, b4, c4⟩ := key m4 h4
  obtain ⟨a5, b5, c5⟩ := key m5 h5
  have o0 : okAt (showL m0 m1 m2 m3 m4 m5) 0 = true := by show (dgo (hx (m0 / 16)) && (dgo (hx (m0 % 16)) && _)) = true; rw [a0, b0]; rfl
  have w0 : valAt (showL m0 m1 m2 m3 m4 m5) 0 = m0 := c0
  have o1 : okAt (showL m0 m1 m2 m3 m4 m5) 1 = true := by show (dgo (hx (m1 / 16)) && (dgo (hx (m1 % 16)) && _)) = true; rw [a1, b1]; rfl
  have w1 : valAt (showL m0 m1 m2 m3 m4 m5) 1 = m1 := c1
  have o2 : okAt (showL m0 m1 m2 m3 m4 m5) 2 = true := by show (dgo (hx (m2 / 16)) && (dgo (hx (m2 % 16)) && _)) = true; rw [a2, b2]; rfl
  have w2 : valAt (showL m0 m1 m2 m3 m4 m5) 2 = m2 := c2
  have o3 : okAt (showL m0 m1 m2 m3 m4 m5) 3 = true := by show (dgo (hx (m3 / 16)) && (dgo (hx (m3 % 16)) && _)) = true; rw [a3, b3]; rfl
  have w3 : valAt (showL m0 m1 m2 m3 m4 m5) 3 = m3 := c3
  have o4 : okAt (showL m0 m1 m2 m3 m4 m5) 4 = true := by show (dgo (hx (m4 / 16)) && (dgo (hx (m4 % 16)) && _)) = true; rw [a4, b4]; rfl
  have w4 : valAt (showL m0 m1 m2 m3 m4 m5) 4 = m4 := c4
  have o5 : okAt (showL m0 m1 m2 m3 m4 m5) 5 = true := by show (dgo (hx (m5 / 16)) && (dgo (hx (m5 % 16)) && _)) = true; rw [a5, b5]; rfl
  have w5 : valAt (showL m0 m1 m2 m3 m4 m5) 5 = m5 := c5
  rw [parse_fn, if_pos ⟨rfl, by unfold allOk; rw [o0, o1, o2, o3, o4, o5]; rfl⟩, w0, w1, w2, w3, w4, w5]
theorem cons_of {n : Nat} {s : List UInt8} (h : s.length = n + 1) : ∃ x r, s = x :: r ∧ r.length = n := by
  cases s with
  | nil => simp at h
  | cons x r => exact ⟨x, r, rfl, by simpa using h⟩
theorem show_parse {s : List UInt8} (hl : s.length = 17) (ha : allOk s = true) : showL (valAt s 0) (valAt s 1) (valAt s 2) (valAt s 3) (valAt s 4) (valAt s 5) = s := by
  obtain ⟨x0, s1, rfl, hl1⟩ := cons_of hl
  obtain ⟨x1, s2, rfl, hl2⟩ := cons_of hl1
  obtain ⟨x2, s3, rfl, hl3⟩ := cons_of hl2
  obtain ⟨x3, s4, rfl, hl4⟩ := cons_of hl3
  obtain ⟨x4, s5, rfl, hl5⟩ := cons_of hl4
  obtain ⟨x5, s6, rfl, hl6⟩ := cons_of hl5
  obtain ⟨x6, s7, rfl, hl7⟩ := cons_of hl6
  obtain ⟨x7, s8, rfl, hl8⟩ := cons_of hl7
  obtain ⟨x8, s9, rfl, hl9⟩ := cons_of hl8
  obtain ⟨x9, s10, rfl, hl10⟩ := cons_of hl9
  obtain ⟨x10, s11, rfl, hl11⟩ := cons_of hl10
  obtain ⟨x11, s12, rfl, hl12⟩ := cons_of hl11
  obtain ⟨x12, s13, rfl, hl13⟩ := cons_of hl12
  obtain ⟨x13, s14, rfl, hl14⟩ := cons_of hl13
  obtain ⟨x14, s15, rfl, hl15⟩ := cons_of hl14
  obtain ⟨x15, s16, rfl, hl16⟩ := cons_of hl15
  obtain ⟨x16, s17, rfl, hl17⟩ := cons_of hl16
  have : s17 = [] := List.eq_nil_of_length_eq_zero hl17
  subst this
  have key : ∀ a b : UInt8, dgo a = true → dgo b = true → hx ((dv a * 16 + dv b) / 16) = a ∧ hx ((dv a * 16 + dv b) % 16) = b := fun a b ha hb => by
    have h1 := dv_bound a
    have h2 := dv_bound b
    rw [show (dv a * 16 + dv b) / 16 = dv a by omega, show (dv a * 16 + dv b) % 16 = dv b by omega]
    exact ⟨hx_dv' a ha, hx_dv' b hb⟩
  simp only [allOk, okAt, Bool.and_eq_true] at ha
  obtain ⟨k0, k1, k2, k3, k4, k5⟩ := ha
  obtain ⟨p0, q0⟩ := key x0 x1 k0.1 k0.2.1
  obtain ⟨p1, q1⟩ := key x3 x4 k1.1 k1.2.1
  obtain ⟨p2, q2⟩ := key x6 x7 k2.1 k2.2.1
  obtain ⟨p3, q3⟩ := key x9 x10 k3.1 k3.2.1
  obtain ⟨p4, q4⟩ := key x12 x13 k4.1 k4.2.1
  obtain ⟨p5, q5⟩ := key x15 x16 k5.1 k5.2.1
  have c0 : x2 = 58 := by have := k0.2.2; simpa using this
  have c1 : x5 = 58 := by have := k1.2.2; simpa using this
  have c2 : x8 = 58 := by have := k2.2.2; simpa using this
  have c3 : x11 = 58 := by have := k3.2.2; simpa using this
  have c4 : x14 = 58 := by have := k4.2.2; simpa using this
  unfold showL valAt
  show [hx ((dv x0 * 16 + dv x1) / 16), hx ((dv x0 * 16 + dv x1) % 16), 58, hx ((dv x3 * 16 + dv x4) / 16), hx ((dv x3 * 16 + dv x4) % 16), 58, hx ((dv x6 * 16 + dv x7) / 16), hx ((dv x6 * 16 + dv x7) % 16), 58, hx ((dv x9 * 16 + dv x10) / 16), hx ((dv x9 * 16 + dv x10) % 16), 58, hx ((dv x12 * 16 + dv x13) / 16), hx ((dv x12 * 16 + dv x13) % 16), 58, hx ((dv x15 * 16 + dv x16) / 16), hx ((dv x15 * 16 + dv x16) % 16)] = _
  rw [p0, q0, p1, q1, p2, q2, p3, q3, p4, q4, p5, q5, c0, c1, c2, c3, c4]
end Go.Proofs.Ytmnbhoklphakjaa.X
