/- The laws of rules that speak of covering, in plain terms. Conditions: none. -/
import Derived.Test.YtlbmdkclbmcpdaaPRulesL
namespace Go.Proofs.Ytlbmdkclbmcpdaa.X
open Go Go.RowKit Go.Proofs.Ytlbmdkclbmcpdaa.Abs Go.Proofs.Ytlbmdkclbmcpdaa.Bits
set_option linter.unusedVariables false
set_option linter.unusedSimpArgs false

def AdB (x : Int) : Prop := 0 ≤ x ∧ x ≤ 4294967295
def Ad (r : TRule) : Prop := AdB r.fromAddr ∧ AdB r.toAddr
theorem has_iff {a l x : Int} (ha : AdB a) (hx : AdB x) (hl : 0 ≤ l ∧ l ≤ 32) : hasB a l x = true ↔ x.toNat / 2 ^ (32 - l.toNat) = a.toNat / 2 ^ (32 - l.toNat) := by
  obtain ⟨a, rfl⟩ := Int.eq_ofNat_of_zero_le ha.1
  obtain ⟨x, rfl⟩ := Int.eq_ofNat_of_zero_le hx.1
  obtain ⟨l, rfl⟩ := Int.eq_ofNat_of_zero_le hl.1
  have ha' : a < 2 ^ 32 := by have := ha.2; omega
  have hx' : x < 2 ^ 32 := by have := hx.2; omega
  have hl' : l ≤ 32 := by have := hl.2; omega
  unfold hasB
  have hxor : x ^^^ a < 2 ^ 32 := Nat.xor_lt_two_pow hx' ha'
  rw [bits_xor_nat .u32 x a (by show x < 2 ^ 32; omega) (by show a < 2 ^ 32; omega) (fun h => by cases h), wrap64u, wrap_small _ (by omega) (by omega)]
  have e1 : (((x ^^^ a : Nat) : Int) % 18446744073709551616) = ((x ^^^ a : Nat) : Int) := by omega
  have e2 : min (Int.toNat ((32 : Int) - (l : Int))) 64 = 32 - l := by omega
  rw [e1, e2, fdiv_pos _ (Int.le_of_lt (Int.pow_pos (by decide)))]
  simp only [Int.toNat_natCast, decide_eq_true_eq]
  have e3 : ((x ^^^ a : Nat) : Int) / (2 : Int) ^ (32 - l) = (((x ^^^ a) / 2 ^ (32 - l) : Nat) : Int) := by push_cast; rfl
  rw [e3]
  have e4 : (x ^^^ a) / 2 ^ (32 - l) = (x / 2 ^ (32 - l)) ^^^ (a / 2 ^ (32 - l)) := by
    rw [← Nat.shiftRight_eq_div_pow, ← Nat.shiftRight_eq_div_pow, ← Nat.shiftRight_eq_div_pow, Nat.shiftRight_xor_distrib]
  rw [e4]
  generalize x / 2 ^ (32 - l) = u
  generalize a / 2 ^ (32 - l) = v
  constructor
  · intro h
    have h : u ^^^ v = 0 := by omega
    have := congrArg (· ^^^ v) h
    simpa [Nat.xor_assoc] using this
  · rintro rfl; simp
theorem div_up {x y p q : Nat} (h : x / 2 ^ p = y / 2 ^ p) (hpq : p ≤ q) : x / 2 ^ q = y / 2 ^ q := by
  obtain ⟨d, rfl⟩ := Nat.exists_eq_add_of_le hpq
  rw [Nat.pow_add, ← Nat.div_div_eq_div_mul, ← Nat.div_div_eq_div_mul, h]
theorem within_has {a al b bl x : Int} (ha : AdB a) (hb : AdB b) (hx : AdB x) (hal : 0 ≤ al ∧ al ≤ 32) (hbl : 0 ≤ bl ∧ bl ≤ 32) (h : withinB a al b bl = true) (h2 : hasB b bl x = true) : hasB a al x = true := by
  simp only [withinB, Bool.and_eq_true, decide_eq_true_eq] at h
  rw [has_iff ha hb hal] at h
  rw [has_iff hb hx hbl] at h2
  rw [has_iff ha hx hal, ← h.2]
  exact div_up h2 (by have := h.1; omega)
theorem within_trans {a al b bl c cl : Int} (ha : AdB a) (hb : AdB b) (hc : AdB c) (hal : 0 ≤ al ∧ al ≤ 32) (hbl : 0 ≤ bl ∧ bl ≤ 32) (h : withinB a al b bl = true) (h2 : withinB b bl c cl = true) : withinB a al c cl = true := by
  have h3 := h2
  have h1 := h
  simp only [withinB, Bool.and_eq_true, decide_eq_true_eq] at h3 h1 ⊢
  exact ⟨by omega, within_has ha hb hc hal hbl h h3.2⟩
theorem within_refl {a al : Int} (ha : AdB a) (hal : 0 ≤ al ∧ al ≤ 32) : withinB a al a al = true := by
  simp only [withinB, Bool.and_eq_true, decide_eq_true_eq, has_iff ha ha hal]
  exact ⟨by omega, trivial⟩
theorem covers_refl {a : TRule} (h : rightB a = true) (ha : Ad a) : coversB a a = true := by
  obtain ⟨h1, h2, h3, h4⟩ := right_long h
  simp [coversB, within_refl ha.1 ⟨h1, h2⟩, within_refl ha.2 ⟨h3, h4⟩]
theorem covers_trans {a b c : TRule} (ha : rightB a = true) (hb : rightB b = true) (da : Ad a) (db : Ad b) (dc : Ad c) (h : coversB a b = true) (h2 : coversB b c = true) : coversB a c = true := by
  obtain ⟨h1, h2', h3, h4⟩ := right_long ha
  obtain ⟨k1, k2, k3, k4⟩ := right_long hb
  simp only [coversB, Bool.and_eq_true, Bool.or_eq_true, decide_eq_true_eq] at h h2 ⊢
  exact ⟨within_trans da.1 db.1 dc.1 ⟨h1, h2'⟩ ⟨k1, k2⟩ h.1 h2.1, within_trans da.2 db.2 dc.2 ⟨h3, h4⟩ ⟨k3, k4⟩ h.2.1 h2.2.1, by omega⟩
theorem covers_meets {a b : TRule} {f1 f2 f3 f4 f5 : Int} (ha : rightB a = true) (hb : rightB b = true) (da : Ad a) (db : Ad b) (d1 : AdB f1) (d2 : AdB f2) (h : coversB a b = true) (h2 : meetsB f1 f2 f3 f4 f5 b = true) : meetsB f1 f2 f3 f4 f5 a = true := by
  obtain ⟨h1, h2', h3, h4⟩ := right_long ha
  obtain ⟨k1, k2, k3, k4⟩ := right_long hb
  simp only [coversB, meetsB, Bool.and_eq_true, Bool.or_eq_true, decide_eq_true_eq] at h h2 ⊢
  exact ⟨within_has da.1 db.1 d1 ⟨h1, h2'⟩ ⟨k1, k2⟩ h.1 h2.1, within_has da.2 db.2 d2 ⟨h3, h4⟩ ⟨k3, k4⟩ h.2.1 h2.2.1, by omega⟩

theorem covers_fn (a b : TRule) : ruCovers_fn (a.fromAddr, (a.fromLong, (a.toAddr, (a.toLong, (a.proto, (a.fromLow, (a.fromHigh, (a.toLow, (a.toHigh, (a.pass, (b.fromAddr, (b.fromLong, (b.toAddr, (b.toLong, (b.proto, (b.fromLow, (b.fromHigh, (b.toLow, (b.toHigh, (b.pass, ())))))))))))))))))))) = some (if chk [a, b] = 0 then coversB a b else false, (chk [a, b], ())) := by
  unfold ruCovers_fn ruCovers_tree
  refine ev_opt (check_fn [a, b]) ?_
  by_cases h : chk [a, b] = 0
  · rw [if_pos h]
    have := (chk_zero.1 h).2
    exact ev_f (by simpa using h) (ev_opt (covers0_fn a b (this a (by simp))) (ev_r (by rw [h])))
  · rw [if_neg h]
    exact ev_t (by simpa using h) (ev_r rfl)
theorem cover_law (a b c : TRule) (f1 f2 f3 f4 f5 : Int) (da : Ad a) (db : Ad b) (dc : Ad c) (d1 : AdB f1) (d2 : AdB f2) :
    (rulesCover_tree (a.fromAddr, (a.fromLong, (a.toAddr, (a.toLong, (a.proto, (a.fromLow, (a.fromHigh, (a.toLow, (a.toHigh, (a.pass, (b.fromAddr, (b.fromLong, (b.toAddr, (b.toLong, (b.proto, (b.fromLow, (b.fromHigh, (b.toLow, (b.toHigh, (b.pass, (c.fromAddr, (c.fromLong, (c.toAddr, (c.toLong, (c.proto, (c.fromLow, (c.fromHigh, (c.toLow, (c.toHigh, (c.pass, (f1, (f2, (f3, (f4, (f5, ())))))))))))))))))))))))))))))))))))).eval = some (true, ()) := by
  unfold rulesCover_tree
  refine ev_opt (covers_fn a b) (ev_opt (covers_fn b c) (ev_opt (covers_fn a c) (ev_opt rulesLives_ok (ev_f rfl ?_))))
  refine ev_ite (fun _ => ev_opt rulesLives_ok (ev_r rfl)) fun h1 => ev_ite (fun _ => ev_opt rulesLives_ok (ev_r rfl)) fun h2 => ev_ite (fun _ => ev_opt rulesLives_ok (ev_r rfl)) fun h3 => ?_
  have h1 : chk [a, b] = 0 := by simpa using h1
  have h2 : chk [b, c] = 0 := by simpa using h2
  have h3 : chk [a, c] = 0 := by simpa using h3
  have ra : rightB a = true := (chk_zero.1 h1).2 a (by simp)
  have rb : rightB b = true := (chk_zero.1 h1).2 b (by simp)
  have one : ∀ r : TRule, rightB r = true → chk [r] = 0 := fun r hr => chk_zero.2 ⟨by simp, by simpa using hr⟩
  have haa : chk [a, a] = 0 := chk_zero.2 ⟨by simp, by simpa using ra⟩
  rw [if_pos h1, if_pos h2, if_pos h3]
  refine ev_opt (covers_fn a a) (ev_opt (decide_fn [a] f1 f2 f3 f4 f5 false) (ev_opt (decide_fn [b] f1 f2 f3 f4 f5 false) ?_))
  rw [if_pos haa]
  refine ev_t (covers_refl ra da) ?_
  have tail : ∀ (T : Tr (Bool × Unit)), T = .ite (!decide ((dec [b] (meetsB f1 f2 f3 f4 f5) (badB f3 f4 f5) false).2.2.1 = (0 : Int))) (
         .ret (true, ())) (
         .ite (!coversB a b) (
          .ret (true, ())) (
          .ite (!decide ((dec [b] (meetsB f1 f2 f3 f4 f5) (badB f3 f4 f5) false).2.1 = (0 : Int))) (
           .ret (true, ())) (
           .ret (decide ((dec [a] (meetsB f1 f2 f3 f4 f5) (badB f3 f4 f5) false).2.1 = (0 : Int)), ())))) → T.eval = some (true, ()) := by
    rintro T rfl
    refine ev_ite (fun _ => ev_r rfl) fun g1 => ev_ite (fun _ => ev_r rfl) fun g2 => ev_ite (fun _ => ev_r rfl) fun g3 => ev_r ?_
    have g1 : (dec [b] (meetsB f1 f2 f3 f4 f5) (badB f3 f4 f5) false).2.2.1 = 0 := by simpa using g1
    have g2 : coversB a b = true := by simpa using g2
    have g3 : (dec [b] (meetsB f1 f2 f3 f4 f5) (badB f3 f4 f5) false).2.1 = 0 := by simpa using g3
    unfold dec at g1 g3 ⊢
    rw [if_pos (one b rb)] at g1 g3
    rw [if_pos (one a ra)]
    cases hbad : badB f3 f4 f5 with
    | true => rw [hbad] at g1; exact absurd g1 (by simp)
    | false =>
      rw [hbad] at g1 g3
      simp only [Bool.false_eq_true, if_false, hit] at g3 ⊢
      cases hb : meetsB f1 f2 f3 f4 f5 b with
      | false => rw [hb] at g3; simp at g3
      | true => rw [covers_meets ra rb da db d1 d2 g2 hb]; simp
  refine ev_ite (fun _ => tail _ rfl) fun g1 => ev_ite (fun _ => tail _ rfl) fun g2 => ev_t ?_ (tail _ rfl)
  exact covers_trans ra rb da db dc (by simpa using g1) (by simpa using g2)
theorem rulesCover_true {a0 a1 a2 a3 a4 a5 a6 a7 a8 : Int} {a9 : Bool} {b0 b1 b2 b3 b4 b5 b6 b7 b8 : Int} {b9 : Bool} {c0 c1 c2 c3 c4 c5 c6 c7 c8 : Int} {c9 : Bool} {f0 f1 f2 f3 f4 : Int}
    (ha0 : 0 ≤ a0 ∧ a0 ≤ 4294967295) (ha1 : -9223372036854775808 ≤ a1 ∧ a1 ≤ 9223372036854775807) (ha2 : 0 ≤ a2 ∧ a2 ≤ 4294967295) (ha3 : -9223372036854775808 ≤ a3 ∧ a3 ≤ 9223372036854775807) (ha4 : -9223372036854775808 ≤ a4 ∧ a4 ≤ 9223372036854775807) (ha5 : -9223372036854775808 ≤ a5 ∧ a5 ≤ 9223372036854775807) (ha6 : -9223372036854775808 ≤ a6 ∧ a6 ≤ 9223372036854775807) (ha7 : -9223372036854775808 ≤ a7 ∧ a7 ≤ 9223372036854775807) (ha8 : -9223372036854775808 ≤ a8 ∧ a8 ≤ 9223372036854775807)
    (hb0 : 0 ≤ b0 ∧ b0 ≤ 4294967295) (hb1 : -9223372036854775808 ≤ b1 ∧ b1 ≤ 9223372036854775807) (hb2 : 0 ≤ b2 ∧ b2 ≤ 4294967295) (hb3 : -9223372036854775808 ≤ b3 ∧ b3 ≤ 9223372036854775807) (hb4 : -9223372036854775808 ≤ b4 ∧ b4 ≤ 9223372036854775807) (hb5 : -9223372036854775808 ≤ b5 ∧ b5 ≤ 9223372036854775807) (hb6 : -9223372036854775808 ≤ b6 ∧ b6 ≤ 9223372036854775807) (hb7 : -9223372036854775808 ≤ b7 ∧ b7 ≤ 9223372036854775807) (hb8 : -9223372036854775808 ≤ b8 ∧ b8 ≤ 9223372036854775807)
    (hc0 : 0 ≤ c0 ∧ c0 ≤ 4294967295) (hc1 : -9223372036854775808 ≤ c1 ∧ c1 ≤ 9223372036854775807) (hc2 : 0 ≤ c2 ∧ c2 ≤ 4294967295) (hc3 : -9223372036854775808 ≤ c3 ∧ c3 ≤ 9223372036854775807) (hc4 : -9223372036854775808 ≤ c4 ∧ c4 ≤ 9223372036854775807) (hc5 : -9223372036854775808 ≤ c5 ∧ c5 ≤ 9223372036854775807) (hc6 : -9223372036854775808 ≤ c6 ∧ c6 ≤ 9223372036854775807) (hc7 : -9223372036854775808 ≤ c7 ∧ c7 ≤ 9223372036854775807) (hc8 : -9223372036854775808 ≤ c8 ∧ c8 ≤ 9223372036854775807)
    (hf0 : 0 ≤ f0 ∧ f0 ≤ 4294967295) (hf1 : 0 ≤ f1 ∧ f1 ≤ 4294967295) (hf2 : -9223372036854775808 ≤ f2 ∧ f2 ≤ 9223372036854775807) (hf3 : -9223372036854775808 ≤ f3 ∧ f3 ≤ 9223372036854775807) (hf4 : -9223372036854775808 ≤ f4 ∧ f4 ≤ 9223372036854775807) :
    (rulesCover_tree (a0, (a1, (a2, (a3, (a4, (a5, (a6, (a7, (a8, (a9, (b0, (b1, (b2, (b3, (b4, (b5, (b6, (b7, (b8, (b9, (c0, (c1, (c2, (c3, (c4, (c5, (c6, (c7, (c8, (c9, (f0, (f1, (f2, (f3, (f4, ())))))))))))))))))))))))))))))))))))).eval = some (true, ()) :=
  cover_law ⟨a0, a1, a2, a3, a4, a5, a6, a7, a8, a9⟩ ⟨b0, b1, b2, b3, b4, b5, b6, b7, b8, b9⟩ ⟨c0, c1, c2, c3, c4, c5, c6, c7, c8, c9⟩ f0 f1 f2 f3 f4 ⟨ha0, ha2⟩ ⟨hb0, hb2⟩ ⟨hc0, hc2⟩ hf0 hf1
end Go.Proofs.Ytlbmdkclbmcpdaa.X
