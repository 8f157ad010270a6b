/- bucket: what Run tells of drops in two goes (towards the law BucketCuts). Conditions: none. -/
import Derived.Test.YtlbmdkclbmcpdaaGBucket
import Derived.Test.YtlbmdkclbmcpdaaPList
import Derived.Test.YtlbmdkclbmcpdaaAbsQ
import Derived.KernelRfl
namespace Go.Proofs.Ytlbmdkclbmcpdaa.X
open Go Go.RowKit Go.Proofs.Ytlbmdkclbmcpdaa.Abs Go.Proofs.Ytlbmdkclbmcpdaa.Bits
set_option linter.unusedVariables false
set_option linter.unnecessarySimpa false
set_option linter.unusedSimpArgs false
set_option maxRecDepth 100000

theorem buLives_ok : buLives_fn () = some (true, ()) := by kernel_rfl
structure Bu where (rate most has at' : Int)
def BOk (b : Bu) : Prop := 0 ≤ b.rate ∧ b.rate ≤ 1000000 ∧ 1 ≤ b.most ∧ b.most ≤ 1000000000 ∧ 0 ≤ b.has ∧ b.has ≤ b.most ∧ 0 ≤ b.at' ∧ b.at' ≤ 1099511627776
theorem buCheck_ex (b : Bu) : ∃ c : Int, buCheck_fn (b.rate, (b.most, (b.has, (b.at', ())))) = some (c, ()) ∧ (c = 0 ↔ BOk b) := by
  unfold buCheck_fn buCheck_tree
  have no : ∀ {c : Int}, c ≠ 0 → ¬ BOk b → (c = 0 ↔ BOk b) := fun h1 h2 => ⟨fun h => absurd h h1, fun h => absurd h h2⟩
  by_cases h1 : b.rate < 0
  · exact ⟨1, ev_t (by simpa using h1) (ev_r rfl), no (by decide) fun h => by have := h.1; omega⟩
  by_cases h2 : 1000000 < b.rate
  · exact ⟨1, ev_f (by simpa using h1) (ev_t (by simpa using h2) (ev_r rfl)), no (by decide) fun h => by have := h.2.1; omega⟩
  by_cases h3 : b.most < 1
  · exact ⟨1, ev_f (by simpa using h1) (ev_f (by simpa using h2) (ev_t (by simpa using h3) (ev_r rfl))), no (by decide) fun h => by have := h.2.2.1; omega⟩
  by_cases h4 : 1000000000 < b.most
  · exact ⟨1, ev_f (by simpa using h1) (ev_f (by simpa using h2) (ev_f (by simpa using h3) (ev_t (by simpa using h4) (ev_r rfl)))), no (by decide) fun h => by have := h.2.2.2.1; omega⟩
  by_cases h5 : b.has < 0
  · exact ⟨4, ev_f (by simpa using h1) (ev_f (by simpa using h2) (ev_f (by simpa using h3) (ev_f (by simpa using h4) (ev_t (by simpa using h5) (ev_r rfl))))), no (by decide) fun h => by have := h.2.2.2.2.1; omega⟩
  by_cases h6 : b.most < b.has
  · exact ⟨4, ev_f (by simpa using h1) (ev_f (by simpa using h2) (ev_f (by simpa using h3) (ev_f (by simpa using h4) (ev_f (by simpa using h5) (ev_t (by simpa using h6) (ev_r rfl)))))), no (by decide) fun h => by have := h.2.2.2.2.2.1; omega⟩
  by_cases h7 : b.at' < 0
  · exact ⟨4, ev_f (by simpa using h1) (ev_f (by simpa using h2) (ev_f (by simpa using h3) (ev_f (by simpa using h4) (ev_f (by simpa using h5) (ev_f (by simpa using h6) (ev_t (by simpa using h7) (ev_r rfl))))))), no (by decide) fun h => by have := h.2.2.2.2.2.2.1; omega⟩
  by_cases h8 : 1099511627776 < b.at'
  · exact ⟨4, ev_f (by simpa using h1) (ev_f (by simpa using h2) (ev_f (by simpa using h3) (ev_f (by simpa using h4) (ev_f (by simpa using h5) (ev_f (by simpa using h6) (ev_f (by simpa using h7) (ev_t (by simpa using h8) (ev_r rfl)))))))), no (by decide) fun h => by have := h.2.2.2.2.2.2.2; omega⟩
  exact ⟨0, ev_f (by simpa using h1) (ev_f (by simpa using h2) (ev_f (by simpa using h3) (ev_f (by simpa using h4) (ev_f (by simpa using h5) (ev_f (by simpa using h6) (ev_f (by simpa using h7) (ev_f (by simpa using h8) (ev_r rfl)))))))), ⟨fun _ => ⟨by omega, by omega, by omega, by omega, by omega, by omega, by omega, by omega⟩, fun _ => rfl⟩⟩
theorem wrap_mid (x : Int) (h : -4611686018427387904 ≤ x ∧ x ≤ 4611686018427387904) : IntKind.wrap IntKind.i64 x = x := by
  simp [IntKind.wrap, IntKind.bits, IntKind.signed]
  split <;> omega

def tick (b : Bu) (now : Int) : Int := if 1000000000 < now - b.at' then 1000000000 else now - b.at'
def lev (b : Bu) (now : Int) : Int := if b.has + b.rate * tick b now < b.most then b.has + b.rate * tick b now else b.most
theorem lev_fn {b : Bu} (hb : BOk b) {now : Int} (h0 : b.at' ≤ now) (h1 : now ≤ 1099511627785) : buLev_fn (b.rate, (b.most, (b.has, (b.at', (now, ()))))) = some (lev b now, ()) := by
  obtain ⟨r1, r2, m1, m2, s1, s2, t1, t2⟩ := hb
  have ht : 0 ≤ tick b now ∧ tick b now ≤ 1000000000 := by unfold tick; split <;> omega
  have hp0 : 0 ≤ b.rate * tick b now := Int.mul_nonneg r1 ht.1
  have hp1 : b.rate * tick b now ≤ 1000000 * 1000000000 := Int.mul_le_mul r2 ht.2 ht.1 (by decide)
  unfold buLev_fn buLev_tree
  refine ev_r ?_
  have w1 : IntKind.wrap IntKind.i64 (now - b.at') = now - b.at' := wrap_mid _ (by omega)
  have e1 : (if (1000000000 : Int) < now - b.at' then (1000000000 : Int) else now - b.at') = tick b now := rfl
  simp only [w1, if_true, e1]
  have w2 : IntKind.wrap IntKind.i64 (b.rate * tick b now) = b.rate * tick b now := wrap_mid _ (by omega)
  simp only [w2]
  have w3 : IntKind.wrap IntKind.i64 (b.has + b.rate * tick b now) = b.has + b.rate * tick b now := wrap_mid _ (by omega)
  simp only [w3]
  rfl
theorem lev_bound {b : Bu} (hb : BOk b) {now : Int} (h0 : b.at' ≤ now) : 0 ≤ lev b now ∧ lev b now ≤ b.most := by
  obtain ⟨r1, r2, m1, m2, s1, s2, t1, t2⟩ := hb
  have ht : 0 ≤ tick b now := by unfold tick; split <;> omega
  have hp0 : 0 ≤ b.rate * tick b now := Int.mul_nonneg r1 ht
  unfold lev
  split <;> omega
/-- A level in two goes. -/
theorem lev_two {b : Bu} (hb : BOk b) {now : Int} (h0 : b.at' ≤ now) : lev ⟨b.rate, b.most, lev b now, now⟩ (now + 9) = lev b (now + 9) := by
  obtain ⟨r1, r2, m1, m2, s1, s2, t1, t2⟩ := hb
  have e9 : ∀ L : Int, tick ⟨b.rate, b.most, L, now⟩ (now + 9) = 9 := fun L => by unfold tick; simp only; rw [if_neg (by omega)]; omega
  have h2 : tick b (now + 9) = if 1000000000 < now + 9 - b.at' then 1000000000 else now + 9 - b.at' := rfl
  have h1 : tick b now = if 1000000000 < now - b.at' then 1000000000 else now - b.at' := rfl
  have e0 : lev ⟨b.rate, b.most, lev b now, now⟩ (now + 9) = if lev b now + b.rate * tick ⟨b.rate, b.most, lev b now, now⟩ (now + 9) < b.most then lev b now + b.rate * tick ⟨b.rate, b.most, lev b now, now⟩ (now + 9) else b.most := rfl
  rw [e0, e9]
  unfold lev
  by_cases hr : b.rate = 0
  · rw [hr]; simp only [Int.zero_mul]; (repeat' split) <;> omega
  · have hr1 : 1 ≤ b.rate := by omega
    have big : ∀ T : Int, 1000000000 ≤ T → b.most ≤ b.rate * T := fun T hT => by
      have := Int.mul_le_mul hr1 hT (by omega) r1
      omega
    have hmul : b.rate * (tick b now + 9) = b.rate * tick b now + b.rate * 9 := Int.mul_add _ _ _
    have h9 : 0 ≤ b.rate * 9 := by omega
    by_cases c1 : 1000000000 < now + 9 - b.at'
    · rw [h2, if_pos c1]
      have b2 := big 1000000000 (Int.le_refl _)
      have b1 : b.most ≤ b.rate * (tick b now + 9) := big _ (by rw [h1]; split <;> omega)
      rw [hmul] at b1
      (repeat' split) <;> omega
    · have e : tick b (now + 9) = tick b now + 9 := by rw [h2, if_neg c1, h1, if_neg (by omega)]; omega
      rw [e, hmul]
      (repeat' split) <;> omega

abbrev TK := Int × (Int × (Int × (Int × (Bool × (Int × Unit)))))
def tkOk (b : Bu) (now n : Int) : Prop := BOk b ∧ b.at' ≤ now ∧ now ≤ 1099511627776 ∧ 0 ≤ n ∧ n ≤ 1000000000
def tkR (b : Bu) (now n : Int) : Bu × Bool := if lev b now < n then (⟨b.rate, b.most, lev b now, now⟩, false) else (⟨b.rate, b.most, lev b now - n, now⟩, true)
theorem take_ok {b : Bu} {now n : Int} (h : tkOk b now n) : buTake_fn (b.rate, (b.most, (b.has, (b.at', (now, (n, ())))))) = some ((tkR b now n).1.rate, ((tkR b now n).1.most, ((tkR b now n).1.has, ((tkR b now n).1.at', ((tkR b now n).2, (0, ())))))) := by
  obtain ⟨hb, h1, h2, h3, h4⟩ := h
  obtain ⟨c, hc, hc0⟩ := buCheck_ex b
  have l1 := lev_bound hb h1
  have hm := hb.2.2.2.1
  unfold buTake_fn buTake_tree tkR
  refine ev_opt hc (ev_f (by simp [hc0.2 hb]) (ev_f (by simp; omega) (ev_f (by simp; omega) (ev_f (by simp; omega) (ev_f (by simp; omega) (ev_opt (lev_fn hb h1 (by omega)) ?_))))))
  by_cases hn : lev b now < n
  · rw [if_pos hn]; exact ev_t (by simpa using hn) (ev_r rfl)
  · rw [if_neg hn]; exact ev_f (by simpa using hn) (ev_r (by rw [wrap_mid _ (by omega)]))
theorem take_bad {b : Bu} {now n : Int} (h : ¬ tkOk b now n) : ∃ e : Int, e ≠ 0 ∧ buTake_fn (b.rate, (b.most, (b.has, (b.at', (now, (n, ())))))) = some (0, (0, (0, (0, (false, (e, ())))))) := by
  obtain ⟨c, hc, hc0⟩ := buCheck_ex b
  unfold buTake_fn buTake_tree
  by_cases hb : c = 0
  case neg => exact ⟨c, hb, ev_opt hc (ev_t (by simpa using hb) (ev_r rfl))⟩
  have hB := hc0.1 hb
  by_cases h1 : now < b.at'
  · exact ⟨1, by decide, ev_opt hc (ev_f (by simp [hb]) (ev_t (by simpa using h1) (ev_r rfl)))⟩
  by_cases h2 : 1099511627776 < now
  · exact ⟨1, by decide, ev_opt hc (ev_f (by simp [hb]) (ev_f (by simpa using h1) (ev_t (by simpa using h2) (ev_r rfl))))⟩
  by_cases h3 : n < 0
  · exact ⟨1, by decide, ev_opt hc (ev_f (by simp [hb]) (ev_f (by simpa using h1) (ev_f (by simpa using h2) (ev_t (by simpa using h3) (ev_r rfl)))))⟩
  by_cases h4 : 1000000000 < n
  · exact ⟨1, by decide, ev_opt hc (ev_f (by simp [hb]) (ev_f (by simpa using h1) (ev_f (by simpa using h2) (ev_f (by simpa using h3) (ev_t (by simpa using h4) (ev_r rfl))))))⟩
  exact absurd ⟨hB, by omega, by omega, by omega, by omega⟩ h
theorem tk_bok {b : Bu} {now n : Int} (h : tkOk b now n) : BOk (tkR b now n).1 := by
  obtain ⟨hb, h1, h2, h3, h4⟩ := h
  have l1 := lev_bound hb h1
  obtain ⟨r1, r2, m1, m2, s1, s2, t1, t2⟩ := hb
  unfold tkR
  split
  · exact ⟨r1, r2, m1, m2, l1.1, l1.2, by show 0 ≤ now; omega, h2⟩
  · exact ⟨r1, r2, m1, m2, by show 0 ≤ lev b now - n; omega, by show lev b now - n ≤ b.most; omega, by show 0 ≤ now; omega, h2⟩
end Go.Proofs.Ytlbmdkclbmcpdaa.X
