/- The law BucketCuts, in plain terms. Conditions: none. -/
import Derived.Test.YtlbmdkclbmcpdaaPBucketD
namespace Go.Proofs.Ytlbmdkclbmcpdaa.X
open Go Go.RowKit Go.Proofs.Ytlbmdkclbmcpdaa.Abs Go.Proofs.Ytlbmdkclbmcpdaa.Bits
set_option linter.unusedVariables false
set_option linter.unnecessarySimpa false
set_option linter.unusedSimpArgs false
set_option maxRecDepth 100000

theorem level_fn (b : Bu) (now : Int) : ∃ v e, buLevel_fn (b.rate, (b.most, (b.has, (b.at', (now, ()))))) = some (v, (e, ())) ∧ (BOk b → b.at' ≤ now → now ≤ 1099511627776 → v = lev b now ∧ e = 0) ∧ (BOk b → b.at' ≤ now → ¬ now ≤ 1099511627776 → v = 0 ∧ e = 1) := by
  obtain ⟨c, hc, hc0⟩ := buCheck_ex b
  unfold buLevel_fn buLevel_tree
  by_cases hb : c = 0
  case neg => exact ⟨0, c, ev_opt hc (ev_t (by simpa using hb) (ev_r rfl)), fun h => absurd (hc0.2 h) hb, fun h => absurd (hc0.2 h) hb⟩
  by_cases h1 : now < b.at'
  · exact ⟨0, 1, ev_opt hc (ev_f (by simp [hb]) (ev_t (by simpa using h1) (ev_r rfl))), fun _ h => by omega, fun _ h => by omega⟩
  by_cases h2 : 1099511627776 < now
  · exact ⟨0, 1, ev_opt hc (ev_f (by simp [hb]) (ev_f (by simpa using h1) (ev_t (by simpa using h2) (ev_r rfl)))), fun _ _ h => by omega, fun _ _ _ => ⟨rfl, rfl⟩⟩
  · exact ⟨_, 0, ev_opt hc (ev_f (by simp [hb]) (ev_f (by simpa using h1) (ev_f (by simpa using h2) (ev_opt (lev_fn (hc0.1 hb) (by omega) (by omega)) (ev_r rfl))))), fun _ _ _ => ⟨rfl, rfl⟩, fun _ _ h => by omega⟩
theorem cuts_law (b : Bu) (l m : List TDrop) (now : Int) (hl : l.length ≤ 1048576) (hm : m.length ≤ 1048576) (hnow : -9223372036854775808 ≤ now ∧ now ≤ 9223372036854775807) : (bucketCuts_tree (b.rate, (b.most, (b.has, (b.at', (l, (m, (now, ())))))))).eval = some (true, ()) := by
  unfold bucketCuts_tree
  have g1 : decide (((0 : Nat) + l.length) * (16 : Nat) ≤ (140737488355328 : Nat) ∧ (0 : Nat) + l.length ≤ (9223372036854775807 : Nat)) = true := by simp; omega
  have g2 : decide ((l.length + m.length) * (16 : Nat) ≤ (140737488355328 : Nat) ∧ l.length + m.length ≤ (9223372036854775807 : Nat)) = true := by simp; omega
  have r3 : ∃ z, buRun_fn (b.rate, (b.most, (b.has, (b.at', (l ++ m, ()))))) = some z := by
    rcases run_fn b (l ++ m) with ⟨_, _, _, _, _, h⟩ | ⟨_, _, _, h⟩ <;> exact ⟨_, h⟩
  rcases run_fn b l with ⟨hb, hl5, x, p, hx, e1⟩ | ⟨hno, e, he, e1⟩
  case inr =>
    obtain ⟨z, hz⟩ := r3
    have r2 : ∃ y, buRun_fn (0, (0, (0, (0, (m, ()))))) = some y := by
      rcases run_fn ⟨0, 0, 0, 0⟩ m with ⟨_, _, _, _, _, h⟩ | ⟨_, _, _, h⟩ <;> exact ⟨_, h⟩
    obtain ⟨y, hy⟩ := r2
    exact ev_opt e1 (ev_opt hy (ev_g g1 (ev_g g2 (ev_opt hz (ev_opt buLives_ok (ev_f rfl (ev_t (by simpa using he) (ev_opt buLives_ok (ev_r rfl)))))))))
  rcases run_fn x m with ⟨hxo, hm5, y, q, hy, e2⟩ | ⟨hno, e, he, e2⟩
  case inr =>
    obtain ⟨z, hz⟩ := r3
    exact ev_opt e1 (ev_opt e2 (ev_g g1 (ev_g g2 (ev_opt hz (ev_opt buLives_ok (ev_f rfl (ev_f rfl (ev_t (by simpa using he) (ev_opt buLives_ok (ev_r rfl))))))))))
  have hyo := (hy.ok hxo).1
  have hql := (hy.ok hxo).2
  have hpl := (hx.ok hb).2
  have w : IntKind.wrap IntKind.i64 ((l.length : Int) + (m.length : Int)) = ((l.length + m.length : Nat) : Int) := by rw [wrap_mid _ (by omega)]; omega
  have happ : Rn b [] (l ++ m) y (p ++ q) := hx.app (by have := hy.pre p; simpa using this)
  rcases run_fn b (l ++ m) with ⟨_, h5, z, s, hz, e3⟩ | ⟨hno, e, he, e3⟩
  case inr =>
    have h5 : ¬ (l ++ m).length ≤ 500 := fun h => hno ⟨hb, h, y, p ++ q, happ⟩
    simp at h5
    exact ev_opt e1 (ev_opt e2 (ev_g g1 (ev_g g2 (ev_opt e3 (ev_opt buLives_ok (ev_f rfl (ev_f rfl (ev_f rfl (ev_t (by rw [w]; simp; omega) (ev_opt buLives_ok (ev_r rfl)))))))))))
  obtain ⟨rfl, rfl⟩ := happ.fn hz
  simp at h5 hql hpl
  refine ev_opt e1 (ev_opt e2 (ev_g g1 (ev_g g2 (ev_opt e3 (ev_opt buLives_ok (ev_f rfl (ev_f rfl (ev_f rfl (ev_f (by rw [w]; simp; omega) (ev_f rfl (ev_f (by simp) (ev_g (by simp; omega) (ev_g (by simp; omega) (ev_opt (eqBool_self (p ++ q) (by simp; omega)) (ev_f rfl ?_)))))))))))))))
  by_cases hk : tkOk y now 0
  case neg =>
    obtain ⟨e, he, h⟩ := take_bad hk
    exact ev_opt h (ev_t (by simpa using he) (ev_r rfl))
  obtain ⟨_, k1, k2, _, _⟩ := hk
  have hk : tkOk y now 0 := ⟨hyo, k1, k2, by omega, by omega⟩
  have lb := lev_bound hyo k1
  have ht : tkR y now 0 = (⟨y.rate, y.most, lev y now, now⟩, true) := by unfold tkR; rw [if_neg (by omega), Int.sub_zero]
  have hw9 : IntKind.wrap IntKind.i64 (now + 9) = now + 9 := wrap_mid _ (by have := hyo.2.2.2.2.2.2.1; omega)
  have hto := tk_bok hk
  have htk := take_ok hk
  rw [ht] at hto htk
  obtain ⟨v1, i1, f1, a1, a2⟩ := level_fn y (now + 9)
  obtain ⟨v2, i2, f2, c1, c2⟩ := level_fn ⟨y.rate, y.most, lev y now, now⟩ (now + 9)
  have h9 := lev_two hyo k1
  refine ev_opt htk (ev_f rfl ?_)
  rw [hw9]
  have eq : i1 = i2 ∧ v1 = v2 := by
    by_cases hn : now + 9 ≤ 1099511627776
    · obtain ⟨x1, x2⟩ := a1 hyo (by omega) hn
      obtain ⟨x3, x4⟩ := c1 hto (by show now ≤ now + 9; omega) hn
      exact ⟨by rw [x2, x4], by rw [x1, x3, h9]⟩
    · obtain ⟨x1, x2⟩ := a2 hyo (by omega) hn
      obtain ⟨x3, x4⟩ := c2 hto (by show now ≤ now + 9; omega) hn
      exact ⟨by rw [x2, x4], by rw [x1, x3]⟩
  exact ev_opt f1 (ev_opt f2 (ev_t rfl (ev_t (by rw [eq.1]; simp) (ev_r (by rw [eq.2]; simp)))))
theorem bucketCuts_true {r0 m0 h0 t0 : Int} {l m : List TDrop} {now : Int} (c0 : -9223372036854775808 ≤ r0 ∧ r0 ≤ 9223372036854775807) (c1 : -9223372036854775808 ≤ m0 ∧ m0 ≤ 9223372036854775807) (c2 : -9223372036854775808 ≤ h0 ∧ h0 ≤ 9223372036854775807) (c3 : -9223372036854775808 ≤ t0 ∧ t0 ≤ 9223372036854775807) (b1 : BndD 6 (D.st 11 l)) (u1 : l.length ≤ 1048576) (b2 : BndD 6 (D.st 11 m)) (u2 : m.length ≤ 1048576) (h3 : -9223372036854775808 ≤ now ∧ now ≤ 9223372036854775807) : (bucketCuts_tree (r0, (m0, (h0, (t0, (l, (m, (now, ())))))))).eval = some (true, ()) := cuts_law ⟨r0, m0, h0, t0⟩ l m now u1 u2 h3
end Go.Proofs.Ytlbmdkclbmcpdaa.X
