/- The laws DgramFixed, DgramBack, DgramTold: plain. Conditions: none. -/
import Derived.Test.YtjehhmeaigkbnaaLTcp
import Derived.Test.YtjehhmeaigkbnaaPDgram
namespace Go.Proofs.Ytjehhmeaigkbnaa.X
open Go Go.RowKit Go.Proofs.Ytjehhmeaigkbnaa.Abs Go.Proofs.Ytjehhmeaigkbnaa.Bits
set_option linter.unusedVariables false
set_option linter.unusedSimpArgs false

theorem dgLives : dgramLives_fn () = some (true, ()) := by kernel_rfl
theorem fix_int (c o n : Int) (hc : 0 ≤ c ∧ c ≤ 65535) (ho : 0 ≤ o ∧ o ≤ 65535) (hn : 0 ≤ n ∧ n ≤ 65535) : ∃ r, sumFix_fn (c, (o, (n, ()))) = some (r, ()) ∧ 0 ≤ r ∧ r ≤ 65535 ∧ (r + n - c - o) % 65535 = 0 := by
  have h := fix_fn c.toNat o.toNat n.toNat (by omega) (by omega) (by omega)
  have e1 : (c.toNat : Int) = c := by omega
  have e2 : (o.toNat : Int) = o := by omega
  have e3 : (n.toNat : Int) = n := by omega
  rw [e1, e2, e3] at h
  refine ⟨_, h, ?_⟩
  have h1 := ear_le (65535 - c.toNat + (65535 - o.toNat) + n.toNat)
  have h2 := ear_mod (65535 - c.toNat + (65535 - o.toNat) + n.toNat)
  generalize ear (65535 - c.toNat + (65535 - o.toNat) + n.toNat) = e at *
  refine ⟨by omega, by omega, ?_⟩
  omega

theorem dgramFixed_true {a0 a1 : Int} {a2 : List UInt8} {a3 a4 a5 a6 : Int} (h0 : -9223372036854775808 ≤ a0 ∧ a0 ≤ 9223372036854775807) (h1 : -9223372036854775808 ≤ a1 ∧ a1 ≤ 9223372036854775807) (h2 : a2.length ≤ 140737488351232)
    (h3 : U32 a3) (h4 : U32 a4) (h5 : U32 a5) (h6 : -9223372036854775808 ≤ a6 ∧ a6 ≤ 9223372036854775807) : (dgramFixed_tree (a0, (a1, (a2, (a3, (a4, (a5, (a6, ())))))))).eval = some (true, ()) := by
  by_cases hp : 0 ≤ a0 ∧ a0 ≤ 65535 ∧ 0 ≤ a1 ∧ a1 ≤ 65535 ∧ a2.length ≤ 65507
  case neg =>
    obtain ⟨e, he, hne⟩ := dgWrite_no a0 a1 a2 a3 a4 hp
    exact ev_opt he (ev_opt dgLives (ev_f rfl (ev_t (by simpa using hne) (ev_opt dgLives rfl))))
  obtain ⟨p1, p2, p3, p4, hd⟩ := hp
  have hw := dgWrite_ok a0 a1 a2 a3 a4 ⟨p1, p2, p3, p4⟩ hd h3 h4
  obtain ⟨c1, c2, c3⟩ := lc_ok a3 a4 a0 a1 a2 ⟨p1, p2, p3, p4⟩ hd
  generalize lc a3 a4 a0 a1 a2 = c at *
  refine ev_opt hw (ev_opt dgLives (ev_f rfl (ev_f rfl ?_)))
  refine ev_ite (fun _ => ev_opt dgLives rfl) (fun h7 => ev_ite (fun _ => ev_opt dgLives rfl) (fun h8 => ?_))
  have h7 : 0 ≤ a6 := by simpa using h7
  have h8 : a6 ≤ 65535 := by simpa using h8
  have hl := lb_len a0 a1 a2 c
  have w6 := (wAt_lb a0 a1 a2 c).2.2.2
  -- the check, fixed
  have u3 : 0 ≤ a3 / 65536 ∧ a3 / 65536 ≤ 65535 := by unfold U32 at h3; omega
  have u5 : 0 ≤ a5 / 65536 ∧ a5 / 65536 ≤ 65535 := by unfold U32 at h5; omega
  obtain ⟨r2, k2, b2, b2', m2⟩ := fix_int c (a3 / 65536) (a5 / 65536) ⟨by omega, c2⟩ u3 u5
  obtain ⟨r3, k3, b3, b3', m3⟩ := fix_int r2 (a3 % 65536) (a5 % 65536) ⟨b2, b2'⟩ (by omega) (by omega)
  obtain ⟨r4, k4, b4, b4', m4⟩ := fix_int r3 a0 a6 ⟨b3, b3'⟩ ⟨p1, p2⟩ ⟨h7, h8⟩
  have e1 : (a3 / 65536) % 65536 = a3 / 65536 := by omega
  have e2 : (a5 / 65536) % 65536 = a5 / 65536 := by omega
  have e3 : a0 % 65536 = a0 := by omega
  have e4 : a6 % 65536 = a6 := by omega
  have e5 : wv ((lb a0 a1 a2 c).getD 6 0) ((lb a0 a1 a2 c).getD 7 0) = c := by
    have : c % 65536 = c := by omega
    rw [this] at w6; exact w6
  refine ev_g (by simp; omega) (ev_g rfl (ev_g (by simp; omega) (ev_g rfl (ev_g rfl ?_))))
  rw [or_u16, e5, fdiv16, fdiv16]
  simp only [wrap16u, e1, e2, e3, e4]
  refine ev_opt k2 (ev_opt k3 (ev_opt k4 ?_))
  have hdrop : List.drop 2 (List.take 6 (lb a0 a1 a2 c)) = wd a1 ++ wd (8 + a2.length) := rfl
  have hdrop8 : List.drop 8 (List.take (Int.toNat ((lb a0 a1 a2 c).length : Int)) (lb a0 a1 a2 c)) = a2 := by
    rw [Int.toNat_natCast, List.take_length]; rfl
  -- what is read
  have fin : ∀ q : Int, 1 ≤ q ∧ q ≤ 65535 → (q = r4 ∨ (r4 = 0 ∧ q = 65535)) → ∀ (s : List UInt8), s = wd a6 ++ (wd a1 ++ wd (8 + a2.length)) ++ wd q ++ a2 → dgRead_fn (s, (a5, (a4, ()))) = some (a6, (a1, (a2, (0, ())))) := by
    intro q hq hq2 s hs
    have e : s = lb a6 a1 a2 q := by rw [hs]; simp [lb, List.append_assoc]
    subst e
    rw [dgRead_ok _ a5 a4 (by rw [lb_len]; unfold Lim; omega) h5 h4, rd_lb a6 a1 a2 q a5 a4 ⟨h7, h8, p3, p4⟩ hd hq ?_]
    have g1 := ws_lb a6 a1 a2 q
    have g2 := ws_lb a0 a1 a2 c
    rw [g1]; rw [g2] at c3
    unfold uw at c3 ⊢
    have e8 : c % 65536 = c := by omega
    have e9 : q % 65536 = q := by omega
    rw [e1, e3, e8] at c3
    rw [e2, e4, e9]
    clear hw g1 g2 w6 e5 hl e1 e2 e3 e4 e8 e9 hdrop hdrop8 k2 k3 k4 u3 u5 h0 h1 h2 h3 h4 h5 h6
    generalize a3 / 65536 = A at *
    generalize a3 % 65536 = B at *
    generalize a5 / 65536 = C at *
    generalize a5 % 65536 = D at *
    generalize a4 / 65536 % 65536 + a4 % 65536 = F at *
    generalize ((8 : Int) + (a2.length : Int)) % 65536 = G at *
    generalize a1 % 65536 = H at *
    generalize (ws a2 : Int) = W at *
    have hq3 : (q - r4) % 65535 = 0 := by rcases hq2 with rfl | ⟨rfl, rfl⟩ <;> omega
    omega
  refine ev_ite (fun hz => ?_) (fun hz => ?_)
  · have hz : r4 = 0 := by simpa using hz
    refine ev_opt (kWord_ok a6 ⟨h7, h8⟩) (ev_g (by simp; omega) (ev_g (by rw [hdrop]; simp) (ev_opt (kWord_ok 65535 (by decide)) (ev_g (by rw [hdrop]; simp) (ev_g (by simp; omega) (ev_g (by rw [hdrop, hdrop8]; simp; omega) ?_))))))
    refine ev_opt (fin 65535 (by decide) (.inr ⟨hz, rfl⟩) _ (by rw [hdrop, hdrop8])) (ev_t rfl (ev_r (by simp)))
  · have hz : ¬ r4 = 0 := by simpa using hz
    refine ev_opt (kWord_ok a6 ⟨h7, h8⟩) (ev_g (by simp; omega) (ev_g (by rw [hdrop]; simp) (ev_opt (kWord_ok r4 ⟨b4, b4'⟩) (ev_g (by rw [hdrop]; simp) (ev_g (by simp; omega) (ev_g (by rw [hdrop, hdrop8]; simp; omega) ?_))))))
    refine ev_opt (fin r4 ⟨by omega, b4'⟩ (.inl rfl) _ (by rw [hdrop, hdrop8])) (ev_t rfl (ev_r (by simp)))
end Go.Proofs.Ytjehhmeaigkbnaa.X
