/- sip: the law SipCuts. Conditions: none. -/
import Derived.Test.YtjehhmeaigkbnaaPSipB
namespace Go.Proofs.Ytjehhmeaigkbnaa.X
open Go Go.RowKit Go.Proofs.Ytjehhmeaigkbnaa.Abs Go.Proofs.Ytjehhmeaigkbnaa.Bits
set_option linter.unusedVariables false
set_option linter.unusedSimpArgs false

theorem feed_app : ∀ (n : Nat) (v : S4) (l m : List UInt8), l.length ≤ n → feed v (l ++ m) = feed (feed v l).1 ((feed v l).2 ++ m) := by
  intro n
  induction n with
  | zero =>
    intro v l m h
    have : l = [] := List.length_eq_zero_iff.1 (by omega)
    subst this
    rw [feed_lt (l := []) (by simp)]
  | succ n ih =>
    intro v l m h
    by_cases h8 : 8 ≤ l.length
    · rw [feed_ge h8, feed_ge (l := l ++ m) (by rw [List.length_append]; omega), List.take_append_of_le_length h8, List.drop_append_of_le_length h8]
      exact ih _ _ _ (by rw [List.length_drop]; omega)
    · rw [feed_lt (l := l) (by omega)]
theorem feed_len : ∀ (n : Nat) (v : S4) (l : List UInt8), l.length ≤ n → (feed v l).2.length = l.length % 8 := by
  intro n
  induction n with
  | zero =>
    intro v l h
    rw [feed_lt (by omega)]
    have : l.length = 0 := by omega
    rw [this]
  | succ n ih =>
    intro v l h
    by_cases h8 : 8 ≤ l.length
    · rw [feed_ge h8, ih _ _ (by rw [List.length_drop]; omega), List.length_drop]; omega
    · rw [feed_lt (by omega)]; simp only; omega
theorem step_end (i a b c d n a6 a7 a8 a9 : Int) (l : List UInt8) (z : Int) (h : i < n) : (sipEnd_step49_2 (i, (d, (c, (b, (a, (n, (a6, (a7, (a8, (a9, (l, (z, ()))))))))))))).eval =
    some (.inl (IntKind.i64.wrap (i + 1), ((rnd ⟨a, b, c, d⟩).d, ((rnd ⟨a, b, c, d⟩).c, ((rnd ⟨a, b, c, d⟩).b, ((rnd ⟨a, b, c, d⟩).a, (n, (a6, (a7, (a8, (a9, (l, (z, ()))))))))))))) := by
  simp only [sipEnd_step49_2, Tr.eval, h, decide_true, cond_true, rotl13, rotl16, rotl17, rotl21, rotl32, Option.bind_some, rnd, ua, ux]
theorem step_end_out (i a b c d n a6 a7 a8 a9 : Int) (l : List UInt8) (z : Int) (h : ¬ i < n) : (sipEnd_step49_2 (i, (d, (c, (b, (a, (n, (a6, (a7, (a8, (a9, (l, (z, ()))))))))))))).eval =
    some (.inr (d, (c, (b, (a, (a6, (a7, (a8, (a9, (l, (z, ())))))))))) ) := by
  simp only [sipEnd_step49_2, Tr.eval, h, decide_false, cond_false]
theorem rounds2e (a b c d a6 a7 a8 a9 : Int) (l : List UInt8) (z : Int) : sipEnd_loop49_2 (0, (d, (c, (b, (a, (2, (a6, (a7, (a8, (a9, (l, (z, ())))))))))))) =
    some ((rnd (rnd ⟨a, b, c, d⟩)).d, ((rnd (rnd ⟨a, b, c, d⟩)).c, ((rnd (rnd ⟨a, b, c, d⟩)).b, ((rnd (rnd ⟨a, b, c, d⟩)).a, (a6, (a7, (a8, (a9, (l, (z, ())))))))))) := by
  unfold sipEnd_loop49_2
  rw [show (18446744073709551616 : Nat) = 18446744073709551613 + 1 + 1 + 1 from rfl]
  rw [loopO_in (step_end _ _ _ _ _ _ _ _ _ _ _ _ (by decide)), loopO_in (step_end _ _ _ _ _ _ _ _ _ _ _ _ (by decide)), loopO_out (step_end_out _ _ _ _ _ _ _ _ _ _ _ _ (by decide))]

theorem rounds4 (a b c d a6 a7 a8 a9 : Int) (l : List UInt8) (z : Int) : sipEnd_loop49_2 (0, (d, (c, (b, (a, (4, (a6, (a7, (a8, (a9, (l, (z, ())))))))))))) =
    some ((rnd (rnd (rnd (rnd ⟨a, b, c, d⟩)))).d, ((rnd (rnd (rnd (rnd ⟨a, b, c, d⟩)))).c, ((rnd (rnd (rnd (rnd ⟨a, b, c, d⟩)))).b, ((rnd (rnd (rnd (rnd ⟨a, b, c, d⟩)))).a, (a6, (a7, (a8, (a9, (l, (z, ())))))))))) := by
  unfold sipEnd_loop49_2
  rw [show (18446744073709551616 : Nat) = 18446744073709551611 + 1 + 1 + 1 + 1 + 1 from rfl]
  rw [loopO_in (step_end _ _ _ _ _ _ _ _ _ _ _ _ (by decide)), loopO_in (step_end _ _ _ _ _ _ _ _ _ _ _ _ (by decide)), loopO_in (step_end _ _ _ _ _ _ _ _ _ _ _ _ (by decide)), loopO_in (step_end _ _ _ _ _ _ _ _ _ _ _ _ (by decide)), loopO_out (step_end_out _ _ _ _ _ _ _ _ _ _ _ _ (by decide))]
theorem end_ok (v : S4) (p : List UInt8) (n : Int) (h : checkF p n = 0) (hp : p.length ≤ 1000) : ∃ r, sipEnd_fn (v.a, (v.b, (v.c, (v.d, (p, (n, ())))))) = some (r, (0, ())) := by
  unfold sipEnd_fn sipEnd_tree
  simp only [Tr.eval, check_fn, Option.bind_some, h, decide_true, Bool.not_true, cond_false, number_fn p (show p.length ≤ 1000000 by omega), cond_true, rounds2e, rounds4]
  exact ⟨_, rfl⟩

theorem check_next (v : S4) (p a : List UInt8) (n : Int) (h : checkF p n = 0) (hn : n ≤ 4611686018427387904) (hp : p.length ≤ 500000000000000) (ha : a.length ≤ 500000000000000) : checkF (feed v (p ++ a)).2 (IntKind.i64.wrap (n + a.length)) = 0 ∧ IntKind.i64.wrap (n + a.length) = n + a.length := by
  unfold checkF at h
  have h0 : ¬ n < 0 := by intro e; rw [if_pos e] at h; cases h
  rw [if_neg h0] at h
  have h1 : (p.length : Int) = n.tmod 8 := by
    by_cases e : (p.length : Int) = n.tmod 8
    · exact e
    · rw [if_neg e] at h; cases h
  have hw : IntKind.i64.wrap (n + a.length) = n + a.length := wrapI64 ⟨by omega, by omega⟩
  refine ⟨?_, hw⟩
  rw [hw]
  unfold checkF
  rw [if_neg (by omega), if_pos]
  rw [feed_len _ v (p ++ a) (Nat.le_refl _), List.length_append, Int.tmod_eq_emod_of_nonneg (by omega)]
  rw [Int.tmod_eq_emod_of_nonneg (by omega)] at h1
  omega

theorem more_two (v : S4) (p a b : List UInt8) (n : Int) (h : checkF p n = 0) (hn : n ≤ 4611686018427387904) (hp : p.length ≤ 8) (ha : a.length ≤ 140737488351232) (hb : b.length ≤ 140737488351232) :
    ∃ (w u : S4) (q r : List UInt8) (m k : Int), sipMore_fn (v.a, (v.b, (v.c, (v.d, (p, (n, (a, ()))))))) = some (w.a, (w.b, (w.c, (w.d, (q, (m, (0, ()))))))) ∧ sipMore_fn (w.a, (w.b, (w.c, (w.d, (q, (m, (b, ()))))))) = some (u.a, (u.b, (u.c, (u.d, (r, (k, (0, ()))))))) ∧
      sipMore_fn (v.a, (v.b, (v.c, (v.d, (p, (n, (a ++ b, ()))))))) = some (u.a, (u.b, (u.c, (u.d, (r, (k, (0, ()))))))) ∧ checkF r k = 0 ∧ r.length ≤ 8 := by
  obtain ⟨c1, c2⟩ := check_next v p a n h hn (by omega) (by omega)
  have hl := feed_len _ v (p ++ a) (Nat.le_refl _)
  have m1 := more_ok v p a n h (by omega) (by omega)
  have m2 := more_ok (feed v (p ++ a)).1 (feed v (p ++ a)).2 b _ c1 (by omega) (by omega)
  have m3 := more_ok v p (a ++ b) n h (by omega) (by rw [List.length_append]; omega)
  have e1 := feed_app _ v (p ++ a) b (Nat.le_refl _)
  rw [List.append_assoc] at e1
  have e2 : IntKind.i64.wrap (IntKind.i64.wrap (n + a.length) + b.length) = IntKind.i64.wrap (n + ((a ++ b).length : Nat)) := by
    rw [c2, List.length_append]; congr 1; omega
  rw [← e1, e2] at m2
  have hl2 := feed_len _ v (p ++ (a ++ b)) (Nat.le_refl _)
  obtain ⟨c3, c4⟩ := check_next v p (a ++ b) n h hn (by omega) (by rw [List.length_append]; omega)
  exact ⟨_, _, _, _, _, _, m1, m2, m3, c3, by omega⟩

theorem begin_fn (a b : Int) : ∃ v : S4, sipBegin_fn (a, (b, ())) = some (v.a, (v.b, (v.c, (v.d, ([], (0, ())))))) :=
  ⟨⟨_, _, _, _⟩, rfl⟩

theorem tailOk (k0 k1 : Int) (a b : List UInt8) (ha : a.length ≤ 140737488351232) (hb : b.length ≤ 140737488351232) : ∃ (v w u : S4) (q r : List UInt8) (m k n : Int), sipBegin_fn (k0, (k1, ())) = some (v.a, (v.b, (v.c, (v.d, ([], (0, ())))))) ∧
    sipMore_fn (v.a, (v.b, (v.c, (v.d, ([], (0, (a, ()))))))) = some (w.a, (w.b, (w.c, (w.d, (q, (m, (0, ()))))))) ∧ sipMore_fn (w.a, (w.b, (w.c, (w.d, (q, (m, (b, ()))))))) = some (u.a, (u.b, (u.c, (u.d, (r, (k, (0, ()))))))) ∧
    sipEnd_fn (u.a, (u.b, (u.c, (u.d, (r, (k, ())))))) = some (n, (0, ())) ∧ sipOf_fn (k0, (k1, (a ++ b, ()))) = some (n, ()) := by
  obtain ⟨v, hv⟩ := begin_fn k0 k1
  obtain ⟨w, u, q, r, m, k, h1, h2, h3, h4, h5⟩ := more_two v [] a b 0 rfl (by omega) (by simp) ha hb
  obtain ⟨n, hn⟩ := end_ok u r k h4 (by omega)
  refine ⟨v, w, u, q, r, m, k, n, hv, h1, h2, hn, ?_⟩
  unfold sipOf_fn sipOf_tree
  simp only [Tr.eval, hv, Option.bind_some, h3, hn]

theorem sipCuts_true {k0 k1 a b c d : Int} {p : List UInt8} {n : Int} {x y : List UInt8} (h0 : 0 ≤ k0 ∧ k0 ≤ 18446744073709551615) (h1 : 0 ≤ k1 ∧ k1 ≤ 18446744073709551615) (h2 : 0 ≤ a ∧ a ≤ 18446744073709551615) (h3 : 0 ≤ b ∧ b ≤ 18446744073709551615) (h4 : 0 ≤ c ∧ c ≤ 18446744073709551615) (h5 : 0 ≤ d ∧ d ≤ 18446744073709551615)
    (h6 : p.length ≤ 140737488351232) (h7 : -9223372036854775808 ≤ n ∧ n ≤ 9223372036854775807) (h8 : x.length ≤ 140737488351232) (h9 : y.length ≤ 140737488351232) :
    (sipCuts_tree (k0, (k1, (a, (b, (c, (d, (p, (n, (x, (y, ()))))))))))).eval = some (true, ()) := by
  obtain ⟨v, w, u, q, r, m, k, e, t1, t2, t3, t4, t5⟩ := tailOk k0 k1 x y h8 h9
  have hl : x.length + y.length ≤ 9223372036854775807 := by omega
  by_cases hn : (4611686018427387904 : Int) < n
  · simp only [sipCuts_tree, Tr.eval, lives, Option.bind_some, Bool.not_true, cond_false, hn, decide_true, cond_true]
  · by_cases hc : checkF p n = 0
    · have hp : p.length ≤ 8 := by
        unfold checkF at hc
        split at hc
        · cases hc
        · split at hc
          · rename_i g1 g2
            have := Int.tmod_lt_of_pos n (show (0 : Int) < 8 by decide)
            omega
          · cases hc
      obtain ⟨w', u', q', r', m', k', s1, s2, s3, s4, s5⟩ := more_two ⟨a, b, c, d⟩ p x y n hc (by omega) hp h8 h9
      simp only at s1 s3
      simp only [sipCuts_tree, Tr.eval, lives, Option.bind_some, Bool.not_true, cond_false, hn, decide_false, cond_true, s1, s2, s3, hl, decide_true, t1, t2, t3, t4, t5, Bool.and_self]
    · have s1 := more_bad ⟨a, b, c, d⟩ p x n hc
      have s2 := more_bad ⟨a, b, c, d⟩ p y n hc
      have s3 := more_bad ⟨a, b, c, d⟩ p (x ++ y) n hc
      simp only at s1 s2 s3
      simp only [sipCuts_tree, Tr.eval, lives, Option.bind_some, Bool.not_true, cond_false, hn, decide_false, cond_true, s1, s2, s3, hl, decide_true, t1, t2, t3, t4, t5, hc]
end Go.Proofs.Ytjehhmeaigkbnaa.X
