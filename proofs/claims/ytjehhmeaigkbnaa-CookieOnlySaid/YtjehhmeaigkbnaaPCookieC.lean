/- cookie: the law CookieOnly. Conditions: none. -/
import Derived.Test.YtjehhmeaigkbnaaPCookieB
namespace Go.Proofs.Ytjehhmeaigkbnaa.X
open Go Go.RowKit Go.Proofs.Ytjehhmeaigkbnaa.Abs Go.Proofs.Ytjehhmeaigkbnaa.Bits
set_option linter.unusedVariables false
set_option linter.unusedSimpArgs false

theorem hit (k0 k1 a b fp tp seq y count idx n : Int) (hp : (0 ≤ fp ∧ fp ≤ 65535) ∧ (0 ≤ tp ∧ tp ≤ 65535)) (hc : 0 ≤ count ∧ count ≤ 31) (hi : 0 ≤ idx ∧ idx ≤ 7)
    (hn : sipOf_fn (k0, (k1, (text a b fp tp seq (y / 134217728) (y / 16777216 % 8), ()))) = some (n, ())) :
    ∃ v, coMake_fn (k0, (k1, (a, (b, (fp, (tp, (seq, (count, (idx, ()))))))))) = some (v, (0, ())) ∧ (v = y ↔ count = y / 134217728 ∧ idx = y / 16777216 % 8 ∧ cook (y / 134217728) (y / 16777216 % 8) (hashOf n) = y) := by
  obtain ⟨m, h1, h2⟩ := make_fn k0 k1 a b fp tp seq count idx
  rw [if_pos ⟨hp.1, hp.2, hc, hi⟩] at h2
  refine ⟨_, h2, fun e => ?_, fun ⟨e1, e2, e3⟩ => ?_⟩
  · have hh := and24 m
    have e1 : count = y / 134217728 := by rw [← e]; unfold cook hashOf; omega
    have e2 : idx = y / 16777216 % 8 := by rw [← e]; unfold cook hashOf; omega
    refine ⟨e1, e2, ?_⟩
    rw [← e1, ← e2] at hn ⊢
    rw [h1] at hn
    cases hn
    exact e
  · rw [← e1, ← e2] at hn e3
    rw [h1] at hn
    cases hn
    exact e3

theorem innerLoop (k0 k1 a b fp tp seq y n count : Int) (x5 x6 x7 x8 : Int) (hp : (0 ≤ fp ∧ fp ≤ 65535) ∧ (0 ≤ tp ∧ tp ≤ 65535)) (hc : 0 ≤ count ∧ count ≤ 31) (hy : 0 ≤ y ∧ y ≤ 4294967295)
    (hn : sipOf_fn (k0, (k1, (text a b fp tp seq (y / 134217728) (y / 16777216 % 8), ()))) = some (n, ())) (made : Int) (hm : 0 ≤ made ∧ made ≤ 10) :
    cookieOnly_loop9_9 (0, (made, (y, (count, (seq, (x5, (x6, (x7, (x8, (a, (b, (fp, (tp, (k0, (k1, ()))))))))))))))) =
      some (made + (if count = y / 134217728 ∧ cook (y / 134217728) (y / 16777216 % 8) (hashOf n) = y then 1 else 0), (y, (seq, (x5, (x6, (x7, (x8, (a, (b, (fp, (tp, (k0, (k1, ()))))))))))))) := by
  have h := loopO_fn (tag := 90009) (f := fun x => (cookieOnly_step9_9 x).eval)
    (fun x => ∃ (i m : Int), 0 ≤ i ∧ i ≤ 8 ∧ 0 ≤ m ∧ m ≤ 10 + i ∧ x = (i, (m, (y, (count, (seq, (x5, (x6, (x7, (x8, (a, (b, (fp, (tp, (k0, (k1, ()))))))))))))))))
    (fun x => (x.2.1 + (if count = y / 134217728 ∧ cook (y / 134217728) (y / 16777216 % 8) (hashOf n) = y ∧ x.1 ≤ y / 16777216 % 8 then 1 else 0), (y, (seq, (x5, (x6, (x7, (x8, (a, (b, (fp, (tp, (k0, (k1, ()))))))))))))))
    (fun x => (8 - x.1).toNat)
    (by
      rintro x ⟨i, m, h1, h2, h3, h4, rfl⟩
      by_cases hlt : i < 8
      · right
        obtain ⟨v, hv, hiff⟩ := hit k0 k1 a b fp tp seq y count i n hp hc ⟨h1, by omega⟩ hn
        have w1 : IntKind.i64.wrap (i + 1) = i + 1 := wrapI64 ⟨by omega, by omega⟩
        have w2 : IntKind.i64.wrap (m + 1) = m + 1 := wrapI64 ⟨by omega, by omega⟩
        by_cases hvy : v = y
        · obtain ⟨e1, e2, e3⟩ := hiff.1 hvy
          refine ⟨(i + 1, (m + 1, (y, (count, (seq, (x5, (x6, (x7, (x8, (a, (b, (fp, (tp, (k0, (k1, ()))))))))))))))), ?_, ⟨i + 1, m + 1, by omega, by omega, by omega, by omega, rfl⟩, by simp only; omega, ?_⟩
          · simp only [cookieOnly_step9_9, Tr.eval, hlt, decide_true, cond_true, hv, Option.bind_some, hvy, w1, w2]
          · simp only
            rw [if_neg (by omega), if_pos ⟨e1, e3, by omega⟩]
            congr 1; omega
        · refine ⟨(i + 1, (m, (y, (count, (seq, (x5, (x6, (x7, (x8, (a, (b, (fp, (tp, (k0, (k1, ()))))))))))))))), ?_, ⟨i + 1, m, by omega, by omega, by omega, by omega, rfl⟩, by simp only; omega, ?_⟩
          · simp only [cookieOnly_step9_9, Tr.eval, hlt, decide_true, cond_true, hv, Option.bind_some, hvy, decide_false, cond_false, w1]
          · simp only
            by_cases q : count = y / 134217728 ∧ cook (y / 134217728) (y / 16777216 % 8) (hashOf n) = y
            · have hne : i ≠ y / 16777216 % 8 := fun e => hvy (hiff.2 ⟨q.1, e, q.2⟩)
              by_cases r : i + 1 ≤ y / 16777216 % 8
              · rw [if_pos ⟨q.1, q.2, r⟩, if_pos ⟨q.1, q.2, by omega⟩]
              · rw [if_neg (by intro z; exact r z.2.2), if_neg (by intro z; have := z.2.2; omega)]
            · rw [if_neg (fun z => q ⟨z.1, z.2.1⟩), if_neg (fun z => q ⟨z.1, z.2.1⟩)]
      · left
        simp only [cookieOnly_step9_9, Tr.eval, hlt, decide_false, cond_false]
        rw [if_neg (by intro z; have := z.2.2; omega), Int.add_zero]) 18446744073709551616 (0, (made, (y, (count, (seq, (x5, (x6, (x7, (x8, (a, (b, (fp, (tp, (k0, (k1, ()))))))))))))))) ⟨0, made, by omega, by omega, hm.1, by omega, rfl⟩ (by simp only; omega)
  unfold cookieOnly_loop9_9
  rw [h]
  simp only
  have : (count = y / 134217728 ∧ cook (y / 134217728) (y / 16777216 % 8) (hashOf n) = y ∧ (0 : Int) ≤ y / 16777216 % 8) ↔ (count = y / 134217728 ∧ cook (y / 134217728) (y / 16777216 % 8) (hashOf n) = y) := ⟨fun z => ⟨z.1, z.2.1⟩, fun z => ⟨z.1, z.2, by omega⟩⟩
  simp only [this]

theorem outerLoop (k0 k1 a b fp tp seq y n c0 c1 f : Int) (hp : (0 ≤ fp ∧ fp ≤ 65535) ∧ (0 ≤ tp ∧ tp ≤ 65535)) (hc0 : 0 ≤ c0 ∧ c0 ≤ 31) (hc1 : 0 ≤ c1 ∧ c1 ≤ 31) (hy : 0 ≤ y ∧ y ≤ 4294967295)
    (hn : sipOf_fn (k0, (k1, (text a b fp tp seq (y / 134217728) (y / 16777216 % 8), ()))) = some (n, ())) :
    cookieOnly_loop9_6 (0, (y, (seq, (0, (c0, (c1, (f, (a, (b, (fp, (tp, (k0, (k1, ()))))))))))))) =
      some ((0 + if c0 = y / 134217728 ∧ cook (y / 134217728) (y / 16777216 % 8) (hashOf n) = y then 1 else 0) + (if c1 = y / 134217728 ∧ cook (y / 134217728) (y / 16777216 % 8) (hashOf n) = y then 1 else 0), (f, ())) := by
  have b0 : 0 ≤ ((0 : Int) + if c0 = y / 134217728 ∧ cook (y / 134217728) (y / 16777216 % 8) (hashOf n) = y then 1 else 0) ∧ ((0 : Int) + if c0 = y / 134217728 ∧ cook (y / 134217728) (y / 16777216 % 8) (hashOf n) = y then 1 else 0) ≤ 10 := by split <;> omega
  have i0 := innerLoop k0 k1 a b fp tp seq y n c0 c0 c1 f 0 hp hc0 hy hn 0 ⟨by omega, by omega⟩
  have i1 := innerLoop k0 k1 a b fp tp seq y n c1 c0 c1 f 1 hp hc1 hy hn _ b0
  unfold cookieOnly_loop9_6
  rw [show (18446744073709551616 : Nat) = 18446744073709551613 + 1 + 1 + 1 from rfl]
  have w0 : IntKind.i64.wrap (0 + 1) = 1 := by decide
  have w1 : IntKind.i64.wrap (1 + 1) = 2 := by decide
  generalize hm : ((0 : Int) + if c0 = y / 134217728 ∧ cook (y / 134217728) (y / 16777216 % 8) (hashOf n) = y then 1 else 0) = m at i0 i1 b0 ⊢
  generalize ht : m + (if c1 = y / 134217728 ∧ cook (y / 134217728) (y / 16777216 % 8) (hashOf n) = y then 1 else 0) = t at i1 ⊢
  rw [loopO_in (a' := (m, (y, (seq, (1, (c0, (c1, (f, (a, (b, (fp, (tp, (k0, (k1, ())))))))))))))) (by
    simp only [cookieOnly_step9_6, Tr.eval, Int.reduceLT, decide_true, cond_true, Int.le_refl, Int.toNat_zero, List.getElem?_cons_zero, Option.bind_some, i0, w0])]
  rw [loopO_in (a' := (t, (y, (seq, (2, (c0, (c1, (f, (a, (b, (fp, (tp, (k0, (k1, ())))))))))))))) (by
    simp only [cookieOnly_step9_6, Tr.eval, Int.reduceLT, Int.reduceLE, decide_true, cond_true, Int.reduceToNat, List.getElem?_cons_succ, List.getElem?_cons_zero, Option.bind_some, i1, w1])]
  rw [loopO_out (b := (t, (f, ()))) (by simp only [cookieOnly_step9_6, Tr.eval, Int.reduceLT, decide_false, cond_false])]

theorem cookieOnly_true {k0 k1 a b fp tp seq y now : Int} (_h0 : 0 ≤ k0 ∧ k0 ≤ 18446744073709551615) (_h1 : 0 ≤ k1 ∧ k1 ≤ 18446744073709551615) (_h2 : 0 ≤ a ∧ a ≤ 4294967295) (_h3 : 0 ≤ b ∧ b ≤ 4294967295) (_h4 : -9223372036854775808 ≤ fp ∧ fp ≤ 9223372036854775807) (_h5 : -9223372036854775808 ≤ tp ∧ tp ≤ 9223372036854775807)
    (_h6 : 0 ≤ seq ∧ seq ≤ 4294967295) (h7 : 0 ≤ y ∧ y ≤ 4294967295) (h8 : -9223372036854775808 ≤ now ∧ now ≤ 9223372036854775807) :
    (cookieOnly_tree (k0, (k1, (a, (b, (fp, (tp, (seq, (y, (now, ())))))))))).eval = some (true, ()) := by
  obtain ⟨n, hn, ho⟩ := open_fn k0 k1 a b fp tp seq y now h7 h8
  by_cases n1 : now < 0 ∨ 31 < now
  · simp only [openR, n1, if_true] at ho
    simp only [cookieOnly_tree, Tr.eval, ho, cookLives, Option.bind_some, decide_true, Bool.not_true, cond_false, cond_true]
  · by_cases hp : (0 ≤ fp ∧ fp ≤ 65535) ∧ (0 ≤ tp ∧ tp ≤ 65535)
    · have w : (IntKind.i64.wrap (now + 31)).tmod 32 = (now + 31) % 32 := by
        rw [wrapI64 ⟨by omega, by omega⟩, Int.tmod_eq_emod_of_nonneg (by omega)]
      have hl := fun f => outerLoop k0 k1 a b fp tp seq y n now ((now + 31) % 32) f hp ⟨by omega, by omega⟩ ⟨by omega, by omega⟩ h7 hn
      simp only [openR, n1, hp, and_self, decide_true, Bool.true_eq_false, if_false] at ho
      have hd : (1 : Int) < (now - y / 134217728) % 32 ↔ ¬ (now = y / 134217728 ∨ (now + 31) % 32 = y / 134217728) := by omega
      by_cases c1 : 1 < (now - y / 134217728) % 32
      · have c2 := hd.1 c1
        rw [if_pos c1] at ho
        have hl2 := hl 9
        rw [if_neg (fun z => c2 (.inl z.1)), if_neg (fun z => c2 (.inr z.1))] at hl2
        simp only [cookieOnly_tree, Tr.eval, ho, cookLives, Option.bind_some, decide_true, Bool.not_true, cond_false, cond_true, Int.reduceEq, decide_false, w, hl2]
        rfl
      · rw [if_neg c1] at ho
        by_cases g : cook (y / 134217728) (y / 16777216 % 8) (hashOf n) = y
        · rw [if_pos g] at ho
          have hl2 := hl 0
          by_cases q : now = y / 134217728
          · rw [if_pos ⟨q, g⟩, if_neg (by intro z; omega)] at hl2
            simp only [cookieOnly_tree, Tr.eval, ho, cookLives, Option.bind_some, decide_true, Bool.not_true, cond_false, cond_true, Int.reduceEq, decide_false, w, hl2]
            rfl
          · rw [if_neg (fun z => q z.1), if_pos ⟨by omega, g⟩] at hl2
            simp only [cookieOnly_tree, Tr.eval, ho, cookLives, Option.bind_some, decide_true, Bool.not_true, cond_false, cond_true, Int.reduceEq, decide_false, w, hl2]
            rfl
        · rw [if_neg g] at ho
          have hl2 := hl 5
          rw [if_neg (fun z => g z.2), if_neg (fun z => g z.2)] at hl2
          simp only [cookieOnly_tree, Tr.eval, ho, cookLives, Option.bind_some, decide_true, Bool.not_true, cond_false, cond_true, Int.reduceEq, decide_false, w, hl2]
          rfl
    · simp only [openR, n1, hp, decide_false, if_false, if_true] at ho
      simp only [cookieOnly_tree, Tr.eval, ho, cookLives, Option.bind_some, decide_true, Bool.not_true, cond_false, cond_true]
end Go.Proofs.Ytjehhmeaigkbnaa.X
