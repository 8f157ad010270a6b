/- cookie: Open; the laws CookieBack and CookieOnly. Conditions: none. -/
import Derived.Test.YtjehhmeaigkbnaaPCookie
namespace Go.Proofs.Ytjehhmeaigkbnaa.X
open Go Go.RowKit Go.Proofs.Ytjehhmeaigkbnaa.Abs Go.Proofs.Ytjehhmeaigkbnaa.Bits
set_option linter.unusedVariables false
set_option linter.unusedSimpArgs false

def sizeAt (i : Int) : Int := ([216, 536, 1220, 1300, 1360, 1440, 1460, 8960] : List Int).getD i.toNat 0
theorem sizeAt_get (i : Int) (h : 0 ≤ i ∧ i ≤ 7) : ([216, 536, 1220, 1300, 1360, 1440, 1460, 8960] : List Int)[i.toNat]? = some (sizeAt i) := by
  unfold sizeAt
  have : i.toNat < 8 := by omega
  rw [List.getD_eq_getElem?_getD, List.getElem?_eq_getElem (by simpa using this)]
  rfl
theorem sizes_fn : coSizes_fn () = some (216, (536, (1220, (1300, (1360, (1440, (1460, (8960, ())))))))) := rfl

/-- What Open tells. -/
def openR (ports : Bool) (y now g : Int) : Int × (Int × Unit) :=
  if now < 0 ∨ 31 < now then (0, (1, ())) else if ports = false then (0, (1, ())) else if 1 < (now - y / 134217728) % 32 then (0, (9, ())) else if g = y then (sizeAt (y / 16777216 % 8), (0, ())) else (0, (5, ()))
theorem open_fn (k0 k1 a b fp tp seq y now : Int) (hy : 0 ≤ y ∧ y ≤ 4294967295) (hn : -9223372036854775808 ≤ now ∧ now ≤ 9223372036854775807) :
    ∃ n, sipOf_fn (k0, (k1, (text a b fp tp seq (y / 134217728) (y / 16777216 % 8), ()))) = some (n, ()) ∧
    coOpen_fn (k0, (k1, (a, (b, (fp, (tp, (seq, (y, (now, ()))))))))) = some (openR (decide ((0 ≤ fp ∧ fp ≤ 65535) ∧ (0 ≤ tp ∧ tp ≤ 65535))) y now (cook (y / 134217728) (y / 16777216 % 8) (hashOf n))) := by
  obtain ⟨n, h1, h2⟩ := make_fn k0 k1 a b fp tp seq (y / 134217728) (y / 16777216 % 8)
  refine ⟨n, h1, ?_⟩
  have e1 : IntKind.wrap IntKind.i64 (Int.fdiv y ((2 : Int) ^ (27 : Nat))) = y / 134217728 := by
    rw [fdiv_pos _ (by decide)]
    exact wrapI64 ⟨by show _ ≤ y / 134217728; omega, by show y / 134217728 ≤ _; omega⟩
  have e2 : IntKind.wrap IntKind.i64 (bits BinOp.and IntKind.u32 (Int.fdiv y ((2 : Int) ^ (24 : Nat))) (7 : Int)) = y / 16777216 % 8 := by
    rw [fdiv_pos _ (by decide)]
    have e3 : bits .and .u32 (y / 2 ^ 24) 7 = (y / 2 ^ 24) % 2 ^ 3 := bits_and_mask .u32 3 _ (by show 0 ≤ y / 16777216; omega) (by show y / 16777216 < 4294967296; omega) (by decide) (fun h => by cases h)
    rw [e3]
    exact wrapI64 ⟨by show _ ≤ y / 16777216 % 8; omega, by show y / 16777216 % 8 ≤ _; omega⟩
  unfold coOpen_fn coOpen_tree openR
  by_cases n1 : now < 0
  · rw [if_pos (.inl n1)]
    simp only [Tr.eval, n1, decide_true, cond_true]
  · by_cases n2 : 31 < now
    · rw [if_pos (.inr n2)]
      simp only [Tr.eval, n1, n2, decide_true, decide_false, cond_true, cond_false]
    · rw [if_neg (by omega)]
      have e4 : bits .and .i64 (IntKind.i64.wrap (now - y / 134217728)) 31 = (now - y / 134217728) % 32 := by
        rw [and31, wrapI64 ⟨by omega, by omega⟩]
      by_cases hp : (0 ≤ fp ∧ fp ≤ 65535) ∧ (0 ≤ tp ∧ tp ≤ 65535)
      · rw [if_pos (by unfold okArgs; exact ⟨hp.1, hp.2, ⟨by omega, by omega⟩, ⟨by omega, by omega⟩⟩)] at h2
        have e5 : (0 : Int) ≤ y / 16777216 % 8 := by omega
        have e6 := sizeAt_get (y / 16777216 % 8) ⟨by omega, by omega⟩
        by_cases c1 : 1 < (now - y / 134217728) % 32
        · simp only [Tr.eval, n1, n2, decide_false, cond_false, cond_true, e1, e2, h2, Option.bind_some, decide_true, Bool.not_true, e4, c1, hp, and_self, Bool.true_eq_false, if_false, if_true]
        · by_cases c2 : cook (y / 134217728) (y / 16777216 % 8) (hashOf n) = y
          · simp only [Tr.eval, n1, n2, decide_false, cond_false, cond_true, e1, e2, h2, Option.bind_some, decide_true, Bool.not_true, e4, c1, c2, hp, and_self, Bool.true_eq_false, if_false, if_true, sizes_fn, e5, e6]
          · simp only [Tr.eval, n1, n2, decide_false, cond_false, cond_true, e1, e2, h2, Option.bind_some, decide_true, Bool.not_true, Bool.not_false, e4, c1, c2, hp, and_self, Bool.true_eq_false, if_false]
      · rw [if_neg (by unfold okArgs; intro q; exact hp ⟨q.1, q.2.1⟩)] at h2
        simp only [Tr.eval, n1, n2, decide_false, cond_false, cond_true, e1, e2, h2, Option.bind_some, hp, if_true, Int.reduceEq, Bool.not_false]

theorem cookieBack_true {k0 k1 a b fp tp seq c i now : Int} (_h0 : 0 ≤ k0 ∧ k0 ≤ 18446744073709551615) (_h1 : 0 ≤ k1 ∧ k1 ≤ 18446744073709551615) (_h2 : 0 ≤ a ∧ a ≤ 4294967295) (_h3 : 0 ≤ b ∧ b ≤ 4294967295) (_h4 : -9223372036854775808 ≤ fp ∧ fp ≤ 9223372036854775807) (_h5 : -9223372036854775808 ≤ tp ∧ tp ≤ 9223372036854775807)
    (_h6 : 0 ≤ seq ∧ seq ≤ 4294967295) (h7 : -9223372036854775808 ≤ c ∧ c ≤ 9223372036854775807) (h8 : -9223372036854775808 ≤ i ∧ i ≤ 9223372036854775807) (h9 : -9223372036854775808 ≤ now ∧ now ≤ 9223372036854775807) :
    (cookieBack_tree (k0, (k1, (a, (b, (fp, (tp, (seq, (c, (i, (now, ()))))))))))).eval = some (true, ()) := by
  obtain ⟨n, hn, hm⟩ := make_fn k0 k1 a b fp tp seq c i
  by_cases ok : okArgs fp tp c i
  · rw [if_pos ok] at hm
    obtain ⟨o1, o2, o3, o4⟩ := ok
    have hh := and24 n
    have hy : 0 ≤ cook c i (hashOf n) ∧ cook c i (hashOf n) ≤ 4294967295 := by unfold cook hashOf; omega
    have e1 : cook c i (hashOf n) / 134217728 = c := by unfold cook hashOf; omega
    have e2 : cook c i (hashOf n) / 16777216 % 8 = i := by unfold cook hashOf; omega
    obtain ⟨m, hm1, ho⟩ := open_fn k0 k1 a b fp tp seq (cook c i (hashOf n)) now hy h9
    rw [e1, e2] at hm1 ho
    rw [hn] at hm1
    cases hm1
    simp only [openR, o1, o2, and_self, decide_true, Bool.true_eq_false, if_false, e1, e2, if_true] at ho
    by_cases n1 : now < 0
    · simp only [cookieBack_tree, Tr.eval, hm, ho, cookLives, Option.bind_some, decide_true, Bool.not_true, cond_false, n1, cond_true]
    by_cases n2 : 31 < now
    · simp only [cookieBack_tree, Tr.eval, hm, ho, cookLives, Option.bind_some, decide_true, Bool.not_true, cond_false, n1, n2, decide_false, cond_true]
    rw [if_neg (show ¬ (now < 0 ∨ 31 < now) by omega)] at ho
    have ht : (IntKind.i64.wrap (c + 1)).tmod 32 = (c + 1) % 32 := by
      rw [wrapI64 ⟨by omega, by omega⟩, Int.tmod_eq_emod_of_nonneg (by omega)]
    have g1 : (0 : Int) ≤ i := o4.1
    by_cases c1 : now = c
    · rw [if_neg (by omega)] at ho
      have g2 := sizeAt_get i o4
      have c1' : decide (now = c) = true := by simp [c1]
      simp only [cookieBack_tree, Tr.eval, hm, ho, cookLives, Option.bind_some, decide_true, Bool.not_true, cond_false, n1, n2, decide_false, c1', cond_true, sizes_fn, g1, g2]
    · by_cases c2 : now = (c + 1) % 32
      · rw [if_neg (by omega)] at ho
        have g2 := sizeAt_get i o4
        simp only [cookieBack_tree, Tr.eval, hm, ho, cookLives, Option.bind_some, decide_true, Bool.not_true, cond_false, n1, n2, decide_false, c1, ht, ← c2, cond_true, sizes_fn, g1, g2]
      · rw [if_pos (by omega)] at ho
        simp only [cookieBack_tree, Tr.eval, hm, ho, cookLives, Option.bind_some, decide_true, Bool.not_true, cond_false, n1, n2, decide_false, c1, ht, c2, cond_true]
  · rw [if_neg ok] at hm
    obtain ⟨m, hm1, ho⟩ := open_fn k0 k1 a b fp tp seq 0 now ⟨by omega, by omega⟩ h9
    simp only [cookieBack_tree, Tr.eval, hm, ho, cookLives, Option.bind_some, decide_true, Bool.not_true, cond_false, cond_true, Int.reduceEq, decide_false, Bool.not_false]
end Go.Proofs.Ytjehhmeaigkbnaa.X
