/- sip: number, More, as plain functions; the laws SipBack and SipCuts. Conditions: none. -/
import Derived.Test.YtjehhmeaigkbnaaPSip
namespace Go.Proofs.Ytjehhmeaigkbnaa.X
open Go Go.RowKit Go.Proofs.Ytjehhmeaigkbnaa.Abs Go.Proofs.Ytjehhmeaigkbnaa.Bits
set_option linter.unusedVariables false
set_option linter.unusedSimpArgs false

def nstep (l : List UInt8) (acc i : Int) : Int := bits .or .u64 acc (IntKind.u64.wrap (IntKind.u64.wrap ((l.getD i.toNat 0).toNat : Int) * 2 ^ min (IntKind.i64.wrap (8 * i)).toNat 64))
def numG (l : List UInt8) (i : Int) (acc : Int) : Nat → Int
  | 0 => acc
  | k + 1 => numG l (i + 1) (nstep l acc i) k
def numI (l : List UInt8) : Int := numG l 0 0 l.length
theorem bits_r (op : BinOp) (x y : Int) : R64 (bits op .u64 x y) := by
  have : bits op .u64 x y = IntKind.u64.wrap ((match op with
    | .and => BitVec.ofInt IntKind.u64.bits x &&& BitVec.ofInt IntKind.u64.bits y
    | .or => BitVec.ofInt IntKind.u64.bits x ||| BitVec.ofInt IntKind.u64.bits y
    | .xor => BitVec.ofInt IntKind.u64.bits x ^^^ BitVec.ofInt IntKind.u64.bits y
    | _ => BitVec.ofInt IntKind.u64.bits x &&& ~~~BitVec.ofInt IntKind.u64.bits y).toNat) := rfl
  rw [this, wrap64u]; unfold R64; omega
theorem numG_r (l : List UInt8) : ∀ (k : Nat) (i acc : Int), R64 acc → R64 (numG l i acc k)
  | 0, i, acc, h => h
  | k + 1, i, acc, h => numG_r l k (i + 1) _ (bits_r _ _ _)
theorem numI_r (l : List UInt8) : R64 (numI l) := numG_r l _ _ _ (by unfold R64; omega)

theorem number_fn (l : List UInt8) (hl : l.length ≤ 1000000) : sipNumber_fn (l, ()) = some (numI l, ()) := by
  have h := loopO_fn (tag := 480003) (f := fun x => (sipNumber_step48_3 x).eval) (fun x => 0 ≤ x.1 ∧ x.1 ≤ x.2.2.2.1 ∧ x.2.1 = l ∧ x.2.2.2.1 = l.length) (fun x => (numG x.2.1 x.1 x.2.2.1 (x.2.2.2.1 - x.1).toNat, ())) (fun x => (x.2.2.2.1 - x.1).toNat)
    (by
      rintro ⟨i, l', acc, n, ⟨⟩⟩ ⟨h1, h2, h3, h4⟩
      simp only at h1 h2 h3 h4
      subst h3
      by_cases hlt : i < n
      · right
        have hw : IntKind.i64.wrap (8 * i) = 8 * i := wrapI64 ⟨by omega, by omega⟩
        have hw2 : IntKind.i64.wrap (i + 1) = i + 1 := wrapI64 ⟨by omega, by omega⟩
        refine ⟨(i + 1, (l', (nstep l' acc i, (n, ())))), ?_, ⟨by simp only; omega, by simp only; omega, rfl, h4⟩, by simp only; omega, ?_⟩
        · have c1 : (0 ≤ i ∧ i < (l'.length : Int)) := ⟨h1, by omega⟩
          have c2 : (0 : Int) ≤ 8 * i := by omega
          simp only [sipNumber_step48_3, Tr.eval, hlt, decide_true, cond_true, c1, c2, hw, hw2, nstep, and_self]
        · simp only
          rw [show (n - i).toNat = (n - (i + 1)).toNat + 1 by omega]
          rfl
      · left
        simp only [sipNumber_step48_3, Tr.eval, hlt, decide_false, cond_false]
        rw [show (n - i).toNat = 0 by omega]
        rfl) 18446744073709551616 (0, (l, (0, (l.length, ())))) ⟨by simp, by simp, rfl, rfl⟩ (by simp only; omega)
  unfold sipNumber_fn sipNumber_tree
  simp only [Tr.eval]
  unfold sipNumber_loop48_3
  rw [h]
  simp only [Option.bind_some, Int.sub_zero, Int.toNat_natCast]
  rfl

/-- Pieces of eight bytes, one behind the other. -/
def feedN : Nat → S4 → List UInt8 → S4 × List UInt8
  | 0, v, l => (v, l)
  | n + 1, v, l => if 8 ≤ l.length then feedN n (takeF v (numI (l.take 8))) (l.drop 8) else (v, l)
theorem feedN_up : ∀ (n m : Nat) (v : S4) (l : List UInt8), l.length ≤ n → l.length ≤ m → feedN n v l = feedN m v l
  | 0, 0, v, l, _, _ => rfl
  | 0, m + 1, v, l, h, _ => by unfold feedN; rw [if_neg (by omega)]
  | n + 1, 0, v, l, _, h => by unfold feedN; rw [if_neg (by omega)]
  | n + 1, m + 1, v, l, h1, h2 => by
    unfold feedN
    split
    · exact feedN_up n m _ _ (by rw [List.length_drop]; omega) (by rw [List.length_drop]; omega)
    · rfl
def feed (v : S4) (l : List UInt8) : S4 × List UInt8 := feedN l.length v l
theorem feed_lt {v : S4} {l : List UInt8} (h : l.length < 8) : feed v l = (v, l) := by
  unfold feed
  cases hl : l.length with
  | zero => rfl
  | succ n => unfold feedN; rw [if_neg (by omega)]
theorem feed_ge {v : S4} {l : List UInt8} (h : 8 ≤ l.length) : feed v l = feed (takeF v (numI (l.take 8))) (l.drop 8) := by
  unfold feed
  obtain ⟨n, hn⟩ : ∃ n, l.length = n + 1 := ⟨l.length - 1, by omega⟩
  rw [hn]
  show (if 8 ≤ l.length then feedN n (takeF v (numI (l.take 8))) (l.drop 8) else (v, l)) = _
  rw [if_pos h]
  exact feedN_up _ _ _ _ (by rw [List.length_drop]; omega) (by rw [List.length_drop]; omega)

theorem moreLoop (l : List UInt8) (v : S4) (p : List UInt8) (n a7 a8 a9 a10 : Int) (a11 : List UInt8) (a12 : Int) (hl : l.length ≤ 1000000000000000) :
    sipMore_loop23_6 (l, (v.a, (v.b, (v.c, (v.d, (p, (n, (a7, (a8, (a9, (a10, (a11, (a12, ()))))))))))))) =
      some ((feed v l).2, (a7, (a8, (a9, (a10, (a11, (a12, ((feed v l).1.a, ((feed v l).1.b, ((feed v l).1.c, ((feed v l).1.d, (p, (n, ()))))))))))))) := by
  have h := loopO_fn (tag := 230006) (f := fun x => (sipMore_step23_6 x).eval) (fun _ => True)
    (fun x => ((feed ⟨x.2.1, x.2.2.1, x.2.2.2.1, x.2.2.2.2.1⟩ x.1).2, (x.2.2.2.2.2.2.2.1, (x.2.2.2.2.2.2.2.2.1, (x.2.2.2.2.2.2.2.2.2.1, (x.2.2.2.2.2.2.2.2.2.2.1, (x.2.2.2.2.2.2.2.2.2.2.2.1, (x.2.2.2.2.2.2.2.2.2.2.2.2.1,
      ((feed ⟨x.2.1, x.2.2.1, x.2.2.2.1, x.2.2.2.2.1⟩ x.1).1.a, ((feed ⟨x.2.1, x.2.2.1, x.2.2.2.1, x.2.2.2.2.1⟩ x.1).1.b, ((feed ⟨x.2.1, x.2.2.1, x.2.2.2.1, x.2.2.2.2.1⟩ x.1).1.c, ((feed ⟨x.2.1, x.2.2.1, x.2.2.2.1, x.2.2.2.2.1⟩ x.1).1.d, (x.2.2.2.2.2.1, (x.2.2.2.2.2.2.1, ()))))))))))))) )
    (fun x => x.1.length)
    (by
      rintro ⟨l, a, b, c, d, p, n, a7, a8, a9, a10, a11, a12, ⟨⟩⟩ -
      by_cases h8 : (8 : Int) ≤ (l.length : Int)
      · right
        have h8' : 8 ≤ l.length := by omega
        have hn := number_fn (l.take 8) (by rw [List.length_take]; omega)
        refine ⟨(l.drop 8, ((takeF ⟨a, b, c, d⟩ (numI (l.take 8))).a, ((takeF ⟨a, b, c, d⟩ (numI (l.take 8))).b, ((takeF ⟨a, b, c, d⟩ (numI (l.take 8))).c, ((takeF ⟨a, b, c, d⟩ (numI (l.take 8))).d, (p, (n, (a7, (a8, (a9, (a10, (a11, (a12, ()))))))))))))), ?_, trivial, by simp only [List.length_drop]; omega, ?_⟩
        · simp only [sipMore_step23_6, Tr.eval, h8, decide_true, cond_true, Int.le_refl, and_self, List.drop_zero, hn, Option.bind_some, rounds2, Int.toNat_natCast, List.take_length, takeF, ux, true_and, and_true, Int.reduceLE]
        · simp only
          rw [feed_ge (v := ⟨a, b, c, d⟩) h8']
      · left
        simp only [sipMore_step23_6, Tr.eval, h8, decide_false, cond_false]
        rw [feed_lt (v := ⟨a, b, c, d⟩) (by omega)]) 18446744073709551616 (l, (v.a, (v.b, (v.c, (v.d, (p, (n, (a7, (a8, (a9, (a10, (a11, (a12, ()))))))))))))) trivial (by simp only; omega)
  unfold sipMore_loop23_6
  rw [h]

/-- What check tells. -/
def checkF (p : List UInt8) (n : Int) : Int := if n < 0 then 4 else if (p.length : Int) = n.tmod 8 then 0 else 4
theorem check_fn (a b c d : Int) (p : List UInt8) (n : Int) : sipCheck_fn (a, (b, (c, (d, (p, (n, ())))))) = some (checkF p n, ()) := by
  unfold sipCheck_fn sipCheck_tree checkF
  simp only [Tr.eval, cond_true]
  by_cases h : n < 0
  · simp [h]
  · by_cases h2 : (p.length : Int) = n.tmod 8 <;> simp [h, h2]

theorem more_bad (v : S4) (p s : List UInt8) (n : Int) (h : checkF p n ≠ 0) : sipMore_fn (v.a, (v.b, (v.c, (v.d, (p, (n, (s, ()))))))) = some (v.a, (v.b, (v.c, (v.d, (p, (n, (checkF p n, ()))))))) := by
  unfold sipMore_fn sipMore_tree
  simp only [Tr.eval, check_fn, Option.bind_some, h, decide_false, Bool.not_false, cond_true]
theorem more_ok (v : S4) (p s : List UInt8) (n : Int) (h : checkF p n = 0) (hp : p.length ≤ 500000000000000) (hs : s.length ≤ 500000000000000) :
    sipMore_fn (v.a, (v.b, (v.c, (v.d, (p, (n, (s, ()))))))) = some ((feed v (p ++ s)).1.a, ((feed v (p ++ s)).1.b, ((feed v (p ++ s)).1.c, ((feed v (p ++ s)).1.d, ((feed v (p ++ s)).2, (IntKind.i64.wrap (n + s.length), (0, ()))))))) := by
  unfold sipMore_fn sipMore_tree
  have hl : p.length + s.length ≤ 9223372036854775807 := by omega
  simp only [Tr.eval, check_fn, Option.bind_some, h, decide_true, Bool.not_true, cond_false, hl, cond_true]
  rw [moreLoop _ v _ _ _ _ _ _ _ _ (by rw [List.length_append]; omega)]
  rfl

theorem lives : sipLives_fn () = some (true, ()) := by kernel_rfl

theorem sipBack_true {a0 a1 a2 a3 : Int} {a4 : List UInt8} {a5 a6 a7 a8 a9 : Int} {a10 : List UInt8} {a11 : Int} {s : List UInt8} (h0 : 0 ≤ a0 ∧ a0 ≤ 18446744073709551615) (h1 : 0 ≤ a1 ∧ a1 ≤ 18446744073709551615) (h2 : 0 ≤ a2 ∧ a2 ≤ 18446744073709551615) (h3 : 0 ≤ a3 ∧ a3 ≤ 18446744073709551615) (h4 : a4.length ≤ 140737488351232) (h5 : -9223372036854775808 ≤ a5 ∧ a5 ≤ 9223372036854775807)
  (g0 : 0 ≤ a6 ∧ a6 ≤ 18446744073709551615) (g1 : 0 ≤ a7 ∧ a7 ≤ 18446744073709551615) (g2 : 0 ≤ a8 ∧ a8 ≤ 18446744073709551615) (g3 : 0 ≤ a9 ∧ a9 ≤ 18446744073709551615) (g4 : a10.length ≤ 140737488351232) (g5 : -9223372036854775808 ≤ a11 ∧ a11 ≤ 9223372036854775807) (hs : s.length ≤ 140737488351232) :
  (sipBack_tree (a0, a1, a2, a3, a4, a5, a6, a7, a8, a9, a10, a11, s, ())).eval = some (true, ()) := by
  by_cases h8 : (s.length : Int) = 8
  · have hc : checkF [] 0 = 0 := rfl
    have m1 := more_ok ⟨a0, a1, a2, a3⟩ [] s 0 hc (by simp) (by omega)
    have m2 := more_ok ⟨a6, a7, a8, a9⟩ [] s 0 hc (by simp) (by omega)
    have hd : (s.drop 8) = [] := List.drop_eq_nil_of_le (by omega)
    rw [List.nil_append, feed_ge (by omega), hd, feed_lt (by simp)] at m1 m2
    simp only at m1 m2
    simp only [sipBack_tree, Tr.eval, lives, Option.bind_some, Bool.not_true, cond_false, h8, decide_true, m1, m2, cond_true]
    have hm : R64 (numI (s.take 8)) := numI_r _
    generalize numI (s.take 8) = m at hm ⊢
    have ok1 : (⟨a0, a1, a2, a3⟩ : S4).Ok := ⟨h0, h1, h2, h3⟩
    have ok2 : (⟨a6, a7, a8, a9⟩ : S4).Ok := ⟨g0, g1, g2, g3⟩
    by_cases e : (⟨a0, a1, a2, a3⟩ : S4) = ⟨a6, a7, a8, a9⟩
    · rw [e]; injection e with e1 e2 e3 e4
      subst e1; subst e2; subst e3; subst e4
      simp
    · have hne : takeF ⟨a0, a1, a2, a3⟩ m ≠ takeF ⟨a6, a7, a8, a9⟩ m := fun q => e (takeF_inj ok1 ok2 hm q)
      have b1 : (decide (a0 = a6) && (decide (a1 = a7) && (decide (a2 = a8) && (decide (a3 = a9) && true))) && true) = false := by
        rw [Bool.eq_false_iff]
        intro q
        simp at q
        exact e (by rw [q.1, q.2.1, q.2.2.1, q.2.2.2])
      generalize takeF ⟨a0, a1, a2, a3⟩ m = v at hne ⊢
      generalize takeF ⟨a6, a7, a8, a9⟩ m = w at hne ⊢
      have b2 : (decide (v.a = w.a) && (decide (v.b = w.b) && (decide (v.c = w.c) && (decide (v.d = w.d) && true)))) = false := by
        rw [Bool.eq_false_iff]
        intro q
        simp at q
        apply hne
        cases v; cases w; simp at q ⊢; exact q
      simp only [b1, b2, Bool.false_and, BEq.rfl]
  · simp only [sipBack_tree, Tr.eval, lives, Option.bind_some, Bool.not_true, cond_false, h8, decide_false, Bool.not_false, cond_true]
end Go.Proofs.Ytjehhmeaigkbnaa.X
