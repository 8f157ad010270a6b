/- Maps, as lists of entries: what stands where. Conditions: none. -/
import Derived.Test.YtcedkdopoigijaaCod
namespace Go.Proofs.Ytcedkdopoigijaa.X
open Go Go.RowKit Go.Proofs.Ytcedkdopoigijaa.Abs
set_option linter.unusedVariables false
theorem mGet_cons (kt : Nat) (k : τ kt) (e : τ kt × Int) (r : List (τ kt × Int)) : mGet kt k (e :: r) = if keyEq kt k e.1 = true then some e.2 else mGet kt k r := by
  unfold mGet
  by_cases h : keyEq kt k e.1 = true
  · rw [if_pos h]
    simp only [mIdx, h]
    rfl
  · have h' : keyEq kt k e.1 = false := by simpa using h
    rw [if_neg h]
    simp only [mIdx, h']
    cases mIdx kt k r with
    | none => rfl
    | some j => simp [mVal]
theorem mGet_nil (kt : Nat) (k : τ kt) : mGet kt k [] = none := rfl
theorem mPut_nil (kt : Nat) (k : τ kt) (v : Int) : mPut kt k v [] = [(k, v)] := rfl
theorem mPut_cons (kt : Nat) (k : τ kt) (v : Int) (e : τ kt × Int) (r : List (τ kt × Int)) : mPut kt k v (e :: r) = if keyEq kt k e.1 = true then (k, v) :: r else e :: mPut kt k v r := by
  unfold mPut
  by_cases h : keyEq kt k e.1 = true
  · rw [if_pos h]
    simp only [mIdx, h]
    rfl
  · have h' : keyEq kt k e.1 = false := by simpa using h
    rw [if_neg h]
    simp only [mIdx, h']
    cases mIdx kt k r with
    | none => rfl
    | some j => simp
theorem get_put_same {kt : Nat} (hq : ∀ a b : τ kt, keyEq kt a b = true ↔ a = b) (k : τ kt) (v : Int) : ∀ es : List (τ kt × Int), mGet kt k (mPut kt k v es) = some v
  | [] => by rw [mPut_nil, mGet_cons, if_pos ((hq k k).2 rfl)]
  | e :: r => by
    rw [mPut_cons]
    split
    · rw [mGet_cons, if_pos ((hq k k).2 rfl)]
    · rename_i h
      rw [mGet_cons, if_neg h, get_put_same hq k v r]
theorem get_put_ne {kt : Nat} (hq : ∀ a b : τ kt, keyEq kt a b = true ↔ a = b) {k k' : τ kt} (hne : k ≠ k') (v : Int) : ∀ es : List (τ kt × Int), mGet kt k (mPut kt k' v es) = mGet kt k es
  | [] => by rw [mPut_nil, mGet_cons, if_neg (fun h => hne ((hq _ _).1 h))]
  | e :: r => by
    rw [mPut_cons]
    split
    · rename_i h
      have e1 := (hq _ _).1 h
      rw [mGet_cons, if_neg (fun h => hne ((hq _ _).1 h)), mGet_cons, if_neg (fun h => hne (((hq _ _).1 h).trans e1.symm))]
    · rw [mGet_cons, mGet_cons, get_put_ne hq hne v r]
theorem key0 (a b : τ 0) : keyEq 0 a b = true ↔ a = b := decide_eq_true_iff
theorem gp_same (q v : Int) (m : List (Int × Int)) : mGet 0 q (mPut 0 q v m) = some v := get_put_same (kt := 0) key0 q v m
theorem gp_ne {q q' : Int} (h : q ≠ q') (v : Int) (m : List (Int × Int)) : mGet 0 q (mPut 0 q' v m) = mGet 0 q m := get_put_ne (kt := 0) key0 h v m
end Go.Proofs.Ytcedkdopoigijaa.X
