/- frag: when all pieces have come. Conditions: none. -/
import Derived.Test.YthnijeclidpooaaPBackH
namespace Go.Proofs.Ythnijeclidpooaa.X
open Go Go.RowKit Go.Proofs.Ythnijeclidpooaa.Abs Go.Proofs.Ythnijeclidpooaa.Bits
set_option linter.unusedVariables false
set_option linter.unnecessarySimpa false
set_option linter.unusedSimpArgs false
set_option linter.unusedSectionVars false
set_option maxRecDepth 100000
theorem wholeL_cons (acc : List UInt8) (o : TPart) (r : List TPart) : wholeL acc (o :: r) = if o.at' = (acc.length : Int) then wholeL (acc ++ o.data) r else none := rfl
theorem wholeL_app : ∀ (a b : List TPart) (acc : List UInt8), wholeL acc (a ++ b) = (wholeL acc a).bind fun d => wholeL d b
  | [], b, acc => rfl
  | o :: a, b, acc => by
    rw [List.cons_append, wholeL_cons, wholeL_cons]
    split
    · exact wholeL_app a b _
    · rfl
theorem first_not : ∀ (n : Nat) (S : Nat → Bool), (∀ j, j < n → S j = true) ∨ ∃ j, j < n ∧ S j = false ∧ ∀ i, i < j → S i = true
  | 0, S => .inl fun j hj => by omega
  | n + 1, S => by
    rcases first_not n S with h | ⟨j, h1, h2, h3⟩
    · cases hn : S n with
      | true =>
        refine .inl fun j hj => ?_
        by_cases e : j = n
        · rw [e]; exact hn
        · exact h j (by omega)
      | false => exact .inr ⟨n, by omega, hn, h⟩
    · exact .inr ⟨j, by omega, h2, h3⟩
section
variable {p : TPacket} {st : Nat} {L : List TPacket} (hc : Cut p st L)
include hc
theorem Cut.prt {k : Nat} (hk : k < L.length) : (X.prt L k).at' = ((k * st : Nat) : Int) ∧ (X.prt L k).data = (p.data.drop (k * st)).take st ∧ (X.prt L k).last = decide (k + 1 = L.length) ∧ k * st < p.data.length := by
  obtain ⟨q, hq⟩ := get_lt hk
  obtain ⟨_, _, _, _, _, _, _, _, hs, hd, hm, hlt⟩ := hc.at' hq
  obtain ⟨a1, a2, a3⟩ := hc.part hq
  rw [prt_at hq]
  exact ⟨a1, by rw [a2]; exact hd, a3, hlt⟩
theorem Cut.wholeR' : ∀ (m k : Nat), k + m ≤ L.length → wholeL (p.data.take (k * st)) ((List.range' k m).map (X.prt L)) = some (p.data.take ((k + m) * st))
  | 0, k, _ => by simp [wholeL]
  | m + 1, k, h => by
    obtain ⟨h1, h2, h3, h4⟩ := hc.prt (show k < L.length by omega)
    rw [List.range'_succ, List.map_cons, wholeL_cons]
    have hl : (p.data.take (k * st)).length = k * st := by rw [List.length_take]; omega
    rw [if_pos (by rw [h1, hl]), h2]
    have e : p.data.take (k * st) ++ (p.data.drop (k * st)).take st = p.data.take ((k + 1) * st) := by rw [Nat.succ_mul, List.take_add]
    rw [e, Cut.wholeR' m (k + 1) (by omega), show k + 1 + m = k + (m + 1) by omega]
theorem Cut.size : p.data.length ≤ L.length * st := by
  have h2 := hc.two
  obtain ⟨q, hq⟩ := get_lt (l := L) (i := L.length - 1) (by omega)
  obtain ⟨_, _, a3⟩ := pieces_get hc.h8 hc.pc _ q hq
  have := a3.1 (by omega)
  rwa [show L.length - 1 + 1 = L.length by omega] at this
theorem Cut.all {S : Nat → Bool} (hS : ∀ j, j < L.length → S j = true) : X.wholeR (came L S) = (p.data, true) := by
  have h2 := hc.two
  have hids : ids L.length S = List.range' 0 L.length := by
    unfold ids
    rw [List.range_eq_range', List.filter_eq_self]
    intro j hj
    exact hS j (by have := List.mem_range'_1.1 hj; omega)
  have hcm : came L S = (List.range' 0 L.length).map (X.prt L) := by unfold came; rw [hids]
  have hw := hc.wholeR' L.length 0 (by omega)
  rw [Nat.zero_mul, List.take_zero, Nat.zero_add, List.take_of_length_le hc.size] at hw
  have hlast : (came L S).getLast? = some (X.prt L (L.length - 1)) := by
    rw [hcm, List.getLast?_map, List.getLast?_range', if_neg (by omega)]
    simp
  obtain ⟨_, _, h3, _⟩ := hc.prt (show L.length - 1 < L.length by omega)
  unfold X.wholeR
  rw [hcm] at hlast ⊢
  rw [hw, hlast]
  simp only [h3]
  rw [decide_eq_true (show L.length - 1 + 1 = L.length by omega)]
theorem Cut.lacks {S : Nat → Bool} {j : Nat} (hj : j < L.length) (hS : S j = false) (hlo : ∀ i, i < j → S i = true) : (X.wholeR (came L S)).2 = false := by
  have hsp : ids L.length S = List.range' 0 j ++ (List.range' (j + 1) (L.length - (j + 1))).filter S := by
    unfold ids
    rw [range_split hj, List.filter_append, List.filter_cons, hS, List.range_eq_range']
    simp only [Bool.false_eq_true, if_false]
    rw [List.filter_eq_self.2 fun i hi => hlo i (by have := List.mem_range'_1.1 hi; omega)]
  have hw := hc.wholeR' j 0 (by omega)
  rw [Nat.zero_mul, List.take_zero, Nat.zero_add] at hw
  have hm : ∀ x ∈ (List.range' (j + 1) (L.length - (j + 1))).filter S, j < x ∧ x < L.length := fun x hx => by
    have := List.mem_range'_1.1 (List.mem_filter.1 hx).1
    omega
  generalize (List.range' (j + 1) (L.length - (j + 1))).filter S = R at hsp hm
  have hcm : came L S = (List.range' 0 j).map (X.prt L) ++ R.map (X.prt L) := by unfold came; rw [hsp, List.map_append]
  have hwl : wholeL [] (came L S) = wholeL (p.data.take (j * st)) (R.map (X.prt L)) := by rw [hcm, wholeL_app, hw]; rfl
  obtain ⟨_, _, _, hlt⟩ := hc.prt hj
  unfold X.wholeR
  rw [hwl]
  cases R with
  | cons x R =>
    obtain ⟨hx1, hx2⟩ := hm x List.mem_cons_self
    obtain ⟨h1, _, _, _⟩ := hc.prt hx2
    have hn : wholeL (p.data.take (j * st)) ((x :: R).map (X.prt L)) = none := by
      rw [List.map_cons, wholeL_cons]
      have hl : (p.data.take (j * st)).length = j * st := by rw [List.length_take]; omega
      have h8 := hc.h8
      have : j * st < x * st := Nat.mul_lt_mul_of_pos_right hx1 (by omega)
      rw [if_neg (by rw [h1, hl]; omega)]
    rw [hn]
  | nil =>
    rw [List.map_nil]
    simp only [wholeL]
    cases hg : (came L S).getLast? with
    | none => rfl
    | some o =>
      rw [hcm, List.map_nil, List.append_nil, List.getLast?_map, List.getLast?_range'] at hg
      split at hg
      · cases hg
      · rename_i hj0
        simp only [Option.map_some, Option.some.injEq] at hg
        obtain ⟨_, _, h3, _⟩ := hc.prt (show 0 + j - 1 < L.length by omega)
        subst hg
        show (X.prt L _).last = false
        rw [h3]
        simp; omega
end
end Go.Proofs.Ythnijeclidpooaa.X
