/- frag: what has come of a packet's pieces. Conditions: none. -/
import Derived.Test.YthnijeclidpooaaPBackF
namespace Go.Proofs.Ythnijeclidpooaa.X
open Go Go.RowKit Go.Proofs.Ythnijeclidpooaa.Abs Go.Proofs.Ythnijeclidpooaa.Bits
set_option linter.unusedVariables false
set_option linter.unnecessarySimpa false
set_option linter.unusedSimpArgs false
set_option maxRecDepth 100000
def prt (L : List TPacket) (k : Nat) : TPart := match L[k]? with | some q => partOf q | none => ⟨0, [], false⟩
theorem prt_at {L : List TPacket} {k : Nat} {q : TPacket} (h : L[k]? = some q) : prt L k = partOf q := by unfold prt; rw [h]
theorem putL_cons (p o : TPart) (i a : Nat) (r : List TPart) : putL p i a (o :: r) = if eqP o p = true then .dup else if clash o p = true then .bad else putL p (i + 1) (if o.at' < p.at' then i + 1 else a) r := rfl
/-- Those that have come, in order. -/
def ids (n : Nat) (S : Nat → Bool) : List Nat := (List.range n).filter S
def came (L : List TPacket) (S : Nat → Bool) : List TPart := (ids L.length S).map (prt L)
def plus (S : Nat → Bool) (k : Nat) : Nat → Bool := fun j => S j || decide (j = k)
theorem range_split {n k : Nat} (h : k < n) : List.range n = List.range k ++ k :: List.range' (k + 1) (n - (k + 1)) := by
  rw [List.range_eq_range', List.range_eq_range']
  have h1 : List.range' 0 n = List.range' 0 k ++ List.range' k (n - k) := by
    have := List.range'_append_1 (s := 0) (m := k) (n := n - k)
    rw [Nat.zero_add] at this
    rw [this, show k + (n - k) = n by omega]
  rw [h1, show n - k = (n - (k + 1)) + 1 by omega, List.range'_succ]
theorem ids_split {n k : Nat} (h : k < n) (S : Nat → Bool) (hS : S k = false) : ∃ r1 r2, ids n S = r1 ++ r2 ∧ ids n (plus S k) = r1 ++ k :: r2 ∧ (∀ j ∈ r1, j < k) ∧ ∀ j ∈ r2, k < j ∧ j < n := by
  refine ⟨(List.range k).filter S, (List.range' (k + 1) (n - (k + 1))).filter S, ?_, ?_, fun j hj => ?_, fun j hj => ?_⟩
  · unfold ids
    rw [range_split h, List.filter_append, List.filter_cons, hS]
    simp
  · unfold ids
    rw [range_split h, List.filter_append, List.filter_cons]
    have e1 : plus S k k = true := by simp [plus]
    rw [e1]
    simp only [if_true]
    congr 1
    · refine List.filter_congr fun j hj => ?_
      have := List.mem_range.1 hj
      have : ¬ j = k := by omega
      simp [plus, this]
    · congr 1
      refine List.filter_congr fun j hj => ?_
      have := (List.mem_range'_1.1 hj).1
      have : ¬ j = k := by omega
      simp [plus, this]
  · exact List.mem_range.1 (List.mem_filter.1 hj).1
  · have := List.mem_range'_1.1 (List.mem_filter.1 hj).1
    omega
section
variable {p : TPacket} {st : Nat} {L : List TPacket} (hc : Cut p st L)
include hc
theorem Cut.pair {j k : Nat} (hj : j < L.length) (hk : k < L.length) (hne : j ≠ k) : clash (prt L j) (prt L k) = false ∧ eqP (prt L j) (prt L k) = false ∧ ((prt L j).at' < (prt L k).at' ↔ j < k) := by
  obtain ⟨q, hq⟩ := get_lt hj
  obtain ⟨r, hr⟩ := get_lt hk
  rw [prt_at hq, prt_at hr]
  exact hc.apart hq hr hne
theorem Cut.put_lo {k : Nat} (hk : k < L.length) (rest : List TPart) : ∀ (r : List Nat) (i : Nat), (∀ j ∈ r, j < k) → putL (prt L k) i i (r.map (prt L) ++ rest) = putL (prt L k) (i + r.length) (i + r.length) rest
  | [], i, _ => rfl
  | j :: r, i, h => by
    have hj := h j List.mem_cons_self
    obtain ⟨a1, a2, a3⟩ := hc.pair (show j < L.length by omega) hk (by omega)
    rw [List.map_cons, List.cons_append, putL_cons, a2, a1, if_neg (by decide), if_neg (by decide), if_pos (a3.2 hj), Cut.put_lo hk rest r (i + 1) (fun x hx => h x (List.mem_cons_of_mem _ hx)), List.length_cons, show i + 1 + r.length = i + (r.length + 1) by omega]
theorem Cut.put_hi {k : Nat} (hk : k < L.length) : ∀ (r : List Nat) (i a : Nat), (∀ j ∈ r, k < j ∧ j < L.length) → putL (prt L k) i a (r.map (prt L)) = .at' a
  | [], i, a, _ => rfl
  | j :: r, i, a, h => by
    obtain ⟨hj1, hj2⟩ := h j List.mem_cons_self
    obtain ⟨a1, a2, a3⟩ := hc.pair hj2 hk (by omega)
    rw [List.map_cons, putL_cons, a2, a1, if_neg (by decide), if_neg (by decide), if_neg (show ¬ (prt L j).at' < (prt L k).at' from fun e => by have := a3.1 e; omega)]
    exact Cut.put_hi hk r (i + 1) a (fun x hx => h x (List.mem_cons_of_mem _ hx))
/-- A piece that is new is put where it belongs. -/
theorem Cut.put_new {k : Nat} (hk : k < L.length) {S : Nat → Bool} (hS : S k = false) : ∃ a, putL (prt L k) 0 0 (came L S) = .at' a ∧ (came L S).take a ++ prt L k :: (came L S).drop a = came L (plus S k) ∧ (came L S).length + 1 = (came L (plus S k)).length := by
  obtain ⟨r1, r2, e1, e2, h1, h2⟩ := ids_split hk S hS
  refine ⟨r1.length, ?_, ?_, ?_⟩
  · unfold came
    rw [e1, List.map_append, hc.put_lo hk _ r1 0 h1, Nat.zero_add]
    exact hc.put_hi hk r2 _ _ h2
  · unfold came
    rw [e1, e2, List.map_append, List.map_append, List.map_cons, List.take_left' (by simp), List.drop_left' (by simp)]
  · unfold came
    rw [e1, e2]; simp; omega
/-- One that has come is known. -/
theorem Cut.put_old {k : Nat} (hk : k < L.length) : ∀ (r : List Nat) (i a : Nat), (∀ j ∈ r, j < L.length) → k ∈ r → putL (prt L k) i a (r.map (prt L)) = .dup
  | [], i, a, _, h => by cases h
  | j :: r, i, a, h, hm => by
    rw [List.map_cons, putL_cons]
    by_cases e : j = k
    · subst e
      rw [if_pos (by simp [eqP])]
    · obtain ⟨a1, a2, a3⟩ := hc.pair (h j List.mem_cons_self) hk e
      rw [a2, a1, if_neg (by decide), if_neg (by decide)]
      refine Cut.put_old hk r (i + 1) _ (fun x hx => h x (List.mem_cons_of_mem _ hx)) ?_
      rcases List.mem_cons.1 hm with h | h
      · exact absurd h.symm e
      · exact h
theorem Cut.put_dup {k : Nat} (hk : k < L.length) {S : Nat → Bool} (hS : S k = true) : putL (prt L k) 0 0 (came L S) = .dup :=
  hc.put_old hk (ids L.length S) 0 0 (fun j hj => List.mem_range.1 (List.mem_filter.1 hj).1) (List.mem_filter.2 ⟨List.mem_range.2 hk, hS⟩)
end
end Go.Proofs.Ythnijeclidpooaa.X
