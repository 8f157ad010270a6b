/- frag: a pool with the pieces of one packet, fed with one more. Conditions: none. -/
import Derived.Test.YthnijeclidpooaaPBackG
namespace Go.Proofs.Ythnijeclidpooaa.X
open Go Go.RowKit Go.Proofs.Ythnijeclidpooaa.Abs Go.Proofs.Ythnijeclidpooaa.Bits
set_option linter.unusedVariables false
set_option linter.unnecessarySimpa false
set_option linter.unusedSimpArgs false
set_option maxRecDepth 100000
set_option linter.unusedSectionVars false
def heapOf (p : TPacket) (L : List TPacket) (S : Nat → Bool) : THeap :=
  ⟨p.from', p.to, p.proto, p.id, if S 0 = true then p.tos else 0, if S 0 = true then p.life else 0, if S 0 = true then p.options else [], came L S⟩
/-- The pool where these have come. -/
def poolOf (p : TPacket) (L : List TPacket) (S : Nat → Bool) : List THeap := if came L S = [] then [] else [heapOf p L S]
section
variable {p : TPacket} {st : Nat} {L : List TPacket} (hc : Cut p st L)
include hc
theorem Cut.blank {S : Nat → Bool} (h : came L S = []) : S 0 = false := by
  have h2 := hc.two
  cases h0 : S 0 with
  | false => rfl
  | true =>
    exfalso
    unfold came at h
    have : ids L.length S = [] := List.map_eq_nil_iff.1 h
    have hm : 0 ∈ ids L.length S := List.mem_filter.2 ⟨List.mem_range.2 (by omega), h0⟩
    rw [this] at hm; cases hm
theorem Cut.found {S : Nat → Bool} {k : Nat} {q : TPacket} (hq : L[k]? = some q) {l1 : List THeap} {i : Nat} {h : THeap} (hf : Found (poolOf p L S) q l1 i h) : l1 = [heapOf p L S] ∧ i = 0 ∧ h = heapOf p L S := by
  obtain ⟨e1, e2, e3, e4, e5, e6, e7, e8, hs, hd, hm, hlt⟩ := hc.at' hq
  have hkey : keyOf (heapOf p L S) = keyOf (kHeap q) := by simp [keyOf, heapOf, kHeap, e2, e4, e5, e6]
  unfold poolOf at hf
  by_cases hn : came L S = []
  · rw [if_pos hn] at hf
    have h0 := hc.blank hn
    have hk : kHeap q = heapOf p L S := by simp [kHeap, heapOf, e2, e4, e5, e6, h0, hn]
    cases hf with
    | old i h hi hk => simp at hi
    | new l0 hn2 h0 =>
      rcases h0 with ⟨e, _⟩ | ⟨_, rfl⟩
      · simp at e
      · exact ⟨by rw [hk]; rfl, rfl, hk⟩
  · rw [if_neg hn] at hf
    cases hf with
    | old i h hi hk =>
      cases i with
      | zero => simp at hi; exact ⟨rfl, rfl, hi.symm⟩
      | succ i => simp at hi
    | new l0 hn2 h0 => exact absurd hkey (hn2 _ (by simp))
theorem Cut.start0 {k : Nat} {q : TPacket} (hq : L[k]? = some q) : q.start = 0 ↔ k = 0 := by
  obtain ⟨_, _, _, _, _, _, _, _, hs, _, _, _⟩ := hc.at' hq
  have h8 := hc.h8
  constructor
  · intro e
    have : k * st = 0 := by omega
    rcases Nat.mul_eq_zero.1 this with h | h
    · exact h
    · omega
  · rintro rfl; omega
theorem Cut.putIn {S : Nat → Bool} {k : Nat} {q : TPacket} (hq : L[k]? = some q) (hS : S k = false) {a : Nat} (ha : putL (partOf q) 0 0 (came L S) = .at' a) : putIn (heapOf p L S) q a = heapOf p L (plus S k) := by
  obtain ⟨e1, e2, e3, e4, e5, e6, e7, e8, hs, hd, hm, hlt⟩ := hc.at' hq
  have hkl := (List.getElem?_eq_some_iff.1 hq).1
  obtain ⟨b, b1, b2, b3⟩ := hc.put_new hkl hS
  rw [prt_at hq] at b1 b2
  rw [ha] at b1
  cases b1
  have h0 := hc.start0 hq
  by_cases hk : k = 0
  · have hs0 := h0.2 hk
    have hp : plus S k 0 = true := by simp [plus, hk]
    unfold X.putIn
    rw [if_pos hs0]
    simp only [heapOf, hp, if_true, e1, e3, e7]
    rw [b2]
  · have hs0 : ¬ q.start = 0 := fun e => hk (h0.1 e)
    have hp : plus S k 0 = S 0 := by simp [plus, show ¬ 0 = k from fun e => hk e.symm]
    unfold X.putIn
    rw [if_neg hs0]
    simp only [heapOf, hp]
    rw [b2]
theorem came_le (S : Nat → Bool) : (came L S).length ≤ L.length := by
  unfold came ids
  rw [List.length_map]
  have := List.length_filter_le S (List.range L.length)
  rw [List.length_range] at this
  exact this
theorem came_ne {S : Nat → Bool} {k : Nat} (hk : k < L.length) (hS : S k = true) : came L S ≠ [] := fun h => by
  unfold came at h
  have : ids L.length S = [] := List.map_eq_nil_iff.1 h
  have hm : k ∈ ids L.length S := List.mem_filter.2 ⟨List.mem_range.2 hk, hS⟩
  rw [this] at hm; cases hm
/-- What one more piece comes to. -/
theorem Cut.feed {S : Nat → Bool} {k : Nat} {q : TPacket} (hq : L[k]? = some q) {l' : List THeap} {q' : TPacket} {ok : Bool} {e : Int} (hf : Fed (poolOf p L S) q l' q' ok e) :
    e = 0 ∧ ((S k = true ∧ ok = false ∧ l' = poolOf p L S) ∨ (S k = false ∧ (wholeR (came L (plus S k))).2 = false ∧ ok = false ∧ l' = poolOf p L (plus S k)) ∨ (S k = false ∧ (wholeR (came L (plus S k))).2 = true ∧ ok = true ∧ l' = [] ∧ q' = outOf (heapOf p L (plus S k)))) := by
  obtain ⟨hr, hnot⟩ := hc.refq hq
  have hrp := hc.rp hq
  have hkl := (List.getElem?_eq_some_iff.1 hq).1
  have hpool : S k = true → poolOf p L S = [heapOf p L S] := fun h => by unfold poolOf; rw [if_neg (came_ne hc hkl h)]
  have hplus : poolOf p L (plus S k) = [heapOf p L (plus S k)] := by unfold poolOf; rw [if_neg (came_ne hc hkl (by simp [plus]))]
  have hold : S k = true → putL (partOf q) 0 0 (came L S) = .dup := fun h => by have := hc.put_dup hkl h; rwa [prt_at hq] at this
  have hnew : S k = false → ∃ a, putL (partOf q) 0 0 (came L S) = .at' a ∧ (came L S).length < 64 := fun h => by
    obtain ⟨a, h1, _, h3⟩ := hc.put_new hkl h
    rw [prt_at hq] at h1
    have := came_le hc (plus S k)
    have := hc.most
    exact ⟨a, h1, by omega⟩
  cases hf with
  | bad e h1 he => exact absurd hr h1
  | one h1 h2 h3 => exact absurd ⟨h2, h3⟩ hnot
  | ref e h1 h3 he => exact absurd hrp h3
  | dup h1 h2 h3 hfd hp =>
    obtain ⟨rfl, rfl, rfl⟩ := hc.found hq hfd
    have hp : putL (partOf q) 0 0 (came L S) = .dup := hp
    cases hS : S k with
    | true => exact ⟨rfl, .inl ⟨rfl, rfl, (hpool hS).symm⟩⟩
    | false =>
      obtain ⟨a, ha, _⟩ := hnew hS
      rw [hp] at ha; cases ha
  | no e h1 h2 h3 hfd hp he =>
    obtain ⟨rfl, rfl, rfl⟩ := hc.found hq hfd
    exfalso
    have hp : putL (partOf q) 0 0 (came L S) = .bad ∨ ∃ a, putL (partOf q) 0 0 (came L S) = .at' a ∧ (came L S).length = 64 := hp
    cases hS : S k with
    | true =>
      have := hold hS
      rcases hp with h | ⟨a, h, _⟩ <;> (rw [this] at h; cases h)
    | false =>
      obtain ⟨a, ha, hl⟩ := hnew hS
      rcases hp with h | ⟨a, h, h64⟩
      · rw [ha] at h; cases h
      · omega
  | put h1 h2 h3 hfd hp hl hw =>
    obtain ⟨rfl, rfl, rfl⟩ := hc.found hq hfd
    cases hS : S k with
    | true => have := hold hS; have hp' : putL (partOf q) 0 0 (came L S) = _ := hp; rw [this] at hp'; cases hp'
    | false =>
      have hpi := hc.putIn hq hS hp
      rw [hpi] at hw ⊢
      exact ⟨rfl, .inr (.inl ⟨rfl, hw, rfl, by rw [hplus]; rfl⟩)⟩
  | full h1 h2 h3 hfd hp hl hw =>
    obtain ⟨rfl, rfl, rfl⟩ := hc.found hq hfd
    cases hS : S k with
    | true => have := hold hS; have hp' : putL (partOf q) 0 0 (came L S) = _ := hp; rw [this] at hp'; cases hp'
    | false =>
      have hpi := hc.putIn hq hS hp
      rw [hpi] at hw ⊢
      exact ⟨rfl, .inr (.inr ⟨rfl, hw, rfl, rfl, rfl⟩)⟩
end
end Go.Proofs.Ythnijeclidpooaa.X
