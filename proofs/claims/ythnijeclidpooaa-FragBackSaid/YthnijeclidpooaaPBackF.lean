/- frag: pieces of a packet as parts. Conditions: none. -/
import Derived.Test.YthnijeclidpooaaPFeedI
namespace Go.Proofs.Ythnijeclidpooaa.X
open Go Go.RowKit Go.Proofs.Ythnijeclidpooaa.Abs Go.Proofs.Ythnijeclidpooaa.Bits
set_option linter.unusedVariables false
set_option linter.unnecessarySimpa false
set_option linter.unusedSimpArgs false
set_option maxRecDepth 100000
theorem pieces_get {p : TPacket} {st : Nat} (h8 : 8 ≤ st) : ∀ {j : Nat} {d : List UInt8} {L : List TPacket}, Pieces p st j d L → ∀ (k : Nat) (q : TPacket), L[k]? = some q → q = piece p st (j + k) (d.drop (k * st)) ∧ k * st < d.length ∧ (k + 1 = L.length ↔ d.length ≤ (k + 1) * st) := by
  intro j d L h
  induction h with
  | nil j => intro k q hq; simp at hq
  | cons j d L hne hL ih =>
    intro k q hq
    have hdl : 0 < d.length := List.length_pos_iff.2 hne
    cases k with
    | zero =>
      simp at hq
      subst hq
      refine ⟨by simp, by simpa using hdl, ?_⟩
      rw [Nat.zero_add, Nat.one_mul, List.length_cons]
      constructor
      · intro e
        have hL0 : L = [] := List.eq_nil_of_length_eq_zero (by omega)
        rw [hL0] at hL
        by_cases hd : d.drop st = []
        · simpa using hd
        · generalize d.drop st = x at hL hd
          cases hL
          exact absurd rfl hd
      · intro e
        have : d.drop st = [] := List.drop_eq_nil_of_le e
        rw [this] at hL
        cases hL with
        | nil => rfl
        | cons _ _ _ h2 _ => exact absurd rfl h2
    | succ k =>
      simp only [List.getElem?_cons_succ] at hq
      obtain ⟨a1, a2, a3⟩ := ih k q hq
      rw [List.length_drop] at a2 a3
      have e1 : (k + 1) * st = st + k * st := by rw [Nat.succ_mul, Nat.add_comm]
      have e2 : (k + 1 + 1) * st = st + (k + 1) * st := by rw [Nat.succ_mul, Nat.add_comm]
      refine ⟨?_, by omega, ?_⟩
      · rw [a1, List.drop_drop, e1, show j + 1 + k = j + (k + 1) by omega]
      · rw [List.length_cons, e2]
        constructor
        · intro e; have := a3.1 (by omega); omega
        · intro e; have := a3.2 (by omega); omega
/-- The pieces of a packet, so many. -/
structure Cut (p : TPacket) (st : Nat) (L : List TPacket) : Prop where
  ref : RefOk p
  whole : p.whole = false
  more : p.more = false
  start : p.start = 0
  h8 : 8 ≤ st
  hm : st % 8 = 0
  big : p.data.length ≤ 65515
  pc : Pieces p st 0 p.data L
  two : 2 ≤ L.length
  most : L.length ≤ 64
section
variable {p : TPacket} {st : Nat} {L : List TPacket} (hc : Cut p st L)
include hc
theorem Cut.at' {k : Nat} {q : TPacket} (hq : L[k]? = some q) : q.tos = p.tos ∧ q.id = p.id ∧ q.life = p.life ∧ q.proto = p.proto ∧ q.from' = p.from' ∧ q.to = p.to ∧ q.options = p.options ∧ q.whole = false ∧ 8 * q.start = ((k * st : Nat) : Int) ∧ q.data = (p.data.drop (k * st)).take st ∧ q.more = !decide (k + 1 = L.length) ∧ k * st < p.data.length := by
  obtain ⟨a1, a2, a3⟩ := pieces_get hc.h8 hc.pc k q hq
  rw [Nat.zero_add] at a1
  have hdiv : 8 * (k * st / 8) = k * st := by
    have : (k * st) % 8 = 0 := by rw [Nat.mul_mod, hc.hm]; simp
    omega
  subst a1
  refine ⟨rfl, rfl, rfl, rfl, rfl, rfl, rfl, hc.whole, ?_, rfl, ?_, a2⟩
  · show 8 * (p.start + ((k * st / 8 : Nat) : Int)) = _
    rw [hc.start]; omega
  · show (if st < (p.data.drop (k * st)).length then true else p.more) = _
    rw [hc.more, List.length_drop]
    by_cases e : k + 1 = L.length
    · have := a3.1 e
      rw [Nat.succ_mul] at this
      rw [if_neg (by omega)]; simp [e]
    · have h4 : ¬ p.data.length ≤ (k + 1) * st := fun h => e (a3.2 h)
      rw [Nat.succ_mul] at h4
      rw [if_pos (by omega)]; simp [e]
theorem Cut.len {k : Nat} {q : TPacket} (hq : L[k]? = some q) : (k + 1 < L.length → q.data.length = st ∧ (k + 1) * st < p.data.length) ∧ (k + 1 = L.length → q.data.length = p.data.length - k * st) := by
  obtain ⟨_, _, _, _, _, _, _, _, _, hd, _, hlt⟩ := hc.at' hq
  obtain ⟨_, _, a3⟩ := pieces_get hc.h8 hc.pc k q hq
  rw [hd, List.length_take, List.length_drop]
  rw [Nat.succ_mul] at *
  constructor
  · intro h
    have : ¬ p.data.length ≤ k * st + st := fun e => by have := a3.2 e; omega
    omega
  · intro h
    have := a3.1 h
    omega
theorem Cut.part {k : Nat} {q : TPacket} (hq : L[k]? = some q) : (partOf q).at' = ((k * st : Nat) : Int) ∧ (partOf q).data = q.data ∧ (partOf q).last = decide (k + 1 = L.length) := by
  obtain ⟨_, _, _, _, _, _, _, _, hs, hd, hm, hlt⟩ := hc.at' hq
  refine ⟨hs, rfl, ?_⟩
  show (!q.more) = _
  rw [hm, Bool.not_not]
theorem Cut.rp {k : Nat} {q : TPacket} (hq : L[k]? = some q) : RP (partOf q) := by
  obtain ⟨h1, h2, h3⟩ := hc.part hq
  obtain ⟨l1, l2⟩ := hc.len hq
  obtain ⟨_, _, _, _, _, _, _, _, hs, hd, hm, hlt⟩ := hc.at' hq
  have hkl := (List.getElem?_eq_some_iff.1 hq).1
  have hb := hc.big
  have h8 := hc.h8
  have hmm := hc.hm
  have hmod : (k * st) % 8 = 0 := by rw [Nat.mul_mod, hmm]; simp
  refine ⟨?_, by rw [h1]; omega, by rw [h1]; omega, ?_, ?_⟩
  · rw [h2]
    intro e
    rw [e] at l1 l2
    simp only [List.length_nil] at l1 l2
    by_cases hk : k + 1 = L.length
    · have := l2 hk; omega
    · have := (l1 (by omega)).1; omega
  · unfold pend
    rw [h1, h2]
    by_cases hk : k + 1 = L.length
    · have := l2 hk; omega
    · obtain ⟨e1, e2⟩ := l1 (by omega)
      rw [Nat.succ_mul] at e2
      omega
  · by_cases hk : k + 1 = L.length
    · left; rw [h3]; simpa using hk
    · right; rw [h2, (l1 (by omega)).1]; exact hmm
theorem Cut.refq {k : Nat} {q : TPacket} (hq : L[k]? = some q) : RefOk q ∧ ¬ (q.more = false ∧ q.start = 0) := by
  obtain ⟨e1, e2, e3, e4, e5, e6, e7, e8, hs, hd, hm, hlt⟩ := hc.at' hq
  have hkl := (List.getElem?_eq_some_iff.1 hq).1
  have h2 := hc.two
  have hr := hc.ref
  have hb := hc.big
  have hlq : q.data.length ≤ p.data.length := by rw [hd, List.length_take, List.length_drop]; omega
  refine ⟨⟨by rw [e1]; exact hr.tos, by rw [e3]; exact hr.life, by rw [e4]; exact hr.proto, by rw [e2]; exact hr.id, by omega, by rw [e7]; exact hr.opt, by rw [e7]; exact hr.four, fun h => (by rw [e8] at h; cases h), ?_⟩, ?_⟩
  · have := hr.data; rw [e7]; omega
  · rintro ⟨a, b⟩
    rw [hm] at a
    have hk : k + 1 = L.length := by simpa using a
    have : k * st = 0 := by omega
    have h8 := hc.h8
    rcases Nat.mul_eq_zero.1 this with e | e
    · omega
    · omega
/-- Two pieces that are not the same say nothing of each other. -/
theorem Cut.apart {j k : Nat} {q r : TPacket} (hq : L[j]? = some q) (hr : L[k]? = some r) (hne : j ≠ k) : clash (partOf q) (partOf r) = false ∧ eqP (partOf q) (partOf r) = false ∧ ((partOf q).at' < (partOf r).at' ↔ j < k) := by
  obtain ⟨a1, a2, a3⟩ := hc.part hq
  obtain ⟨b1, b2, b3⟩ := hc.part hr
  obtain ⟨la, _⟩ := hc.len hq
  obtain ⟨lb, _⟩ := hc.len hr
  have hj := (List.getElem?_eq_some_iff.1 hq).1
  have hk := (List.getElem?_eq_some_iff.1 hr).1
  have h8 := hc.h8
  have lt : ∀ {x y : Nat}, x < y → x * st + st ≤ y * st := fun {x y} h => by
    have := Nat.mul_le_mul_right st (show x + 1 ≤ y from h)
    rw [Nat.succ_mul] at this; exact this
  have pa : j + 1 < L.length → pend (partOf q) = ((j * st + st : Nat) : Int) := fun h => by unfold pend; rw [a1, a2, (la h).1]; omega
  have pb : k + 1 < L.length → pend (partOf r) = ((k * st + st : Nat) : Int) := fun h => by unfold pend; rw [b1, b2, (lb h).1]; omega
  rcases Nat.lt_or_gt_of_ne hne with h | h
  · have := lt h
    have hp := pa (by omega)
    have hla : (partOf q).last = false := by rw [a3]; simp; omega
    refine ⟨?_, ?_, fun _ => h, fun _ => by rw [a1, b1]; omega⟩
    · unfold clash
      rw [hla, hp]
      have e1 : decide ((partOf r).at' < ((j * st + st : Nat) : Int)) = false := by simp only [decide_eq_false_iff_not]; rw [b1]; omega
      have e2 : decide ((partOf r).at' < (partOf q).at') = false := by simp only [decide_eq_false_iff_not]; rw [a1, b1]; omega
      rw [e1, e2]; simp
    · unfold eqP
      have e1 : decide ((partOf q).at' = (partOf r).at') = false := by simp only [decide_eq_false_iff_not]; rw [a1, b1]; omega
      rw [e1]; rfl
  · have := lt h
    have hp := pb (by omega)
    have hlb : (partOf r).last = false := by rw [b3]; simp; omega
    have e2 : decide ((partOf q).at' < (partOf r).at') = false := by simp only [decide_eq_false_iff_not]; rw [a1, b1]; omega
    refine ⟨?_, ?_, fun h' => (by rw [a1, b1] at h'; omega), fun h' => by omega⟩
    · unfold clash
      rw [hlb, hp]
      have e1 : decide ((partOf q).at' < ((k * st + st : Nat) : Int)) = false := by simp only [decide_eq_false_iff_not]; rw [a1]; omega
      rw [e1, e2]; simp
    · unfold eqP
      have e1 : decide ((partOf q).at' = (partOf r).at') = false := by simp only [decide_eq_false_iff_not]; rw [a1, b1]; omega
      rw [e1]; rfl
end
end Go.Proofs.Ythnijeclidpooaa.X
