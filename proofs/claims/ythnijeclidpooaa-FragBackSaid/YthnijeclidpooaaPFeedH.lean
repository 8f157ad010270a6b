/- frag: pools stay right. Conditions: none. -/
import Derived.Test.YthnijeclidpooaaPFeedG
namespace Go.Proofs.Ythnijeclidpooaa.X
open Go Go.RowKit Go.Proofs.Ythnijeclidpooaa.Abs Go.Proofs.Ythnijeclidpooaa.Bits
set_option linter.unusedVariables false
set_option linter.unnecessarySimpa false
set_option linter.unusedSimpArgs false
set_option maxRecDepth 100000
/-- A heap that may be one, but that it may have no parts yet. -/
structure HW (h : THeap) : Prop where
  len : h.parts.length ≤ 64
  rp : ∀ (i : Nat) (p : TPart), h.parts[i]? = some p → RP p
  ord : ∀ (i : Nat) (p q : TPart), h.parts[i]? = some p → h.parts[i + 1]? = some q → p.last = false ∧ pend p ≤ q.at'
  fst : (∀ (p : TPart), h.parts[0]? = some p → p.at' = 0 ∨ (h.tos = 0 ∧ h.life = 0 ∧ h.options = [])) ∧ (h.parts = [] → h.tos = 0 ∧ h.life = 0 ∧ h.options = [])
theorem HOk.w {h : THeap} (ho : HOk h) : HW h := ⟨ho.len, ho.rp, ho.ord, ho.fst, fun e => absurd e ho.ne⟩
theorem kHeap_w (p : TPacket) : HW (kHeap p) := ⟨by simp [kHeap], fun i q hq => by simp [kHeap] at hq, fun i q r hq => by simp [kHeap] at hq, fun q hq => by simp [kHeap] at hq, fun _ => ⟨rfl, rfl, rfl⟩⟩
theorem HW.sorted {h : THeap} (hw : HW h) : ∀ (j i : Nat) (p q : TPart), i < j → h.parts[i]? = some p → h.parts[j]? = some q → p.last = false ∧ pend p ≤ q.at' ∧ p.at' < q.at'
  | 0, i, p, q, hij, _, _ => by omega
  | j + 1, i, p, q, hij, hp, hq => by
    have hlt := (List.getElem?_eq_some_iff.1 hq).1
    have hpp := (hw.rp i p hp).pos
    by_cases e : i = j
    · subst e
      obtain ⟨a, b⟩ := hw.ord i p q hp hq
      unfold pend at b ⊢
      exact ⟨a, b, by omega⟩
    · obtain ⟨r, hr⟩ := get_lt (l := h.parts) (i := j) (by omega)
      obtain ⟨a1, a2, a3⟩ := HW.sorted hw j i p r (by omega) hp hr
      obtain ⟨b1, b2⟩ := hw.ord j r q hr hq
      have := (hw.rp j r hr).pos
      unfold pend at b2
      exact ⟨a1, by omega, by omega⟩
/-- Where a part is put in. -/
theorem putL_at {h : THeap} (hw : HW h) (p : TPart) : ∀ (r : List TPart) (i a : Nat), h.parts.drop i = r → a ≤ i → (∀ (j : Nat) (o : TPart), j < i → h.parts[j]? = some o → (o.at' < p.at' ↔ j < a) ∧ clash o p = false) → ∀ b, putL p i a r = .at' b →
    ∀ (j : Nat) (o : TPart), h.parts[j]? = some o → (o.at' < p.at' ↔ j < b) ∧ clash o p = false
  | [], i, a, hd, ha, hI, b, hb, j, o, ho => by
    unfold putL at hb
    cases hb
    have hlt := (List.getElem?_eq_some_iff.1 ho).1
    have : h.parts.length ≤ i := by have := congrArg List.length hd; simp at this; omega
    exact hI j o (by omega) ho
  | x :: r, i, a, hd, ha, hI, b, hb, j, o, ho => by
    have hx : h.parts[i]? = some x := by have := congrArg (·[0]?) hd; simpa using this
    have hd2 : h.parts.drop (i + 1) = r := by rw [← List.drop_drop, hd]; rfl
    unfold putL at hb
    split at hb
    · cases hb
    · split at hb
      · cases hb
      · rename_i hcl
        have hcl : clash x p = false := by simpa using hcl
        by_cases hlt : x.at' < p.at'
        · rw [if_pos hlt] at hb
          refine putL_at hw p r (i + 1) (i + 1) hd2 (Nat.le_refl _) (fun j' o' hj' ho' => ?_) b hb j o ho
          by_cases e : j' = i
          · subst e; rw [hx] at ho'; cases ho'; exact ⟨⟨fun _ => by omega, fun _ => hlt⟩, hcl⟩
          · have := (hw.sorted i j' o' x (by omega) ho' hx).2.2
            exact ⟨⟨fun _ => by omega, fun _ => by omega⟩, (hI j' o' (by omega) ho').2⟩
        · rw [if_neg hlt] at hb
          refine putL_at hw p r (i + 1) a hd2 (by omega) (fun j' o' hj' ho' => ?_) b hb j o ho
          by_cases e : j' = i
          · subst e; rw [hx] at ho'; cases ho'; exact ⟨⟨fun h => absurd h hlt, fun h => by omega⟩, hcl⟩
          · exact hI j' o' (by omega) ho'
theorem clash_f {o p : TPart} (h : clash o p = false) : ¬ (p.at' < pend o ∧ o.at' < pend p) ∧ ¬ (o.last = true ∧ o.at' < p.at') ∧ ¬ (p.last = true ∧ p.at' < o.at') := by
  simp only [clash, Bool.or_eq_false_iff, Bool.and_eq_false_iff, decide_eq_false_iff_not] at h
  obtain ⟨h1, h2, h3⟩ := h
  refine ⟨fun ⟨a, b⟩ => ?_, fun ⟨a, b⟩ => ?_, fun ⟨a, b⟩ => ?_⟩
  · rcases h1 with h1 | h1
    · exact h1 a
    · exact h1 b
  · rcases h2 with h2 | h2
    · rw [a] at h2; cases h2
    · exact h2 b
  · rcases h3 with h3 | h3
    · rw [a] at h3; cases h3
    · exact h3 b
theorem insF_get {α : Type} {l : List α} {i : Nat} (hi : i ≤ l.length) (x : α) (q : Nat) : (l.take i ++ x :: l.drop i)[q]? = if q < i then l[q]? else if q = i then some x else l[q - 1]? := by
  have hl : (l.take i).length = i := by rw [List.length_take]; omega
  split
  · rename_i h; rw [List.getElem?_append_left (by omega), List.getElem?_take, if_pos h]
  · rename_i h
    rw [List.getElem?_append_right (by omega), hl]
    split
    · rename_i h2; subst h2; simp
    · rename_i h2
      rw [show q - i = (q - i - 1) + 1 by omega, List.getElem?_cons_succ, List.getElem?_drop]
      congr 1; omega
theorem putIn_parts (h : THeap) (p : TPacket) (a : Nat) : (putIn h p a).parts = h.parts.take a ++ partOf p :: h.parts.drop a := by unfold putIn; split <;> rfl
theorem putIn_key (h : THeap) (p : TPacket) (a : Nat) : keyOf (putIn h p a) = keyOf h := by unfold putIn; split <;> rfl
theorem putIn_ok {h : THeap} (hw : HW h) {p : TPacket} (hs : 0 ≤ p.start) (h3 : RP (partOf p)) {a : Nat} (hp : putL (partOf p) 0 0 h.parts = .at' a) (hl : h.parts.length < 64) : HOk (putIn h p a) := by
  have hat := putL_at hw (partOf p) h.parts 0 0 rfl (Nat.le_refl _) (fun j o hj => by omega) a hp
  have hle := (putL_le (partOf p) h.parts 0 0 (Nat.le_refl _) a hp).2
  have hle : a ≤ h.parts.length := by omega
  have hget := insF_get hle (partOf p)
  have hpos := h3.pos
  refine ⟨by rw [putIn_parts]; simp, by rw [putIn_parts, List.length_append, List.length_take, List.length_cons, List.length_drop]; omega, fun i q hq => ?_, fun i q r hq hr => ?_, fun q hq => ?_⟩
  · rw [putIn_parts, hget] at hq
    split at hq
    · exact hw.rp _ q hq
    · split at hq
      · cases hq; exact h3
      · exact hw.rp _ q hq
  · rw [putIn_parts, hget] at hq hr
    rcases Nat.lt_trichotomy i a with hi | hi | hi
    · rw [if_pos hi] at hq
      by_cases hi2 : i + 1 < a
      · rw [if_pos hi2] at hr; exact hw.ord i q r hq hr
      · rw [if_neg hi2, if_pos (by omega)] at hr
        cases hr
        obtain ⟨o1, o2⟩ := hat i q hq
        have hlt := o1.2 hi
        obtain ⟨c1, c2, c3⟩ := clash_f o2
        refine ⟨?_, ?_⟩
        · cases hl : q.last with
          | false => rfl
          | true => exact absurd ⟨hl, hlt⟩ c2
        · have : ¬ (partOf p).at' < pend q := fun h => c1 ⟨h, by unfold pend; omega⟩
          omega
    · subst hi
      rw [if_neg (by omega), if_pos rfl] at hq
      cases hq
      rw [if_neg (by omega), if_neg (by omega), Nat.add_sub_cancel] at hr
      obtain ⟨o1, o2⟩ := hat i r hr
      have hnl : ¬ r.at' < (partOf p).at' := fun h => by have := o1.1 h; omega
      obtain ⟨c1, c2, c3⟩ := clash_f o2
      have hrpos := (hw.rp i r hr).pos
      have hne : ¬ r.at' < pend (partOf p) := fun h => c1 ⟨by unfold pend; omega, h⟩
      refine ⟨?_, by omega⟩
      cases hl : (partOf p).last with
      | false => rfl
      | true => exact absurd ⟨hl, by unfold pend at hne; omega⟩ c3
    · rw [if_neg (by omega), if_neg (by omega)] at hq hr
      obtain ⟨i, rfl⟩ : ∃ k, i = k + 1 := ⟨i - 1, by omega⟩
      exact hw.ord i q r (by simpa using hq) (by simpa using hr)
  · rw [putIn_parts, hget] at hq
    by_cases h0 : 0 < a
    · rw [if_pos h0] at hq
      have hlt := (hat 0 q hq).1.2 h0
      have hq0 := (hw.rp 0 q hq).a0
      have hsn : ¬ p.start = 0 := fun e => by
        have : (partOf p).at' = 8 * p.start := rfl
        omega
      unfold putIn
      rw [if_neg hsn]
      exact hw.fst.1 q hq
    · have ha : a = 0 := by omega
      subst ha
      rw [if_neg h0, if_pos rfl] at hq
      cases hq
      by_cases hs0 : p.start = 0
      · left; show 8 * p.start = 0; omega
      · right
        unfold putIn
        rw [if_neg hs0]
        show h.tos = 0 ∧ h.life = 0 ∧ h.options = []
        cases hpp : h.parts with
        | nil => exact hw.fst.2 hpp
        | cons o r =>
          have ho : h.parts[0]? = some o := by rw [hpp]; rfl
          have hno : ¬ o.at' < (partOf p).at' := fun h => by have := (hat 0 o ho).1.1 h; omega
          have hp8 : (partOf p).at' = 8 * p.start := rfl
          rcases hw.fst.1 o ho with e | e
          · omega
          · exact e
theorem POk.erase {l : List THeap} (ho : POk l) (i : Nat) : POk (l.eraseIdx i) := by
  have hg : ∀ (j : Nat), (l.eraseIdx i)[j]? = if j < i then l[j]? else l[j + 1]? := fun j => List.getElem?_eraseIdx ..
  refine ⟨Nat.le_trans (List.length_eraseIdx_le ..) ho.len, fun h hh => ho.all h (List.mem_of_mem_eraseIdx hh), fun j k a b hjk ha hb => ?_⟩
  rw [hg] at ha hb
  split at ha
  · split at hb
    · exact ho.keys j k a b hjk ha hb
    · exact ho.keys j (k + 1) a b (by omega) ha hb
  · split at hb
    · omega
    · exact ho.keys (j + 1) (k + 1) a b (by omega) ha hb
end Go.Proofs.Ythnijeclidpooaa.X
