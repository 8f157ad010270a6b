/- slices.DeleteFunc in loops of trees: what is left is what is not to go. Conditions: none. -/
import Derived.Test.YtnhiilbmgkbbaaaPList
namespace Go.Proofs.Ytnhiilbmgkbbaaa.X
open Go Go.RowKit Go.Proofs.Ytnhiilbmgkbbaaa.Abs Go.Proofs.Ytnhiilbmgkbbaaa.Bits
set_option linter.unusedVariables false
set_option linter.unnecessarySimpa false
set_option linter.unusedSimpArgs false

/-- A loop that asks something of each. -/
theorem loop_all {A B T : Type} {tag : Nat} {f : A → Option (A ⊕ B)} {l : List T} (st : Nat → A) (p : Nat → T → Prop) (bad good : B)
    (h1 : ∀ (i : Nat) (x : T), l[i]? = some x → (p i x → f (st i) = some (.inl (st (i + 1)))) ∧ (¬ p i x → f (st i) = some (.inr bad)))
    (h2 : f (st l.length) = some (.inr good)) (n : Nat) (hn : l.length < n) : ((∀ i x, l[i]? = some x → p i x) ∧ loopO tag f n (st 0) = some good) ∨ ((¬ ∀ i x, l[i]? = some x → p i x) ∧ loopO tag f n (st 0) = some bad) := by
  have key : ∀ (c k n : Nat), k + c = l.length → c < n → ((∀ i x, k ≤ i → l[i]? = some x → p i x) ∧ loopO tag f n (st k) = some good) ∨ ((¬ ∀ i x, l[i]? = some x → p i x) ∧ loopO tag f n (st k) = some bad) := by
    intro c
    induction c with
    | zero =>
      intro k n hk hn
      obtain ⟨n, rfl⟩ : ∃ m, n = m + 1 := ⟨n - 1, by omega⟩
      have : k = l.length := by omega
      subst this
      refine .inl ⟨fun i x hi hx => ?_, loopO_out h2⟩
      have := (List.getElem?_eq_some_iff.1 hx).1
      omega
    | succ c ih =>
      intro k n hk hn
      obtain ⟨n, rfl⟩ : ∃ m, n = m + 1 := ⟨n - 1, by omega⟩
      have hkl : k < l.length := by omega
      obtain ⟨g1, g2⟩ := h1 k l[k] (List.getElem?_eq_getElem hkl)
      by_cases hp : p k l[k]
      · rcases ih (k + 1) n (by omega) (by omega) with ⟨a1, a2⟩ | ⟨a1, a2⟩
        · refine .inl ⟨fun i x hi hx => ?_, by rw [loopO_in (g1 hp)]; exact a2⟩
          by_cases e : i = k
          · subst e; rw [List.getElem?_eq_getElem hkl] at hx; cases hx; exact hp
          · exact a1 i x (by omega) hx
        · exact .inr ⟨a1, by rw [loopO_in (g1 hp)]; exact a2⟩
      · exact .inr ⟨fun hall => hp (hall k _ (List.getElem?_eq_getElem hkl)), loopO_out (g2 hp)⟩
  rcases key l.length 0 n (by omega) hn with ⟨a1, a2⟩ | h
  · exact .inl ⟨fun i x hx => a1 i x (by omega) hx, a2⟩
  · exact .inr h
theorem compactG {A B T : Type} {tag : Nat} {f : A → Option (A ⊕ B)} {l : List T} (st : Nat → Nat → List T → A) (out : Nat → List T → B) (q : T → Bool)
    (h1 : ∀ (j i : Nat) (L : List T) (x : T), L.length = l.length → i ≤ j → j < l.length → L[j]? = some x → f (st j i L) = match q x with | true => some (.inl (st (j + 1) i L)) | false => some (.inl (st (j + 1) (i + 1) (L.set i x))))
    (h2 : ∀ (i : Nat) (L : List T), L.length = l.length → i ≤ l.length → f (st l.length i L) = some (.inr (out i L))) :
    ∀ (c j i : Nat) (L : List T) (n : Nat), j + c = l.length → c < n → L.length = l.length → i ≤ j → L.take i = (l.take j).filter (fun x => !q x) → L.drop j = l.drop j →
    ∃ (i' : Nat) (L' : List T), loopO tag f n (st j i L) = some (out i' L') ∧ L'.length = l.length ∧ i' ≤ l.length ∧ L'.take i' = l.filter (fun x => !q x) := by
  intro c
  induction c with
  | zero =>
    intro j i L n hj hn hL hij ht hd
    obtain ⟨n, rfl⟩ : ∃ m, n = m + 1 := ⟨n - 1, by omega⟩
    have : j = l.length := by omega
    subst this
    refine ⟨i, L, loopO_out (h2 i L hL hij), hL, hij, ?_⟩
    rw [ht, List.take_length]
  | succ c ih =>
    intro j i L n hj hn hL hij ht hd
    obtain ⟨n, rfl⟩ : ∃ m, n = m + 1 := ⟨n - 1, by omega⟩
    have hjl : j < l.length := by omega
    have hx : L[j]? = l[j]? := by have := congrArg (·[0]?) hd; simpa using this
    have hxl : l[j]? = some l[j] := List.getElem?_eq_getElem hjl
    generalize hxx : l[j] = x at hxl
    rw [hxl] at hx
    have hfil : (l.take (j + 1)).filter (fun x => !q x) = (l.take j).filter (fun x => !q x) ++ [x].filter (fun x => !q x) := by
      rw [List.take_add_one, hxl, List.filter_append]; rfl
    have hdd : L.drop (j + 1) = l.drop (j + 1) := by rw [← List.drop_drop, hd, List.drop_drop]
    have hs := h1 j i L x hL hij hjl hx
    cases ho : q x with
    | true =>
      rw [ho] at hs
      rw [loopO_in hs]
      refine ih (j + 1) i L n (by omega) (by omega) hL (by omega) ?_ hdd
      rw [hfil, ht]; simp [ho]
    | false =>
      rw [ho] at hs
      rw [loopO_in hs]
      refine ih (j + 1) (i + 1) (L.set i x) n (by omega) (by omega) (by simpa using hL) (by omega) ?_ ?_
      · rw [hfil, ← ht, List.take_add_one, List.take_set_of_le (Nat.le_refl i), List.getElem?_set_self (by omega)]
        simp [ho]
      · rw [List.drop_set_of_lt (by omega), hdd]
/-- What stands ahead of the first one that goes stays as it is. -/
theorem hit_pre {T : Type} (q : T → Bool) {l : List T} {i : Nat} {x : T} (h : hit q l = some (i, x)) : l.take i = (l.take (i + 1)).filter (fun y => !q y) := by
  have hi := hit_lt h
  have hx := hit_at h
  have e1 : l = l.take i ++ x :: l.drop (i + 1) := by
    obtain ⟨_, rfl⟩ := List.getElem?_eq_some_iff.1 hx.1
    rw [← List.drop_eq_getElem_cons hi, List.take_append_drop]
  have hpre : ∀ y ∈ l.take i, q y = false := by
    have : hit q l = hit q (l.take i ++ x :: l.drop (i + 1)) := congrArg _ e1
    rw [hit_app] at this
    cases h3 : hit q (l.take i) with
    | none => exact hit_none.1 h3
    | some p =>
      have h4 := hit_lt (i := p.1) (x := p.2) h3
      rw [h, h3] at this
      simp at this h4
      have := congrArg Prod.fst this
      simp at this; omega
  rw [List.take_add_one, hx.1, List.filter_append, List.filter_eq_self.2 fun y hy => by simp [hpre y hy]]
  simp [hx.2]
theorem hit_all {T : Type} (q : T → Bool) {l : List T} (h : hit q l = none) : l.filter (fun y => !q y) = l :=
  List.filter_eq_self.2 fun x hx => by simp [hit_none.1 h x hx]
end Go.Proofs.Ytnhiilbmgkbbaaa.X
