/- Operations with typed rows, and with conditions that are not decided. For whatever program. Conditions: none. -/
import Derived.Test.YtjehhmeaigkbnaaAbsV
namespace Go.Proofs.Ytjehhmeaigkbnaa.Abs
open Go Go.RowKit
set_option linter.unusedVariables false
set_option linter.unusedSimpArgs false

section
variable {P : Program} {w0 : World} {U0 : Nat → Prop} {X : Nat → Nat → Prop} {β0 β : Nat → Option Place} {U : Nat → Prop} {s : St} {a : Act} {w : World}

theorem mul_add_lt {i j sz n : Nat} (hi : i < n) (hj : j < sz) : i * sz + j < n * sz := mul_lt_of hi hj

theorem idx_apart {i i' j j' sz : Nat} (hj : j < sz) (hj' : j' < sz) (h : i * sz + j = i' * sz + j') : i = i' ∧ j = j' := by
  have e1 : (i * sz + j) / sz = i := by rw [Nat.mul_comm, Nat.mul_add_div (by omega), Nat.div_eq_of_lt hj]; rfl
  have e2 : (i' * sz + j') / sz = i' := by rw [Nat.mul_comm, Nat.mul_add_div (by omega), Nat.div_eq_of_lt hj']; rfl
  have : i = i' := by rw [← e1, h, e2]
  subst this
  exact ⟨rfl, by omega⟩

theorem SimB.storeRow (h : SimB w0 U0 X β0 β U s a w) {k ver : Nat} {e : TypeId} {sz : Nat} {ap fr fr' : Bool} {rows : List (List D)} {b : Blk} (hb : s.blk k = some b) (hstd : b.std = .row ver e sz ap fr rows)
    {g n c : Nat} (hk : β k = some (.row (.slice (some ⟨g, 0, none⟩) n c) ver)) {us : List Value} {ds : List D} (hl : us.length = ds.length)
    (hds : ∀ (j : Nat) (u : Value) (d : D), us[j]? = some u → ds[j]? = some d → RepI w (fun b => U b ∧ (fr' = true → w0.heap.size ≤ b)) u d) (h1 : ∀ u ∈ us, u.oneCell' = true)
    {i off : Nat} {r : List D} (hr : rows[i]? = some r) (hle : off + ds.length ≤ sz) :
    SimB w0 U0 X β0 (upd β k (.row (.slice (some ⟨g, 0, none⟩) n c) ver)) U (s.set k (.row ver e sz ap (fr && fr') (rows.set i (spliceC r off ds)))) a (w.setCells g (i * sz + off) us) := by
  obtain ⟨q1, q2, q3⟩ := h.placeStd (by rw [hb]; exact congrArg some hstd) hk
  obtain ⟨g', cap', cur, fz, e1, hg, h3, h4, h5, h6, h7, h8⟩ : ∃ (g' cap : Nat) (cur : Array Value) (fz : Nat × Nat), Value.slice (some ⟨g, 0, none⟩) n c = .slice (some ⟨g', 0, none⟩) rows.length cap ∧ w.heap[g']? = some (.cells cur e fz) ∧ rows.length ≤ cap ∧ cap ≤ maxLen ∧ cur.size = cap * sz ∧
         (ap = true → fz = (0, 0)) ∧ (∀ i, i < rows.length * sz → w.frozen? ⟨g', i, none⟩ = false) ∧
         ∀ (i j : Nat) (r : List D) (d : D), rows[i]? = some r → r[j]? = some d → ∃ u, cur[i * sz + j]? = some u ∧ u.oneCell' = true ∧ RepI w (fun b => U b ∧ (fr = true → w0.heap.size ≤ b)) u d := by
    rcases q3 with ⟨e1, _⟩ | q3
    · cases e1
    · exact q3
  cases e1
  have hi : i < rows.length := (List.getElem?_eq_some_iff.1 hr).1
  have hrl : r.length = sz := q2 r (List.mem_of_getElem? hr)
  obtain ⟨cur', p1, p2, p3⟩ := setCells_shape g us (i * sz + off) w cur e fz hg
  have hUo : ∀ b', U b' → (w.setCells g (i * sz + off) us).heap[b']? = w.heap[b']? := fun b' hb' => setCells_other g us _ w b' (fun e => by subst e; exact (h.apart k _ b' hk rfl).1 hb')
  have hwr : ∀ j, j < us.length → (w.cell? ⟨g, i * sz + off + j, none⟩).isSome = true := fun j hj => by
    have hlt : i * sz + (off + j) < rows.length * sz := mul_lt_of hi (by omega)
    have hlt2 : rows.length * sz ≤ c * sz := Nat.mul_le_mul_right _ h3
    rw [Nat.add_assoc]
    simp only [World.cell?, hg]
    rw [Array.getElem?_eq_getElem (by omega)]; rfl
  have hin : ∀ j, (hj : j < us.length) → cur'[i * sz + off + j]? = some us[j] := fun j hj => by
    have := World.cell?_setCells_in g us (i * sz + off) w hwr j hj
    simp only [World.cell?, p1] at this
    exact this
  refine h.repl hk hb (setCells_rest g us _ w).1 (setCells_rest g us _ w).2.1 (setCells_rest g us _ w).2.2 (by rw [setCells_size]; exact Nat.le_refl _) (fun b' _ hne => setCells_other g us _ w b' (fun e => hne (by rw [e]; rfl)))
    (fun b' j hb' hnc => ?_) (fun b' hb' hpb => ?_) (.inl rfl) (fun b' hb' => .inl hb') (fun b' j hc => .inl hc) ⟨rfl, fun r' hr' => ?_, .inr ⟨g, c, cur', fz, by rw [List.length_set], p1, by rw [List.length_set]; exact h3, h4, by omega, h6, fun j hj => ?_, fun i' j r' d hi' hj => ?_⟩⟩
  · have hne : b' ≠ g := fun e => hnc (by subst e; rfl)
    exact ⟨World.cell?_of_block (w := w) (setCells_other g us _ w b' hne), World.frozen?_of_block (w := w) (setCells_other g us _ w b' hne)⟩
  · exact .inr (.inr fun j => hpb)
  · rcases List.mem_or_eq_of_mem_set hr' with hm | rfl
    · exact q2 _ hm
    · rw [spliceC_len _ _ _ (by omega)]; exact hrl
  · rw [List.length_set] at hj; rw [World.frozen?_setCells]; exact h7 j hj
  · have old : ∀ r0 d0, rows[i']? = some r0 → r0[j]? = some d0 → (i' = i → j < off ∨ off + ds.length ≤ j) → d = d0 → ∃ u, cur'[i' * sz + j]? = some u ∧ u.oneCell' = true ∧ RepI (w.setCells g (i * sz + off) us) (fun b => U b ∧ ((fr && fr') = true → w0.heap.size ≤ b)) u d := by
      intro r0 d0 hr0 hd0 hout hd
      subst hd
      obtain ⟨u, k1, k2, k3⟩ := h8 i' j r0 d hr0 hd0
      have hjl : j < sz := by have := (List.getElem?_eq_some_iff.1 hd0).1; have := q2 r0 (List.mem_of_getElem? hr0); omega
      refine ⟨u, ?_, k2, (k3.mono (fun b hb => ⟨hb.1, fun e => hb.2 (by simp at e; exact e.1)⟩) (fun _ _ => rfl)).mono (fun _ hb => hb) (fun b hb => hUo b hb.1)⟩
      rw [p3 _ (by
        rcases Nat.lt_or_ge (i' * sz + j) (i * sz + off) with hlt | hge
        · exact .inl hlt
        · right
          rcases Nat.lt_or_ge (i' * sz + j) (i * sz + off + us.length) with hlt | hge'
          · exfalso
            obtain ⟨t, ht⟩ : ∃ t, i' * sz + j = i * sz + (off + t) ∧ t < us.length := ⟨i' * sz + j - (i * sz + off), by omega, by omega⟩
            obtain ⟨e1, e2⟩ := idx_apart hjl (by omega) ht.1
            have := hout e1
            omega
          · exact hge')]
      exact k1
    by_cases hii : i = i'
    · subst hii
      rw [List.getElem?_set_self hi] at hi'
      obtain rfl := Option.some.inj hi'
      rw [spliceC_get _ _ _ _ (by omega)] at hj
      split at hj
      · rename_i hjj
        obtain ⟨hlt, hv⟩ := List.getElem?_eq_some_iff.1 hj
        have hlt' : j - off < us.length := by omega
        have hi2 := hin (j - off) hlt'
        rw [show i * sz + off + (j - off) = i * sz + j by omega] at hi2
        refine ⟨us[j - off], hi2, h1 _ (List.getElem_mem hlt'), (hds (j - off) _ d (List.getElem?_eq_getElem hlt') hj).mono (fun b hb => ⟨hb.1, fun e => hb.2 (by simp at e; exact e.2)⟩) (fun b hb => hUo b hb.1)⟩
      · exact old r d hr hj (fun _ => by omega) rfl
    · rw [List.getElem?_set_ne hii] at hi'
      exact old r' d hi' hj (fun e => absurd e.symm hii) rfl
end
end Go.Proofs.Ytjehhmeaigkbnaa.Abs
