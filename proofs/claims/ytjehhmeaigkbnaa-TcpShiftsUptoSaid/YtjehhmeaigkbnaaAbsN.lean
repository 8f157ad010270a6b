/- An abstract walk: that a call by its contract does what its abstract twin says. For whatever program. -/
import Derived.Test.YtjehhmeaigkbnaaAbsM
namespace Go.Proofs.Ytjehhmeaigkbnaa.Abs
open Go Go.RowKit
set_option linter.unusedVariables false

theorem look_argsEnv : ∀ (xs : List V) (i t : Nat), look t (argsEnv i xs) = if i ≤ t then xs[t - i]? else none
  | [], i, t => by simp [argsEnv, look]
  | x :: r, i, t => by
    rw [argsEnv, look_cons, look_argsEnv r (i + 1) t]
    by_cases h1 : i = t
    · subst h1; simp
    · rw [if_neg h1]
      by_cases h2 : i + 1 ≤ t
      · rw [if_pos h2, if_pos (by omega), show t - i = (t - (i + 1)) + 1 by omega]; simp
      · rw [if_neg h2, if_neg (by omega)]

theorem okKs_spec : ∀ {ks : List (Nat × Nat)}, okKs ks = true → (∀ k q1 q2, (k, q1) ∈ ks → (k, q2) ∈ ks → q1 = q2) ∧ (∀ k1 k2 q, (k1, q) ∈ ks → (k2, q) ∈ ks → k1 = k2) ∧ (∀ k q, (k, q) ∈ ks → look k ks = some q) ∧
    (∀ k q, (k, q) ∈ ks → 1000000 ≤ q ∧ q < 2000000)
  | [], _ => ⟨fun _ _ _ h => by simp at h, fun _ _ _ h => by simp at h, fun _ _ h => by simp at h, fun _ _ h => by simp at h⟩
  | (k0, q0) :: r, h => by
    simp only [okKs, Bool.and_eq_true, List.all_eq_true, bne_iff_ne, ne_eq, decide_eq_true_eq] at h
    obtain ⟨⟨⟨h1, h2⟩, h3⟩, h4⟩ := h
    obtain ⟨i1, i2, i3, i4⟩ := okKs_spec h4
    refine ⟨fun k k1 k2 a b => ?_, fun k1 k2 k' a b => ?_, fun k k' a => ?_, fun k k' a => ?_⟩
    · rcases List.mem_cons.1 a with e | e <;> rcases List.mem_cons.1 b with e' | e'
      · cases e; cases e'; rfl
      · cases e; exact absurd rfl (h1 _ e').1
      · cases e'; exact absurd rfl (h1 _ e).1
      · exact i1 k k1 k2 e e'
    · rcases List.mem_cons.1 a with e | e <;> rcases List.mem_cons.1 b with e' | e'
      · cases e; cases e'; rfl
      · cases e; exact absurd rfl (h1 _ e').2
      · cases e'; exact absurd rfl (h1 _ e).2
      · exact i2 k1 k2 k' e e'
    · rw [look_cons]
      rcases List.mem_cons.1 a with e | e
      · cases e; rw [if_pos rfl]
      · rw [if_neg (fun q => by subst q; exact absurd rfl (h1 _ e).1)]
        exact i3 k k' e
    · rcases List.mem_cons.1 a with e | e
      · cases e; exact ⟨h2, h3⟩
      · exact i4 k k' e

theorem okKs_find {ks : List (Nat × Nat)} (h : okKs ks = true) {k q : Nat} (hk : (k, q) ∈ ks) : ks.find? (fun p => p.2 == q) = some (k, q) := by
  cases hf : ks.find? (fun p => p.2 == q) with
  | none => have := List.find?_eq_none.1 hf (k, q) hk; simp at this
  | some z =>
    obtain ⟨z1, z2⟩ := z
    have h1 := List.mem_of_find?_eq_some hf
    have h2 : z2 = q := by simpa using List.find?_some hf
    subst h2
    rw [(okKs_spec h).2.1 k z1 z2 hk h1]

theorem find_mem {ks : List (Nat × Nat)} {q k z : Nat} (hf : ks.find? (fun p => p.2 == q) = some (k, z)) : (k, q) ∈ ks ∧ z = q := by
  have h1 := List.mem_of_find?_eq_some hf
  have h2 : z = q := by simpa using List.find?_some hf
  subst h2
  exact ⟨h1, rfl⟩

section
variable {P : Program} {w0 : World} {U0 : Nat → Prop} {X : Nat → Nat → Prop} {β0 β : Nat → Option Place} {U : Nat → Prop} {s : St} {a : Act} {w : World}

/-- The blocks that nobody changes, for a call. -/
def UL (β : Nat → Option Place) (U : Nat → Prop) (ks : List (Nat × Nat)) (lock : Bool) (b : Nat) : Prop := U b ∨ (lock = true ∧ ∃ k v ver, β k = some (.row v ver) ∧ look k ks = none ∧ v.ownBlock = some b)
def βL (β : Nat → Option Place) (ks : List (Nat × Nat)) (q : Nat) : Option Place :=
  match ks.find? (fun p => p.2 == q) with
  | some (k, _) => (β k).map (Place.renum 0)
  | none => none
def XL (β : Nat → Option Place) (s : St) (ks : List (Nat × Nat)) (b j : Nat) : Prop := ∃ k q p blk, (k, q) ∈ ks ∧ β k = some p ∧ s.blk k = some blk ∧ p.covers blk b j

theorem βL_of {ks : List (Nat × Nat)} (hok : okKs ks = true) {k q : Nat} {p : Place} (hk : (k, q) ∈ ks) (hp : β k = some p) : βL β ks q = some (p.renum 0) := by
  unfold βL; rw [okKs_find hok hk]; simp [hp]
theorem βL_inv {ks : List (Nat × Nat)} {q : Nat} {p' : Place} (h : βL β ks q = some p') : ∃ k p, (k, q) ∈ ks ∧ β k = some p ∧ p' = p.renum 0 := by
  unfold βL at h
  split at h
  · rename_i k z hf
    obtain ⟨h1, rfl⟩ := find_mem hf
    rw [Option.map_eq_some_iff] at h
    obtain ⟨p, hp, rfl⟩ := h
    exact ⟨k, p, h1, hp, rfl⟩
  · cases h

theorem SimB.verOf (h : SimB w0 U0 X β0 β U s a w) {k : Nat} {p : Place} {b : Blk} (hp : β k = some p) (hb : s.blk k = some b) : (∃ x y, p = .cells x y ∧ b.isRow = false) ∨ ∃ v, p = .row v b.ver ∧ b.isRow = true := by
  obtain ⟨p', hp', hr⟩ := h.mem k b hb
  rw [hp] at hp'; cases hp'
  cases p with
  | cells x y =>
    cases b with
    | cells cs => exact .inl ⟨x, y, rfl, rfl⟩
    | row => exact hr.elim
    | rowT => exact hr.elim
  | row v ver0 =>
    cases b with
    | cells => exact hr.elim
    | row ver e sz ap fr rows => obtain ⟨rfl, _⟩ := hr; exact .inr ⟨v, rfl, rfl⟩
    | rowT ver e c ap fr xs => obtain ⟨rfl, _⟩ := hr; exact .inr ⟨v, rfl, rfl⟩

theorem sigIn_fits (h : SimB w0 U0 X β0 β U s a w) {ks : List (Nat × Nat)} (hok : okKs ks = true) : Fits β (βL β ks) (sigIn s.blk ks) := by
  intro k q cv nv hs
  unfold sigIn at hs
  split at hs
  · rename_i q' b e1 e2
    simp only [Option.some.injEq, Prod.mk.injEq] at hs
    obtain ⟨rfl, rfl, rfl⟩ := hs
    obtain ⟨p, hp, _⟩ := h.mem k b e2
    have hb' := βL_of hok (look_mem e1) hp
    rcases h.verOf hp e2 with ⟨x, y, rfl, _⟩ | ⟨v, rfl, _⟩
    · exact .inl ⟨x, y, hp, hb'⟩
    · exact .inr ⟨v, hp, hb'⟩
  · cases hs

/-- Rows in a block, seen as data. -/
theorem rows_view {UU : Nat → Prop} {g off len cap sz : Nat} {rows : List (List D)} (hg : UU g) (hlen : ∀ r ∈ rows, r.length = sz) (hle : off + len ≤ rows.length) (hcap : len ≤ cap)
    (hc : ∀ (i j : Nat) (r : List D) (d : D), rows[i]? = some r → r[j]? = some d → ∃ u, w.cell? ⟨g, i * sz + j, none⟩ = some u ∧ RepI w UU u d) :
    RepI w UU (.slice (some ⟨g, off * sz, none⟩) len cap) (.sl sz ((rows.drop off).take len)) := by
  have hl : ((rows.drop off).take len).length = len := by simp; omega
  have := RepI.sl (w := w) (U := UU) g (off * sz) cap sz ((rows.drop off).take len) (fun i j => (w.cell? ⟨g, off * sz + i * sz + j, none⟩).getD undef) hg
    (fun r hr => hlen r (List.mem_of_mem_drop (List.mem_of_mem_take hr))) (by rw [hl]; exact hcap)
    (fun i j r d hi hj => by
      rw [List.getElem?_take] at hi
      split at hi
      · rw [List.getElem?_drop] at hi
        obtain ⟨u, h1, _⟩ := hc (off + i) j r d hi hj
        rw [show off * sz + i * sz + j = (off + i) * sz + j by rw [Nat.add_mul]]
        rw [h1]; rfl
      · cases hi)
    (fun i j r d hi hj => by
      rw [List.getElem?_take] at hi
      split at hi
      · rw [List.getElem?_drop] at hi
        obtain ⟨u, h1, h2⟩ := hc (off + i) j r d hi hj
        rw [show off * sz + i * sz + j = (off + i) * sz + j by rw [Nat.add_mul], h1]
        exact h2
      · cases hi)
  rw [hl] at this
  exact this

theorem viewC_rep (h : SimB w0 U0 X β0 β U s a w) {ks : List (Nat × Nat)} (hok : okKs ks = true) {lock : Bool} {base : Nat} {v : Value} {c : C} (hc : RepC w β U w0.heap.size v c) : RepC w (βL β ks) (UL β U ks lock) base v (viewC s.blk (sigIn s.blk ks) lock c) := by
  have hU : ∀ b, U b → UL β U ks lock b := fun b hb => .inl hb
  have hf := sigIn_fits h hok
  -- the row of a key that is not handed over
  have cells : ∀ {k : Nat} {v0 : Value} {ver : Nat} {e : TypeId} {sz : Nat} {ap fr : Bool} {rows : List (List D)}, lock = true → sigIn s.blk ks k = none → (s.blk k).map Blk.std = some (.row ver e sz ap fr rows) → β k = some (.row v0 ver) → ∀ g n c, v0 = .slice (some ⟨g, 0, none⟩) n c →
      UL β U ks lock g ∧ n = rows.length ∧ (∀ r ∈ rows, r.length = sz) ∧ ∀ (i j : Nat) (r : List D) (d : D), rows[i]? = some r → r[j]? = some d → ∃ u, w.cell? ⟨g, i * sz + j, none⟩ = some u ∧ RepI w (UL β U ks lock) u d := by
    intro k v0 ver e sz ap fr rows hlk hs hb hk g n c hv
    have hnk : look k ks = none := by
      unfold sigIn at hs
      split at hs
      · cases hs
      · rename_i hno
        cases hl : look k ks with
        | none => rfl
        | some q => obtain ⟨b0, hb0, _⟩ := Option.map_eq_some_iff.1 hb; exact (hno q _ hl hb0).elim
    obtain ⟨q1, q2, q3⟩ := h.placeStd hb hk
    subst hv
    refine ⟨.inr ⟨hlk, k, _, ver, hk, hnk, rfl⟩, ?_⟩
    rcases q3 with ⟨e1, _⟩ | ⟨g', cap', cur, fz, e1, hg, h3, h4, h5, h6, h7, h8⟩
    · cases e1
    · cases e1
      refine ⟨rfl, q2, fun i j r d hi hj => ?_⟩
      obtain ⟨u, k1, k2, k3⟩ := h8 i j r d hi hj
      exact ⟨u, by simp only [World.cell?, hg]; simpa using k1, k3.mono (fun b hb => hU b hb.1) (fun _ _ => rfl)⟩
  cases c with
  | d x => exact RepI.mono hc hU (fun _ _ => rfl)
  | f x => exact RepI.mono (U := fun b => U b ∧ w0.heap.size ≤ b) hc (fun b hb => hU b hb.1) (fun _ _ => rfl)
  | nil => exact hc
  | own k ver len =>
    simp only [viewC]
    split
    · rename_i q cv nv hs
      have := RepC.ren hc hf
      simp only [C.ren, hs] at this
      have t2 := this
      split
      · rename_i hv; rw [if_pos hv] at t2
        exact (RepC.map t2 hU (fun _ _ => rfl) (Evo.refl _))
      · trivial
    · rename_i hs
      split
      · rename_i ver' e sz ap fr rows hb
        split
        · rename_i hv
          have hb' : (s.blk k).map Blk.std = some (.row ver' e sz ap fr rows) := by rw [hb]; rfl
          subst hv
          obtain ⟨ao, cap, v0, ver0, rfl, hlc, hn0, hs0, hk, hv1, hv2⟩ := hc
          obtain ⟨q1, q2, q3⟩ := h.placeStd hb' hk
          subst q1
          obtain rfl := hv2 rfl
          cases ao with
          | none =>
            obtain ⟨rfl, rfl⟩ := hn0 rfl
            rcases q3 with ⟨_, rfl⟩ | ⟨g', cap', cur, fz, e1, _⟩
            · exact .nil _ _ _ (fun _ => rfl)
            · cases e1
          | some ad =>
            obtain ⟨g, rfl⟩ := hs0 ad rfl
            obtain ⟨c1, c2, c3, c4⟩ := cells rfl hs hb' hk g _ _ rfl
            have := rows_view (w := w) (UU := UL β U ks true) (off := 0) (len := rows.length) (cap := cap) c1 c3 (by omega) (by omega) c4
            show RepI w (UL β U ks true) _ (.sl sz rows)
            simpa [c2] using this
        · trivial
      · rename_i ver' e c' ap fr xs hb
        split
        · rename_i hv
          subst hv
          have hb' : (s.blk k).map Blk.std = some (.row ver e (esz c') ap fr (xs.map (enc c'))) := by rw [hb]; rfl
          refine RepI.toSt ?_
          show RepI w (UL β U ks true) _ (.sl (esz c') (xs.map (enc c')))
          generalize xs.map (enc c') = rows at hb'
          generalize esz c' = sz at hb'
          obtain ⟨ao, cap, v0, ver0, rfl, hlc, hn0, hs0, hk, hv1, hv2⟩ := hc
          obtain ⟨q1, q2, q3⟩ := h.placeStd hb' hk
          subst q1
          obtain rfl := hv2 rfl
          cases ao with
          | none =>
            obtain ⟨rfl, rfl⟩ := hn0 rfl
            rcases q3 with ⟨_, rfl⟩ | ⟨g', cap', cur, fz, e1, _⟩
            · exact .nil _ _ _ (fun _ => rfl)
            · cases e1
          | some ad =>
            obtain ⟨g, rfl⟩ := hs0 ad rfl
            obtain ⟨c1, c2, c3, c4⟩ := cells rfl hs hb' hk g _ _ rfl
            have := rows_view (w := w) (UU := UL β U ks true) (off := 0) (len := rows.length) (cap := cap) c1 c3 (by omega) (by omega) c4
            show RepI w (UL β U ks true) _ (.sl sz rows)
            simpa [c2] using this
        · trivial
      · trivial
  | sub k ver sz off len =>
    simp only [viewC]
    split
    · rename_i q cv nv hs
      have := RepC.ren hc hf
      simp only [C.ren, hs] at this
      have t2 := this
      split
      · rename_i hv; rw [if_pos hv] at t2
        exact (RepC.map t2 hU (fun _ _ => rfl) (Evo.refl _))
      · trivial
    · rename_i hs
      split
      · rename_i ver' e sz' ap fr rows hb
        split
        · rename_i hv
          obtain ⟨rfl, rfl, hle⟩ := hv
          have hb' : (s.blk k).map Blk.std = some (.row ver e sz ap fr rows) := by rw [hb]; rfl
          obtain ⟨ao, cap, v0, ver0, rfl, hlc, hn0, hk, hv1, hv2⟩ := hc
          obtain ⟨q1, q2, q3⟩ := h.placeStd hb' hk
          subst q1
          by_cases hz : len = 0
          · subst hz
            have : (rows.drop off).take 0 = [] := by simp
            rw [this]
            exact .nil _ _ _ (fun e => (hn0 e).2)
          · obtain ⟨g, n, c, rfl, rfl⟩ := hv2 rfl (by omega)
            obtain ⟨c1, c2, c3, c4⟩ := cells rfl hs hb' hk g _ _ rfl
            exact rows_view c1 c3 hle hlc c4
        · trivial
      · rename_i ver' e c' ap fr xs hb
        split
        · rename_i hv
          obtain ⟨rfl, rfl, hle⟩ := hv
          have hb' : (s.blk k).map Blk.std = some (.row ver e (esz c') ap fr (xs.map (enc c'))) := by rw [hb]; rfl
          refine RepI.toSt ?_
          rw [List.map_take, List.map_drop]
          replace hle : off + len ≤ (xs.map (enc c')).length := by simpa using hle
          generalize xs.map (enc c') = rows at hb' hle ⊢
          generalize esz c' = sz at hb' hc ⊢
          obtain ⟨ao, cap, v0, ver0, rfl, hlc, hn0, hk, hv1, hv2⟩ := hc
          obtain ⟨q1, q2, q3⟩ := h.placeStd hb' hk
          subst q1
          by_cases hz : len = 0
          · subst hz
            have : (rows.drop off).take 0 = [] := by simp
            rw [this]
            exact .nil _ _ _ (fun e => (hn0 e).2)
          · obtain ⟨g, n, c, rfl, rfl⟩ := hv2 rfl (by omega)
            obtain ⟨c1, c2, c3, c4⟩ := cells rfl hs hb' hk g _ _ rfl
            exact rows_view c1 c3 hle hlc c4
        · trivial
      · trivial
  | asl k off len => trivial
  | nn x => exact RepI.mono hc.1 hU (fun _ _ => rfl)
  | pre k ver sz len =>
    simp only [viewC]
    split
    · rename_i q cv nv hs
      have := RepC.ren hc hf
      simp only [C.ren, hs] at this
      have t2 := this
      split
      · rename_i hv; rw [if_pos hv] at t2
        exact (RepC.map t2 hU (fun _ _ => rfl) (Evo.refl _))
      · trivial
    · rename_i hs
      split
      · rename_i ver' e c' ap fr xs hb
        split
        · rename_i hv
          subst hv
          have hb' : (s.blk k).map Blk.std = some (.row ver e (esz c') ap fr (xs.map (enc c'))) := by rw [hb]; rfl
          refine RepI.toSt ?_
          rw [List.map_take]
          generalize xs.map (enc c') = rows at hb' ⊢
          generalize esz c' = sz at hb' ⊢
          obtain ⟨ao, cap, v0, ver0, rfl, hlc, hn0, hk, hv1, hv2⟩ := hc
          obtain ⟨q1, q2, q3⟩ := h.placeStd hb' hk
          subst q1
          obtain ⟨n, rfl, hln⟩ := hv2 rfl
          by_cases hz : len = 0
          · subst hz
            exact .nil _ _ _ (fun e => (hn0 e).2)
          · rcases q3 with ⟨e1, _⟩ | ⟨g', cap', cur, fz, e1, _⟩
            · cases e1; omega
            · cases e1
              obtain ⟨c1, c2, c3, c4⟩ := cells rfl hs hb' hk g' _ _ rfl
              have := rows_view (w := w) (UU := UL β U ks true) (off := 0) (len := len) (cap := cap) c1 c3 (by omega) hlc c4
              show RepI w (UL β U ks true) _ (.sl sz (rows.take len))
              simpa using this
        · trivial
      · trivial
  | ptr k off =>
    simp only [viewC]
    split
    · rename_i q cv nv hs
      have := RepC.ren hc hf
      simp only [C.ren, hs] at this
      exact this
    · trivial
  | pr k ver sz i off =>
    simp only [viewC]
    split
    · rename_i q cv nv hs
      have := RepC.ren hc hf
      simp only [C.ren, hs] at this
      have t2 := this
      split
      · rename_i hv; rw [if_pos hv] at t2
        exact (RepC.map t2 hU (fun _ _ => rfl) (Evo.refl _))
      · trivial
    · rename_i hs
      split
      · rename_i ver' e sz' ap fr rows hb
        split
        · rename_i hv
          obtain ⟨rfl, rfl⟩ := hv
          split
          · rename_i r hr
            obtain ⟨ad, v0, ver0, rfl, hk, hv1, hv2⟩ := hc
            have hb' : (s.blk k).map Blk.std = some (.row ver e sz ap fr rows) := by rw [hb]; rfl
            obtain ⟨q1, q2, q3⟩ := h.placeStd hb' hk
            subst q1
            obtain ⟨g, n, c, rfl, rfl⟩ := hv2 rfl
            obtain ⟨c1, c2, c3, c4⟩ := cells rfl hs hb' hk g _ _ rfl
            refine ⟨g, i * sz + off, fun j => (w.cell? ⟨g, i * sz + off + j, none⟩).getD undef, rfl, c1, fun j d hj => ?_⟩
            rw [List.getElem?_drop] at hj
            obtain ⟨u, k1, k2⟩ := c4 i (off + j) r d hr hj
            show w.cell? ⟨g, i * sz + off + j, none⟩ = some ((w.cell? ⟨g, i * sz + off + j, none⟩).getD undef) ∧ RepI w (UL β U ks true) ((w.cell? ⟨g, i * sz + off + j, none⟩).getD undef) d
            rw [Nat.add_assoc, k1]
            exact ⟨rfl, k2⟩
          · trivial
        · trivial
      · trivial
  | pv cells => exact RepC.map hc hU (fun _ _ => rfl) (Evo.refl _)
  | clo f caps => obtain ⟨us, h1, h2, h3⟩ := hc; exact ⟨us, h1, h2, fun j u d hu hd => (h3 j u d hu hd).mono hU (fun _ _ => rfl)⟩
  | clp f ks' =>
    have := RepC.ren hc hf
    simp only [C.ren] at this
    simp only [viewC]
    split
    · rename_i l hl
      rw [hl] at this
      exact RepC.map this hU (fun _ _ => rfl) (Evo.refl _)
    · trivial
  | un => exact hc
  | bad => trivial

theorem RepC.wk {β U} {base : Nat} {v : Value} {c c' : C} (h : RepC w β U base v c) (hw : WkC c c') : RepC w β U base v c' := by
  rcases hw with rfl | rfl | ⟨rfl, ⟨sz, rfl⟩ | ⟨q, rfl⟩ | ⟨q, rfl⟩⟩ | ⟨x, rfl, rfl⟩
  · exact h
  · trivial
  · have : v = .slice none 0 0 := h
    subst this
    exact .nil _ _ _ (fun _ => rfl)
  · have : v = .slice none 0 0 := h
    subst this
    exact .st _ _ _ (.nil _ _ _ (fun _ => rfl)) rfl
  · have : v = .slice none 0 0 := h
    subst this
    exact .st _ _ _ (.nil _ _ _ (fun _ => rfl)) rfl
  · exact RepI.mono (U := fun b => U b ∧ base ≤ b) h (fun _ hb => hb.1) (fun _ _ => rfl)

theorem WkCs_get : ∀ {cs cs' : List C}, WkCs cs cs' → cs.length = cs'.length ∧ ∀ (j : Nat) (c c' : C), cs[j]? = some c → cs'[j]? = some c' → WkC c c'
  | [], [], _ => ⟨rfl, fun j c c' h => by simp at h⟩
  | c :: r, c' :: r', h => by
    obtain ⟨h1, h2⟩ := h
    obtain ⟨i1, i2⟩ := WkCs_get h2
    refine ⟨by simp [i1], fun j x x' hx hx' => ?_⟩
    cases j with
    | zero => simp at hx hx'; subst hx; subst hx'; exact h1
    | succ j => exact i2 j x x' (by simpa using hx) (by simpa using hx')
  | [], _ :: _, h => h.elim
  | _ :: _, [], h => h.elim

theorem RepV.wk {β U} {base : Nat} {v : Value} {x y : V} (h : RepV w β U base v x) (hw : WkV x y) : RepV w β U base v y := by
  cases h with
  | one v c h =>
    cases y with
    | one c' => exact .one _ _ (h.wk hw)
    | agg => cases hw
    | tup => cases hw
  | agg vs cs hl h1 h =>
    cases y with
    | agg cs' =>
      obtain ⟨i1, i2⟩ := WkCs_get (show WkCs cs cs' from hw)
      refine .agg _ _ (by omega) h1 fun j u c' hu hc' => ?_
      have hj : j < cs.length := by have := (List.getElem?_eq_some_iff.1 hc').1; omega
      exact (h j u _ hu (List.getElem?_eq_getElem hj)).wk (i2 j _ c' (List.getElem?_eq_getElem hj) hc')
    | one => cases hw
    | tup => cases hw
  | tup vs xs hl h => cases hw; exact .tup vs xs hl h

theorem WkVs_get : ∀ {xs ys : List V}, WkVs xs ys → xs.length = ys.length ∧ ∀ (j : Nat) (x y : V), xs[j]? = some x → ys[j]? = some y → WkV x y
  | [], [], _ => ⟨rfl, fun j c c' h => by simp at h⟩
  | c :: r, c' :: r', h => by
    obtain ⟨h1, h2⟩ := h
    obtain ⟨i1, i2⟩ := WkVs_get h2
    refine ⟨by simp [i1], fun j x x' hx hx' => ?_⟩
    cases j with
    | zero => simp at hx hx'; subst hx; subst hx'; exact h1
    | succ j => exact i2 j x x' (by simpa using hx) (by simpa using hx')
  | [], _ :: _, h => h.elim
  | _ :: _, [], h => h.elim

theorem WkM_get : ∀ {l l' : List (Nat × Blk)}, WkM l l' → ∀ (k : Nat) (b' : Blk), look k l' = some b' → ∃ b, look k l = some b ∧ WkB b b'
  | [], [], _, k, b', h => by simp [look] at h
  | (k0, b0) :: r, (k0', b0') :: r', h, k, b', hk => by
    obtain ⟨rfl, h1, h2⟩ := h
    rw [look_cons] at hk ⊢
    split at hk
    · rename_i e
      cases hk
      exact ⟨b0, by rw [if_pos e], h1⟩
    · rename_i e
      rw [if_neg e]
      exact WkM_get h2 k b' hk
  | [], _ :: _, h, _, _, _ => h.elim
  | _ :: _, [], h, _, _, _ => h.elim

theorem WkM_has : ∀ {l l' : List (Nat × Blk)}, WkM l l' → ∀ (k : Nat), (look k l).isSome = true → (look k l').isSome = true
  | [], [], _, k, h => h
  | (k0, b0) :: r, (k0', b0') :: r', h, k, hk => by
    obtain ⟨rfl, h1, h2⟩ := h
    rw [look_cons] at hk ⊢
    split
    · rfl
    · rename_i e
      rw [if_neg e] at hk
      exact WkM_has h2 k hk
  | [], _ :: _, h, _, _ => h.elim
  | _ :: _, [], h, _, _ => h.elim

theorem RepB.wk {β U} {base : Nat} {p : Place} {b b' : Blk} (h : RepB w β U base p b) (hw : WkB b b') : RepB w β U base p b' := by
  cases b with
  | cells cs =>
    cases b' with
    | cells cs' =>
      obtain ⟨i1, i2⟩ := WkCs_get (show WkCs cs cs' from hw)
      cases p with
      | cells x o =>
        refine ⟨by have := h.1; omega, fun j c' hc' => ?_⟩
        have hj : j < cs.length := by have := (List.getElem?_eq_some_iff.1 hc').1; omega
        obtain ⟨v, q1, q2, q3, q4⟩ := h.2 j _ (List.getElem?_eq_getElem hj)
        exact ⟨v, q1, q2, q3, q4.wk (i2 j _ c' (List.getElem?_eq_getElem hj) hc')⟩
      | row => exact h.elim
    | row => cases hw
    | rowT => cases hw
  | row => cases hw; exact h
  | rowT => cases hw; exact h

theorem WkB_covers {p : Place} {b b' : Blk} (hw : WkB b b') {x j : Nat} : p.covers b' x j ↔ p.covers b x j := by
  cases b with
  | cells cs =>
    cases b' with
    | cells cs' =>
      have := (WkCs_get (show WkCs cs cs' from hw)).1
      cases p <;> simp [Place.covers, this]
    | row => cases hw
    | rowT => cases hw
  | row => cases hw; rfl
  | rowT => cases hw; rfl

theorem viewMem_get {m : Nat → Option Blk} {σ : Ren} {lock : Bool} : ∀ {ks : List (Nat × Nat)} {l : List (Nat × Blk)}, viewMem m σ lock ks = some l → ∀ q b', look q l = some b' → ∃ k b, (k, q) ∈ ks ∧ m k = some b ∧ b' = viewB m σ lock b
  | [], l, h, q, b', hq => by simp [viewMem] at h; subst h; simp [look] at hq
  | (k0, q0) :: r, l, h, q, b', hq => by
    unfold viewMem at h
    split at h
    · rename_i b l' hb hl
      obtain rfl := Option.some.inj h
      rw [look_cons] at hq
      split at hq
      · rename_i e; subst e; cases hq; exact ⟨k0, b, by simp, hb, rfl⟩
      · obtain ⟨k, b1, h1, h2, h3⟩ := viewMem_get hl q b' hq
        exact ⟨k, b1, by simp [h1], h2, h3⟩
    · cases h
theorem viewMem_has {m : Nat → Option Blk} {σ : Ren} {lock : Bool} : ∀ {ks : List (Nat × Nat)} {l : List (Nat × Blk)}, viewMem m σ lock ks = some l → ∀ k q, (k, q) ∈ ks → (m k).isSome = true ∧ (look q l).isSome = true
  | [], l, h, k, q, hq => by simp at hq
  | (k0, q0) :: r, l, h, k, q, hq => by
    unfold viewMem at h
    split at h
    · rename_i b l' hb hl
      obtain rfl := Option.some.inj h
      rw [look_cons]
      rcases List.mem_cons.1 hq with e | e
      · cases e; exact ⟨by rw [hb]; rfl, by rw [if_pos rfl]; rfl⟩
      · obtain ⟨h1, h2⟩ := viewMem_has hl k q e
        refine ⟨h1, ?_⟩
        split
        · rfl
        · exact h2
    · cases h

theorem viewB_covers {m : Nat → Option Blk} {σ : Ren} {lock : Bool} {p : Place} {b : Blk} {x j : Nat} : (p.renum 0).covers (viewB m σ lock b) x j ↔ p.covers b x j := by
  cases p <;> cases b <;> simp [Place.renum, viewB, Place.covers]

theorem viewB_rep (h : SimB w0 U0 X β0 β U s a w) {ks : List (Nat × Nat)} (hok : okKs ks = true) {lock : Bool} {base : Nat} {p : Place} {b : Blk} (hb : RepB w β U w0.heap.size p b) : RepB w (βL β ks) (UL β U ks lock) base (p.renum 0) (viewB s.blk (sigIn s.blk ks) lock b) := by
  cases p with
  | cells x o =>
    cases b with
    | cells cs =>
      refine ⟨by simpa using hb.1, fun j c hj => ?_⟩
      rw [List.getElem?_map, Option.map_eq_some_iff] at hj
      obtain ⟨c0, hc0, rfl⟩ := hj
      obtain ⟨v, h1, h2, h3, h4⟩ := hb.2 j c0 hc0
      exact ⟨v, h1, h2, h3, viewC_rep h hok h4⟩
    | row => exact hb.elim
    | rowT => exact hb.elim
  | row v ver0 =>
    cases b with
    | cells => exact hb.elim
    | row ver e sz ap fr rows =>
      obtain ⟨h1, h2, h3⟩ := hb
      refine ⟨rfl, h2, ?_⟩
      rcases h3 with h3 | ⟨g, cap, cur, fz, rfl, q1, q2, q3, q4, q5, q6, q7⟩
      · exact .inl h3
      · refine .inr ⟨g, cap, cur, fz, rfl, q1, q2, q3, q4, q5, q6, fun i j r d hi hj => ?_⟩
        obtain ⟨u, k1, k2, k3⟩ := q7 i j r d hi hj
        exact ⟨u, k1, k2, k3.mono (fun b hb => ⟨.inl hb.1, fun e => by cases e⟩) (fun _ _ => rfl)⟩
    | rowT ver e c ap fr xs =>
      obtain ⟨h1, h2, h3⟩ := hb
      refine ⟨rfl, h2, ?_⟩
      rcases h3 with h3 | ⟨g, cap, cur, fz, rfl, q1, q2, q3, q4, q5, q6, q7⟩
      · exact .inl h3
      · refine .inr ⟨g, cap, cur, fz, rfl, q1, q2, q3, q4, q5, q6, fun i j r d hi hj => ?_⟩
        obtain ⟨u, k1, k2, k3⟩ := q7 i j r d hi hj
        refine ⟨u, k1, k2, ?_⟩
        by_cases hfl : flatT c = true
        · obtain ⟨x, hx, rfl⟩ := Option.map_eq_some_iff.1 (by simpa [List.getElem?_map] using hi)
          have hflat : d.flat = true := List.all_eq_true.1 (flatT_all c x hfl) d (List.mem_of_getElem? hj)
          cases k3 with
          | i k n => exact .i k n
          | b x => exact .b x
          | s l => exact .s l
          | z v h1 => exact .z _ h1
          | nil => simp [D.flat] at hflat
          | sl => simp [D.flat] at hflat
          | st => simp [D.flat] at hflat
        · exact k3.mono (fun b hb => ⟨.inl hb.1, fun e => absurd e hfl⟩) (fun _ _ => rfl)

/-- The state that a call begins with. -/
theorem SimB.callee (h : SimB w0 U0 X β0 β U s a w) {xs : List V} {us : List Value} (hl : us.length = xs.length) (hrep : ∀ (j : Nat) (u : Value) (x : V), us[j]? = some u → xs[j]? = some x → RepV w β U w0.heap.size u x)
    {ks : List (Nat × Nat)} (hok : okKs ks = true) {lock : Bool} {ys : List V} (hw : WkVs (xs.map (viewV s.blk (sigIn s.blk ks) lock)) ys) {m1 m : List (Nat × Blk)} (hm1 : viewMem s.blk (sigIn s.blk ks) lock ks = some m1) (hm : WkM m1 m) (hys : ys.length ≤ 900) :
    SimB w (UL β U ks lock) (XL β s ks) (βL β ks) (βL β ks) (UL β U ks lock) ⟨ys.length, argsEnv 0 ys, m⟩ ⟨us.toArray, []⟩ w := by
  obtain ⟨i1, i2, i3, i4⟩ := okKs_spec hok
  obtain ⟨hwl, hwg⟩ := WkVs_get hw
  rw [List.length_map] at hwl
  have hget : ∀ q b', look q m = some b' → ∃ k b, (k, q) ∈ ks ∧ s.blk k = some b ∧ WkB (viewB s.blk (sigIn s.blk ks) lock b) b' := by
    intro q b' hq
    obtain ⟨b1, h1, h2⟩ := WkM_get hm q b' hq
    obtain ⟨k, b, h3, h4, rfl⟩ := viewMem_get hm1 q b1 h1
    exact ⟨k, b, h3, h4, h2⟩
  have hcov : ∀ {p : Place} {b b' : Blk} {x j : Nat}, WkB (viewB s.blk (sigIn s.blk ks) lock b) b' → ((p.renum 0).covers b' x j ↔ p.covers b x j) := fun hw => (WkB_covers hw).trans viewB_covers
  exact {
    n := by simp; omega, small := hys, defers := rfl
    args := fun k hk => by
      cases hb : βL β ks k with
      | none => rfl
      | some p =>
        obtain ⟨k0, p0, h1, _⟩ := βL_inv hb
        have := i4 k0 k h1
        omega
    ver0 := fun k v ver hb => by
      obtain ⟨k0, p0, _, _, e⟩ := βL_inv hb
      cases p0 with
      | cells => cases e
      | row v' ver' => cases e; rfl
    hist := fun k p hp hb => .inl hp
    env := fun t => by
      show RepV w (βL β ks) (UL β U ks lock) w.heap.size (us.toArray.getD t undef) ((look t (argsEnv 0 ys)).getD (.one .bad))
      rw [look_argsEnv, if_pos (Nat.zero_le _), Nat.sub_zero]
      cases hy : ys[t]? with
      | none => exact .bad _
      | some y =>
        have ht : t < xs.length := by have := (List.getElem?_eq_some_iff.1 hy).1; omega
        have hu : us[t]? = some (us.toArray.getD t undef) := by
          have : t < us.length := by omega
          simp [this]
        have hx := hrep t _ _ hu (List.getElem?_eq_getElem ht)
        have hv : RepV w (βL β ks) (UL β U ks lock) w.heap.size (us.toArray.getD t undef) (viewV s.blk (sigIn s.blk ks) lock xs[t]) := by
          generalize xs[t] = x at hx
          generalize us.toArray.getD t undef = u at hx
          cases hx with
          | one v c h' => exact .one _ _ (viewC_rep h hok h')
          | agg vs cs hl' h1' h' =>
            refine .agg _ _ (by simpa using hl') h1' fun j u c hu hc => ?_
            rw [List.getElem?_map, Option.map_eq_some_iff] at hc
            obtain ⟨c0, hc0, rfl⟩ := hc
            exact viewC_rep h hok (h' j u c0 hu hc0)
          | tup => exact .bad _
        exact hv.wk (hwg t _ y (by rw [List.getElem?_map, List.getElem?_eq_getElem ht]; rfl) hy)
    mem := fun q b' hq => by
      obtain ⟨k, b, h1, h2, h3⟩ := hget q b' hq
      obtain ⟨p, hp, hr⟩ := h.mem k b h2
      exact ⟨_, βL_of hok h1 hp, (viewB_rep h hok hr).wk h3⟩
    dom := fun q p hp => by
      obtain ⟨k, p0, h1, h2, rfl⟩ := βL_inv hp
      exact WkM_has hm q (viewMem_has hm1 k q h1).2
    apart := fun q p b hp hb => by
      obtain ⟨k, p0, h1, h2, rfl⟩ := βL_inv hp
      rw [block_ren] at hb
      obtain ⟨g1, g2⟩ := h.apart k p0 b h2 hb
      refine ⟨?_, g2⟩
      rintro (hu | ⟨_, k', v, ver, hk', hnl, hv⟩)
      · exact g1 hu
      · have hne : k ≠ k' := fun e => by subst e; rw [i3 k q h1] at hnl; cases hnl
        cases p0 with
        | cells x o =>
          obtain rfl : x = b := by simpa [Place.block] using hb
          exact h.kinds k' k v ver x o hk' h2 hv
        | row v2 ver2 =>
          obtain ⟨b1, hb1⟩ := Option.isSome_iff_exists.1 (h.dom k _ h2)
          obtain ⟨b2, hb2⟩ := Option.isSome_iff_exists.1 (h.dom k' _ hk')
          exact h.inj k k' _ _ b1 b2 b 0 hne h2 hk' hb1 hb2 (by cases b1 <;> exact hb) (by cases b2 <;> exact hv)
    inj := fun q1 q2 p1 p2 b1 b2 b j hne hp1 hp2 hb1 hb2 hc1 hc2 => by
      obtain ⟨k1, x1, m1', z1, rfl⟩ := βL_inv hp1
      obtain ⟨k2, x2, m2', z2, rfl⟩ := βL_inv hp2
      obtain ⟨k1', y1, n1, u1, w1⟩ := hget q1 b1 hb1
      obtain ⟨k2', y2, n2, u2, w2⟩ := hget q2 b2 hb2
      obtain rfl := i2 k1 k1' q1 m1' n1
      obtain rfl := i2 k2 k2' q2 m2' n2
      have hk : k1 ≠ k2 := fun e => by subst e; exact hne (i1 k1 q1 q2 m1' m2')
      exact h.inj k1 k2 x1 x2 y1 y2 b j hk z1 z2 u1 u2 ((hcov w1).1 hc1) ((hcov w2).1 hc2)
    stab := fun b hb => by
      rcases hb with hu | ⟨_, k', v, ver, hk', hnl, hv⟩
      · exact h.stab b hu
      · exact (h.apart k' _ b hk' hv).2
    old := fun b hb => hb, new := fun b _ hb => hb, chg := Chg.refl _ _ _
    may := fun q p b' b j hp hb hc hlt => by
      obtain ⟨k, p0, h1, h2, rfl⟩ := βL_inv hp
      obtain ⟨k', y, n1, u1, w1⟩ := hget q b' hb
      obtain rfl := i2 k k' q h1 n1
      exact ⟨k, q, p0, y, h1, h2, u1, (hcov w1).1 hc⟩ }
end
end Go.Proofs.Ytjehhmeaigkbnaa.Abs
