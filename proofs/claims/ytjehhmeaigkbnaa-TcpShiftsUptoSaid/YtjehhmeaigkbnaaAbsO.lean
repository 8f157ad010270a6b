/- An abstract walk: what a call leaves to its caller. For whatever program. -/
import Derived.Test.YtjehhmeaigkbnaaAbsN
namespace Go.Proofs.Ytjehhmeaigkbnaa.Abs
open Go Go.RowKit
set_option linter.unusedVariables false

theorem flat_any {w : World} {U U' : Nat → Prop} {u : Value} {d : D} (h : RepI w U u d) (hf : d.flat = true) : RepI w U' u d := by
  cases h with
  | i k n => exact .i k n
  | b x => exact .b x
  | s l => exact .s l
  | z v h1 => exact .z _ h1
  | nil => simp [D.flat] at hf
  | sl => simp [D.flat] at hf
  | st => simp [D.flat] at hf

theorem nodup_look : ∀ {m : List (Nat × Blk)}, nodupKeys m = true → ∀ q b, (q, b) ∈ m → look q m = some b
  | [], _, q, b, h => by simp at h
  | (q0, b0) :: r, hn, q, b, h => by
    simp only [nodupKeys, Bool.and_eq_true, List.all_eq_true, bne_iff_ne, ne_eq] at hn
    rw [look_cons]
    rcases List.mem_cons.1 h with e | e
    · cases e; rw [if_pos rfl]
    · rw [if_neg (fun e' => hn.1 _ e e'.symm)]
      exact nodup_look hn.2 q b e

theorem outMem_get {σ : Ren} : ∀ {m0 m : List (Nat × Blk)}, outMem σ m0 = some m → ∀ k b', look k m = some b' → ∃ q b cv nv, (q, b) ∈ m0 ∧ σ q = some (k, cv, nv) ∧ b' = b.ren σ nv
  | [], m, h, k, b', hk => by simp [outMem] at h; subst h; simp [look] at hk
  | (q0, b0) :: r, m, h, k, b', hk => by
    unfold outMem at h
    split at h
    · rename_i k0 cv nv m' h1 h2
      obtain rfl := Option.some.inj h
      rw [look_cons] at hk
      split at hk
      · rename_i e; subst e; cases hk; exact ⟨q0, b0, cv, nv, by simp, h1, rfl⟩
      · obtain ⟨q, b, cv, nv, g1, g2, g3⟩ := outMem_get h2 k b' hk
        exact ⟨q, b, cv, nv, by simp [g1], g2, g3⟩
    · cases h

theorem outMem_has {σ : Ren} : ∀ {m0 m : List (Nat × Blk)}, outMem σ m0 = some m → ∀ q b, (q, b) ∈ m0 → ∃ k cv nv, σ q = some (k, cv, nv) ∧ (look k m).isSome = true
  | [], m, h, q, b, hq => by simp at hq
  | (q0, b0) :: r, m, h, q, b, hq => by
    unfold outMem at h
    split at h
    · rename_i k0 cv nv m' h1 h2
      obtain rfl := Option.some.inj h
      rcases List.mem_cons.1 hq with e | e
      · cases e; exact ⟨k0, cv, nv, h1, by rw [look_cons, if_pos rfl]; rfl⟩
      · obtain ⟨k, cv', nv', g1, g2⟩ := outMem_has h2 q b e
        refine ⟨k, cv', nv', g1, ?_⟩
        rw [look_cons]
        split
        · rfl
        · exact g2
    · cases h

section
variable {w0 : World} {U0 : Nat → Prop} {X : Nat → Nat → Prop} {β0 β : Nat → Option Place} {U : Nat → Prop} {s : St} {a : Act} {w : World}

theorem sigOut_spec {ks : List (Nat × Nat)} {d : Option Nat} {m0 : List (Nat × Blk)} (hfresh : freshKeys s ks d m0 = true) {q k cv nv : Nat} (h : sigOut s ks d m0 q = some (k, cv, nv)) :
    ∃ b, look q m0 = some b ∧ cv = b.ver ∧
      ((∃ bk, (k, q) ∈ ks ∧ s.blk k = some bk ∧ bk.isRow = true ∧ nv = if b.ver = 0 then bk.ver else bk.ver + 1) ∨ (∃ bk, (k, q) ∈ ks ∧ s.blk k = some bk ∧ bk.isRow = false ∧ nv = 0) ∨
       (∃ dd, (∀ k', (k', q) ∉ ks) ∧ (2000000 ≤ q ∧ q < 2001000) ∧ d = some dd ∧ k = 1000 * (dd + 1) + (q - 2000000) ∧ nv = b.ver ∧ s.blk k = none)) := by
  unfold sigOut at h
  split at h
  · cases h
  rename_i b hb
  refine ⟨b, hb, ?_⟩
  split at h
  · rename_i k0 z hf
    obtain ⟨hm, rfl⟩ := find_mem hf
    split at h
    · rename_i bk hs
      split at h
      · rename_i hr
        simp only [Option.some.injEq, Prod.mk.injEq] at h
        obtain ⟨rfl, rfl, rfl⟩ := h
        exact ⟨rfl, .inl ⟨bk, hm, hs, hr, rfl⟩⟩
      · rename_i hr
        simp only [Option.some.injEq, Prod.mk.injEq] at h
        obtain ⟨rfl, rfl, rfl⟩ := h
        exact ⟨rfl, .inr (.inl ⟨bk, hm, hs, hr, rfl⟩)⟩
    · cases h
  · rename_i hf
    split at h
    · rename_i dd
      split at h
      · rename_i hq
        simp only [Option.some.injEq, Prod.mk.injEq] at h
        obtain ⟨rfl, rfl, rfl⟩ := h
        have hno : ∀ k', (k', q) ∉ ks := fun k' hk => by have := List.find?_eq_none.1 hf (k', q) hk; simp at this
        refine ⟨rfl, .inr (.inr ⟨dd, hno, hq, rfl, rfl, rfl, ?_⟩)⟩
        have := List.all_eq_true.1 hfresh (q, b) (look_mem hb)
        simp only [Bool.or_eq_true, List.any_eq_true, beq_iff_eq] at this
        rcases this with ⟨z, hz1, hz2⟩ | hz
        · obtain ⟨z1, z2⟩ := z
          simp only at hz2
          subst hz2
          exact absurd hz1 (hno z1)
        · cases hbk : s.blk (1000 * (dd + 1) + (q - 2000000)) <;> simp_all
      · cases h
    · cases h

theorem SimB.back (h : SimB w0 U0 X β0 β U s a w) {ks : List (Nat × Nat)} {lock : Bool} {r0 : V} {m0 : List (Nat × Blk)} {v : Value} {w' : World}
    (hs : Sim w (UL β U ks lock) (XL β s ks) (βL β ks) ⟨1, [(0, r0)], m0⟩ ⟨#[v], []⟩ w') {dst : Option Nat} {E : Out} (hE : callOut s ks lock dst r0 m0 = some E) (hd : ∀ d, dst = some d → d < s.n) :
    Sim w0 U0 X β0 (s.out dst E) (a.put dst v) w' := by
  obtain ⟨β2, U2, hc⟩ := hs
  unfold callOut at hE
  split at hE
  case h_2 => cases hE
  rename_i m hcond hm
  obtain rfl := Option.some.inj hE
  simp only [Bool.and_eq_true, List.all_eq_true, Bool.or_eq_true, Bool.not_eq_true'] at hcond
  obtain ⟨⟨⟨⟨hok, hin⟩, hnd⟩, hfresh⟩, hsafe⟩ := hcond
  generalize hσ : sigOut s ks dst m0 = σ at hm
  have hspec : ∀ {q k cv nv : Nat}, σ q = some (k, cv, nv) → _ := fun {q k cv nv} e => sigOut_spec (s := s) hfresh (q := q) (k := k) (cv := cv) (nv := nv) (by rw [hσ]; exact e)
  obtain ⟨i1, i2, i3, i4⟩ := okKs_spec hok
  -- names are met once
  have huniq : ∀ {q1 q2 k cv1 nv1 cv2 nv2 : Nat}, σ q1 = some (k, cv1, nv1) → σ q2 = some (k, cv2, nv2) → q1 = q2 := by
    intro q1 q2 k cv1 nv1 cv2 nv2 e1 e2
    obtain ⟨b1, l1, _, c1⟩ := hspec e1
    obtain ⟨b2, l2, _, c2⟩ := hspec e2
    have inKs : ∀ {q : Nat} {b : Blk} {nv : Nat}, ((∃ bk, (k, q) ∈ ks ∧ s.blk k = some bk ∧ bk.isRow = true ∧ nv = if b.ver = 0 then bk.ver else bk.ver + 1) ∨ (∃ bk, (k, q) ∈ ks ∧ s.blk k = some bk ∧ bk.isRow = false ∧ nv = 0) ∨
       (∃ dd, (∀ k', (k', q) ∉ ks) ∧ (2000000 ≤ q ∧ q < 2001000) ∧ dst = some dd ∧ k = 1000 * (dd + 1) + (q - 2000000) ∧ nv = b.ver ∧ s.blk k = none)) → ((k, q) ∈ ks ∧ (s.blk k).isSome = true) ∨ ((2000000 ≤ q ∧ q < 2001000) ∧ s.blk k = none ∧ ∃ dd, dst = some dd ∧ k = 1000 * (dd + 1) + (q - 2000000)) := by
      intro q b nv hh
      rcases hh with ⟨bk, z1, z2, _, _⟩ | ⟨cs, z1, z2, _, _⟩ | ⟨dd, _, z1, z2, z3, _, z4⟩
      · exact .inl ⟨z1, by rw [z2]; rfl⟩
      · exact .inl ⟨z1, by rw [z2]; rfl⟩
      · exact .inr ⟨z1, z4, dd, z2, z3⟩
    rcases inKs c1 with ⟨z1, z2⟩ | ⟨z1, z2, dd, z3, z4⟩ <;> rcases inKs c2 with ⟨y1, y2⟩ | ⟨y1, y2, ee, y3, y4⟩
    · exact i1 k q1 q2 z1 y1
    · rw [y2] at z2; cases z2
    · rw [z2] at y2; cases y2
    · rw [z3] at y3; cases y3; omega
  let βn : Nat → Option Place := fun k => match m0.find? (fun p => (σ p.1).any (fun z => z.1 == k)) with
    | some (q, _) => match σ q with
      | some (_, _, nv) => (β2 q).map (Place.renum nv)
      | none => none
    | none => β k
  have hβn1 : ∀ {q k cv nv : Nat}, σ q = some (k, cv, nv) → βn k = (β2 q).map (Place.renum nv) := by
    intro q k cv nv e
    obtain ⟨b, l, _⟩ := hspec e
    simp only [βn]
    cases hf : m0.find? (fun p => (σ p.1).any (fun z => z.1 == k)) with
    | none => have := List.find?_eq_none.1 hf (q, b) (look_mem l); simp [e] at this
    | some z =>
      obtain ⟨q', b'⟩ := z
      have h2 := List.find?_some hf
      simp only at h2
      cases hq' : σ q' with
      | none => rw [hq'] at h2; simp at h2
      | some y =>
        obtain ⟨k', cv', nv'⟩ := y
        rw [hq'] at h2
        obtain rfl : k' = k := by simpa using h2
        obtain rfl := huniq hq' e
        rw [hq'] at e
        cases e
        simp [hq']
  have hβn2 : ∀ {k : Nat}, (∀ q cv nv, σ q ≠ some (k, cv, nv)) → βn k = β k := by
    intro k hno
    simp only [βn]
    cases hf : m0.find? (fun p => (σ p.1).any (fun z => z.1 == k)) with
    | none => rfl
    | some z =>
      obtain ⟨q', b'⟩ := z
      have h2 := List.find?_some hf
      simp only at h2
      cases hq' : σ q' with
      | none => rw [hq'] at h2; simp at h2
      | some y =>
        obtain ⟨k', cv', nv'⟩ := y
        rw [hq'] at h2
        obtain rfl : k' = k := by simpa using h2
        exact absurd hq' (hno q' cv' nv')
  have hcase : ∀ k, (∃ q cv nv, σ q = some (k, cv, nv)) ∨ ∀ q cv nv, σ q ≠ some (k, cv, nv) := by
    intro k
    by_cases e : ∃ q cv nv, σ q = some (k, cv, nv)
    · exact .inl e
    · exact .inr fun q cv nv e' => e ⟨q, cv, nv, e'⟩
  have hmemOf : ∀ {q b}, look q m0 = some b → ∃ p2, β2 q = some p2 ∧ RepB w' β2 U2 w.heap.size p2 b := fun {q b} l => hc.mem q b l
  have hfits : Fits β2 βn σ := by
    intro q k cv nv e
    obtain ⟨b, l, rfl, _⟩ := hspec e
    obtain ⟨p2, hp2, _⟩ := hmemOf l
    have hn := hβn1 e
    rw [hp2] at hn
    rcases hc.verOf hp2 (show St.blk ⟨1, [(0, r0)], m0⟩ q = some b from l) with ⟨x, y, rfl, _⟩ | ⟨v, rfl, _⟩
    · exact .inl ⟨x, y, hp2, hn⟩
    · exact .inr ⟨v, hp2, hn⟩
  -- what nobody changes
  have hXU : ∀ b j, U b → ¬ XL β s ks b j := by
    rintro b j hu ⟨k, q, p, blk, _, hp, hb, hcv⟩
    exact (h.apart k p b hp (covers_block hcv)).1 hu
  have hblkEq : ∀ b, b < w.heap.size → (∀ j, ¬ XL β s ks b j) → w'.heap[b]? = w.heap[b]? := by
    intro b hb hno
    rcases hc.chg.block b hb with e | ⟨x, x', e, f, e1, e2, e3, e4⟩ | e
    · exact e
    · have : x' = x := Array.ext_getElem? fun j => e4 j (hno j)
      rw [e1, e2, this]
    · exact absurd (e 0) (hno 0)
  have hUk : ∀ b, U b → w'.heap[b]? = w.heap[b]? := fun b hb => hblkEq b (h.stab b hb) (fun j => hXU b j hb)
  have hwle : w.heap.size ≤ w'.heap.size := hc.chg.size
  have hbase := h.baseLe
  let Un : Nat → Prop := fun b => U b ∨ (w.heap.size ≤ b ∧ U2 b)
  have hU2 : lock = false → ∀ b, U2 b → Un b := by
    intro hl b hb
    by_cases hlt : b < w.heap.size
    · rcases hc.new b hlt hb with e | ⟨e, _⟩
      · exact .inl e
      · rw [hl] at e; cases e
    · exact .inr ⟨by omega, hb⟩
  have backC : ∀ {u : Value} {c : C}, RepC w' β2 U2 w.heap.size u c → (lock = true → c.safe = true) → RepC w' βn Un w0.heap.size u (c.ren σ) := by
    intro u c hr hsf
    cases c with
    | d x =>
      cases hl : lock with
      | false => exact RepI.mono hr (hU2 hl) (fun _ _ => rfl)
      | true => exact flat_any hr (hsf hl)
    | f x => exact RepI.mono (U := fun b => U2 b ∧ w.heap.size ≤ b) hr (fun b hb => ⟨.inr ⟨hb.2, hb.1⟩, by omega⟩) (fun _ _ => rfl)
    | pv cells =>
      cases hl : lock with
      | false => exact RepC.map (RepC.ren hr hfits) (hU2 hl) (fun _ _ => rfl) (Evo.refl _)
      | true => have := hsf hl; cases this
    | clo f caps =>
      cases hl : lock with
      | false =>
        obtain ⟨us, h1, h2, h3⟩ := hr
        exact ⟨us, h1, h2, fun j u d hu hd => (h3 j u d hu hd).mono (hU2 hl) (fun _ _ => rfl)⟩
      | true =>
        have hz : caps = [] := by simpa [C.safe] using hsf hl
        subst hz
        obtain ⟨us, h1, h2, h3⟩ := hr
        exact ⟨us, h1, h2, fun j u d hu hd => by simp at hd⟩
    | clp f ks' =>
      have := RepC.ren hr hfits
      revert this
      simp only [C.ren]
      split
      · exact fun t => t
      · exact fun t => t
    | nil => exact hr
    | un => exact hr
    | bad => trivial
    | own k ver len =>
      have := RepC.ren hr hfits
      revert this
      simp only [C.ren]
      split
      · split
        · exact fun t => t
        · exact fun t => t
      · exact fun t => t
    | sub k ver sz off len =>
      have := RepC.ren hr hfits
      revert this
      simp only [C.ren]
      split
      · split
        · exact fun t => t
        · exact fun t => t
      · exact fun t => t
    | ptr k off =>
      have := RepC.ren hr hfits
      revert this
      simp only [C.ren]
      split
      · exact fun t => t
      · exact fun t => t
    | asl k off len =>
      have := RepC.ren hr hfits
      revert this
      simp only [C.ren]
      split
      · exact fun t => t
      · exact fun t => t
    | pre k ver sz len =>
      have := RepC.ren hr hfits
      revert this
      simp only [C.ren]
      split
      · split
        · exact fun t => t
        · exact fun t => t
      · exact fun t => t
    | nn x =>
      cases hl : lock with
      | false => exact ⟨RepI.mono hr.1 (hU2 hl) (fun _ _ => rfl), hr.2⟩
      | true => have := hsf hl; cases this
    | pr k ver sz i off =>
      have := RepC.ren hr hfits
      revert this
      simp only [C.ren]
      split
      · split
        · exact fun t => t
        · exact fun t => t
      · exact fun t => t
  have backV1 : ∀ {u : Value} {x : V}, RepV w' β2 U2 w.heap.size u x → (lock = true → x.safe1 = true) → RepV w' βn Un w0.heap.size u (x.ren1 σ) := by
    intro u x hr hsf
    cases hr with
    | one v c hr => exact .one _ _ (backC hr hsf)
    | agg vs cs hl h1 hr =>
      refine .agg _ _ (by simpa using hl) h1 fun j u c hu hc' => ?_
      rw [List.getElem?_map, Option.map_eq_some_iff] at hc'
      obtain ⟨c0, hc0, rfl⟩ := hc'
      exact backC (hr j u c0 hu hc0) (fun e => List.all_eq_true.1 (hsf e) c0 (List.mem_of_getElem? hc0))
    | tup => exact .bad _
  have backV : ∀ {u : Value} {x : V}, RepV w' β2 U2 w.heap.size u x → (lock = true → x.safe = true) → RepV w' βn Un w0.heap.size u (x.ren σ) := by
    intro u x hr hsf
    cases hr with
    | one v c hr => exact .one _ _ (backC hr hsf)
    | agg vs cs hl h1 hr =>
      refine .agg _ _ (by simpa using hl) h1 fun j u c hu hc' => ?_
      rw [List.getElem?_map, Option.map_eq_some_iff] at hc'
      obtain ⟨c0, hc0, rfl⟩ := hc'
      exact backC (hr j u c0 hu hc0) (fun e => List.all_eq_true.1 (hsf e) c0 (List.mem_of_getElem? hc0))
    | tup vs xs hl hr =>
      refine .tup _ _ (by simpa using hl) fun j u x hu hx => ?_
      rw [List.getElem?_map, Option.map_eq_some_iff] at hx
      obtain ⟨x0, hx0, rfl⟩ := hx
      exact backV1 (hr j u x0 hu hx0) (fun e => List.all_eq_true.1 (hsf e) x0 (List.mem_of_getElem? hx0))
  have backB : ∀ {p2 : Place} {b : Blk} {nv : Nat}, RepB w' β2 U2 w.heap.size p2 b → (lock = true → b.safe = true) → RepB w' βn Un w0.heap.size (p2.renum nv) (b.ren σ nv) := by
    intro p2 b nv hr hsf
    cases p2 with
    | cells x o =>
      cases b with
      | cells cs =>
        refine ⟨by simpa using hr.1, fun j c hj => ?_⟩
        rw [List.getElem?_map, Option.map_eq_some_iff] at hj
        obtain ⟨c0, hc0, rfl⟩ := hj
        obtain ⟨u, q1, q2, q3, q4⟩ := hr.2 j c0 hc0
        exact ⟨u, q1, q2, q3, backC q4 (fun e => List.all_eq_true.1 (hsf e) c0 (List.mem_of_getElem? hc0))⟩
      | row => exact hr.elim
      | rowT => exact hr.elim
    | row v2 ver2 =>
      cases b with
      | cells => exact hr.elim
      | row ver e sz ap fr rows =>
        obtain ⟨h1, h2, h3⟩ := hr
        refine ⟨rfl, h2, ?_⟩
        rcases h3 with h3 | ⟨g, cap, cur, fz, rfl, q1, q2, q3, q4, q5, q6, q7⟩
        · exact .inl h3
        · refine .inr ⟨g, cap, cur, fz, rfl, q1, q2, q3, q4, q5, q6, fun i j r d hi hj => ?_⟩
          obtain ⟨u, k1, k2, k3⟩ := q7 i j r d hi hj
          refine ⟨u, k1, k2, ?_⟩
          cases hfr : fr with
          | true => exact k3.mono (fun b hb => ⟨.inr ⟨hb.2 hfr, hb.1⟩, fun _ => by have := hb.2 hfr; omega⟩) (fun _ _ => rfl)
          | false =>
            cases hl : lock with
            | false => exact k3.mono (fun b hb => ⟨hU2 hl b hb.1, fun e => by cases e⟩) (fun _ _ => rfl)
            | true => have := hsf hl; rw [Blk.safe, hfr] at this; cases this
      | rowT ver e c ap fr xs =>
        obtain ⟨h1, h2, h3⟩ := hr
        refine ⟨rfl, h2, ?_⟩
        rcases h3 with h3 | ⟨g, cap, cur, fz, rfl, q1, q2, q3, q4, q5, q6, q7⟩
        · exact .inl h3
        · refine .inr ⟨g, cap, cur, fz, rfl, q1, q2, q3, q4, q5, q6, fun i j r d hi hj => ?_⟩
          obtain ⟨u, k1, k2, k3⟩ := q7 i j r d hi hj
          refine ⟨u, k1, k2, ?_⟩
          cases hfr : fr with
          | true => exact k3.mono (fun b hb => ⟨.inr ⟨hb.2 hfr, hb.1⟩, fun _ => by have := hb.2 hfr; omega⟩) (fun _ _ => rfl)
          | false =>
            cases hl : lock with
            | false => exact k3.mono (fun b hb => ⟨hU2 hl b hb.1, fun e => by cases e⟩) (fun _ _ => rfl)
            | true => have := hsf hl; rw [Blk.safe, hfr] at this; cases this
  -- the places
  have hpassed : ∀ {k q : Nat}, (k, q) ∈ ks → ∃ p b2 cv nv, β k = some p ∧ look q m0 = some b2 ∧ σ q = some (k, cv, nv) := by
    intro k q hk
    have hlk := hin (k, q) hk
    obtain ⟨b2, hb2⟩ := Option.isSome_iff_exists.1 hlk
    obtain ⟨k', cv, nv, e, _⟩ := outMem_has hm q b2 (look_mem hb2)
    obtain ⟨b3, l3, _, c3⟩ := hspec e
    have hkk : k' = k ∧ (s.blk k).isSome = true := by
      rcases c3 with ⟨bk, z1, z2, _⟩ | ⟨bk, z1, z2, _⟩ | ⟨dd, z1, _⟩
      · have := i2 k' k q z1 hk; subst this; exact ⟨rfl, by rw [z2]; rfl⟩
      · have := i2 k' k q z1 hk; subst this; exact ⟨rfl, by rw [z2]; rfl⟩
      · exact absurd hk (z1 k)
    obtain ⟨rfl, hsb⟩ := hkk
    obtain ⟨blk, hblk⟩ := Option.isSome_iff_exists.1 hsb
    obtain ⟨p, hp, _⟩ := h.mem k' blk hblk
    exact ⟨p, b2, cv, nv, hp, hb2, e⟩
  have hevo : Evo β βn := by
    intro k p hp
    rcases hcase k with ⟨q, cv, nv, e⟩ | hno
    · obtain ⟨b, l, rfl, c3⟩ := hspec e
      obtain ⟨p2, hp2, hr2⟩ := hmemOf l
      have hn := hβn1 e
      rw [hp2] at hn
      rcases c3 with ⟨bk, z1, z2, zr, z3⟩ | ⟨bk, z1, z2, zr, z3⟩ | ⟨dd, z1, z2, z3, z4, z5, z6⟩
      · rcases h.verOf hp z2 with ⟨x, y, _, hh⟩ | ⟨v0, rfl, hh⟩
        · rw [zr] at hh; cases hh
        have hL := βL_of hok z1 hp
        rcases hc.hist q _ hL (by show (look q m0).isSome = true; rw [l]; rfl) with g | ⟨x0, y0, x1, y1, g1, g2, g3⟩
        · rw [hp2] at g; cases g
          have hv0 : b.ver = 0 := by
            rcases hc.verOf hp2 (show St.blk ⟨1, [(0, r0)], m0⟩ q = some b from l) with ⟨x, y, hx, _⟩ | ⟨v, hx, _⟩
            · cases hx
            · injection hx with hx1 hx2; first | exact hx2.symm | exact hx2
          rw [hv0, if_pos rfl] at z3
          subst z3
          exact .inl hn
        · cases g1
          rw [hp2] at g2; cases g2
          have hv0 : b.ver = y1 := by
            rcases hc.verOf hp2 (show St.blk ⟨1, [(0, r0)], m0⟩ q = some b from l) with ⟨x, y, hx, _⟩ | ⟨v, hx, _⟩
            · cases hx
            · injection hx with hx1 hx2; first | exact hx2.symm | exact hx2
          rw [hv0, if_neg (by omega)] at z3
          subst z3
          exact .inr ⟨v0, bk.ver, x1, bk.ver + 1, rfl, hn, by omega⟩
      · rcases h.verOf hp z2 with ⟨x, y, rfl, hh⟩ | ⟨v0, _, hh⟩
        · have hL := βL_of hok z1 hp
          rcases hc.hist q _ hL (by show (look q m0).isSome = true; rw [l]; rfl) with g | ⟨x0, y0, x1, y1, g1, g2, g3⟩
          · rw [hp2] at g; cases g
            exact .inl hn
          · cases g1
        · rw [zr] at hh; cases hh
      · rw [h.noKey z6] at hp; cases hp
    · exact .inl (by rw [hβn2 hno]; exact hp)
  have hlookm : ∀ k b', (s.out dst ⟨r0.ren σ, m⟩).blk k = some b' → (∃ q b cv nv, look q m0 = some b ∧ σ q = some (k, cv, nv) ∧ b' = b.ren σ nv) ∨ ((∀ q cv nv, σ q ≠ some (k, cv, nv)) ∧ s.blk k = some b') := by
    intro k b' hk
    have e1 : (s.out dst ⟨r0.ren σ, m⟩).blk k = (look k m).or (s.blk k) := by
      unfold St.out
      rw [St.blk_put]
      show look k (m ++ s.mem) = _
      rw [look_append]; rfl
    rw [e1] at hk
    cases hl : look k m with
    | some b1 =>
      rw [hl] at hk
      obtain rfl : b1 = b' := by simpa using hk
      obtain ⟨q, b, cv, nv, g1, g2, g3⟩ := outMem_get hm k b1 hl
      exact .inl ⟨q, b, cv, nv, nodup_look hnd q b g1, g2, g3⟩
    | none =>
      rw [hl] at hk
      refine .inr ⟨fun q cv nv e => ?_, by simpa using hk⟩
      obtain ⟨b, l, _⟩ := hspec e
      obtain ⟨k', cv', nv', e', hs'⟩ := outMem_has hm q b (look_mem l)
      rw [e] at e'; cases e'
      rw [hl] at hs'; cases hs'
  have hother : ∀ {k : Nat} {p : Place} {blk : Blk}, (∀ q cv nv, σ q ≠ some (k, cv, nv)) → β k = some p → s.blk k = some blk → ∀ b j, p.covers blk b j → ¬ XL β s ks b j := by
    rintro k p blk hno hp hb b j hcv ⟨k1, q1, p1, blk1, hm1, hp1, hb1, hc1⟩
    have hne : k1 ≠ k := fun e => by
      subst e
      obtain ⟨_, _, cv, nv, _, _, e⟩ := hpassed hm1
      exact hno q1 cv nv e
    exact h.inj k1 k p1 p blk1 blk b j hne hp1 hp hb1 hb hc1 hcv
  -- the covers of what came back lie in what was handed over, or in new blocks
  have hcovIn : ∀ {q : Nat} {p2 : Place} {b2 : Blk}, look q m0 = some b2 → β2 q = some p2 → ∀ b j, p2.covers b2 b j → b < w.heap.size → XL β s ks b j := fun {q p2 b2} l hp2 b j hcv hlt => hc.may q p2 b2 b j hp2 l hcv hlt
  refine ⟨βn, Un, SimB.put (s := s.upd m) (a := a) (w := w') ?_ (backV (hc.env 0) ?_) hd⟩
  · exact {
      n := h.n, small := h.small, args := h.args, ver0 := h.ver0, defers := h.defers
      env := fun t => (h.env t).map (fun b hb => .inl hb) hUk hevo
      hist := fun k p hp hb => by
        rcases hcase k with ⟨q, cv, nv, e⟩ | hno
        · have hkk : ∃ p1, β k = some p1 := by
            obtain ⟨b, l, _, c3⟩ := hspec e
            rcases c3 with ⟨bk, z1, z2, zr, z3⟩ | ⟨bk, z1, z2, zr, z3⟩ | ⟨dd, z1, z2, z3, z4, z5, z6⟩
            · obtain ⟨p1, hp1, _⟩ := h.mem k _ z2; exact ⟨p1, hp1⟩
            · obtain ⟨p1, hp1, _⟩ := h.mem k _ z2; exact ⟨p1, hp1⟩
            · exfalso
              have hdd := hd dd z3
              have hsm := h.small
              have hdd' : dd < s.n := hdd
              have : k < 1000000 ∨ 2000000 ≤ k := by omega
              rw [h.args k this] at hp; cases hp
          obtain ⟨p1, hp1⟩ := hkk
          have hsb := h.dom k p1 hp1
          rcases h.hist k p hp hsb with g | ⟨v0, ver0, v1, ver1, g1, g2, g3⟩
          · rcases hevo k p g with g' | g'
            · exact .inl g'
            · exact .inr g'
          · rcases hevo k _ g2 with g' | ⟨x0, y0, x1, y1, g4, g5, g6⟩
            · exact .inr ⟨v0, ver0, v1, ver1, g1, g', g3⟩
            · cases g4; exact .inr ⟨v0, ver0, x1, y1, g1, g5, by omega⟩
        · rw [hβn2 hno]
          have hsb : (s.blk k).isSome = true := by
            obtain ⟨b', hb'⟩ := Option.isSome_iff_exists.1 hb
            rcases hlookm k b' (by unfold St.out; rw [St.blk_put]; exact hb') with ⟨q, b, cv, nv, _, e, _⟩ | ⟨_, e⟩
            · exact absurd e (hno q cv nv)
            · rw [e]; rfl
          exact h.hist k p hp hsb
      mem := fun k b' hk => by
        rcases hlookm k b' (by unfold St.out; rw [St.blk_put]; exact hk) with ⟨q, b, cv, nv, l, e, rfl⟩ | ⟨hno, hb⟩
        · obtain ⟨p2, hp2, hr2⟩ := hmemOf l
          refine ⟨p2.renum nv, by rw [hβn1 e, hp2]; rfl, backB hr2 (fun hl => ?_)⟩
          rcases hsafe with z | z
          · rw [hl] at z; cases z
          · exact z.2 (q, b) (look_mem l)
        · obtain ⟨p, hp, hr⟩ := h.mem k b' hb
          refine ⟨p, by rw [hβn2 hno]; exact hp, hr.map (fun b hb => .inl hb) hUk hevo (fun b j hcv => ?_) (fun v ver e b hvb => ?_)⟩
          · have hnx := hother hno hp hb b j hcv
            have hlt := h.blockOld hp b (covers_block hcv)
            rcases hc.chg.block b hlt with e | ⟨x, x', e, f, e1, e2, e3, e4⟩ | e
            · exact ⟨World.cell?_of_block (w := w) e, World.frozen?_of_block (w := w) e⟩
            · simp only [World.cell?, World.frozen?, e1, e2]
              exact ⟨by simpa using e4 j hnx, trivial⟩
            · exact absurd (e j) hnx
          · subst e
            refine hblkEq b (h.blockOld hp b hvb) (fun j => hother hno hp hb b j ?_)
            cases b' with
            | cells => exact hr.elim
            | row => exact hvb
            | rowT => exact hvb
      dom := fun k p hp => by
        show (look k (m ++ s.mem)).isSome = true
        rw [look_append]
        rcases hcase k with ⟨q, cv, nv, e⟩ | hno
        · obtain ⟨b, l, _⟩ := hspec e
          obtain ⟨k', cv', nv', e', hs'⟩ := outMem_has hm q b (look_mem l)
          rw [e] at e'; cases e'
          obtain ⟨z, hz⟩ := Option.isSome_iff_exists.1 hs'
          rw [hz]; rfl
        · rw [hβn2 hno] at hp
          have := h.dom k p hp
          cases hl : look k m with
          | some z => rfl
          | none => exact this
      apart := fun k p b hp hb => by
        rcases hcase k with ⟨q, cv, nv, e⟩ | hno
        · rw [hβn1 e, Option.map_eq_some_iff] at hp
          obtain ⟨p2, hp2, rfl⟩ := hp
          rw [block_ren] at hb
          obtain ⟨g1, g2⟩ := hc.apart q p2 b hp2 hb
          refine ⟨?_, g2⟩
          rintro (hu | ⟨_, hu⟩)
          · exact g1 (hc.old b (.inl hu))
          · exact g1 hu
        · rw [hβn2 hno] at hp
          obtain ⟨g1, g2⟩ := h.apart k p b hp hb
          refine ⟨?_, by omega⟩
          rintro (hu | ⟨hu, _⟩)
          · exact g1 hu
          · omega
      inj := fun k1 k2 p1 p2 b1 b2 b j hne hp1 hp2 hb1 hb2 hc1 hc2 => by
        have get : ∀ {k : Nat} {p : Place} {b' : Blk}, βn k = some p → (s.upd m).blk k = some b' → (∃ q b2 cv nv pp, look q m0 = some b2 ∧ σ q = some (k, cv, nv) ∧ β2 q = some pp ∧ ∀ x i, p.covers b' x i ↔ pp.covers b2 x i) ∨ ((∀ q cv nv, σ q ≠ some (k, cv, nv)) ∧ β k = some p ∧ s.blk k = some b') := by
          intro k p b' hp hb
          rcases hlookm k b' (by unfold St.out; rw [St.blk_put]; exact hb) with ⟨q, bb, cv, nv, l, e, rfl⟩ | ⟨hno, hbb⟩
          · rw [hβn1 e, Option.map_eq_some_iff] at hp
            obtain ⟨pp, hpp, rfl⟩ := hp
            exact .inl ⟨q, bb, cv, nv, pp, l, e, hpp, fun x i => covers_ren⟩
          · rw [hβn2 hno] at hp
            exact .inr ⟨hno, hp, hbb⟩
        rcases get hp1 hb1 with ⟨q1, y1, cv1, nv1, pp1, l1, e1, z1, f1⟩ | ⟨n1, z1, y1⟩ <;> rcases get hp2 hb2 with ⟨q2, y2, cv2, nv2, pp2, l2, e2, z2, f2⟩ | ⟨n2, z2, y2⟩
        · have hq : q1 ≠ q2 := fun e => by subst e; rw [e1] at e2; cases e2; exact hne rfl
          exact hc.inj q1 q2 pp1 pp2 y1 y2 b j hq z1 z2 l1 l2 ((f1 b j).1 hc1) ((f2 b j).1 hc2)
        · have hlt := h.blockOld z2 b (covers_block hc2)
          exact hother n2 z2 y2 b j hc2 (hcovIn l1 z1 b j ((f1 b j).1 hc1) hlt)
        · have hlt := h.blockOld z1 b (covers_block hc1)
          exact hother n1 z1 y1 b j hc1 (hcovIn l2 z2 b j ((f2 b j).1 hc2) hlt)
        · exact h.inj k1 k2 p1 p2 b1 b2 b j hne z1 z2 y1 y2 hc1 hc2
      stab := fun b hb => by
        rcases hb with hu | ⟨_, hu⟩
        · have := h.stab b hu; omega
        · exact hc.stab b hu
      old := fun b hb => .inl (h.old b hb)
      new := fun b hlt hb => by
        rcases hb with hu | ⟨hu, _⟩
        · exact h.new b hlt hu
        · omega
      chg := by
        refine h.chg.trans ⟨hc.chg.os, hc.chg.tape, hc.chg.output, hc.chg.size, fun b hb => ?_⟩
        have hXX : ∀ j, XL β s ks b j → X b j := by
          rintro j ⟨k1, q1, p1, blk1, hm1, hp1, hb1, hc1⟩
          exact h.may k1 p1 blk1 b j hp1 hb1 hc1 hb
        rcases hc.chg.block b (Nat.lt_of_lt_of_le hb hbase) with e | ⟨x, x', e, f, e1, e2, e3, e4⟩ | e
        · exact .inl e
        · exact .inr (.inl ⟨x, x', e, f, e1, e2, e3, fun j hj => e4 j (fun hx => hj (hXX j hx))⟩)
        · exact .inr (.inr fun j => hXX j (e j))
      may := fun k p b' b j hp hb hcv hlt => by
        rcases hlookm k b' (by unfold St.out; rw [St.blk_put]; exact hb) with ⟨q, bb, cv, nv, l, e, rfl⟩ | ⟨hno, hbb⟩
        · rw [hβn1 e, Option.map_eq_some_iff] at hp
          obtain ⟨pp, hpp, rfl⟩ := hp
          obtain ⟨k1, q1, p1, blk1, hm1, hp1, hb1, hc1⟩ := hcovIn l hpp b j (covers_ren.1 hcv) (by omega)
          exact h.may k1 p1 blk1 b j hp1 hb1 hc1 hlt
        · rw [hβn2 hno] at hp
          exact h.may k p b' b j hp hbb hcv hlt }
  · intro hl
    rcases hsafe with z | z
    · rw [hl] at z; cases z
    · exact z.1
end
end Go.Proofs.Ytjehhmeaigkbnaa.Abs
