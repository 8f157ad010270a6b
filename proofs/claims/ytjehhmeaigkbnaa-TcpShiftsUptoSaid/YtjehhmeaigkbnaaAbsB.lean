/- An abstract walk, the second part: what becomes of the relation behind a put, a draw, a new block, a store. -/
import Derived.Test.YtjehhmeaigkbnaaAbsA
namespace Go.Proofs.Ytjehhmeaigkbnaa.Abs
open Go Go.RowKit

theorem look_cons {α : Type} (t j : Nat) (v : α) (r : List (Nat × α)) : look t ((j, v) :: r) = if j = t then some v else look t r := rfl
theorem look_cons_self {α : Type} (t : Nat) (v : α) (r : List (Nat × α)) : look t ((t, v) :: r) = some v := by simp [look]
theorem look_cons_ne {α : Type} {t j : Nat} (h : j ≠ t) (v : α) (r : List (Nat × α)) : look t ((j, v) :: r) = look t r := by simp [look, h]

def St.put (s : St) (dst : Option Nat) (x : V) : St :=
  match dst with
  | some t => { s with env := (t, x) :: s.env }
  | none => s
def St.set (s : St) (k : Nat) (blk : Blk) : St := { s with mem := (k, blk) :: s.mem }

theorem St.get_put (s : St) (d t : Nat) (x : V) : (s.put (some d) x).get t = if d = t then x else s.get t := by
  unfold St.put St.get; simp only [look_cons]; split <;> rfl
@[simp] theorem St.blk_put (s : St) (d : Option Nat) (x : V) (k : Nat) : (s.put d x).blk k = s.blk k := by cases d <;> rfl
@[simp] theorem St.n_put (s : St) (d : Option Nat) (x : V) : (s.put d x).n = s.n := by cases d <;> rfl
theorem St.blk_set (s : St) (k k' : Nat) (blk : Blk) : (s.set k blk).blk k' = if k = k' then some blk else s.blk k' := by
  unfold St.set St.blk; simp only [look_cons]
@[simp] theorem St.get_set (s : St) (k t : Nat) (blk : Blk) : (s.set k blk).get t = s.get t := rfl
@[simp] theorem St.n_set (s : St) (k : Nat) (blk : Blk) : (s.set k blk).n = s.n := rfl

def upd (β : Nat → Option Place) (k : Nat) (p : Place) : Nat → Option Place := fun k' => if k = k' then some p else β k'
theorem upd_self (β : Nat → Option Place) (k : Nat) (p : Place) : upd β k p k = some p := by simp [upd]
theorem upd_ne (β : Nat → Option Place) {k k' : Nat} (h : k ≠ k') (p : Place) : upd β k p k' = β k' := by simp [upd, h]

theorem size_alloc (w : World) (o : Obj) : (w.alloc o).heap.size = w.heap.size + 1 := by simp

theorem covers_block {p : Place} {blk : Blk} {b j : Nat} (h : p.covers blk b j) : p.block = some b := by
  cases p with
  | cells b' o => cases blk with
    | cells cs => obtain ⟨h1, _⟩ := h; rw [h1]; rfl
    | row => exact h.elim
    | rowT => exact h.elim
  | row v ver => cases blk <;> exact h

section
variable {w0 : World} {U0 : Nat → Prop} {X : Nat → Nat → Prop} {β0 : Nat → Option Place} {β : Nat → Option Place} {U : Nat → Prop} {s : St} {a : Act} {w : World}

theorem SimB.baseLe (h : SimB w0 U0 X β0 β U s a w) : w0.heap.size ≤ w.heap.size := h.chg.size

theorem SimB.put (h : SimB w0 U0 X β0 β U s a w) {v : Value} {x : V} (hx : RepV w β U w0.heap.size v x) {dst : Option Nat} (hd : ∀ d, dst = some d → d < s.n) :
    SimB w0 U0 X β0 β U (s.put dst x) (a.put dst v) w := by
  cases dst with
  | none => exact h
  | some d =>
    have hd' : d < a.tmps.size := by rw [h.n]; exact hd d rfl
    have henv : ∀ t, RepV w β U w0.heap.size ((a.put (some d) v).tmps.getD t undef) ((s.put (some d) x).get t) := fun t => by
      rw [St.get_put]
      by_cases hdt : d = t
      · subst hdt
        rw [if_pos rfl]
        have : (a.put (some d) v).tmps.getD d undef = v := by simp [Act.put, hd']
        rw [this]; exact hx
      · rw [if_neg hdt]
        have : (a.put (some d) v).tmps.getD t undef = a.tmps.getD t undef := by
          simp only [Act.put, Array.getD_eq_getD_getElem?]
          rw [Array.getElem?_setIfInBounds_ne hdt]
        rw [this]; exact h.env t
    exact { n := by simpa [Act.put] using h.n, small := by simpa using h.small, args := h.args, ver0 := h.ver0, hist := by simpa using h.hist, defers := by simpa [Act.put] using h.defers, mem := by simpa using h.mem, dom := by simpa using h.dom, apart := h.apart, inj := by simpa using h.inj, stab := h.stab, old := h.old, new := h.new, chg := h.chg, may := by simpa using h.may, env := henv }

theorem RepB.map {w' : World} {β' : Nat → Option Place} {U' : Nat → Prop} {base : Nat} {p : Place} {blk : Blk} (h : RepB w β U base p blk) (hU : ∀ b, U b → U' b)
    (hw : ∀ b, U b → w'.heap[b]? = w.heap[b]?) (hβ : Evo β β')
    (hc : ∀ b j, p.covers blk b j → w'.cell? ⟨b, j, none⟩ = w.cell? ⟨b, j, none⟩ ∧ w'.frozen? ⟨b, j, none⟩ = w.frozen? ⟨b, j, none⟩)
    (hb : ∀ v ver, p = .row v ver → ∀ b, v.ownBlock = some b → w'.heap[b]? = w.heap[b]?) : RepB w' β' U' base p blk := by
  cases p with
  | cells b o =>
    cases blk with
    | cells cs =>
      refine ⟨h.1, fun j c hj => ?_⟩
      obtain ⟨v, h1, h2, h3, h4⟩ := h.2 j c hj
      have e := hc b (o + j) ⟨rfl, by omega, by have := (List.getElem?_eq_some_iff.1 hj).1; omega⟩
      exact ⟨v, by rw [e.1]; exact h1, by rw [e.2]; exact h2, h3, h4.map hU hw hβ⟩
    | row => exact h.elim
    | rowT => exact h.elim
  | row v ver0 =>
    cases blk with
    | cells => exact h.elim
    | row ver e sz ap fr rows =>
      obtain ⟨h0, h1, h2⟩ := h
      refine ⟨h0, h1, ?_⟩
      rcases h2 with h2 | ⟨g, cap, cur, fz, rfl, hg, h3, h4, h5, h6, h7, h8⟩
      · exact .inl h2
      · have e' := hb _ _ rfl g rfl
        refine .inr ⟨g, cap, cur, fz, rfl, e'.trans hg, h3, h4, h5, h6, fun i hi => by rw [World.frozen?_of_block (w := w) e']; exact h7 i hi, fun i j r d hi hj => ?_⟩
        obtain ⟨u, k1, k2, k3⟩ := h8 i j r d hi hj
        exact ⟨u, k1, k2, k3.mono (fun b hb => ⟨hU b hb.1, hb.2⟩) (fun b hb => hw b hb.1)⟩
    | rowT ver e c ap fr xs =>
      obtain ⟨h0, h1, h2⟩ := h
      refine ⟨h0, h1, ?_⟩
      rcases h2 with h2 | ⟨g, cap, cur, fz, rfl, hg, h3, h4, h5, h6, h7, h8⟩
      · exact .inl h2
      · have e' := hb _ _ rfl g rfl
        refine .inr ⟨g, cap, cur, fz, rfl, e'.trans hg, h3, h4, h5, h6, fun i hi => by rw [World.frozen?_of_block (w := w) e']; exact h7 i hi, fun i j r d hi hj => ?_⟩
        obtain ⟨u, k1, k2, k3⟩ := h8 i j r d hi hj
        exact ⟨u, k1, k2, k3.mono (fun b hb => ⟨hU b hb.1, hb.2⟩) (fun b hb => hw b hb.1)⟩

theorem RepB.mapBlock {w' : World} {β' : Nat → Option Place} {U' : Nat → Prop} {base : Nat} {p : Place} {blk : Blk} (h : RepB w β U base p blk) (hU : ∀ b, U b → U' b)
    (hw : ∀ b, U b → w'.heap[b]? = w.heap[b]?) (hβ : Evo β β') (hb : ∀ b, p.block = some b → w'.heap[b]? = w.heap[b]?) : RepB w' β' U' base p blk :=
  h.map hU hw hβ (fun b j hc => ⟨World.cell?_of_block (w := w) (hb b (covers_block hc)), World.frozen?_of_block (w := w) (hb b (covers_block hc))⟩) (fun v ver e b h => hb b (by rw [e]; exact h))

/-- A world with the same memory. -/
theorem SimB.heapEq (h : SimB w0 U0 X β0 β U s a w) {w' : World} (hh : w'.heap = w.heap) (ho : w'.os = w.os) (ht : w'.tape = w.tape) (hp : w'.output = w.output) : SimB w0 U0 X β0 β U s a w' := by
  have e : ∀ b : Nat, w'.heap[b]? = w.heap[b]? := fun b => by rw [hh]
  exact { n := h.n, small := h.small, args := h.args, ver0 := h.ver0, hist := h.hist, defers := h.defers, env := fun t => (h.env t).map (fun _ hb => hb) (fun b _ => e b) (Evo.refl _), dom := h.dom, inj := h.inj, old := h.old, new := h.new, may := h.may,
                mem := fun k blk hk => by obtain ⟨p, h1, h2⟩ := h.mem k blk hk; exact ⟨p, h1, h2.mapBlock (fun _ hb => hb) (fun b _ => e b) (Evo.refl _) (fun b _ => e b)⟩,
                apart := fun k p b h1 h2 => by rw [hh]; exact h.apart k p b h1 h2,
                stab := fun b hb => by rw [hh]; exact h.stab b hb,
                chg := h.chg.trans ⟨ho, ht, hp, by rw [hh]; exact Nat.le_refl _, fun b _ => .inl (e b)⟩ }

theorem SimB.drew (h : SimB w0 U0 X β0 β U s a w) : SimB w0 U0 X β0 β U s a w.drew := h.heapEq rfl rfl rfl rfl

theorem SimB.noKey (h : SimB w0 U0 X β0 β U s a w) {k : Nat} (hk : s.blk k = none) : β k = none := by
  cases hb : β k with
  | none => rfl
  | some p => have := h.dom k p hb; rw [hk] at this; cases this

theorem SimB.updOld (h : SimB w0 U0 X β0 β U s a w) {k : Nat} (hk : s.blk k = none) (p : Place) : ∀ k' p', β k' = some p' → upd β k p k' = some p' := by
  intro k' p' hp
  have : k ≠ k' := fun e => by subst e; rw [h.noKey hk] at hp; cases hp
  rw [upd_ne β this]; exact hp

theorem SimB.blockOld (h : SimB w0 U0 X β0 β U s a w) {k : Nat} {p : Place} (hk : β k = some p) : ∀ b, p.block = some b → b < w.heap.size := fun b hb => (h.apart k p b hk hb).2

/-- A new block, under a key that is not in use. -/
theorem SimB.newKey (h : SimB w0 U0 X β0 β U s a w) {k : Nat} (hk0 : k < 1000000) (hk : s.blk k = none) {w' : World} {p : Place} {blk : Blk}
    (hos : w'.os = w.os) (htape : w'.tape = w.tape) (hout : w'.output = w.output) (hsize : w.heap.size ≤ w'.heap.size)
    (hold : ∀ b, b < w.heap.size → w'.heap[b]? = w.heap[b]?) (hblock : ∀ b, p.block = some b → w.heap.size ≤ b ∧ b < w'.heap.size)
    (hrep : RepB w' (upd β k p) U w0.heap.size p blk) :
    SimB w0 U0 X β0 (upd β k p) U (s.set k blk) a w' ∧ (∀ k' p', β k' = some p' → upd β k p k' = some p') := by
  have hupd := h.updOld hk p
  have hUold : ∀ b, U b → w'.heap[b]? = w.heap[b]? := fun b hb => hold b (h.stab b hb)
  have hget : ∀ k' p', upd β k p k' = some p' → (k = k' ∧ p' = p) ∨ (k ≠ k' ∧ β k' = some p') := by
    intro k' p' hp
    by_cases e : k = k'
    · subst e; rw [upd_self] at hp; exact .inl ⟨rfl, by simpa using hp.symm⟩
    · rw [upd_ne β e] at hp; exact .inr ⟨e, hp⟩
  refine ⟨?_, hupd⟩
  exact {
    n := h.n, small := h.small, args := h.args, ver0 := h.ver0, defers := h.defers
    hist := fun k' p' hp hb => by
      have e : k ≠ k' := fun e => by subst e; rw [h.args k (.inl hk0)] at hp; cases hp
      rw [St.blk_set, if_neg e] at hb
      rw [upd_ne β e]
      exact h.hist k' p' hp hb
    env := fun t => (h.env t).map (fun _ hb => hb) hUold (Evo.sub hupd)
    mem := fun k' blk' hk' => by
      rw [St.blk_set] at hk'
      by_cases e : k = k'
      · subst e
        rw [if_pos rfl] at hk'
        obtain rfl : blk = blk' := by simpa using hk'
        exact ⟨p, upd_self _ _ _, hrep⟩
      · rw [if_neg e] at hk'
        obtain ⟨p', hp1, hp2⟩ := h.mem k' blk' hk'
        exact ⟨p', hupd _ _ hp1, hp2.mapBlock (fun _ hb => hb) hUold (Evo.sub hupd) (fun b hb => hold b (h.blockOld hp1 b hb))⟩
    dom := fun k' p' hp => by
      rw [St.blk_set]
      rcases hget k' p' hp with ⟨e, _⟩ | ⟨e, hp'⟩
      · rw [if_pos e]; rfl
      · rw [if_neg e]; exact h.dom k' p' hp'
    apart := fun k' p' b hp hb => by
      rcases hget k' p' hp with ⟨e, rfl⟩ | ⟨e, hp'⟩
      · obtain ⟨q1, q2⟩ := hblock b hb
        exact ⟨fun hu => by have := h.stab _ hu; omega, q2⟩
      · obtain ⟨h1, h2⟩ := h.apart k' p' b hp' hb
        exact ⟨h1, by omega⟩
    inj := fun k1 k2 p1 p2 b1 b2 b j hne hp1 hp2 hb1 hb2 hc1 hc2 => by
      rcases hget k1 p1 hp1 with ⟨e1, rfl⟩ | ⟨e1, hp1'⟩ <;> rcases hget k2 p2 hp2 with ⟨e2, rfl⟩ | ⟨e2, hp2'⟩
      · exact hne (e1.symm.trans e2)
      · have := hblock b (covers_block hc1)
        have := h.blockOld hp2' b (covers_block hc2)
        omega
      · have := hblock b (covers_block hc2)
        have := h.blockOld hp1' b (covers_block hc1)
        omega
      · rw [St.blk_set, if_neg e1] at hb1; rw [St.blk_set, if_neg e2] at hb2
        exact h.inj k1 k2 p1 p2 b1 b2 b j hne hp1' hp2' hb1 hb2 hc1 hc2
    stab := fun b hb => by have := h.stab b hb; omega
    old := h.old, new := h.new
    chg := h.chg.trans ⟨hos, htape, hout, hsize, fun b hb => .inl (hold b (Nat.lt_of_lt_of_le hb h.baseLe))⟩
    may := fun k' p' blk' b j hp hb hc hlt => by
      rcases hget k' p' hp with ⟨e, rfl⟩ | ⟨e, hp'⟩
      · have := hblock b (covers_block hc)
        have := h.baseLe
        omega
      · rw [St.blk_set, if_neg e] at hb
        exact h.may k' p' blk' b j hp' hb hc hlt }

/-- A new block of cells. -/
theorem SimB.allocCells (h : SimB w0 U0 X β0 β U s a w) {k : Nat} (hk0 : k < 1000000) (hk : s.blk k = none) (T : TypeId) (vs : List Value) (cs : List C) (hl : vs.length = cs.length) (hne : 0 < cs.length)
    (hrep : ∀ (j : Nat) (u : Value) (c : C), vs[j]? = some u → cs[j]? = some c → RepC w β U w0.heap.size u c) (h1 : ∀ u ∈ vs, u.oneCell' = true) :
    SimB w0 U0 X β0 (upd β k (.cells w.heap.size 0)) U (s.set k (.cells cs)) a (w.alloc (.cells vs.toArray T)) ∧ ∀ k' p', β k' = some p' → upd β k (.cells w.heap.size 0) k' = some p' := by
  have hold : ∀ b, b < w.heap.size → (w.alloc (.cells vs.toArray T)).heap[b]? = w.heap[b]? := fun b hb => Below.heap_alloc _ _ _ hb
  have hUold : ∀ b, U b → (w.alloc (.cells vs.toArray T)).heap[b]? = w.heap[b]? := fun b hb => hold b (h.stab b hb)
  have hnewb : (w.alloc (.cells vs.toArray T)).heap[w.heap.size]? = some (.cells vs.toArray T (0, 0)) := heap_alloc_new w _
  refine h.newKey hk0 hk rfl rfl rfl (by rw [size_alloc]; omega) hold (fun b hb => ?_) ⟨hne, fun j c hj => ?_⟩
  · obtain rfl : w.heap.size = b := by simpa [Place.block] using hb
    rw [size_alloc]; omega
  · have hj' : j < vs.length := by rw [hl]; exact (List.getElem?_eq_some_iff.1 hj).1
    refine ⟨vs[j], ?_, ?_, h1 _ (List.getElem_mem hj'), ((hrep j _ c (List.getElem?_eq_getElem hj') hj).map (fun _ hb => hb) hUold (Evo.sub (h.updOld hk _)))⟩
    · simp only [World.cell?, hnewb, Nat.zero_add]; simp [hj']
    · simp only [World.frozen?, hnewb]; simp

/-- A block of the call's own becomes another one (a store, an append): nothing else turns. -/
theorem SimB.repl (h : SimB w0 U0 X β0 β U s a w) {k : Nat} {p : Place} {blk : Blk} (hk : β k = some p) (hb : s.blk k = some blk) {w' : World} {p' : Place} {blk' : Blk}
    (hos : w'.os = w.os) (htape : w'.tape = w.tape) (hout : w'.output = w.output) (hsize : w.heap.size ≤ w'.heap.size)
    (hother : ∀ b, b < w.heap.size → p.block ≠ some b → w'.heap[b]? = w.heap[b]?)
    (hcell : ∀ b j, b < w.heap.size → ¬ p.covers blk b j → w'.cell? ⟨b, j, none⟩ = w.cell? ⟨b, j, none⟩ ∧ w'.frozen? ⟨b, j, none⟩ = w.frozen? ⟨b, j, none⟩)
    (hshape : ∀ b, b < w.heap.size → p.block = some b → w'.heap[b]? = w.heap[b]? ∨ (∃ c c' e f, w.heap[b]? = some (.cells c e f) ∧ w'.heap[b]? = some (.cells c' e f) ∧ c.size = c'.size ∧ ∀ j, ¬ p.covers blk b j → c'[j]? = c[j]?) ∨ ∀ j, p.covers blk b j)
    (hp' : p' = p ∨ ∃ v0 ver0 v1 ver1, p = .row v0 ver0 ∧ p' = .row v1 ver1 ∧ ver0 < ver1)
    (hblock : ∀ b, p'.block = some b → p.block = some b ∨ (w.heap.size ≤ b ∧ b < w'.heap.size))
    (hcov : ∀ b j, p'.covers blk' b j → p.covers blk b j ∨ w.heap.size ≤ b)
    (hrep : RepB w' (upd β k p') U w0.heap.size p' blk') :
    SimB w0 U0 X β0 (upd β k p') U (s.set k blk') a w' := by
  have hevo : Evo β (upd β k p') := by
    intro k1 p1 h1
    by_cases e : k = k1
    · subst e
      rw [hk] at h1; cases h1
      rcases hp' with rfl | ⟨v0, ver0, v1, ver1, rfl, rfl, hlt⟩
      · exact .inl (upd_self _ _ _)
      · exact .inr ⟨v0, ver0, v1, ver1, rfl, upd_self _ _ _, hlt⟩
    · exact .inl (by rw [upd_ne β e]; exact h1)
  have hU : ∀ b, U b → w'.heap[b]? = w.heap[b]? := fun b hb => hother b (h.stab b hb) (fun e => (h.apart k p b hk e).1 hb)
  have hget : ∀ k1 p1, upd β k p' k1 = some p1 → (k = k1 ∧ p1 = p') ∨ (k ≠ k1 ∧ β k1 = some p1) := by
    intro k1 p1 h1
    by_cases e : k = k1
    · subst e; rw [upd_self] at h1; exact .inl ⟨rfl, by simpa using h1.symm⟩
    · rw [upd_ne β e] at h1; exact .inr ⟨e, h1⟩
  have hmem : ∀ k1 b1, (s.set k blk').blk k1 = some b1 → ∃ p1, upd β k p' k1 = some p1 ∧ RepB w' (upd β k p') U w0.heap.size p1 b1 := by
    intro k1 b1 h1
    rw [St.blk_set] at h1
    by_cases e : k = k1
    · subst e
      rw [if_pos rfl] at h1
      obtain rfl : blk' = b1 := by simpa using h1
      exact ⟨p', upd_self _ _ _, hrep⟩
    · rw [if_neg e] at h1
      obtain ⟨p1, hp1, hr1⟩ := h.mem k1 b1 h1
      refine ⟨p1, by rw [upd_ne β e]; exact hp1, hr1.map (fun _ hb => hb) hU hevo (fun b j hc => ?_) (fun v ver e1 b hb1 => ?_)⟩
      · exact hcell b j (h.blockOld hp1 b (covers_block hc)) (fun hc2 => h.inj k k1 p p1 blk b1 b j e hk hp1 hb h1 hc2 hc)
      · subst e1
        refine hother b (h.blockOld hp1 b hb1) (fun e2 => ?_)
        cases p with
        | cells b2 o2 =>
          obtain rfl : b2 = b := by simpa [Place.block] using e2
          exact h.kinds k1 k v ver b2 o2 hp1 hk hb1
        | row v2 ver2 => exact h.inj k k1 _ _ blk b1 b 0 e hk hp1 hb h1 (by cases blk <;> exact e2) (by cases b1 <;> exact hb1)
  exact {
    n := h.n, small := h.small, args := h.args, ver0 := h.ver0, defers := h.defers, env := fun t => (h.env t).map (fun _ hb => hb) hU hevo, mem := hmem,
    hist := fun k1 p1 h1 hb1 => by
      rw [St.blk_set] at hb1
      by_cases e : k = k1
      · subst e
        rcases h.hist k p1 h1 (by rw [hb]; rfl) with q | ⟨v0, ver0, v1, ver1, e1, e2, e3⟩
        · rw [hk] at q; cases q
          rcases hp' with rfl | ⟨v0, ver0, v1, ver1, rfl, rfl, hlt⟩
          · exact .inl (upd_self _ _ _)
          · exact .inr ⟨v0, ver0, v1, ver1, rfl, upd_self _ _ _, hlt⟩
        · rw [hk] at e2; cases e2
          rcases hp' with rfl | ⟨v0', ver0', v1', ver1', e4, rfl, hlt⟩
          · exact .inr ⟨v0, ver0, _, _, e1, upd_self _ _ _, e3⟩
          · cases e4; exact .inr ⟨v0, ver0, _, _, e1, upd_self _ _ _, by omega⟩
      · rw [if_neg e] at hb1
        rw [upd_ne β e]
        exact h.hist k1 p1 h1 hb1
    dom := fun k1 p1 h1 => by
      rw [St.blk_set]
      rcases hget k1 p1 h1 with ⟨e, _⟩ | ⟨e, h2⟩
      · rw [if_pos e]; rfl
      · rw [if_neg e]; exact h.dom k1 p1 h2
    apart := fun k1 p1 b h1 hb1 => by
      rcases hget k1 p1 h1 with ⟨e, rfl⟩ | ⟨e, h2⟩
      · rcases hblock b hb1 with h3 | ⟨h3, h4⟩
        · obtain ⟨q1, q2⟩ := h.apart k p b hk h3; exact ⟨q1, by omega⟩
        · exact ⟨fun hu => by have := h.stab b hu; omega, h4⟩
      · obtain ⟨q1, q2⟩ := h.apart k1 p1 b h2 hb1; exact ⟨q1, by omega⟩
    inj := fun k1 k2 p1 p2 b1 b2 b j hne hp1 hp2 hb1 hb2 hc1 hc2 => by
      rcases hget k1 p1 hp1 with ⟨e1, rfl⟩ | ⟨e1, hp1'⟩ <;> rcases hget k2 p2 hp2 with ⟨e2, rfl⟩ | ⟨e2, hp2'⟩
      · exact hne (e1.symm.trans e2)
      · subst e1
        rw [St.blk_set, if_pos rfl] at hb1; rw [St.blk_set, if_neg e2] at hb2
        obtain rfl : blk' = b1 := by simpa using hb1
        rcases hcov b j hc1 with h3 | h3
        · exact h.inj k k2 p p2 blk b2 b j hne hk hp2' hb hb2 h3 hc2
        · have := h.blockOld hp2' b (covers_block hc2); omega
      · subst e2
        rw [St.blk_set, if_neg e1] at hb1; rw [St.blk_set, if_pos rfl] at hb2
        obtain rfl : blk' = b2 := by simpa using hb2
        rcases hcov b j hc2 with h3 | h3
        · exact h.inj k1 k p1 p b1 blk b j hne hp1' hk hb1 hb hc1 h3
        · have := h.blockOld hp1' b (covers_block hc1); omega
      · rw [St.blk_set, if_neg e1] at hb1; rw [St.blk_set, if_neg e2] at hb2
        exact h.inj k1 k2 p1 p2 b1 b2 b j hne hp1' hp2' hb1 hb2 hc1 hc2
    stab := fun b hb1 => by have := h.stab b hb1; omega
    old := h.old, new := h.new
    chg := by
      refine h.chg.trans ⟨hos, htape, hout, hsize, fun b hb1 => ?_⟩
      have hb2 : b < w.heap.size := Nat.lt_of_lt_of_le hb1 h.baseLe
      by_cases e : p.block = some b
      · rcases hshape b hb2 e with q | ⟨c, c', e1, f, q1, q2, q3, q4⟩ | q
        · exact .inl q
        · exact .inr (.inl ⟨c, c', e1, f, q1, q2, q3, fun j hj => q4 j (fun hc => hj (h.may k p blk b j hk hb hc hb1))⟩)
        · exact .inr (.inr fun j => h.may k p blk b j hk hb (q j) hb1)
      · exact .inl (hother b hb2 e)
    may := fun k1 p1 b1 b j hp1 hb1 hc hlt => by
      rcases hget k1 p1 hp1 with ⟨e1, rfl⟩ | ⟨e1, hp1'⟩
      · subst e1
        rw [St.blk_set, if_pos rfl] at hb1
        obtain rfl : blk' = b1 := by simpa using hb1
        rcases hcov b j hc with h3 | h3
        · exact h.may k p blk b j hk hb h3 hlt
        · have := h.baseLe; omega
      · rw [St.blk_set, if_neg e1] at hb1
        exact h.may k1 p1 b1 b j hp1' hb1 hc hlt }
end
end Go.Proofs.Ytjehhmeaigkbnaa.Abs
