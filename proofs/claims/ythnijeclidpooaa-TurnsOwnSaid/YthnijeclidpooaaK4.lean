/- Texts towards the law TurnsOwn, put together (part 4): an abstract walk and its proof, functions of the program as trees, and plain laws. Conditions: none. -/
import Derived.Test.YthnijeclidpooaaK3
namespace Go.Proofs.Ythnijeclidpooaa.Abs
open Go Go.RowKit
set_option linter.unusedVariables false
set_option linter.unusedSimpArgs false
section
variable {P : Program} {w0 : World} {U0 : Nat -> Prop} {X : Nat -> Nat -> Prop} {β0 β : Nat -> Option Place} {U : Nat -> Prop} {s : St} {a : Act} {w : World} {base : Nat}
theorem covers_nocells {p : Place} (h : p.nocells = true) {blk : Blk} {b j : Nat} : p.covers blk b j ↔ p.has b := by
 cases p with
 | cells => cases h
 | row => cases blk <;> exact Iff.rfl
 | deep => cases blk <;> exact Iff.rfl
def EvoP (p p' : Place) : Prop := p' = p \/ (∃ v0 ver0 v1 ver1, p = .row v0 ver0 /\ p' = .row v1 ver1 /\ ver0 < ver1) \/ ∃ v0 ver0 us0 v1 ver1 us1, p = .deep v0 ver0 us0 /\ p' = .deep v1 ver1 us1 /\ ver0 <= ver1 /\ (ver0 = ver1 -> v0 = v1)
theorem EvoP.to {p p' : Place} (h : EvoP p p') {β' : Nat -> Option Place} {k : Nat} (hk : β' k = some p') : β' k = some p \/ (∃ v0 ver0 v1 ver1, p = .row v0 ver0 /\ β' k = some (.row v1 ver1) /\ ver0 < ver1) \/ ∃ v0 ver0 us0 v1 ver1 us1, p = .deep v0 ver0 us0 /\ β' k = some (.deep v1 ver1 us1) /\ ver0 <= ver1 /\ (ver0 = ver1 -> v0 = v1) := by
 rcases h with rfl | ⟨v0, ver0, v1, ver1, rfl, rfl, h3⟩ | ⟨v0, ver0, us0, v1, ver1, us1, rfl, rfl, h3, h4⟩
 . exact .inl hk
 . exact .inr (.inl ⟨_, _, _, _, rfl, hk, h3⟩)
 . exact .inr (.inr ⟨_, _, _, _, _, _, rfl, hk, h3, h4⟩)
theorem EvoP.step {p0 p p' : Place} (he : EvoP p p') {β' : Nat -> Option Place} {k : Nat} (hk : β k = some p) (hk' : β' k = some p')
   (h : β k = some p0 \/ (∃ v0 ver0 v1 ver1, p0 = .row v0 ver0 /\ β k = some (.row v1 ver1) /\ ver0 < ver1) \/ ∃ v0 ver0 us0 v1 ver1 us1, p0 = .deep v0 ver0 us0 /\ β k = some (.deep v1 ver1 us1) /\ ver0 <= ver1 /\ (ver0 = ver1 -> v0 = v1)) :
   β' k = some p0 \/ (∃ v0 ver0 v1 ver1, p0 = .row v0 ver0 /\ β' k = some (.row v1 ver1) /\ ver0 < ver1) \/ ∃ v0 ver0 us0 v1 ver1 us1, p0 = .deep v0 ver0 us0 /\ β' k = some (.deep v1 ver1 us1) /\ ver0 <= ver1 /\ (ver0 = ver1 -> v0 = v1) := by
 rcases h with q | ⟨v0, ver0, v1, ver1, e1, e2, e3⟩ | ⟨v0, ver0, us0, v1, ver1, us1, e1, e2, e3, e4⟩
 . rw [hk] at q; cases q; exact he.to hk'
 . rw [hk] at e2; cases e2
   rcases he with rfl | ⟨x0, y0, x1, y1, f1, rfl, f3⟩ | ⟨x0, y0, z0, x1, y1, z1, f1, _⟩
   . exact .inr (.inl ⟨_, _, _, _, e1, hk', e3⟩)
   . cases f1; exact .inr (.inl ⟨_, _, _, _, e1, hk', by omega⟩)
   . cases f1
 . rw [hk] at e2; cases e2
   rcases he with rfl | ⟨x0, y0, x1, y1, f1, _⟩ | ⟨x0, y0, z0, x1, y1, z1, f1, rfl, f3, f4⟩
   . exact .inr (.inr ⟨_, _, _, _, _, _, e1, hk', e3, e4⟩)
   . cases f1
   . cases f1; exact .inr (.inr ⟨_, _, _, _, _, _, e1, hk', by omega, fun q => (e4 (by omega)).trans (f4 (by omega))⟩)

theorem SimB.repl2 (h : SimB w0 U0 X β0 β U s a w) {k1 k2 : Nat} (hne : k1 ≠ k2) {p1 p2 : Place} {b1 b2 : Blk} (hk1 : β k1 = some p1) (hk2 : β k2 = some p2) (hb1 : s.blk k1 = some b1) (hb2 : s.blk k2 = some b2)
  (n1 : p1.nocells = true) (n2 : p2.nocells = true) {w' : World} {p1' p2' : Place} {b1' b2' : Blk} (n1' : p1'.nocells = true) (n2' : p2'.nocells = true)
  (hos : w'.os = w.os) (htape : w'.tape = w.tape) (hout : w'.output = w.output) (hsize : w.heap.size <= w'.heap.size)
  (hother : ∀ b, b < w.heap.size -> ¬ p1.has b -> ¬ p2.has b -> w'.heap[b]? = w.heap[b]?) (he1 : EvoP p1 p1') (he2 : EvoP p2 p2')
  (h1 : ∀ b, p1'.has b -> p1.has b \/ p2.has b \/ (w.heap.size <= b /\ b < w'.heap.size)) (h2 : ∀ b, p2'.has b -> p1.has b \/ p2.has b \/ (w.heap.size <= b /\ b < w'.heap.size))
  (hd : ∀ b, p1'.has b -> ¬ p2'.has b)
  (hr1 : RepB w' (upd (upd β k1 p1') k2 p2') U w0.heap.size p1' b1') (hr2 : RepB w' (upd (upd β k1 p1') k2 p2') U w0.heap.size p2' b2') :
  SimB w0 U0 X β0 (upd (upd β k1 p1') k2 p2') U (s.upd [(k1, b1'), (k2, b2')]) a w' := by
 have z1 : upd (upd β k1 p1') k2 p2' k1 = some p1' := by rw [upd_ne _ (fun e => hne e.symm), upd_self]
 have z2 : upd (upd β k1 p1') k2 p2' k2 = some p2' := upd_self _ _ _
 have z3 : ∀ k, k ≠ k1 -> k ≠ k2 -> upd (upd β k1 p1') k2 p2' k = β k := fun k e1 e2 => by rw [upd_ne _ (fun e => e2 e.symm), upd_ne _ (fun e => e1 e.symm)]
 generalize hβ' : upd (upd β k1 p1') k2 p2' = β' at z1 z2 z3 hr1 hr2 ⊢
 have y1 : (s.upd [(k1, b1'), (k2, b2')]).blk k1 = some b1' := by show look k1 ((k1, b1') :: _) = _; rw [look_cons_self]
 have y2 : (s.upd [(k1, b1'), (k2, b2')]).blk k2 = some b2' := by show look k2 ((k1, b1') :: (k2, b2') :: _) = _; rw [look_cons_ne hne, look_cons_self]
 have y3 : ∀ k, k ≠ k1 -> k ≠ k2 -> (s.upd [(k1, b1'), (k2, b2')]).blk k = s.blk k := fun k e1 e2 => by
  show look k ((k1, b1') :: (k2, b2') :: s.mem) = _
  rw [look_cons_ne (fun e => e1 e.symm), look_cons_ne (fun e => e2 e.symm)]; rfl
 have hget : ∀ k p, β' k = some p -> (k = k1 /\ p = p1') \/ (k = k2 /\ p = p2') \/ (k ≠ k1 /\ k ≠ k2 /\ β k = some p) := by
  intro k p hp
  by_cases e1 : k = k1
  . subst e1; rw [z1] at hp; exact .inl ⟨rfl, (Option.some.inj hp).symm⟩
  . by_cases e2 : k = k2
    . subst e2; rw [z2] at hp; exact .inr (.inl ⟨rfl, (Option.some.inj hp).symm⟩)
    . rw [z3 k e1 e2] at hp; exact .inr (.inr ⟨e1, e2, hp⟩)
 have hU : ∀ b, U b -> w'.heap[b]? = w.heap[b]? := fun b hb => hother b (h.stab b hb) (fun e => (h.apart k1 p1 b hk1 e).1 hb) (fun e => (h.apart k2 p2 b hk2 e).1 hb)
 have hoth : ∀ k p b, k ≠ k1 -> k ≠ k2 -> β k = some p -> p.has b -> w'.heap[b]? = w.heap[b]? := fun k p b e1 e2 hp hb =>
  hother b (h.blockOld hp b hb) (h.hasApart e1 hp hk1 n1 hb) (h.hasApart e2 hp hk2 n2 hb)
 have hevo : Evo β β' := by
  intro k p hp
  by_cases e1 : k = k1
  . subst e1; rw [hk1] at hp; cases hp; exact he1.to z1
  . by_cases e2 : k = k2
    . subst e2; rw [hk2] at hp; cases hp; exact he2.to z2
    . exact .inl ((z3 k e1 e2).trans hp)
 have hap1 : ∀ b, p1.has b -> ¬ U b /\ b < w.heap.size := fun b hb => h.apart k1 p1 b hk1 hb
 have hap2 : ∀ b, p2.has b -> ¬ U b /\ b < w.heap.size := fun b hb => h.apart k2 p2 b hk2 hb
 have hap : ∀ b, (p1.has b \/ p2.has b \/ (w.heap.size <= b /\ b < w'.heap.size)) -> ¬ U b /\ b < w'.heap.size := fun b hb => by
  rcases hb with hb | hb | ⟨q1, q2⟩
  . obtain ⟨q1, q2⟩ := hap1 b hb; exact ⟨q1, by omega⟩
  . obtain ⟨q1, q2⟩ := hap2 b hb; exact ⟨q1, by omega⟩
  . exact ⟨fun hu => by have := h.stab b hu; omega, q2⟩
 have hfar : ∀ k p b, k ≠ k1 -> k ≠ k2 -> β k = some p -> p.has b -> ¬ (p1.has b \/ p2.has b \/ (w.heap.size <= b /\ b < w'.heap.size)) := fun k p b e1 e2 hp hb hc => by
  rcases hc with hc | hc | ⟨q1, _⟩
  . exact h.hasApart e1 hp hk1 n1 hb hc
  . exact h.hasApart e2 hp hk2 n2 hb hc
  . have := h.blockOld hp b hb; omega
 have hmay : ∀ b j, (p1.has b \/ p2.has b \/ (w.heap.size <= b /\ b < w'.heap.size)) -> b < w0.heap.size -> X b j := fun b j hb hlt => by
  rcases hb with hb | hb | ⟨q1, _⟩
  . exact h.may k1 p1 b1 b j hk1 hb1 ((covers_nocells n1).2 hb) hlt
  . exact h.may k2 p2 b2 b j hk2 hb2 ((covers_nocells n2).2 hb) hlt
  . have := h.baseLe; omega
 exact {
  n := h.n, small := h.small, args := h.args, ver0 := h.ver0, defers := h.defers, glob := h.glob.map (fun _ hb => hb) hU, env := fun t => (h.env t).map (fun _ hb => hb) hU hevo
  hist := fun k p hp hb => by
    by_cases e1 : k = k1
    . subst e1; exact he1.step hk1 z1 (h.hist k p hp (by rw [hb1]; rfl))
    . by_cases e2 : k = k2
      . subst e2; exact he2.step hk2 z2 (h.hist k p hp (by rw [hb2]; rfl))
      . rw [y3 k e1 e2] at hb; rw [z3 k e1 e2]; exact h.hist k p hp hb
  mem := fun k blk hk => by
    by_cases e1 : k = k1
    . subst e1; rw [y1] at hk; cases hk; exact ⟨_, z1, hr1⟩
    . by_cases e2 : k = k2
      . subst e2; rw [y2] at hk; cases hk; exact ⟨_, z2, hr2⟩
      . rw [y3 k e1 e2] at hk
        obtain ⟨p, hp, hr⟩ := h.mem k blk hk
        exact ⟨p, (z3 k e1 e2).trans hp, hr.mapBlock (fun _ hb => hb) hU hevo (fun b hb => hoth k p b e1 e2 hp hb)⟩
  dom := fun k p hp => by
    rcases hget k p hp with ⟨rfl, _⟩ | ⟨rfl, _⟩ | ⟨e1, e2, hp'⟩
    . rw [y1]; rfl
    . rw [y2]; rfl
    . rw [y3 k e1 e2]; exact h.dom k p hp'
  apart := fun k p b hp hb => by
    rcases hget k p hp with ⟨rfl, rfl⟩ | ⟨rfl, rfl⟩ | ⟨e1, e2, hp'⟩
    . exact hap b (h1 b hb)
    . exact hap b (h2 b hb)
    . obtain ⟨q1, q2⟩ := h.apart k p b hp' hb; exact ⟨q1, by omega⟩
  inj := fun k k' p p' blk blk' b j hkk hp hp' hb hb' hc hc' => by
    have c1 := covers_block hc
    have c2 := covers_block hc'
    rcases hget k p hp with ⟨rfl, rfl⟩ | ⟨rfl, rfl⟩ | ⟨e1, e2, hq⟩ <;> rcases hget k' p' hp' with ⟨rfl, rfl⟩ | ⟨rfl, rfl⟩ | ⟨e1', e2', hq'⟩
    . exact hkk rfl
    . exact hd b c1 c2
    . exact hfar k' p' b e1' e2' hq' c2 (h1 b c1)
    . exact hd b c2 c1
    . exact hkk rfl
    . exact hfar k' p' b e1' e2' hq' c2 (h2 b c1)
    . exact hfar k p b e1 e2 hq c1 (h1 b c2)
    . exact hfar k p b e1 e2 hq c1 (h2 b c2)
    . rw [y3 k e1 e2] at hb; rw [y3 k' e1' e2'] at hb'
      exact h.inj k k' p p' blk blk' b j hkk hq hq' hb hb' hc hc'
  stab := fun b hb => by have := h.stab b hb; omega
  old := h.old, new := h.new
  chg := by
    refine h.chg.trans ⟨hos, htape, hout, hsize, fun b hb => ?_⟩
    have hb2' : b < w.heap.size := Nat.lt_of_lt_of_le hb h.baseLe
    by_cases c1 : p1.has b
    . exact .inr (.inr fun j => hmay b j (.inl c1) hb)
    . by_cases c2 : p2.has b
      . exact .inr (.inr fun j => hmay b j (.inr (.inl c2)) hb)
      . exact .inl (hother b hb2' c1 c2)
  may := fun k p blk b j hp hb hc hlt => by
    rcases hget k p hp with ⟨rfl, rfl⟩ | ⟨rfl, rfl⟩ | ⟨e1, e2, hq⟩
    . exact hmay b j (h1 b (covers_block hc)) hlt
    . exact hmay b j (h2 b (covers_block hc)) hlt
    . rw [y3 k e1 e2] at hb; exact h.may k p blk b j hq hb hc hlt }

theorem SimB.congr (h : SimB w0 U0 X β0 β U s a w) {s' : St} (hn : s'.n = s.n) (he : s'.env = s.env) (hb : ∀ k, s'.blk k = s.blk k) : SimB w0 U0 X β0 β U s' a w :=
 h.blkWk hn he fun k => by rw [hb k]; cases s.blk k with
  | none => trivial
  | some b => exact BlkWk.rfl b

abbrev nilV : Value := .slice none 0 0
theorem SimB.newDead (h : SimB w0 U0 X β0 β U s a w) {k : Nat} (hk0 : k < 1000000 \/ 2000000 <= k) (hk : s.blk k = none) (ver : Nat) (e : TypeId) (c : Nat) : SimB w0 U0 X β0 (upd β k (.row nilV ver)) U (s.set k (.rowT ver e c true true [])) a w :=
 (h.newKeyG (w' := w) (p := .row nilV ver) (blk := .rowT ver e c true true []) hk0 hk rfl rfl rfl (Nat.le_refl _) (fun _ _ => rfl) (fun b hb => by simp [Place.has, Value.ownBlock] at hb) ⟨rfl, fun r hr => by simp at hr, .inl ⟨rfl, rfl⟩⟩).1
theorem deadRep {ver : Nat} {e : TypeId} {c : Nat} : RepB w β U base (.row nilV ver) (.rowT ver e c true true []) := ⟨rfl, fun r hr => by simp at hr, .inl ⟨rfl, rfl⟩⟩
theorem dead_has {ver b : Nat} : ¬ (Place.row nilV ver).has b := by simp [Place.has, Value.ownBlock]

theorem Inner.row {e : TypeId} {c : Nat} {u : Value} {ys : List (τ c)} (h : Inner w e c u ys) {nv : Nat} : RepB w β U base (.row u nv) (.rowT nv e c true true ys) := by
 refine ⟨rfl, fun r hr => by obtain ⟨y, _, rfl⟩ := List.mem_map.1 hr; exact enc_len c y, ?_⟩
 rcases h with ⟨rfl, rfl⟩ | ⟨g, cap, cur, rfl, h1, h2, h3, h4, hs, h5⟩
 . exact .inl ⟨rfl, rfl⟩
 . refine .inr ⟨g, cap, cur, (0, 0), by rw [List.length_map], h1, by rw [List.length_map]; exact h2, h3, h4, fun _ => ⟨rfl, by rw [List.length_map]; exact hs⟩, fun i _ => by simp [World.frozen?, h1], fun i j r d hi hj => ?_⟩
   rw [List.getElem?_map, Option.map_eq_some_iff] at hi
   obtain ⟨y, hy, rfl⟩ := hi
   obtain ⟨u, k1, k2, k3⟩ := h5 i j y d hy hj
   exact ⟨u, k1, k2, k3.ofNone⟩
theorem Inner.ofRow {e : TypeId} {c : Nat} {u : Value} {ver : Nat} {fr : Bool} {ys : List (τ c)} (h : RepB w β U base (.row u ver) (.rowT ver e c true fr ys)) (hf : flatT c = true) : Inner w e c u ys := by
 obtain ⟨_, _, h2⟩ := h
 rcases h2 with ⟨h2, h3⟩ | ⟨g, cap, cur, fz, rfl, h1, h2, h3, h4, h5, h6, h7⟩
 . exact .inl ⟨h2, by simpa using h3⟩
 . obtain ⟨rfl, hs⟩ := h5 rfl
   rw [List.length_map] at h2 hs ⊢
   refine .inr ⟨g, cap, cur, rfl, h1, h2, h3, h4, hs, fun i j y d hi hj => ?_⟩
   obtain ⟨u, k1, k2, k3⟩ := h7 i j (enc c y) d (by rw [List.getElem?_map, hi]; rfl) hj
   exact ⟨u, k1, k2, flat_any k3 (List.all_eq_true.1 (flatT_all c y hf) d (List.mem_of_getElem? hj))⟩
theorem Inner.shape {e : TypeId} {c : Nat} {u : Value} {ys : List (τ c)} (h : Inner w e c u ys) : ∃ (ao : Option Addr) (cap : Nat), u = .slice ao ys.length cap /\ ys.length <= cap /\ (ao = none -> ys.length = 0 /\ cap = 0) /\ ∀ x, ao = some x -> ∃ g, x = ⟨g, 0, none⟩ := by
 rcases h with ⟨rfl, rfl⟩ | ⟨g, cap, cur, rfl, h1, h2, _⟩
 . exact ⟨none, 0, rfl, Nat.le_refl _, fun _ => ⟨rfl, rfl⟩, fun x hx => by cases hx⟩
 . exact ⟨_, cap, rfl, h2, fun e => (by cases e), fun x hx => (by cases hx; exact ⟨g, rfl⟩)⟩

theorem set_get {α : Type} {l : List α} {i j : Nat} {x y : α} (h : (l.set i x)[j]? = some y) : (i = j /\ x = y /\ i < l.length) \/ (i ≠ j /\ l[j]? = some y) := by
 by_cases e : i = j
 . subst e
   rw [List.getElem?_set_self'] at h
   cases hl : l[i]? with
   | none => rw [hl] at h; cases h
   | some z => rw [hl] at h; exact .inl ⟨rfl, by simpa using h, (List.getElem?_eq_some_iff.1 hl).1⟩
 . rw [List.getElem?_set_ne e] at h; exact .inr ⟨e, h⟩
theorem DSep.setNil {v : Value} {us : List Value} (h : DSep v us) (i : Nat) : DSep v (us.set i nilV) := by
 obtain ⟨h1, h2⟩ := h
 refine ⟨fun j j' u u' b hne hu hu' hb => ?_, fun j u b hu hb => ?_⟩
 . rcases set_get hu with ⟨_, rfl, _⟩ | ⟨_, hu⟩
   . simp [Value.ownBlock] at hb
   . rcases set_get hu' with ⟨_, rfl, _⟩ | ⟨_, hu'⟩
     . simp [Value.ownBlock]
     . exact h1 j j' u u' b hne hu hu' hb
 . rcases set_get hu with ⟨_, rfl, _⟩ | ⟨_, hu⟩
   . simp [Value.ownBlock] at hb
   . exact h2 j u b hu hb
theorem DSep.setV {v : Value} {us : List Value} (h : DSep v us) {i : Nat} {x : Value} (h1 : ∀ j u b, i ≠ j -> us[j]? = some u -> u.ownBlock = some b -> x.ownBlock ≠ some b) (h2 : ∀ b, x.ownBlock = some b -> v.ownBlock ≠ some b) : DSep v (us.set i x) := by
 refine ⟨fun j j' u u' b hne hu hu' hb => ?_, fun j u b hu hb => ?_⟩
 . rcases set_get hu with ⟨rfl, rfl, _⟩ | ⟨e, hu⟩
   . rcases set_get hu' with ⟨rfl, rfl, _⟩ | ⟨_, hu'⟩
     . exact absurd rfl hne
     . exact fun e => h1 j' u' b hne hu' e hb
   . rcases set_get hu' with ⟨rfl, rfl, _⟩ | ⟨_, hu'⟩
     . exact h1 j u b e hu hb
     . exact h.1 j j' u u' b hne hu hu' hb
 . rcases set_get hu with ⟨_, rfl, _⟩ | ⟨_, hu⟩
   . exact h2 b hb
   . exact h.2 j u b hu hb

theorem RepB.takeOut {v : Value} {ver : Nat} {us : List Value} {e ei : TypeId} {c : Nat} {xs : List (τ c)} (h : RepB w β U base (.deep v ver us) (.deep ver e ei c none xs)) {i : Nat} {x : τ c} (hx : xs[i]? = some x) :
   ∃ u, us[i]? = some u /\ Inner w ei (dIn c) u (dGet c x) /\ ∀ (β' : Nat -> Option Place) (k' nv : Nat), β' k' = some (.row u nv) -> RepB w β' U base (.deep v ver (us.set i nilV)) (.deep ver e ei c (some (i, some (k', nv))) xs) := by
 obtain ⟨_, hok, h1, h2, h3, _, h5⟩ := h
 have hlt : i < us.length := by rw [h1]; exact (List.getElem?_eq_some_iff.1 hx).1
 refine ⟨us[i], List.getElem?_eq_getElem hlt, h3 i _ x (List.getElem?_eq_getElem hlt) hx rfl, fun β' k' nv hk' => ⟨rfl, hok, by rw [List.length_set]; exact h1, h2.setNil i, fun j u y hu hy hn => ?_, fun j l hh => ?_, ?_⟩⟩
 . have hij : i ≠ j := fun e => by subst e; rw [noHole_self] at hn; cases hn
   rcases set_get hu with ⟨e, _⟩ | ⟨_, hu⟩
   . exact absurd e hij
   . exact h3 j u y hu hy rfl
 . cases hh; exact ⟨by omega, by rw [List.getElem?_set_self hlt]⟩
 . rcases h5 with h5 | ⟨g, cap, cur, e1, hg, k1, k2, k3, k4⟩
   . rw [h5.2] at hx; simp at hx
   . refine .inr ⟨g, cap, cur, e1, hg, k1, k2, k3, fun j q y d hy hd => ?_⟩
     obtain ⟨u, z1, z2, z3, z4, z5⟩ := k4 j q y d hy hd
     refine ⟨u, z1, z2, z3, fun hq hn => ?_, fun hq k'' ver' hh => ?_⟩
     . have hij : i ≠ j := fun e => by subst e; rw [noHole_self] at hn; cases hn
       rw [List.getElem?_set_ne hij]; exact z4 hq rfl
     . cases hh
       have := z4 hq rfl
       rw [List.getElem?_eq_getElem hlt] at this
       exact ⟨_, nv, hk', Nat.le_refl _, fun _ => (Option.some.inj this).symm⟩
theorem has_setNil {v : Value} {ver : Nat} {us : List Value} {i b : Nat} (h : (Place.deep v ver (us.set i nilV)).has b) : (Place.deep v ver us).has b := by
 rcases h with h | ⟨u, hu, hb⟩
 . exact .inl h
 . obtain ⟨j, hj⟩ := List.mem_iff_getElem?.1 hu
   rcases set_get hj with ⟨_, rfl, _⟩ | ⟨_, hj⟩
   . simp [Value.ownBlock] at hb
   . exact .inr ⟨u, List.mem_of_getElem? hj, hb⟩
theorem has_setV {v x : Value} {ver : Nat} {us : List Value} {i b : Nat} (h : (Place.deep v ver (us.set i x)).has b) : (Place.deep v ver us).has b \/ x.ownBlock = some b := by
 rcases h with h | ⟨u, hu, hb⟩
 . exact .inl (.inl h)
 . obtain ⟨j, hj⟩ := List.mem_iff_getElem?.1 hu
   rcases set_get hj with ⟨_, rfl, _⟩ | ⟨_, hj⟩
   . exact .inr hb
   . exact .inl (.inr ⟨u, List.mem_of_getElem? hj, hb⟩)

def nextV (o : Option Blk) : Nat := match o with | none => 1 | some b => b.ver + 1
def rowOr (o : Option Blk) : Bool := match o with | none => true | some (.rowT _ _ _ _ _ _) => true | _ => false
theorem SimB.takeOut (h : SimB w0 U0 X β0 β U s a w) {k ver : Nat} {v : Value} {us : List Value} {e ei : TypeId} {c : Nat} {xs : List (τ c)} (hb : s.blk k = some (.deep ver e ei c none xs)) (hk : β k = some (.deep v ver us)) (hro : rowOr (s.blk (hkey k)) = true) {i : Nat} {x : τ c} (hx : xs[i]? = some x) :
  ∃ β' u, SimB w0 U0 X β0 β' U (s.upd [(k, .deep ver e ei c (some (i, some (hkey k, nextV (s.blk (hkey k))))) xs), (hkey k, .rowT (nextV (s.blk (hkey k))) ei (dIn c) true true (dGet c x))]) a w /\
    β' k = some (.deep v ver (us.set i nilV)) /\ β' (hkey k) = some (.row u (nextV (s.blk (hkey k)))) /\ us[i]? = some u /\ Inner w ei (dIn c) u (dGet c x) /\ Evo β β' := by
 have hkk : k ≠ hkey k := by simp [hkey]
 -- with some row at the name
 have main : ∀ {β : Nat -> Option Place} {s : St} {v2 : Value} {ver2 nv : Nat} {b2 : Blk}, SimB w0 U0 X β0 β U s a w -> s.blk k = some (.deep ver e ei c none xs) -> β k = some (.deep v ver us) -> β (hkey k) = some (.row v2 ver2) -> s.blk (hkey k) = some b2 -> ver2 < nv ->
    ∃ u, SimB w0 U0 X β0 (upd (upd β k (.deep v ver (us.set i nilV))) (hkey k) (.row u nv)) U (s.upd [(k, .deep ver e ei c (some (i, some (hkey k, nv))) xs), (hkey k, .rowT nv ei (dIn c) true true (dGet c x))]) a w /\ us[i]? = some u /\ Inner w ei (dIn c) u (dGet c x) /\
      Evo β (upd (upd β k (.deep v ver (us.set i nilV))) (hkey k) (.row u nv)) := by
  intro β s v2 ver2 nv b2 h hb hk hk2 hb2 hlt
  obtain ⟨p, hp, hr⟩ := h.mem k _ hb
  rw [hk] at hp; cases hp
  obtain ⟨u, hu, hin, hmk⟩ := hr.takeOut hx
  have hus : ∀ b, (Place.row u nv).has b -> (Place.deep v ver us).has b := fun b hb => .inr ⟨u, List.mem_of_getElem? hu, hb⟩
  have he1 : EvoP (.deep v ver us) (.deep v ver (us.set i nilV)) := .inr (.inr ⟨_, _, _, _, _, _, rfl, rfl, Nat.le_refl _, fun _ => rfl⟩)
  have he2 : EvoP (.row v2 ver2) (.row u nv) := .inr (.inl ⟨_, _, _, _, rfl, rfl, hlt⟩)
  refine ⟨u, h.repl2 (w' := w) hkk hk hk2 hb hb2 rfl rfl rfl rfl rfl rfl rfl (Nat.le_refl _) (fun _ _ _ _ => rfl) he1 he2 (fun b hb => .inl (has_setNil hb)) (fun b hb => .inl (hus b hb)) (fun b h1 h2 => ?_) (hmk _ _ _ (upd_self _ _ _)) hin.row, hu, hin, ?_⟩
  . obtain ⟨_, _, _, hsep, _⟩ := hr
    rcases h1 with h1 | ⟨u', hu', hb'⟩
    . exact hsep.2 i u b hu h2 h1
    . obtain ⟨j, hj⟩ := List.mem_iff_getElem?.1 hu'
      rcases set_get hj with ⟨_, rfl, _⟩ | ⟨hne, hj⟩
      . simp [Value.ownBlock] at hb'
      . exact hsep.1 i j u u' b hne hu hj h2 hb'
  . intro k1 q hq
    by_cases e1 : k1 = k
    . subst e1; rw [hk] at hq; cases hq; exact he1.to (by rw [upd_ne _ (fun e => hkk e.symm), upd_self])
    . by_cases e2 : k1 = hkey k
      . subst e2; rw [hk2] at hq; cases hq; exact he2.to (upd_self _ _ _)
      . exact .inl (by rw [upd_ne _ (fun e => e2 e.symm), upd_ne _ (fun e => e1 e.symm)]; exact hq)
 cases hb2 : s.blk (hkey k) with
 | none =>
  have hd := h.newDead (k := hkey k) (.inr (by unfold hkey; omega)) hb2 0 ei (dIn c)
  obtain ⟨u, q1, q2, q3, q4⟩ := main (nv := nextV none) hd (by rw [St.blk_set, if_neg (fun e => hkk e.symm)]; exact hb) (by rw [upd_ne _ (fun e => hkk e.symm)]; exact hk) (upd_self _ _ _) (by rw [St.blk_set, if_pos rfl]) (by decide)
  refine ⟨_, u, q1.congr rfl rfl fun j => ?_, by rw [upd_ne _ (fun e => hkk e.symm), upd_self], upd_self _ _ _, q2, q3, fun k1 p hp => ?_⟩
  . show look j ((k, _) :: (hkey k, _) :: s.mem) = look j ((k, _) :: (hkey k, _) :: (hkey k, _) :: s.mem)
    simp only [look_cons]
    split
    . rfl
    . split <;> rfl
  . refine q4 k1 p ?_
    rw [upd_ne _ (fun e => by subst e; rw [h.noKey hb2] at hp; cases hp)]; exact hp
 | some b2 =>
  rw [hb2] at hro
  cases b2 with
  | rowT ver2 e2 c2 ap fr ys =>
    obtain ⟨p, hp, hr⟩ := h.mem _ _ hb2
    cases p with
    | cells => exact hr.elim
    | deep => exact hr.elim
    | row v2 ver2' =>
      have hv := hr.1
      subst hv
      obtain ⟨u, q1, q2, q3, q4⟩ := main (nv := nextV (some (.rowT ver2 e2 c2 ap fr ys))) h hb hk hp hb2 (Nat.lt_succ_self _)
      exact ⟨_, u, q1, by rw [upd_ne _ (fun e => hkk e.symm), upd_self], upd_self _ _ _, q2, q3, q4⟩
  | _ => cases hro

theorem RepB.putBack {v : Value} {ver : Nat} {us : List Value} {e ei : TypeId} {c : Nat} {xs : List (τ c)} {i k' v' : Nat} (h : RepB w β U base (.deep v ver us) (.deep ver e ei c (some (i, some (k', v'))) xs)) {u : Value} (hk' : β k' = some (.row u v'))
   {ys : List (τ (dIn c))} (hin : Inner w ei (dIn c) u ys) (hsep : ∀ b, u.ownBlock = some b -> ¬ (Place.deep v ver us).has b) :
   ∀ (β' : Nat -> Option Place), RepB w β' U base (.deep v ver (us.set i u)) (.deep ver e ei c none (xs.modify i fun x => dSet c x ys)) := by
 intro β'
 obtain ⟨_, hok, h1, h2, h3, h4, h5⟩ := h
 obtain ⟨hi, hui⟩ := h4 i _ rfl
 refine ⟨rfl, hok, by simp [h1], h2.setV (fun j u' b hne hu' hb' hb => hsep b hb (.inr ⟨u', List.mem_of_getElem? hu', hb'⟩)) (fun b hb hv => hsep b hb (.inl hv)), fun j u' y hu' hy _ => ?_, fun j l hh => (by cases hh), ?_⟩
 . rw [List.getElem?_modify] at hy
   rcases set_get hu' with ⟨rfl, rfl, _⟩ | ⟨hne, hu'⟩
   . simp only [if_true] at hy
     obtain ⟨x, hx, rfl⟩ := Option.map_eq_some_iff.1 hy
     rw [dGet_dSet hok]; exact hin
   . exact h3 j u' y hu' (by simpa [hne] using hy) (noHole_ne hne)
 . rcases h5 with h5 | ⟨g, cap, cur, e1, hg, k1, k2, k3, k4⟩
   . rw [h5.2] at hi; simp at hi
   . refine .inr ⟨g, cap, cur, by rw [List.length_modify]; exact e1, hg, by rw [List.length_modify]; exact k1, k2, k3, fun j q y d hy hd => ?_⟩
     rw [List.getElem?_modify] at hy
     by_cases hij : i = j
     . subst hij
       simp only [if_true] at hy
       obtain ⟨x, hx, rfl⟩ := Option.map_eq_some_iff.1 hy
       by_cases hq : q = dIc c
       . subst hq
         obtain ⟨u', z1, z2, z3, z4, z5⟩ := k4 i (dIc c) x _ hx (enc_dGet hok x)
         obtain ⟨v1, ver1, f1, f2, f3⟩ := z5 rfl _ _ rfl
         rw [hk'] at f1; cases f1
         have := f3 rfl
         subst this
         exact ⟨u', z1, z2, fun hq => absurd rfl hq, fun _ _ => by rw [List.getElem?_set_self (by omega)], fun _ k'' ver' hh => by cases hh⟩
       . rw [enc_dSet hok _ _ hq] at hd
         obtain ⟨u', z1, z2, z3, z4, z5⟩ := k4 i q x d hx hd
         exact ⟨u', z1, z2, z3, fun hq' => absurd hq' hq, fun _ k'' ver' hh => by cases hh⟩
     . have hy' : xs[j]? = some y := by simpa [hij] using hy
       obtain ⟨u', z1, z2, z3, z4, z5⟩ := k4 j q y d hy' hd
       exact ⟨u', z1, z2, z3, fun hq _ => by rw [List.getElem?_set_ne hij]; exact z4 hq (noHole_ne hij), fun _ k'' ver' hh => by cases hh⟩
theorem SimB.putBack (h : SimB w0 U0 X β0 β U s a w) {k k' ver v' i : Nat} (hkk : k ≠ k') {e ei : TypeId} {c : Nat} {xs : List (τ c)} (hb : s.blk k = some (.deep ver e ei c (some (i, some (k', v'))) xs)) {fr : Bool} {ys : List (τ (dIn c))} (hb' : s.blk k' = some (.rowT v' ei (dIn c) true fr ys)) :
  ∃ β', SimB w0 U0 X β0 β' U (s.upd [(k, .deep ver e ei c none (xs.modify i fun x => dSet c x ys)), (k', .rowT (v' + 1) ei (dIn c) true true [])]) a w /\ ∃ v us us', β k = some (.deep v ver us) /\ β' k = some (.deep v ver us') := by
 obtain ⟨p, hp, hr⟩ := h.mem k _ hb
 obtain ⟨p', hp', hr'⟩ := h.mem k' _ hb'
 cases p with
 | cells => exact hr.elim
 | row => exact hr.elim
 | deep v ver0 us =>
  have hv := hr.1
  subst hv
  cases p' with
  | cells => exact hr'.elim
  | deep => exact hr'.elim
  | row u v0 =>
   have hv' := hr'.1
   subst hv'
   have hok := hr.2.1
   have hin := Inner.ofRow hr' (flat_dIn hok)
   have hsep : ∀ b, u.ownBlock = some b -> ¬ (Place.deep v ver us).has b := fun b hb1 hb2 => h.hasApart (p := .row u v') (p' := .deep v ver us) (fun e => hkk e.symm) hp' hp rfl hb1 hb2
   refine ⟨_, h.repl2 (w' := w) (p1' := .deep v ver (us.set i u)) (p2' := .row nilV (v' + 1)) hkk hp hp' hb hb' rfl rfl rfl rfl rfl rfl rfl (Nat.le_refl _) (fun _ _ _ _ => rfl) (.inr (.inr ⟨_, _, _, _, _, _, rfl, rfl, Nat.le_refl _, fun _ => rfl⟩))
     (.inr (.inl ⟨_, _, _, _, rfl, rfl, Nat.lt_succ_self _⟩)) (fun b hb => ?_) (fun b hb => (dead_has hb).elim) (fun b _ h2 => dead_has h2) (hr.putBack hp' hin hsep _) deadRep, v, us, us.set i u, hp, ?_⟩
   . rcases has_setV hb with hb | hb
     . exact .inl hb
     . exact .inr (.inl hb)
   . rw [upd_ne _ (fun e => hkk e.symm), upd_self]
end
end Go.Proofs.Ythnijeclidpooaa.Abs
namespace Go.Proofs.Ythnijeclidpooaa.Abs
open Go Go.RowKit
set_option linter.unusedVariables false
set_option linter.unusedSimpArgs false
def dps : List (Nat × Nat) := [(33, 3), (35, 3), (83, 86)]
def nilAt (cs : List C) (j : Nat) : Bool := match cs[j]? with | some .nil => true | _ => false
def zdMake (P : Program) (cod : TypeId -> Nat) (dst : Option Nat) (t : TypeId) (l c : Operand) (ρ : Operand -> V) (m : Nat -> Option Blk) : Option (Tr Out) :=
 match dst, telem P t, ρ l, ρ c with
 | some d, some e, .one (.d (.i _ n)), .one (.d (.i _ q)) => match look e dps, m d, tzero P e, zeroOf P e (cod t) with
  | some ei, none, some zs, some T => match dOk (cod t) && nilAt zs (dIc (cod t)) with
   | true => some (.grd (decide (0 <= n /\ n <= q /\ q.toNat * P.bytesOf e <= 140737488355328 /\ q <= maxLen)) (T.bind fun z => .ret ⟨.one (.dp d 0 (List.replicate n.toNat z).length q.toNat), [(d, .deep 0 e ei (cod t) none (List.replicate n.toNat z))]⟩))
   | false => none
  | _, _, _, _ => none
 | _, _, _, _ => none
section
variable {P : Program} {w0 : World} {U0 : Nat -> Prop} {X : Nat -> Nat -> Prop} {β0 β : Nat -> Option Place} {U : Nat -> Prop} {s : St} {a : Act} {w : World} {base : Nat}
theorem repDp {k ver len room cap : Nat} {ao : Option Addr} {us : List Value} (hk : β k = some (.deep (.slice ao len cap) ver us)) (h1 : len <= room) (h2 : room <= cap) (hn : ao = none -> len = 0 /\ cap = 0) (hs : ∀ x, ao = some x -> ∃ g, x = ⟨g, 0, none⟩) : RepV w β U base (.slice ao len cap) (.one (.dp k ver len room)) :=
 .one _ _ ⟨ao, cap, _, ver, us, rfl, h1, h2, hn, hs, hk, Nat.le_refl _, fun _ => rfl⟩
theorem ne_of_nilV {c : Nat} {ys : List (τ c)} {U : Nat -> Prop} (h : RepI w U nilV (.st c ys)) : ys = [] := by
 have h := h.unst
 generalize hr : ys.map (enc c) = rows at h
 cases h with
 | nil => simpa using hr
theorem zdMake_sem {P : Program} {cod : TypeId -> Nat} {o : Oper} {s : St} {t : TypeId} {l c : Operand} {ρ : Operand -> V} {m : Nat -> Option Blk} (hop : o.op = .makeSlice t l c) (hρ : ∀ y ∈ o.op.operands, s.eval y = ρ y)
   (hm : ∀ k ∈ effKeys o.dst o.op ρ, s.blk k = m k) (hd : ∀ d, o.dst = some d -> d < s.n)
   {T : Tr Out} {E : Out} (h : zdMake P cod o.dst t l c ρ m = some T) (hT : T.eval = some E) : SemStep P o s E := by
 unfold zdMake at h
 rw [hop] at hρ hm
 split at h
 case h_2 => cases h
 rename_i d e kl n kc q hdst hte hle hce
 split at h
 case h_2 => cases h
 rename_i ei zs T' hei hmd htz hzero
 split at h
 case h_2 => cases h
 rename_i hok
 cases h
 simp only [Bool.and_eq_true] at hok
 obtain ⟨hok, hnil⟩ := hok
 obtain ⟨g1, hT⟩ := Tr.eval_grd hT
 rw [Tr.eval_bind] at hT
 obtain ⟨z, hz, g2⟩ := Option.bind_eq_some_iff.1 hT
 cases g2
 simp only [decide_eq_true_eq] at g1
 have ht := telem_iff hte
 have hl : s.eval l = ρ l := hρ l (by simp [Op.operands])
 have hc : s.eval c = ρ c := hρ c (by simp [Op.operands])
 have hkd : s.blk d = none := by rw [hm d (by simp [effKeys, hdst])]; exact hmd
 intro w0 U0 X β0 β U a w hs
 obtain ⟨i, zv, hi, hzz, hzs, his, hz1, hzr⟩ := zeroOf_rep (w := w) (UU := fun _ => False) hzero hz
 obtain ⟨i2, zv2, hi2, hzz2, hrep2, _, _⟩ := tzero_sound (w := w) (β := β) (U := U) (base := w0.heap.size) htz
 rw [hi] at hi2; cases hi2
 rw [hzz] at hzz2; cases hzz2
 have hpos : dIc (cod t) < esz (cod t) := dIc_lt hok
 have hnilv : zv.cells[dIc (cod t)]? = some nilV := by
   unfold nilAt at hnil
   split at hnil
   . rename_i hcs
     have hlt : dIc (cod t) < zv.cells.toList.length := by simp only [Array.length_toList]; omega
     have := hrep2.2 _ _ _ (List.getElem?_eq_getElem hlt) hcs
     have e1 : zv.cells.toList[dIc (cod t)] = nilV := this
     rw [<- Array.getElem?_toList, List.getElem?_eq_getElem hlt, e1]
   . cases hnil
 have hzd : dGet (cod t) z = [] := by
   obtain ⟨u, k1, k2⟩ := hzr _ _ (enc_dGet hok z)
   rw [hnilv] at k1; cases k1
   exact ne_of_nilV k2
 have q1 := hs.eval l; rw [hl, hle] at q1; have q1 := q1.int
 have q2 := hs.eval c; rw [hc, hce] at q2; have q2 := q2.int
 have hbi : P.bytesOf e = i.bytes := by simp [Program.bytesOf, hi]
 have hq0 : 0 <= q := by omega
 have hmax := g1.2.2.2
 have h63 : q <= 9223372036854775807 := by simp only [maxLen] at hmax; omega
 have hby : (i.bytes : Int) * q <= 281474976710656 := by
   have := g1.2.2.1
   rw [hbi] at this
   have e1 : ((q.toNat * i.bytes : Nat) : Int) <= 140737488355328 := by omega
   rw [Int.natCast_mul, Int.toNat_of_nonneg hq0, Int.mul_comm] at e1
   omega
 have hr := run_make (P := P) w t e i zv ht hi hzz kl kc n q g1.1 g1.2.1 hby h63
 have hrep := zeros_rep (w := w) (by rw [hzs, his]) hzr q.toNat
 have hlen : (List.replicate n.toNat z).length = n.toNat := List.length_replicate
 have hcell : ∀ (i' : Nat), i' < q.toNat -> ∀ j, j < esz (cod t) -> ∃ u, (madeCells zv.cells (q.toNat * i.size))[i' * esz (cod t) + j]? = some u /\ u.oneCell' = true /\ zv.cells[j]? = some u := by
   intro i' hi' j hj
   have hlt : i' * esz (cod t) + j < q.toNat * i.size := by rw [his]; exact mul_lt_of hi' hj
   have hj' : j < zv.cells.size := by omega
   refine ⟨zv.cells[j], ?_, hz1 _ (by simp), by simp [hj']⟩
   simp only [madeCells]
   rw [Array.getElem?_map, Array.getElem?_range, if_pos hlt]
   have e1 : (i' * esz (cod t) + j) % zv.cells.size = j := by
     rw [hzs, his, Nat.add_comm, Nat.add_mul_mod_self_right]; exact Nat.mod_eq_of_lt hj
   simp only [Option.map_some, e1]
   simp [hj']
 obtain ⟨hs1, _⟩ := hs.newKey (k := d) (p := .deep (.slice (some ⟨w.heap.size, 0, none⟩) n.toNat q.toNat) 0 (List.replicate n.toNat nilV)) (blk := .deep 0 e ei (cod t) none (List.replicate n.toNat z))
   (w' := w.alloc (.cells (madeCells zv.cells (q.toNat * i.size)) e)) (Nat.lt_of_lt_of_le (hd d hdst) (Nat.le_trans hs.small (by decide))) hkd rfl rfl rfl (by simp) (fun b hb => Below.heap_alloc _ _ _ hb)
   (fun b hb => by
     rcases hb with hb | ⟨u, hu, hb⟩
     . obtain rfl : w.heap.size = b := by simpa [Value.ownBlock] using hb
       rw [size_alloc]; omega
     . rw [List.mem_replicate] at hu; rw [hu.2] at hb; simp [Value.ownBlock] at hb)
   ⟨rfl, hok, by simp, ⟨fun i j u u' b _ hu _ hb => by
       have := List.mem_of_getElem? hu
       rw [List.mem_replicate] at this; rw [this.2] at hb; simp [Value.ownBlock] at hb, fun i u b hu hb => by
       have := List.mem_of_getElem? hu
       rw [List.mem_replicate] at this; rw [this.2] at hb; simp [Value.ownBlock] at hb⟩,
     fun i' u x hu hx _ => by
       have h1 := List.mem_of_getElem? hu
       have h2 := List.mem_of_getElem? hx
       rw [List.mem_replicate] at h1 h2
       rw [h1.2, h2.2, hzd]; exact .inl ⟨rfl, rfl⟩,
     fun i l hh => (by cases hh), .inr ⟨w.heap.size, q.toNat, _, by rw [hlen], heap_alloc_new w _, by rw [hlen]; omega, by omega, by simp [madeCells, his], fun i' j x dd hx hdd => by
       have hil : i' < n.toNat := by have := (List.getElem?_eq_some_iff.1 hx).1; rw [hlen] at this; exact this
       have hxz : x = z := by have := List.mem_of_getElem? hx; rw [List.mem_replicate] at this; exact this.2
       subst hxz
       have hjl : j < esz (cod t) := by have := (List.getElem?_eq_some_iff.1 hdd).1; rw [enc_len] at this; exact this
       obtain ⟨u, k1, k2, k3⟩ := hcell i' (by omega) j hjl
       obtain ⟨u', k4, k5⟩ := hzr j dd hdd
       rw [k3] at k4; cases k4
       refine ⟨u, k1, k2, fun _ => k5.mono (fun _ hb => hb) (fun _ hb => hb.elim), fun hj _ => ?_, fun _ _ _ hh => by cases hh⟩
       subst hj
       rw [hnilv] at k3; cases k3
       rw [List.getElem?_replicate, if_pos hil]⟩⟩
 refine ⟨.slice (some ⟨w.heap.size, 0, none⟩) n.toNat q.toNat, w.alloc (.cells (madeCells zv.cells (q.toNat * i.size)) e), .inl ?_, ?_⟩
 . simp only [execOp, hop, q1, q2]
   exact wrapV hr
 . rw [hdst]
   refine ⟨_, U, SimB.put (s := s.set d _) hs1 ?_ (fun d' e' => by cases e'; exact hd d hdst)⟩
   rw [hlen]
   exact repDp (upd_self _ _ _) (by omega) (Nat.le_refl _) (fun e => by cases e) (fun x hx => by cases hx; exact ⟨_, rfl⟩)

def dCells (c : Nat) (x : τ c) (l : C) : List C := ((enc c x).map (toC true)).set (dIc c) l
def zdTake (P : Program) (t : TypeId) (k ver : Nat) (e ei : TypeId) (c : Nat) (xs : List (τ c)) (i off nv : Nat) : Tr Out :=
 .opt (xs[i]?) fun x => match partC P t (dCells c x (.own (hkey k) nv (dGet c x).length)) off with
  | some v => .ret ⟨v, [(k, .deep ver e ei c (some (i, some (hkey k, nv))) xs), (hkey k, .rowT nv ei (dIn c) true true (dGet c x))]⟩
  | none => .fail 43
def zdLoad (P : Program) (t : TypeId) (y : Operand) (ρ : Operand -> V) (m : Nat -> Option Blk) : Option (Tr Out) :=
 match ρ y with
 | .one (.dpr k ver sz i off) => match m k with
  | some (.deep ver' e ei c hole xs) => match decide (ver = ver' /\ sz = esz c), decide (off <= dIc c /\ dIc c < off + tsz P t) with
   | true, false => some (.opt (xs[i]?) fun x => match partC P t (dCells c x .bad) off with
    | some v => .ret ⟨v, []⟩
    | none => .fail 43)
   | true, true => match hole, m (hkey k) with
    | none, none => some (zdTake P t k ver e ei c xs i off 1)
    | none, some (.rowT v1 _ _ _ _ _) => some (zdTake P t k ver e ei c xs i off (v1 + 1))
    | some (j, some (k', v')), some (.rowT v1 e1 c1 ap _ ys) => if hc : c1 = dIn c then (match decide (k' = hkey k /\ v' = v1 /\ e1 = ei /\ ap = true) with
     | true => some (zdTake P t k ver e ei c (xs.modify j fun x => dSet c x (hc ▸ ys)) i off (v1 + 2))
     | false => none) else none
    | _, _ => none
   | _, _ => none
  | _ => none
 | _ => none
theorem dCells_get {c : Nat} {x : τ c} {l : C} {j : Nat} {q : C} (h : (dCells c x l)[j]? = some q) : (j = dIc c /\ q = l) \/ (j ≠ dIc c /\ ∃ d, (enc c x)[j]? = some d /\ q = toC true d) := by
 unfold dCells at h
 rcases set_get h with ⟨rfl, rfl, _⟩ | ⟨e, h⟩
 . exact .inl ⟨rfl, rfl⟩
 . rw [List.getElem?_map, Option.map_eq_some_iff] at h
   obtain ⟨d, h1, rfl⟩ := h
   exact .inr ⟨fun e' => e e'.symm, d, h1, rfl⟩
theorem deep_cells {v : Value} {ver : Nat} {us : List Value} {e ei : TypeId} {c : Nat} {hole : Option (Nat × Option (Nat × Nat))} {xs : List (τ c)} (h : RepB w β U base (.deep v ver us) (.deep ver e ei c hole xs)) {g n cp : Nat} (hv : v = .slice (some ⟨g, 0, none⟩) n cp) {i : Nat} {x : τ c} (hx : xs[i]? = some x) {l : C}
   (hl : ∀ u, w.cell? ⟨g, i * esz c + dIc c, none⟩ = some u -> RepC w β U base u l) :
   ∀ (j : Nat) (q : C), (dCells c x l)[j]? = some q -> ∃ u, w.cell? ⟨g, i * esz c + j, none⟩ = some u /\ u.oneCell' = true /\ RepC w β U base u q := by
 obtain ⟨_, hok, h1, h2, h3, h4, h5⟩ := h
 intro j q hq
 subst hv
 rcases h5 with ⟨h5, _⟩ | ⟨g', cap, cur, e1, hg, k1, k2, k3, k4⟩
 . cases h5
 . cases e1
   have cellE : ∀ {q : Nat} {u : Value}, cur[q]? = some u -> w.cell? ⟨g, q, none⟩ = some u := fun hc => by simp only [World.cell?, hg]; exact hc
   rcases dCells_get hq with ⟨rfl, rfl⟩ | ⟨hj, d, hd, rfl⟩
   . obtain ⟨u, z1, z2, _⟩ := k4 i _ x _ hx (enc_dGet hok x)
     exact ⟨u, cellE z1, z2, hl u (cellE z1)⟩
   . obtain ⟨u, z1, z2, z3, _⟩ := k4 i j x d hx hd
     exact ⟨u, cellE z1, z2, toC_sound (fr := true) ((z3 hj).mono (fun _ hb => hb.elim) (fun _ hb => hb.elim))⟩
theorem zdTake_sem {o : Oper} {t : TypeId} {y : Operand} (hop : o.op = .load t y) (hd : ∀ d, o.dst = some d -> d < s.n) {k ver sz i off : Nat} (hy : s.eval y = .one (.dpr k ver sz i off)) {e ei : TypeId} {c : Nat} {xs : List (τ c)} (hb : s.blk k = some (.deep ver e ei c none xs)) (hro : rowOr (s.blk (hkey k)) = true)
  (hsz : sz = esz c) {E : Out} (hE : (zdTake P t k ver e ei c xs i off (nextV (s.blk (hkey k)))).eval = some E) (h : SimB w0 U0 X β0 β U s a w) :
  ∃ v, (execOp a.eval o).run P w = .ok (.value v) w /\ Sim w0 U0 X β0 (s.out o.dst E) (a.put o.dst v) w := by
 obtain ⟨x, hx, h2⟩ := Option.bind_eq_some_iff.1 hE
 simp only at h2
 split at h2
 case h_2 => cases h2
 rename_i vv hpart
 cases h2
 have hvy := h.eval y
 rw [hy] at hvy
 obtain ⟨ad, v0, ver0, us, hv, hkβ, hv1, hv2⟩ := hvy.toC
 obtain ⟨p, hp, hr⟩ := h.mem k _ hb
 rw [hkβ] at hp; cases hp
 obtain rfl := hr.1
 obtain ⟨g, n, cp, rfl, rfl⟩ := hv2 rfl
 obtain ⟨β', u, hs1, hb1, hb2, hus, hin, hevo⟩ := h.takeOut hb hkβ hro hx
 have hkk : k ≠ hkey k := by simp [hkey]
 obtain ⟨p1, hp1, hr1⟩ := hs1.mem k (.deep ver e ei c (some (i, some (hkey k, nextV (s.blk (hkey k))))) xs) (by show look k ((k, _) :: _) = _; rw [look_cons_self])
 rw [hb1] at hp1; cases hp1
 obtain ⟨ao, cap, hsh, hs2, hs3, hs4⟩ := hin.shape
 have hcells := deep_cells hr1 rfl hx (l := .own (hkey k) (nextV (s.blk (hkey k))) (dGet c x).length) (fun u' hu' => by
  obtain ⟨_, hok, _, _, _, _, h5⟩ := hr1
  rcases h5 with ⟨h5, _⟩ | ⟨g', cap', cur, e1, hg, k1, k2, k3, k4⟩
  . cases h5
  . cases e1
    obtain ⟨u2, z1, _, _, _, z5⟩ := k4 i _ x _ hx (enc_dGet hok x)
    obtain ⟨v1, ver1, f1, f2, f3⟩ := z5 rfl _ _ rfl
    rw [hb2] at f1; cases f1
    have e2 := f3 rfl
    subst e2
    simp only [World.cell?, hg] at hu'
    rw [z1] at hu'; cases hu'
    subst hsh
    exact ⟨ao, cap, _, _, rfl, hs2, hs3, hs4, hb2, Nat.le_refl _, fun _ => rfl⟩)
 obtain ⟨v, hrun, hrep⟩ := load_part (P := P) (t := t) (o := i * esz c) (off := off) hcells hpart
 subst hsz
 refine ⟨v, ?_, _, _, hs1.put hrep (fun d e => hd d e)⟩
 simp only [execOp, hop, hv]
 exact wrapV hrun
theorem zdLoad_sem {o : Oper} {t : TypeId} {y : Operand} {ρ : Operand -> V} {m : Nat -> Option Blk} (hop : o.op = .load t y) (hρ : ∀ y ∈ o.op.operands, s.eval y = ρ y) (hm : ∀ k ∈ (ρ y).keys, s.blk k = m k) (hd : ∀ d, o.dst = some d -> d < s.n)
   {T : Tr Out} {E : Out} (h : zdLoad P t y ρ m = some T) (hT : T.eval = some E) : SemStep P o s E := by
 unfold zdLoad at h
 rw [hop] at hρ
 have hy0 : s.eval y = ρ y := hρ y (by simp [Op.operands])
 split at h
 case h_2 => cases h
 rename_i k ver sz i off hy
 rw [hy] at hm
 have m1 := hm k (by simp [V.keys, C.keys])
 have m2 := hm (hkey k) (by simp [V.keys, C.keys])
 split at h
 case h_2 => cases h
 rename_i ver' e ei c hole xs hmk
 have hb : s.blk k = some (.deep ver' e ei c hole xs) := m1.trans hmk
 have hy' : s.eval y = .one (.dpr k ver sz i off) := hy0.trans hy
 split at h
 . -- flat cells
   rename_i hc hin
   simp only [decide_eq_true_eq] at hc
   obtain ⟨rfl, rfl⟩ := hc
   cases h
   obtain ⟨x, hx, h2⟩ := Option.bind_eq_some_iff.1 hT
   simp only at h2
   split at h2
   case h_2 => cases h2
   rename_i vv hpart
   cases h2
   refine semVal hd fun w0 U0 X β0 β U a w hs => ?_
   have hvy := hs.eval y
   rw [hy'] at hvy
   obtain ⟨ad, v0, ver0, us, hv, hkβ, hv1, hv2⟩ := hvy.toC
   obtain ⟨p, hp, hr⟩ := hs.mem k _ hb
   rw [hkβ] at hp; cases hp
   obtain rfl := hr.1
   obtain ⟨g, n, cp, rfl, rfl⟩ := hv2 rfl
   obtain ⟨v, hrun, hrep⟩ := load_part (P := P) (t := t) (o := i * esz c) (off := off) (deep_cells hr rfl hx (l := .bad) (fun _ _ => trivial)) hpart
   refine ⟨v, ?_, hrep⟩
   simp only [execOp, hop, hv]
   exact wrapV hrun
 . rename_i hc hin
   simp only [decide_eq_true_eq] at hc
   obtain ⟨rfl, hsz⟩ := hc
   split at h
   . rename_i hmh
     cases h
     have hn : s.blk (hkey k) = none := m2.trans hmh
     intro w0 U0 X β0 β U a w hs
     obtain ⟨v, h1, h2⟩ := zdTake_sem (P := P) hop hd hy' hb (by rw [hn]; rfl) hsz (E := E) (by rw [hn]; exact hT) hs
     exact ⟨v, w, .inl h1, h2⟩
   . rename_i v1 e1 c1 ap1 fr1 ys1 hmh
     cases h
     have hn : s.blk (hkey k) = some (.rowT v1 e1 c1 ap1 fr1 ys1) := m2.trans hmh
     intro w0 U0 X β0 β U a w hs
     obtain ⟨v, h1, h2⟩ := zdTake_sem (P := P) hop hd hy' hb (by rw [hn]; rfl) hsz (E := E) (by rw [hn]; exact hT) hs
     exact ⟨v, w, .inl h1, h2⟩
   . rename_i j k' v' v1 e1 c1 ap fr ys hmh
     split at h
     case isFalse => cases h
     rename_i hc1
     subst hc1
     split at h
     case h_2 => cases h
     rename_i hcc
     simp only [decide_eq_true_eq] at hcc
     obtain ⟨rfl, rfl, rfl, rfl⟩ := hcc
     cases h
     have hn := m2.trans hmh
     have hkk : k ≠ hkey k := by simp [hkey]
     intro w0 U0 X β0 β U a w hs
     obtain ⟨β', hs1, _⟩ := hs.putBack hkk hb hn
     have b1 : (s.upd [(k, .deep ver e e1 c none (xs.modify j fun x => dSet c x ys)), (hkey k, .rowT (v' + 1) e1 (dIn c) true true [])]).blk (hkey k) = some (.rowT (v' + 1) e1 (dIn c) true true []) := by
       show look (hkey k) ((k, _) :: (hkey k, _) :: _) = _; rw [look_cons_ne hkk, look_cons_self]
     have b0 : (s.upd [(k, .deep ver e e1 c none (xs.modify j fun x => dSet c x ys)), (hkey k, .rowT (v' + 1) e1 (dIn c) true true [])]).blk k = some (.deep ver e e1 c none (xs.modify j fun x => dSet c x ys)) := by
       show look k ((k, _) :: _) = _; rw [look_cons_self]
     obtain ⟨v, h1, β2, U2, h2⟩ := zdTake_sem (P := P) (s := s.upd [(k, .deep ver e e1 c none (xs.modify j fun x => dSet c x ys)), (hkey k, .rowT (v' + 1) e1 (dIn c) true true [])]) hop hd hy' b0 (by rw [b1]; rfl) hsz (E := E) (by rw [b1]; exact hT) hs1
     refine ⟨v, w, .inl h1, β2, U2, h2.congr (by cases o.dst <;> rfl) (by cases o.dst <;> rfl) fun q => ?_⟩
     obtain ⟨x, hx, h3⟩ := Option.bind_eq_some_iff.1 hT
     simp only at h3
     split at h3
     case h_2 => cases h3
     cases h3
     unfold St.out
     rw [St.blk_put, St.blk_put]
     show look q ((k, _) :: (hkey k, _) :: s.mem) = look q ((k, _) :: (hkey k, _) :: (k, _) :: (hkey k, _) :: s.mem)
     simp only [look_cons]
     split
     . rfl
     . split <;> rfl
   . cases h
 . cases h
end
end Go.Proofs.Ythnijeclidpooaa.Abs
namespace Go.Proofs.Ythnijeclidpooaa.Abs
open Go Go.RowKit
set_option linter.unusedVariables false
set_option linter.unusedSimpArgs false
def C.flatV : C -> Bool
 | .d x => x.flat
 | _ => false
def atHole (hole : Option (Nat × Option (Nat × Nat))) (i : Nat) (T : Tr Out) : Tr Out := match hole with
 | none => T
 | some (j, _) => .grd (decide (j = i)) T
def zdStore (P : Program) (dst : Option Nat) (t : TypeId) (y x : Operand) (ρ : Operand -> V) (m : Nat -> Option Blk) : Option (Tr Out) :=
 match dst, ρ y, (ρ x).cells with
 | none, .one (.dpr k ver sz i off), some cs => match m k with
  | some (.deep ver' e ei c hole xs) => match decide (ver = ver' /\ sz = esz c /\ cs.length = tsz P t /\ off + cs.length <= sz /\ (P.info? t).isSome), decide (off <= dIc c /\ dIc c < off + cs.length) with
   | true, false => match cs.all C.flatV, cs.mapM toD with
    | true, some ds => some (.opt (xs[i]?) fun x0 => match decG c (spliceC (enc c x0) off ds) with
     | some T => T.bind fun x1 => .ret ⟨.one .un, [(k, .deep ver' e ei c hole (xs.set i x1))]⟩
     | none => .fail 44)
    | _, _ => none
   | true, true => match cs with
    | [.own k2 v2 _] => match m k2 with
     | some (.rowT v2' e2 c2 ap _ ys) => if hc : c2 = dIn c then (match decide (v2 = v2' /\ e2 = ei /\ ap = true /\ k ≠ k2) with
      | true => some (atHole hole i (.opt (xs[i]?) fun x0 => .ret ⟨.one .un, [(k, .deep ver' e ei c none (xs.set i (dSet c x0 (hc ▸ ys)))), (k2, .rowT (v2 + 1) ei (dIn c) true true [])]⟩))
      | false => none) else none
     | _ => none
    | [.nil] => some (atHole hole i (.opt (xs[i]?) fun x0 => .ret ⟨.one .un, [(k, .deep ver' e ei c none (xs.set i (dSet c x0 [])))]⟩))
    | _ => none
   | _, _ => none
  | _ => none
 | _, _, _ => none
section
variable {P : Program} {w0 : World} {U0 : Nat -> Prop} {X : Nat -> Nat -> Prop} {β0 β : Nat -> Option Place} {U : Nat -> Prop} {s : St} {a : Act} {w : World} {base : Nat}
theorem modify_set {α : Type} {l : List α} {i : Nat} {x : α} (h : l[i]? = some x) (f : α -> α) : l.modify i f = l.set i (f x) := by
 apply List.ext_getElem?
 intro j
 rw [List.getElem?_modify]
 by_cases e : i = j
 . subst e; rw [List.getElem?_set_self (List.getElem?_eq_some_iff.1 h).1, h]; simp
 . rw [List.getElem?_set_ne e]; simp [e]
theorem SimB.storeDeep (h : SimB w0 U0 X β0 β U s a w) {k ver g n cp : Nat} {us : List Value} {blk : Blk} (hb : s.blk k = some blk) (hk : β k = some (.deep (.slice (some ⟨g, 0, none⟩) n cp) ver us)) {o : Nat} {ul us' : List Value} {blk' : Blk}
  (hhas : ∀ b, (Place.deep (.slice (some ⟨g, 0, none⟩) n cp) ver us').has b -> (Place.deep (.slice (some ⟨g, 0, none⟩) n cp) ver us).has b)
  (hrep : RepB (w.setCells g o ul) (upd β k (.deep (.slice (some ⟨g, 0, none⟩) n cp) ver us')) U w0.heap.size (.deep (.slice (some ⟨g, 0, none⟩) n cp) ver us') blk') :
  SimB w0 U0 X β0 (upd β k (.deep (.slice (some ⟨g, 0, none⟩) n cp) ver us')) U (s.set k blk') a (w.setCells g o ul) := by
 have hg : (Place.deep (.slice (some ⟨g, 0, none⟩) n cp) ver us).has g := .inl rfl
 have hoth : ∀ b, b ≠ g -> (w.setCells g o ul).heap[b]? = w.heap[b]? := fun b hb => setCells_other g ul o w b hb
 refine h.replE hk hb (setCells_rest g ul o w).1 (setCells_rest g ul o w).2.1 (setCells_rest g ul o w).2.2 (by rw [setCells_size]; exact Nat.le_refl _) (fun b _ hne => hoth b (fun e => hne (by subst e; exact hg)))
  (fun b j _ hnc => ?_) (fun b _ hpb => .inr (.inr fun j => (covers_nocells rfl).2 hpb)) (.inr (.inr ⟨_, _, _, _, _, _, rfl, rfl, Nat.le_refl _, fun _ => rfl⟩)) (fun b hb => .inl (hhas b hb)) (fun b j hc => .inl ((covers_nocells rfl).2 (hhas b ((covers_nocells rfl).1 hc)))) hrep
 have hne : b ≠ g := fun e => hnc (by subst e; exact (covers_nocells rfl).2 hg)
 exact ⟨World.cell?_of_block (w := w) (hoth b hne), World.frozen?_of_block (w := w) (hoth b hne)⟩
theorem deep_stored {g n cp : Nat} {e : TypeId} {c : Nat} {cur : Array Value} (hg : w.heap[g]? = some (.cells cur e (0, 0))) {i off : Nat} {ul : List Value} (hin : i * esz c + off + ul.length <= cur.size) :
   ∃ cur' : Array Value, (w.setCells g (i * esz c + off) ul).heap[g]? = some (.cells cur' e (0, 0)) /\ cur'.size = cur.size /\ (∀ i' j, j < esz c -> (i' = i -> j < off \/ off + ul.length <= j) -> off + ul.length <= esz c -> cur'[i' * esz c + j]? = cur[i' * esz c + j]?) /\ ∀ j, (hj : j < ul.length) -> cur'[i * esz c + off + j]? = some ul[j] := by
 obtain ⟨cur', p1, p2, p3⟩ := setCells_shape g ul (i * esz c + off) w cur e (0, 0) hg
 refine ⟨cur', p1, p2.symm, fun i' j hj hout hsz => p3 _ ?_, fun j hj => ?_⟩
 . rcases Nat.lt_or_ge (i' * esz c + j) (i * esz c + off) with hlt | hge
   . exact .inl hlt
   . right
     rcases Nat.lt_or_ge (i' * esz c + j) (i * esz c + off + ul.length) with hlt | hge'
     . exfalso
       obtain ⟨t, ht⟩ : ∃ t, i' * esz c + j = i * esz c + (off + t) /\ t < ul.length := ⟨i' * esz c + j - (i * esz c + off), by omega, by omega⟩
       obtain ⟨e1, e2⟩ := idx_apart hj (by omega) ht.1
       have := hout e1
       omega
     . exact hge'
 . have := World.cell?_setCells_in g ul (i * esz c + off) w (fun j hj => by
     simp only [World.cell?, hg]; rw [Array.getElem?_eq_getElem (by omega)]; rfl) j hj
   simp only [World.cell?, p1] at this
   exact this
theorem WkD.stEq {c : Nat} {ys zs : List (τ c)} (h : WkD (.st c ys) (.st c zs)) : zs = ys := by
 rcases h with h | ⟨_, _, h, _⟩
 . cases h; rfl
 . cases h
theorem flat_store {v : Value} {ver : Nat} {us : List Value} {e ei : TypeId} {c : Nat} {hole : Option (Nat × Option (Nat × Nat))} {xs : List (τ c)} {g n cp : Nat} (hv : v = .slice (some ⟨g, 0, none⟩) n cp) (h : RepB w β U base (.deep v ver us) (.deep ver e ei c hole xs)) {i off : Nat} {x0 x1 : τ c} (hx0 : xs[i]? = some x0)
   {ds : List D} (hle : off + ds.length <= esz c) (hno : ¬ (off <= dIc c /\ dIc c < off + ds.length)) (hw : WkDs (spliceC (enc c x0) off ds) (enc c x1)) {ul : List Value} (hul : ul.length = ds.length) (h1 : ∀ u ∈ ul, u.oneCell' = true)
   (hds : ∀ (j : Nat) (u : Value) (d : D), ul[j]? = some u -> ds[j]? = some d -> RepI w (fun _ => False) u d) {β' : Nat -> Option Place} (hβ : ∀ k v1 v2, β k = some (.row v1 v2) -> β' k = some (.row v1 v2)) :
   RepB (w.setCells g (i * esz c + off) ul) β' U base (.deep v ver us) (.deep ver e ei c hole (xs.set i x1)) := by
 obtain ⟨_, hok, l1, l2, l3, l4, l5⟩ := h
 obtain ⟨hwl, hwg⟩ := WkDs_get hw
 have hi : i < xs.length := (List.getElem?_eq_some_iff.1 hx0).1
 have hel : (enc c x0).length = esz c := enc_len c x0
 have hsame : dGet c x1 = dGet c x0 := by
   have hj := enc_dGet hok x1
   obtain ⟨d0, g4, g5⟩ := hwg _ _ hj
   rw [spliceC_get _ _ _ _ (by omega), if_neg hno, enc_dGet hok] at g4
   cases g4
   exact g5.stEq
 subst hv
 rcases l5 with ⟨e1, _⟩ | ⟨g', cap, cur, e1, hg, k1, k2, k3, k4⟩
 . cases e1
 cases e1
 have hin : i * esz c + off + ul.length <= cur.size := by
   rw [k3]
   have : (i + 1) * esz c <= cp * esz c := Nat.mul_le_mul_right _ (by omega)
   rw [Nat.add_mul] at this
   omega
 obtain ⟨cur', p1, p2, p3, p4⟩ := deep_stored (w := w) (n := xs.length) (cp := cp) (c := c) hg (i := i) (off := off) (ul := ul) hin
 have hoth : ∀ (j : Nat) (u : Value) (b : Nat), us[j]? = some u -> u.ownBlock = some b -> (w.setCells g (i * esz c + off) ul).heap[b]? = w.heap[b]? := fun j u b hu hb => setCells_other g ul _ w b fun e => by
   subst e; exact l2.2 j u b hu hb rfl
 refine ⟨rfl, hok, by rw [List.length_set]; exact l1, l2, fun j u x hu hx hn => ?_, fun j l hh => by rw [List.length_set]; exact l4 j l hh, .inr ⟨g, cp, cur', by rw [List.length_set], p1, by rw [List.length_set]; exact k1, k2, by rw [p2]; exact k3, fun j q x d hx hd => ?_⟩⟩
 . rcases set_get hx with ⟨rfl, rfl, _⟩ | ⟨_, hx⟩
   . rw [hsame]; exact (l3 i u x0 hu hx0 hn).map (fun b hb => hoth i u b hu hb)
   . exact (l3 j u x hu hx hn).map (fun b hb => hoth j u b hu hb)
 . have hq : q < esz c := by have := (List.getElem?_eq_some_iff.1 hd).1; rw [enc_len] at this; exact this
   have up : ∀ {u : Value} {d : D}, RepI w (fun _ => False) u d -> RepI (w.setCells g (i * esz c + off) ul) (fun _ => False) u d := fun hr => hr.mono (fun _ hb => hb) (fun _ hb => hb.elim)
   rcases set_get hx with ⟨rfl, rfl, _⟩ | ⟨hij, hx⟩
   . obtain ⟨d0, g4, g5⟩ := hwg _ _ hd
     rw [spliceC_get _ _ _ _ (by omega)] at g4
     split at g4
     . rename_i hr
       have hlt : q - off < ul.length := by omega
       have := p4 (q - off) hlt
       rw [show i * esz c + off + (q - off) = i * esz c + q by omega] at this
       refine ⟨ul[q - off], this, h1 _ (List.getElem_mem hlt), fun _ => (up (hds _ _ _ (List.getElem?_eq_getElem hlt) g4)).wkD g5, fun hj => ?_, fun hj => ?_⟩
       . exact absurd (by omega : off <= dIc c /\ dIc c < off + ds.length) hno
       . exact absurd (by omega : off <= dIc c /\ dIc c < off + ds.length) hno
     . rename_i hr
       obtain ⟨u, z1, z2, z3, z4, z5⟩ := k4 i q x0 d0 hx0 g4
       refine ⟨u, (p3 i q hq (fun _ => by omega) (by omega)).trans z1, z2, fun hj => (up (z3 hj)).wkD g5, z4, fun hj k' ver' hh => ?_⟩
       obtain ⟨v1, ver1, f1, f2, f3⟩ := z5 hj k' ver' hh
       exact ⟨v1, ver1, hβ _ _ _ f1, f2, f3⟩
   . obtain ⟨u, z1, z2, z3, z4, z5⟩ := k4 j q x d hx hd
     refine ⟨u, (p3 j q hq (fun e => absurd e.symm hij) (by omega)).trans z1, z2, fun hj => up (z3 hj), z4, fun hj k' ver' hh => ?_⟩
     obtain ⟨v1, ver1, f1, f2, f3⟩ := z5 hj k' ver' hh
     exact ⟨v1, ver1, hβ _ _ _ f1, f2, f3⟩
theorem head_store {v : Value} {ver : Nat} {us : List Value} {e ei : TypeId} {c : Nat} {hole : Option (Nat × Option (Nat × Nat))} {xs : List (τ c)} {g n cp : Nat} (hv : v = .slice (some ⟨g, 0, none⟩) n cp) (h : RepB w β U base (.deep v ver us) (.deep ver e ei c hole xs)) {i : Nat} {x0 : τ c} (hx0 : xs[i]? = some x0)
   (hh : hole = none \/ ∃ l, hole = some (i, l)) {u : Value} (hu1 : u.oneCell' = true) {β' : Nat -> Option Place} {k2 v2 : Nat} (hl : ∃ v1 ver1, β' k2 = some (.row v1 ver1) /\ v2 <= ver1 /\ (v2 = ver1 -> u = v1)) :
   RepB (w.setCells g (i * esz c + dIc c) [u]) β' U base (.deep v ver (us.set i nilV)) (.deep ver e ei c (some (i, some (k2, v2))) xs) := by
 obtain ⟨_, hok, l1, l2, l3, l4, l5⟩ := h
 have hi : i < xs.length := (List.getElem?_eq_some_iff.1 hx0).1
 have hno : ∀ j, i ≠ j -> noHole hole j = true := fun j hj => by
   rcases hh with rfl | ⟨l, rfl⟩
   . rfl
   . exact noHole_ne hj
 have hic := dIc_lt hok
 subst hv
 rcases l5 with ⟨e1, _⟩ | ⟨g', cap, cur, e1, hg, k1, k2', k3, k4⟩
 . cases e1
 cases e1
 have hin : i * esz c + dIc c + [u].length <= cur.size := by
   rw [k3]
   have : (i + 1) * esz c <= cp * esz c := Nat.mul_le_mul_right _ (by omega)
   rw [Nat.add_mul] at this
   simp only [List.length_singleton]
   omega
 obtain ⟨cur', p1, p2, p3, p4⟩ := deep_stored (w := w) (n := xs.length) (cp := cp) (c := c) hg (i := i) (off := dIc c) (ul := [u]) hin
 simp only [List.length_singleton] at p3 p4
 have hoth : ∀ (j : Nat) (u' : Value) (b : Nat), us[j]? = some u' -> u'.ownBlock = some b -> (w.setCells g (i * esz c + dIc c) [u]).heap[b]? = w.heap[b]? := fun j u' b hu hb => setCells_other g [u] _ w b fun e => by
   subst e; exact l2.2 j u' b hu hb rfl
 have up : ∀ {u' : Value} {d : D}, RepI w (fun _ => False) u' d -> RepI (w.setCells g (i * esz c + dIc c) [u]) (fun _ => False) u' d := fun hr => hr.mono (fun _ hb => hb) (fun _ hb => hb.elim)
 refine ⟨rfl, hok, by rw [List.length_set]; exact l1, l2.setNil i, fun j u' x hu hx hn => ?_, fun j l hh => ?_, .inr ⟨g, cp, cur', rfl, p1, k1, k2', by rw [p2]; exact k3, fun j q x d hx hd => ?_⟩⟩
 . have hij : i ≠ j := fun e => by subst e; rw [noHole_self] at hn; cases hn
   rcases set_get hu with ⟨e, _⟩ | ⟨_, hu⟩
   . exact absurd e hij
   . exact (l3 j u' x hu hx (hno j hij)).map (fun b hb => hoth j u' b hu hb)
 . cases hh; exact ⟨hi, by rw [List.getElem?_set_self (by omega)]⟩
 . have hq : q < esz c := by have := (List.getElem?_eq_some_iff.1 hd).1; rw [enc_len] at this; exact this
   by_cases hat : i = j /\ q = dIc c
   . obtain ⟨rfl, rfl⟩ := hat
     refine ⟨u, by simpa using p4 0 (by simp), hu1, fun hj => absurd rfl hj, fun _ hn => ?_, fun _ k' ver' hh => ?_⟩
     . rw [noHole_self] at hn; cases hn
     . cases hh; exact hl
   . obtain ⟨u', z1, z2, z3, z4, z5⟩ := k4 j q x d hx hd
     refine ⟨u', (p3 j q hq (fun e => by
       have : q ≠ dIc c := fun e' => hat ⟨e.symm, e'⟩
       omega) (by omega)).trans z1, z2, fun hj => up (z3 hj), fun hj hn => ?_, fun hj k' ver' hh => ?_⟩
     . have hij : i ≠ j := fun e => by subst e; rw [noHole_self] at hn; cases hn
       rw [List.getElem?_set_ne hij]; exact z4 hj (hno j hij)
     . cases hh; exact absurd ⟨rfl, hj⟩ hat
theorem nil_store {v : Value} {ver : Nat} {us : List Value} {e ei : TypeId} {c : Nat} {hole : Option (Nat × Option (Nat × Nat))} {xs : List (τ c)} {g n cp : Nat} (hv : v = .slice (some ⟨g, 0, none⟩) n cp) (h : RepB w β U base (.deep v ver us) (.deep ver e ei c hole xs)) {i : Nat} {x0 : τ c} (hx0 : xs[i]? = some x0)
  (hh : hole = none \/ ∃ l, hole = some (i, l)) {β' : Nat -> Option Place} :
  RepB (w.setCells g (i * esz c + dIc c) [nilV]) β' U base (.deep v ver (us.set i nilV)) (.deep ver e ei c none (xs.set i (dSet c x0 []))) := by
 have hr := head_store hv h hx0 hh (u := nilV) rfl (β' := fun _ => some (.row nilV 0)) (k2 := 0) (v2 := 0) ⟨_, _, rfl, Nat.le_refl _, fun _ => rfl⟩
 have := hr.putBack (u := nilV) rfl (ys := []) (.inl ⟨rfl, rfl⟩) (fun b hb => by simp [Value.ownBlock] at hb) β'
 rw [modify_set hx0, List.set_set] at this
 exact this
theorem atHole_eval {hole : Option (Nat × Option (Nat × Nat))} {i : Nat} {T : Tr Out} {E : Out} (h : (atHole hole i T).eval = some E) : (hole = none \/ ∃ l, hole = some (i, l)) /\ T.eval = some E := by
 unfold atHole at h
 split at h
 . exact ⟨.inl rfl, h⟩
 . rename_i j l
   obtain ⟨h1, h2⟩ := Tr.eval_grd h
   simp only [decide_eq_true_eq] at h1
   subst h1
   exact ⟨.inr ⟨l, rfl⟩, h2⟩
theorem zdStore_sem {o : Oper} {t : TypeId} {y x : Operand} {ρ : Operand -> V} {m : Nat -> Option Blk} (hop : o.op = .store t y x) (hρ : ∀ y ∈ o.op.operands, s.eval y = ρ y) (hm : ∀ k ∈ effKeys o.dst o.op ρ, s.blk k = m k)
   {T : Tr Out} {E : Out} (h : zdStore P o.dst t y x ρ m = some T) (hT : T.eval = some E) : SemStep P o s E := by
 unfold zdStore at h
 rw [hop] at hρ hm
 have hy0 : s.eval y = ρ y := hρ y (by simp [Op.operands])
 have hx0 : s.eval x = ρ x := hρ x (by simp [Op.operands])
 split at h
 case h_2 => cases h
 rename_i k ver sz i off cs hdst hy hcs
 have m1 : s.blk k = m k := hm k (by simp [effKeys, hy, V.keys, C.keys])
 split at h
 case h_2 => cases h
 rename_i ver' e ei c hole xs hmk
 have hb : s.blk k = some (.deep ver' e ei c hole xs) := m1.trans hmk
 have hy' : s.eval y = .one (.dpr k ver sz i off) := hy0.trans hy
 -- what is common
 have common : ∀ {w0 : World} {U0 : Nat -> Prop} {X : Nat -> Nat -> Prop} {β0 β : Nat -> Option Place} {U : Nat -> Prop} {a : Act} {w : World}, SimB w0 U0 X β0 β U s a w -> (ver = ver' /\ sz = esz c /\ cs.length = tsz P t /\ off + cs.length <= sz /\ (P.info? t).isSome) -> ∀ {x0 : τ c}, xs[i]? = some x0 ->
     ∃ g n cp us, β k = some (.deep (.slice (some ⟨g, 0, none⟩) n cp) ver us) /\ RepB w β U w0.heap.size (.deep (.slice (some ⟨g, 0, none⟩) n cp) ver us) (.deep ver e ei c hole xs) /\ RepCs w β U w0.heap.size (a.eval x).cells.toList cs /\ (∀ u ∈ (a.eval x).cells.toList, u.oneCell' = true) /\
       (execOp a.eval o).run P w = .ok .skip (w.setCells g (i * esz c + off) (a.eval x).cells.toList) := by
   rintro w0 U0 X β0 β U a w hs ⟨rfl, rfl, hlen, hle, hit⟩ x0 hx
   obtain ⟨it, hit⟩ := Option.isSome_iff_exists.1 hit
   have hvx := hs.eval x
   rw [hx0] at hvx
   obtain ⟨hrep, h1⟩ := V.cells_sound hvx hcs
   have hvy := hs.eval y
   rw [hy'] at hvy
   obtain ⟨ad, v0, ver0, us, hv, hkβ, hv1, hv2⟩ := hvy.toC
   obtain ⟨p, hp, hr⟩ := hs.mem k _ hb
   rw [hkβ] at hp; cases hp
   obtain rfl := hr.1
   obtain ⟨g, n, cp, rfl, rfl⟩ := hv2 rfl
   refine ⟨g, n, cp, us, hkβ, hr, hrep, h1, ?_⟩
   have hsz : (a.eval x).cells.size = it.size := by
     have := hrep.1
     simp only [Array.length_toList] at this
     rw [this, hlen]; simp [tsz, Program.cellsOf, hit]
   obtain ⟨_, hok, l1, l2, l3, l4, l5⟩ := hr
   rcases l5 with ⟨e1, _⟩ | ⟨g', cap, cur, e1, hg, k1, k2, k3, k4⟩
   . cases e1
   cases e1
   have hi : i < xs.length := (List.getElem?_eq_some_iff.1 hx).1
   simp only [execOp, hop, hv]
   rw [Sem.run_bind, run_storeAt hit hsz (fun j hj => ?_) h1]
   . rfl
   . have hl := hrep.1
     simp only [Array.length_toList] at hl
     have : (i + 1) * esz c <= cp * esz c := Nat.mul_le_mul_right _ (by omega)
     rw [Nat.add_mul] at this
     exact ⟨by simp only [World.cell?, hg]; rw [Array.getElem?_eq_getElem (by omega)]; rfl, by simp [World.frozen?, hg]⟩
 split at h
 . -- flat cells
   rename_i hc hin
   simp only [decide_eq_true_eq] at hc
   simp only [decide_eq_false_iff_not] at hin
   split at h
   case h_2 => cases h
   rename_i ds hfl hds
   cases h
   obtain ⟨y0, hy0', h2⟩ := Option.bind_eq_some_iff.1 hT
   simp only at h2
   split at h2
   case h_2 => cases h2
   rename_i T1 hT1
   rw [Tr.eval_bind] at h2
   obtain ⟨x1, hx1, h3⟩ := Option.bind_eq_some_iff.1 h2
   cases h3
   have hw := decG_wk hT1 hx1
   intro w0 U0 X β0 β U a w hs
   obtain ⟨g, n, cp, us, hkβ, hr, hrep, h1, hrun⟩ := common hs hc hy0'
   obtain ⟨rfl, rfl, hlen, hle, hit⟩ := hc
   obtain ⟨hdl, hdg⟩ := mapM_toD cs ds hds
   have hul : (a.eval x).cells.toList.length = ds.length := by rw [<- hdl]; exact hrep.1
   have hfs := flat_store rfl hr hy0' (off := off) (x1 := x1) (ds := ds) (by omega) (by omega) hw hul h1 (fun j u d hu hd => by
     have hj : j < cs.length := by have := (List.getElem?_eq_some_iff.1 hd).1; omega
     have hcj := List.getElem?_eq_getElem hj
     have h4 := toD_sound (hrep.2 j u _ hu hcj) (hdg j _ d hcj hd)
     have h5 := List.all_eq_true.1 hfl _ (List.getElem_mem hj)
     have h6 := hdg j _ d hcj hd
     generalize cs[j] = cc at h5 h6
     cases cc with
     | d x => cases h6; exact flat_any h4 h5
     | _ => cases h5) (β' := upd β k (.deep (.slice (some ⟨g, 0, none⟩) n cp) ver us)) (fun k1 v1 v2 h1 => by
       rw [upd_ne _ (fun e => by subst e; rw [hkβ] at h1; cases h1)]; exact h1)
   have hs1 := hs.storeDeep hb hkβ (fun b hb => hb) hfs
   refine ⟨undef, _, .inr ⟨hrun, rfl⟩, upd β k (.deep (.slice (some ⟨g, 0, none⟩) n cp) ver us), U, ?_⟩
   rw [hdst]
   exact hs1
 . rename_i hc hin
   simp only [decide_eq_true_eq] at hc hin
   split at h
   . -- a row of the call's own
     rename_i k2 v2 n2
     have m2 : s.blk k2 = m k2 := by
       refine hm k2 ?_
       have hk1 : (ρ y).keys = [k, hkey k] := by rw [hy]; rfl
       have hk2 : k2 ∈ (ρ x).keys := by
         revert hcs
         cases ρ x with
         | one c => cases c <;> (intro hh; simp only [V.cells] at hh; first | (cases hh; simp [V.keys, C.keys]; done) | (cases hh; done))
         | agg cs => simp only [V.cells, Option.some.injEq]; rintro rfl; simp [V.keys, C.keys]
         | tup => simp [V.cells]
       simp only [effKeys, hk1]
       exact List.mem_append_right _ hk2
     split at h
     case h_2 => cases h
     rename_i v2' e2 c2 ap fr ys hmk2
     split at h
     case isFalse => cases h
     rename_i hc2
     subst hc2
     split at h
     case h_2 => cases h
     rename_i hcc
     simp only [decide_eq_true_eq] at hcc
     obtain ⟨rfl, rfl, rfl, hne⟩ := hcc
     cases h
     obtain ⟨hh, hT⟩ := atHole_eval hT
     obtain ⟨y0, hy0', h2⟩ := Option.bind_eq_some_iff.1 hT
     cases h2
     have hb2 : s.blk k2 = some (.rowT v2 e2 (dIn c) true fr ys) := m2.trans hmk2
     intro w0 U0 X β0 β U a w hs
     obtain ⟨g, n, cp, us, hkβ, hr, hrep, h1, hrun⟩ := common hs hc hy0'
     obtain ⟨rfl, rfl, hlen, hle, hit⟩ := hc
     have hoff : off = dIc c := by simp only [List.length_singleton] at hin; omega
     subst hoff
     obtain ⟨u, hu, hru⟩ : ∃ u, (a.eval x).cells.toList = [u] /\ RepC w β U w0.heap.size u (.own k2 v2 n2) := by
       obtain ⟨u, e1, e2⟩ := hrep.one; exact ⟨u, e1, e2⟩
     obtain ⟨ao, cap, u0, uver, hu1, hu2, hu3, hu4, hu5, hu6, hu7⟩ := hru
     have h1u : u.oneCell' = true := h1 u (by rw [hu]; simp)
     rw [hu] at hrun
     have hst := head_store rfl hr hy0' hh h1u (β' := upd β k (.deep (.slice (some ⟨g, 0, none⟩) n cp) ver (us.set i nilV))) (k2 := k2) (v2 := v2) ⟨u0, uver, by rw [upd_ne _ hne]; exact hu5, hu6, hu7⟩
     have hs1 := hs.storeDeep hb hkβ (fun b hb => has_setNil hb) hst
     obtain ⟨β', hs2, _⟩ := hs1.putBack hne (by rw [St.blk_set, if_pos rfl]) (by rw [St.blk_set, if_neg hne]; exact hb2)
     refine ⟨undef, _, .inr ⟨hrun, rfl⟩, β', U, ?_⟩
     rw [hdst]
     rw [modify_set hy0'] at hs2
     refine hs2.congr rfl rfl fun q => ?_
     show look q ((k, _) :: (k2, _) :: s.mem) = look q ((k, _) :: (k2, _) :: (k, _) :: s.mem)
     simp only [look_cons]
     split
     . rfl
     . split
       . rfl
       . rfl
   . -- nil
     cases h
     obtain ⟨hh, hT⟩ := atHole_eval hT
     obtain ⟨y0, hy0', h2⟩ := Option.bind_eq_some_iff.1 hT
     cases h2
     intro w0 U0 X β0 β U a w hs
     obtain ⟨g, n, cp, us, hkβ, hr, hrep, h1, hrun⟩ := common hs hc hy0'
     obtain ⟨rfl, rfl, hlen, hle, hit⟩ := hc
     have hoff : off = dIc c := by simp only [List.length_singleton] at hin; omega
     subst hoff
     obtain ⟨u, hu, hru⟩ := hrep.one
     have hru : u = nilV := hru
     subst hru
     rw [hu] at hrun
     have hs1 := hs.storeDeep hb hkβ (fun b hb => has_setNil hb) (nil_store rfl hr hy0' hh)
     refine ⟨undef, _, .inr ⟨hrun, rfl⟩, upd β k (.deep (.slice (some ⟨g, 0, none⟩) n cp) ver (us.set i nilV)), U, ?_⟩
     rw [hdst]
     exact hs1
   . cases h
 . cases h
end
end Go.Proofs.Ythnijeclidpooaa.Abs
namespace Go.Proofs.Ythnijeclidpooaa.Abs
open Go Go.RowKit
set_option linter.unusedVariables false
set_option linter.unusedSimpArgs false
def zdSlice (P : Program) (t : TypeId) (x : Operand) (lo hi mx : Option Operand) (ρ : Operand -> V) : Option (Tr Out) :=
 match P.underlying t, ρ x with
 | some (.slice e), .one (.dp k ver len room) => match mx with
  | none => match optI 0 (lo.map ρ), optI len (hi.map ρ), (P.info? e).isSome with
   | some a, some b, true => some (.grd (decide (0 <= a /\ a <= b /\ b <= (room : Int))) (.ret ⟨.one (.dsub k ver (P.cellsOf e) a.toNat (b - a).toNat), []⟩))
   | _, _, _ => none
  | some mx => match lo, hi with
   | some lo, some hi => match ρ lo, ρ hi, ρ mx, (P.info? e).isSome with
    | .one (.d (.i _ a)), .one (.d (.i _ b)), .one (.d (.i _ c)), true => some (.grd (decide (0 <= a /\ a <= b /\ b <= c /\ c <= (len : Int))) (.ret ⟨.one .bad, []⟩))
    | _, _, _, _ => none
   | _, _ => none
 | _, _ => none
def zdDel (P : Program) (dst : Option Nat) (args : List Operand) (ats : List TypeId) (ρ : Operand -> V) (m : Nat -> Option Blk) : Option (Tr Out) :=
 match dst, args, ats with
 | some _, [x, y], [t, t'] => match telem P t, ρ x, ρ y with
  | some e, .one (.dsub k ver sz o1 a), .one (.dsub k' ver' sz' b n) => match m k with
   | some (.deep v1 e1 ei c none xs) => match decide (t = t' /\ k = k' /\ ver = v1 /\ ver' = v1 /\ e1 = e /\ sz = esz c /\ sz' = esz c /\ esz c = P.cellsOf e /\ 0 < esz c /\ (tzero P e).isSome) with
    | true => some (.grd (decide (o1 = 0 /\ a <= b /\ b + n = xs.length)) (.ret ⟨.one (.dp k (ver + 1) (xs.take a ++ xs.drop b).length xs.length), [(k, .deep (ver + 1) e ei c none (xs.take a ++ xs.drop b))]⟩))
    | false => none
   | _ => none
  | _, _, _ => none
 | _, _, _ => none
def zdClear (P : Program) (dst : Option Nat) (args : List Operand) (ats : List TypeId) (ρ : Operand -> V) (m : Nat -> Option Blk) : Option (Tr Out) :=
 match args, ats with
 | [x], [t] => match telem P t, ρ x with
  | some e, .one (.dsub k ver sz off n) => match m k with
   | some (.deep v1 e1 ei c hole xs) => match decide (ver = v1 /\ e1 = e /\ sz = esz c /\ esz c = P.cellsOf e /\ (tzero P e).isSome) with
    | true => some (.grd (decide (xs.length <= off)) (.ret ⟨.one .bad, [(k, .deep v1 e1 ei c hole xs)]⟩))
    | false => none
   | _ => none
  | _, _ => none
 | _, _ => none
section
variable {P : Program} {w0 : World} {U0 : Nat -> Prop} {X : Nat -> Nat -> Prop} {β0 β : Nat -> Option Place} {U : Nat -> Prop} {s : St} {a : Act} {w : World} {base : Nat}
theorem zdSlice_sem {o : Oper} {t : TypeId} {x : Operand} {lo hi mx : Option Operand} {ρ : Operand -> V} (hop : o.op = .slice t x lo hi mx) (hρ : ∀ y ∈ o.op.operands, s.eval y = ρ y) (hd : ∀ d, o.dst = some d -> d < s.n)
   {T : Tr Out} {E : Out} (h : zdSlice P t x lo hi mx ρ = some T) (hT : T.eval = some E) : SemStep P o s E := by
 unfold zdSlice at h
 rw [hop] at hρ
 have hx : s.eval x = ρ x := hρ x (by cases lo <;> cases hi <;> cases mx <;> simp [Op.operands])
 split at h
 case h_2 => cases h
 rename_i e k ver len room hu hxe
 split at h
 . split at h
   case h_2 => cases h
   rename_i a b h1 h2 hie
   cases h
   obtain ⟨g1, g2⟩ := Tr.eval_grd hT
   cases g2
   simp only [decide_eq_true_eq] at g1
   obtain ⟨ie, hie⟩ := Option.isSome_iff_exists.1 hie
   refine semVal hd fun w0 U0 X β0 β U act w hs => ?_
   have hv := hs.eval x
   rw [hx, hxe] at hv
   obtain ⟨ao, cap, v0, ver0, us, hv, hlr, hlc, hn0, hs0, hk, hle, hown⟩ := hv.toC
   have el : ∀ (q : Operand), lo = some q -> s.eval q = ρ q := fun q e => hρ q (by subst e; cases hi <;> simp [Op.operands])
   have eh : ∀ (q : Operand), hi = some q -> s.eval q = ρ q := fun q e => hρ q (by subst e; cases lo <;> simp [Op.operands])
   have hl1 : (lo.map act.eval = none /\ a = 0) \/ ∃ kk, lo.map act.eval = some (.int kk a) := optI_sound (w := w) (β := β) (U := U) (base := w0.heap.size) (by
     cases lo with
     | none => exact .inl ⟨rfl, rfl⟩
     | some q => exact .inr ⟨_, _, rfl, rfl, by have := hs.eval q; rw [el q rfl] at this; exact this⟩) h1
   have hh1 : (hi.map act.eval = none /\ b = len) \/ ∃ kk, hi.map act.eval = some (.int kk b) := optI_sound (w := w) (β := β) (U := U) (base := w0.heap.size) (by
     cases hi with
     | none => exact .inl ⟨rfl, rfl⟩
     | some q => exact .inr ⟨_, _, rfl, rfl, by have := hs.eval q; rw [eh q rfl] at this; exact this⟩) h2
   have hb := run_bounds2 (P := P) (w := w) (len := len) (cap := cap) hl1 hh1 g1.1 g1.2.1 (by omega)
   have hsz : P.cellsOf e = ie.size := by simp [Program.cellsOf, hie]
   refine ⟨.slice (if cap = a.toNat then ao else ao.map (·.add (a.toNat * ie.size))) (b.toNat - a.toNat) (cap - a.toNat), ?_, .one _ _ ⟨_, _, v0, ver0, us, by rw [show (b - a).toNat = b.toNat - a.toNat by omega], hk, hle, fun e1 => ?_⟩⟩
   . simp only [execOp, hop, hv]
     refine wrapV ?_
     simp [Instr.sliceAt, Instr.slice, run_underlying hu, hb, run_sizeOf w hie, hsz]
   . have hv0 := (hown e1).symm.trans hv
     cases ao with
     | none =>
      obtain ⟨rfl, rfl⟩ := hn0 rfl
      refine .inl ⟨hv0, by simp, by omega, by omega⟩
     | some ad =>
      obtain ⟨g, rfl⟩ := hs0 ad rfl
      refine .inr ⟨g, len, cap, hv0, by omega, rfl, ?_⟩
      have : a.toNat <= cap := by omega
      by_cases hc : cap = a.toNat
      . rw [if_pos hc, if_neg (by omega)]
      . rw [if_neg hc, if_pos (by omega), hsz, Option.map_some, Addr.add_lit, Nat.zero_add]
 . rename_i mx
   split at h
   case h_2 => cases h
   rename_i lo hi
   split at h
   case h_2 => cases h
   rename_i ka a kb b kc c h1 h2 h3 hie
   cases h
   obtain ⟨g1, g2⟩ := Tr.eval_grd hT
   cases g2
   simp only [decide_eq_true_eq] at g1
   obtain ⟨ie, hie⟩ := Option.isSome_iff_exists.1 hie
   refine semVal hd fun w0 U0 X β0 β U act w hs => ?_
   have hv := hs.eval x
   rw [hx, hxe] at hv
   obtain ⟨ao, cap, v0, ver0, us, hv, hlr, hlc, hn0, hs0, hk, hle, hown⟩ := hv.toC
   have e1 := hs.eval lo; rw [hρ lo (by simp [Op.operands]), h1] at e1; have e1 := e1.int
   have e2 := hs.eval hi; rw [hρ hi (by simp [Op.operands]), h2] at e2; have e2 := e2.int
   have e3 := hs.eval mx; rw [hρ mx (by simp [Op.operands]), h3] at e3; have e3 := e3.int
   have hb := run_bounds3 (P := P) (w := w) (len := len) (cap := cap) (ka := ka) (kb := kb) (kc := kc) g1 (by omega)
   refine ⟨.slice (if c.toNat = a.toNat then ao else ao.map (·.add (a.toNat * ie.size))) (b.toNat - a.toNat) (c.toNat - a.toNat), ?_, .bad _⟩
   simp only [execOp, hop, Option.map_some, hv, e1, e2, e3]
   refine wrapV ?_
   have hsz : P.cellsOf e = ie.size := by simp [Program.cellsOf, hie]
   simp [Instr.sliceAt, Instr.slice, run_underlying hu, hb, run_sizeOf w hie, hsz]

theorem get_join {α : Type} {l : List α} {a b n : Nat} (hab : a <= b) (hbn : b + n = l.length) (i : Nat) : (l.take a ++ l.drop b)[i]? = if i < a then l[i]? else l[b + (i - a)]? := by
 have ha : (l.take a).length = a := by rw [List.length_take]; omega
 split
 . rename_i h; rw [List.getElem?_append_left (by omega), List.getElem?_take, if_pos h]
 . rename_i h; rw [List.getElem?_append_right (by omega), List.getElem?_drop, ha]
theorem zdDel_sem {o : Oper} {args : Array Operand} {ats : Array TypeId} {ρ : Operand -> V} {m : Nat -> Option Blk} (hop : o.op = .call { callee := .builtin .append, args := args, argTypes := ats }) (hρ : ∀ y ∈ o.op.operands, s.eval y = ρ y)
   (hm : ∀ k ∈ effKeys o.dst o.op ρ, s.blk k = m k) (hd : ∀ d, o.dst = some d -> d < s.n)
   {T : Tr Out} {E : Out} (h : zdDel P o.dst args.toList ats.toList ρ m = some T) (hT : T.eval = some E) : SemStep P o s E := by
 unfold zdDel at h
 rw [hop] at hρ hm
 split at h
 case h_2 => cases h
 rename_i d x y t t' hdst hargs hats
 split at h
 case h_2 => cases h
 rename_i e k ver sz o1 a k' ver' sz' b n hte hxe hye
 split at h
 case h_2 => cases h
 rename_i v1 e1 ei c xs hmk
 split at h
 case h_2 => cases h
 rename_i hcnd
 simp only [decide_eq_true_eq] at hcnd
 obtain ⟨rfl, rfl, rfl, rfl, rfl, rfl, rfl, hsz, hpos, hz⟩ := hcnd
 cases h
 obtain ⟨g1, g2⟩ := Tr.eval_grd hT
 cases g2
 simp only [decide_eq_true_eq] at g1
 obtain ⟨rfl, hab, hbn⟩ := g1
 have ht := telem_iff hte
 obtain ⟨zs, hz⟩ := Option.isSome_iff_exists.1 hz
 have hargs' := telemArg hargs
 have hats' := tArg hats
 subst hargs'; subst hats'
 have hx : s.eval x = ρ x := hρ x (by simp [Op.operands, Call.operands])
 have hy : s.eval y = ρ y := hρ y (by simp [Op.operands, Call.operands])
 have hblk : s.blk k = some (.deep ver' e1 ei c none xs) := by rw [hm k (by simp [effKeys, hxe, V.keys, C.keys])]; exact hmk
 intro w0 U0 X β0 β U act w hs
 have hv := hs.eval x
 rw [hx, hxe] at hv
 obtain ⟨a0, cap0, v0, ver0, us, hv0, hk, hle, hsub⟩ := hv.toC
 have hv2 := hs.eval y
 rw [hy, hye] at hv2
 obtain ⟨a2, cap2, v2, ver2, us2, hv20, hk2, hle2, hsub2⟩ := hv2.toC
 rw [hk] at hk2; cases hk2
 obtain ⟨p, hp, hr⟩ := hs.mem k _ hblk
 rw [hk] at hp; cases hp
 have h0 := hr.1
 subst h0
 obtain ⟨i, z, hi, hzz, _, _, hzs⟩ := tzero_sound (w := w) (β := fun _ => none) (U := fun _ => True) (base := 0) hz
 have hci : esz c = i.size := by rw [hsz]; simp [Program.cellsOf, hi]
 have hexec : ∀ {v' : Value} {w' : World}, (Builtin.append_ #[t, t] o.type #[.slice a0 a cap0, .slice a2 n cap2]).run P w = .ok v' w' -> (execOp act.eval o).run P w = .ok (.value v') w' := by
   intro v' w' hr
   simp only [execOp, hop, resolve, Sem.run_bind, Sem.run_pure, Result.andThen_ok, invoke, builtin, List.map_toArray, List.map_cons, List.map_nil, hv0, hv20, hr]
 obtain ⟨_, hok, l1, l2, l3, l4, l5⟩ := hr
 have hjl : (xs.take a ++ xs.drop b).length = a + n := by rw [List.length_append, List.length_take, List.length_drop]; omega
 rcases l5 with ⟨rfl, rfl⟩ | ⟨g, cap, cur, rfl, hg, k1, k2', k3, k4⟩
 . -- nothing there
   have hn : n = 0 /\ b = 0 := by simp at hbn; omega
   obtain ⟨rfl, rfl⟩ := hn
   have ha : a = 0 := by omega
   subst ha
   rcases hsub rfl with ⟨_, rfl, _, rfl⟩ | ⟨_, _, _, e, _⟩
   case inr => cases e
   rcases hsub2 rfl with ⟨_, rfl, _, rfl⟩ | ⟨_, _, _, e, _⟩
   case inr => cases e
   have hrun := run_append_nothing (P := P) w t t o.type e1 i ht hi none 0 0 (Nat.le_refl _) (.slice none 0 0) (Src.ofNil w ht 0)
   have hus : us = [] := List.length_eq_zero_iff.1 (by simpa using l1)
   subst hus
   have hs1 := hs.replE (w' := w) (p' := .deep nilV (ver' + 1) []) (blk' := .deep (ver' + 1) e1 ei c none []) hk hblk rfl rfl rfl (Nat.le_refl _) (fun _ _ _ => rfl) (fun _ _ _ _ => ⟨rfl, rfl⟩) (fun _ _ _ => .inl rfl)
     (.inr (.inr ⟨_, _, _, _, _, _, rfl, rfl, Nat.le_succ _, fun e => absurd e (by omega)⟩)) (fun b hb => .inl hb) (fun b j hc => .inl hc)
     ⟨rfl, hok, rfl, l2, fun i u x hu => (by simp at hu), fun i l hh => (by cases hh), .inl ⟨rfl, rfl⟩⟩
   refine ⟨_, w, .inl (hexec hrun), upd β k (.deep nilV (ver' + 1) []), U, ?_⟩
   show SimB w0 U0 X β0 _ U ((s.set k (.deep (ver' + 1) e1 ei c none [])).put o.dst (.one (.dp k (ver' + 1) 0 0))) _ _
   exact hs1.put (repDp (upd_self _ _ _) (Nat.le_refl _) (Nat.le_refl _) (fun _ => ⟨rfl, rfl⟩) (fun x hx => by cases hx)) hd
 . rcases hsub rfl with ⟨e, _⟩ | ⟨g', n', c', e, f1, rfl, rfl⟩
   . cases e
   simp only [Value.slice.injEq, Option.some.injEq, Addr.mk.injEq, and_true, true_and] at e
   obtain ⟨rfl, rfl, rfl⟩ := e
   rcases hsub2 rfl with ⟨e, _⟩ | ⟨g', n', c', e, f2, rfl, rfl⟩
   . cases e
   simp only [Value.slice.injEq, Option.some.injEq, Addr.mk.injEq, and_true, true_and] at e
   obtain ⟨rfl, rfl, rfl⟩ := e
   have hz0 : (if 0 < cap then 0 * esz c else 0) = 0 := by split <;> simp
   -- what is moved
   have hcell : ∀ (q j : Nat), q < xs.length -> j < esz c -> ∃ u, cur[q * esz c + j]? = some u /\ u.oneCell' = true := fun q j hq hj => by
     obtain ⟨u, z1, z2, _⟩ := k4 q j xs[q] ((enc c xs[q])[j]'(by rw [enc_len]; exact hj)) (List.getElem?_eq_getElem hq) (List.getElem?_eq_getElem _)
     exact ⟨u, z1, z2⟩
   let news : List Value := (List.range (n * esz c)).map fun q => cur.getD (b * esz c + q) undef
   have hnl : news.length = n * esz c := by simp [news]
   have hnget : ∀ q, q < n * esz c -> ∃ u, news[q]? = some u /\ cur[b * esz c + q]? = some u /\ u.oneCell' = true := fun q hq => by
     have hd1 : q / esz c < n := Nat.div_lt_of_lt_mul (by rw [Nat.mul_comm]; exact hq)
     have hm1 : q % esz c < esz c := Nat.mod_lt _ hpos
     obtain ⟨u, z1, z2⟩ := hcell (b + q / esz c) (q % esz c) (by omega) hm1
     have e2 : (b + q / esz c) * esz c + q % esz c = b * esz c + q := by
       rw [Nat.add_mul, Nat.add_assoc]
       have := Nat.div_add_mod q (esz c)
       rw [Nat.mul_comm] at this
       omega
     rw [e2] at z1
     refine ⟨u, ?_, z1, z2⟩
     simp only [news, List.getElem?_map, List.getElem?_range hq, Option.map_some]
     rw [Array.getD_eq_getD_getElem?, z1]; rfl
   have hone : ∀ u ∈ news, u.oneCell' = true := fun u hu => by
     obtain ⟨q, hq⟩ := List.mem_iff_getElem?.1 hu
     have hql := (List.getElem?_eq_some_iff.1 hq).1
     obtain ⟨u', z1, _, z3⟩ := hnget q (by omega)
     rw [hq] at z1; cases z1; exact z3
   have hsrc : Src P i.size t (.slice (some ⟨g, if b < cap then b * esz c else 0, none⟩) n (cap - b)) n news w :=
     Src.ofSlice w ht _ n _ news (by rw [<- hci]; exact hnl) (fun q u hq => by
       have hql : q < n * esz c := by have := (List.getElem?_eq_some_iff.1 hq).1; omega
       obtain ⟨u', z1, z2, _⟩ := hnget q hql
       rw [hq] at z1; cases z1
       have hn0 : 0 < n := by
         rcases Nat.eq_zero_or_pos n with e | e
         . subst e; omega
         . exact e
       rw [if_pos (by omega), Addr.add_lit]
       simp only [World.cell?, hg]; exact z2) hone
   have hbound : a * esz c + news.length <= cur.size := by
     rw [hnl, k3, <- Nat.add_mul]; exact Nat.mul_le_mul_right _ (by omega)
   have hrun := run_append_room_src (P := P) w t t o.type e1 i ht hi g 0 a (cap - 0) _ n news hsrc (by omega) (fun j hj => by
       rw [Nat.zero_add, <- hci]
       simp only [World.cell?, hg]
       rw [Array.getElem?_eq_getElem (by omega)]; rfl) (fun j hj => by simp [World.frozen?, hg])
   rw [Nat.zero_add, <- hci] at hrun
   obtain ⟨cur', p1, p2, p3⟩ := setCells_shape g news (a * esz c) w cur e1 (0, 0) hg
   have p4 : ∀ q, q < n * esz c -> cur'[a * esz c + q]? = cur[b * esz c + q]? := fun q hq => by
     obtain ⟨u, z1, z2, _⟩ := hnget q hq
     have := World.cell?_setCells_in g news (a * esz c) w (fun j hj => by
       simp only [World.cell?, hg]; rw [Array.getElem?_eq_getElem (by omega)]; rfl) q (by omega)
     simp only [World.cell?, p1] at this
     have h5 : cur'[a * esz c + q]? = some (news[q]'(by omega)) := this
     rw [h5, z2]
     rw [List.getElem?_eq_getElem (by omega)] at z1
     exact z1
   have hju : ∀ i, (us.take a ++ us.drop b)[i]? = if i < a then us[i]? else us[b + (i - a)]? := get_join hab (by rw [l1]; exact hbn)
   have hjx : ∀ i, (xs.take a ++ xs.drop b)[i]? = if i < a then xs[i]? else xs[b + (i - a)]? := get_join hab hbn
   have hoth : ∀ b', b' ≠ g -> (w.setCells g (a * esz c) news).heap[b']? = w.heap[b']? := fun b' hb' => setCells_other g news _ w b' hb'
   have hhas : ∀ b', (Place.deep (.slice (some ⟨g, 0, none⟩) (a + n) cap) (ver' + 1) (us.take a ++ us.drop b)).has b' -> (Place.deep (.slice (some ⟨g, 0, none⟩) xs.length cap) ver' us).has b' := fun b' hb' => by
     rcases hb' with hb' | ⟨u, hu, hb'⟩
     . exact .inl hb'
     . refine .inr ⟨u, ?_, hb'⟩
       rcases List.mem_append.1 hu with hu | hu
       . exact List.mem_of_mem_take hu
       . exact List.mem_of_mem_drop hu
   have hgh : (Place.deep (.slice (some ⟨g, 0, none⟩) xs.length cap) ver' us).has g := .inl rfl
   have hs1 := hs.replE (w' := w.setCells g (a * esz c) news) (p' := .deep (.slice (some ⟨g, 0, none⟩) (a + n) cap) (ver' + 1) (us.take a ++ us.drop b)) (blk' := .deep (ver' + 1) e1 ei c none (xs.take a ++ xs.drop b)) hk hblk
     (setCells_rest g news _ w).1 (setCells_rest g news _ w).2.1 (setCells_rest g news _ w).2.2 (by rw [setCells_size]; exact Nat.le_refl _) (fun b' _ hne => hoth b' (fun e => hne (by subst e; exact hgh)))
     (fun b' j _ hnc => by
       have hne : b' ≠ g := fun e => hnc (by subst e; exact (covers_nocells rfl).2 hgh)
       exact ⟨World.cell?_of_block (w := w) (hoth b' hne), World.frozen?_of_block (w := w) (hoth b' hne)⟩)
     (fun b' _ hpb => .inr (.inr fun j => (covers_nocells rfl).2 hpb)) (.inr (.inr ⟨_, _, _, _, _, _, rfl, rfl, Nat.le_succ _, fun e => absurd e (by omega)⟩)) (fun b' hb' => .inl (hhas b' hb')) (fun b' j hc => .inl ((covers_nocells rfl).2 (hhas b' ((covers_nocells rfl).1 hc))))
     ⟨rfl, hok, by rw [hjl, List.length_append, List.length_take, List.length_drop, l1]; omega, ⟨fun i j u u' b' hne hu hu' hb' => by
         rw [hju] at hu hu'
         split at hu
         . split at hu'
           . exact l2.1 i j u u' b' hne hu hu' hb'
           . exact l2.1 i _ u u' b' (by omega) hu hu' hb'
         . split at hu'
           . exact l2.1 _ j u u' b' (by omega) hu hu' hb'
           . exact l2.1 _ _ u u' b' (by omega) hu hu' hb', fun i u b' hu hb' hv => by
         rw [hju] at hu
         split at hu
         . exact l2.2 _ u b' hu hb' hv
         . exact l2.2 _ u b' hu hb' hv⟩, fun i u x hu hx _ => by
         rw [hju] at hu
         rw [hjx] at hx
         have up : ∀ q, us[q]? = some u -> xs[q]? = some x -> Inner (w.setCells g (a * esz c) news) ei (dIn c) u (dGet c x) := fun q h1 h2 =>
           (l3 q u x h1 h2 rfl).map fun b' hb' => hoth b' fun e => by subst e; exact l2.2 q u b' h1 hb' rfl
         split at hu
         . rename_i hlt; rw [if_pos hlt] at hx; exact up _ hu hx
         . rename_i hlt; rw [if_neg hlt] at hx; exact up _ hu hx, fun i l hh => (by cases hh), .inr ⟨g, cap, cur', by rw [hjl], p1, by rw [hjl]; omega, k2', by rw [<- p2]; exact k3, fun i j x d hx hd => by
         have hj : j < esz c := by have := (List.getElem?_eq_some_iff.1 hd).1; rw [enc_len] at this; exact this
         rw [hjx] at hx
         have up : ∀ {u' : Value} {d : D}, RepI w (fun _ => False) u' d -> RepI (w.setCells g (a * esz c) news) (fun _ => False) u' d := fun hr => hr.mono (fun _ hb => hb) (fun _ hb => hb.elim)
         split at hx
         . rename_i hlt
           obtain ⟨u, z1, z2, z3, z4, _⟩ := k4 i j x d hx hd
           have hlt2 : i * esz c + j < a * esz c := mul_lt_of hlt hj
           refine ⟨u, by rw [p3 _ (.inl hlt2)]; exact z1, z2, fun h => up (z3 h), fun h _ => by rw [hju, if_pos hlt]; exact z4 h rfl, fun _ _ _ hh => by cases hh⟩
         . rename_i hlt
           obtain ⟨u, z1, z2, z3, z4, _⟩ := k4 _ j x d hx hd
           have hil : b + (i - a) < xs.length := (List.getElem?_eq_some_iff.1 hx).1
           have e2 : i * esz c + j = a * esz c + ((i - a) * esz c + j) := by
             rw [<- Nat.add_assoc, <- Nat.add_mul]; congr 2; omega
           have e3 : b * esz c + ((i - a) * esz c + j) = (b + (i - a)) * esz c + j := by rw [Nat.add_mul, Nat.add_assoc]
           refine ⟨u, by rw [e2, p4 _ (mul_lt_of (by omega) hj), e3]; exact z1, z2, fun h => up (z3 h), fun h _ => by rw [hju, if_neg hlt]; exact z4 h rfl, fun _ _ _ hh => by cases hh⟩⟩⟩
   rw [hz0] at hexec
   refine ⟨_, _, .inl (hexec hrun), upd β k (.deep (.slice (some ⟨g, 0, none⟩) (a + n) cap) (ver' + 1) (us.take a ++ us.drop b)), U, ?_⟩
   show SimB w0 U0 X β0 _ U ((s.set k (.deep (ver' + 1) e1 ei c none (xs.take a ++ xs.drop b))).put o.dst (.one (.dp k (ver' + 1) (xs.take a ++ xs.drop b).length xs.length))) _ _
   rw [hjl]
   exact hs1.put (repDp (upd_self _ _ _) (by omega) k1 (fun e => by cases e) (fun x hx => by cases hx; exact ⟨g, rfl⟩)) hd

theorem zdClear_sem {o : Oper} {args : Array Operand} {ats : Array TypeId} {ρ : Operand -> V} {m : Nat -> Option Blk} (hop : o.op = .call { callee := .builtin .clear, args := args, argTypes := ats }) (hρ : ∀ y ∈ o.op.operands, s.eval y = ρ y)
   (hm : ∀ k ∈ effKeys o.dst o.op ρ, s.blk k = m k) (hd : ∀ d, o.dst = some d -> d < s.n)
   {T : Tr Out} {E : Out} (h : zdClear P o.dst args.toList ats.toList ρ m = some T) (hT : T.eval = some E) : SemStep P o s E := by
 unfold zdClear at h
 rw [hop] at hρ hm
 split at h
 case h_2 => cases h
 rename_i x t hargs hats
 split at h
 case h_2 => cases h
 rename_i e k ver sz off n hte hxe
 split at h
 case h_2 => cases h
 rename_i v1 e1 ei c hole xs hmk
 split at h
 case h_2 => cases h
 rename_i hcnd
 simp only [decide_eq_true_eq] at hcnd
 obtain ⟨rfl, rfl, rfl, hsz, hz⟩ := hcnd
 cases h
 obtain ⟨g1, g2⟩ := Tr.eval_grd hT
 cases g2
 simp only [decide_eq_true_eq] at g1
 have ht := telem_iff hte
 obtain ⟨zs, hz⟩ := Option.isSome_iff_exists.1 hz
 have hargs' : args = #[x] := by cases args; simp_all
 have hats' : ats = #[t] := by cases ats; simp_all
 subst hargs'; subst hats'
 have hx : s.eval x = ρ x := hρ x (by simp [Op.operands, Call.operands])
 have hblk : s.blk k = some (.deep ver e1 ei c hole xs) := by rw [hm k (by simp [effKeys, hxe, V.keys, C.keys])]; exact hmk
 intro w0 U0 X β0 β U act w hs
 have hv := hs.eval x
 rw [hx, hxe] at hv
 obtain ⟨a0, cap0, v0, ver0, us, hv0, hk, hle, hsub⟩ := hv.toC
 obtain ⟨p, hp, hr⟩ := hs.mem k _ hblk
 rw [hk] at hp; cases hp
 have h0 := hr.1
 subst h0
 obtain ⟨i, zv, hi, hzz, hrep, hz1, hzs⟩ := tzero_sound (w := w) (β := fun _ => none) (U := fun _ => True) (base := 0) hz
 have his : esz c = i.size := by rw [hsz]; simp [Program.cellsOf, hi]
 have hexec : ∀ {v' : Value} {w' : World}, (Builtin.clear_ #[t] o.type #[.slice a0 n cap0]).run P w = .ok v' w' -> (execOp act.eval o).run P w = .ok (.value v') w' := by
   intro v' w' hr
   simp only [execOp, hop, resolve, Sem.run_bind, Sem.run_pure, Result.andThen_ok, invoke, builtin, List.map_toArray, List.map_cons, List.map_nil, hv0, hr]
 have same : SimB w0 U0 X β0 β U (s.set k (.deep ver e1 ei c hole xs)) act w := hs.congr rfl rfl fun q => by
   rw [St.blk_set]
   split
   . rename_i e2; subst e2; exact hblk.symm
   . rfl
 by_cases hl0 : n = 0
 . subst hl0
   have hrun : (Builtin.clear_ #[t] o.type #[.slice a0 0 cap0]).run P w = .ok (.tuple #[]) w := by
     cases a0 <;> simp [Builtin.clear_, run_underlying ht]
   refine ⟨_, w, .inl (hexec hrun), β, U, ?_⟩
   show SimB w0 U0 X β0 β U ((s.set k (.deep ver e1 ei c hole xs)).put o.dst (.one .bad)) _ _
   exact SimB.put same (RepV.bad _) hd
 . have hr' := hr
   obtain ⟨_, hok, l1, l2, l3, l4, l5⟩ := hr
   rcases hsub rfl with ⟨_, _, e, _⟩ | ⟨g, n', cc, rfl, f1, rfl, rfl⟩
   . exact absurd e hl0
   rcases l5 with ⟨e, _⟩ | ⟨g', cap', cur, e, hg, k1, k2', k3, k4⟩
   . cases e
   cases e
   rw [if_pos (by omega)] at hexec
   have hpos : 0 < esz c := by have := dIc_lt hok; omega
   generalize hus : ((Array.range (n * zv.cells.size)).map (zv.cells[· % zv.cells.size]!)).toList = ul
   have husl : ul.length = n * esz c := by rw [<- hus]; simp [hzs, his]
   have hone : ∀ u ∈ ul, u.oneCell' = true := by
     intro u hu
     rw [<- hus] at hu
     simp only [Array.toList_map, Array.toList_range, List.mem_map] at hu
     obtain ⟨q, hq, rfl⟩ := hu
     have hlt : q % zv.cells.size < zv.cells.size := Nat.mod_lt _ (by omega)
     have : zv.cells[q % zv.cells.size]! = zv.cells[q % zv.cells.size] := by simp [hlt]
     rw [this]; exact hz1 _ (by simp)
   have hfit : off * esz c + ul.length <= cur.size := by rw [husl, k3, <- Nat.add_mul]; exact Nat.mul_le_mul_right _ f1
   have hst := run_storeCells_cells (P := P) g (off * esz c) ul 0 w (fun j hj => by
      simp only [World.cell?, hg, Nat.add_zero]
      rw [Array.getElem?_eq_getElem (by omega)]; rfl) (fun j hj => by simp [World.frozen?, hg]) hone
   rw [Nat.add_zero] at hst
   have hrun : (Builtin.clear_ #[t] o.type #[.slice (some ⟨g, off * esz c, none⟩) n (cc - off)]).run P w = .ok (.tuple #[]) (w.setCells g (off * esz c) ul) := by
     obtain ⟨m', rfl⟩ : ∃ m', n = m' + 1 := ⟨n - 1, by omega⟩
     have hzc : (Builtin.zeroCells zv.cells (m' + 1)).toList = ul := by rw [<- hus]; rfl
     have hv : (zeroValue e1).run P w = .ok zv w := by simp [zeroValue, typeInfo, hi, hzz]
     simp [Builtin.clear_, run_underlying ht, hv, hzc, hst]
   obtain ⟨cur', p1, p2, p3⟩ := setCells_shape g ul (off * esz c) w cur e1 (0, 0) hg
   have hoth : ∀ b', b' ≠ g -> (w.setCells g (off * esz c) ul).heap[b']? = w.heap[b']? := fun b' hb' => setCells_other g ul _ w b' hb'
   have hs1 := hs.storeDeep (us' := us) (o := off * esz c) (ul := ul) hblk hk (fun b hb => hb) (blk' := .deep ver e1 ei c hole xs)
     ⟨rfl, hok, l1, l2, fun i u x hu hx hn => (l3 i u x hu hx hn).map fun b' hb' => hoth b' fun e => by subst e; exact l2.2 i u b' hu hb' rfl, l4, .inr ⟨g, cc, cur', rfl, p1, k1, k2', by rw [<- p2]; exact k3, fun i j x d hx hd => by
      obtain ⟨u, z1, z2, z3, z4, z5⟩ := k4 i j x d hx hd
      have hj : j < esz c := by have := (List.getElem?_eq_some_iff.1 hd).1; rw [enc_len] at this; exact this
      have hil := (List.getElem?_eq_some_iff.1 hx).1
      have hlt : i * esz c + j < off * esz c := mul_lt_of (by omega) hj
      refine ⟨u, by rw [p3 _ (.inl hlt)]; exact z1, z2, fun h => (z3 h).mono (fun _ hb => hb) (fun _ hb => hb.elim), z4, fun h k' ver' hh => ?_⟩
      obtain ⟨vv1, ver1, q1, q2, q3⟩ := z5 h k' ver' hh
      exact ⟨vv1, ver1, by rw [upd_ne _ (fun e => by subst e; rw [hk] at q1; cases q1)]; exact q1, q2, q3⟩⟩⟩
   refine ⟨_, _, .inl (hexec hrun), upd β k (.deep (.slice (some ⟨g, 0, none⟩) xs.length cc) ver us), U, ?_⟩
   show SimB w0 U0 X β0 _ U ((s.set k (.deep ver e1 ei c hole xs)).put o.dst (.one .bad)) _ _
   exact hs1.put (RepV.bad _) hd
end
end Go.Proofs.Ythnijeclidpooaa.Abs
namespace Go.Proofs.Ythnijeclidpooaa.Abs
open Go Go.RowKit
set_option linter.unusedVariables false
set_option linter.unusedSimpArgs false
def zdBuild (P : Program) (cod : TypeId -> Nat) (dst : Option Nat) (t : TypeId) (len : Nat) (parts : List (Nat × Operand)) (ρ : Operand -> V) (m : Nat -> Option Blk) : Option (Tr Out) :=
 match dst, telem P t, parts with
 | some d, some e, [(0, y)] => match look e dps, m d, tzero P e with
  | some ei, none, some zero => match decide (len = 1 /\ zero.length = esz (cod t) /\ esz (cod t) <= 2 ^ 24) && dOk (cod t), fillA (fun i => some (i * zero.length, zero.length)) ((List.range (1 * zero.length)).map fun i => zero.getD (i % zero.length) .bad) [(0, ρ y)] with
   | true, some cs => match (cs.set (dIc (cod t)) (.d (.b true))).all C.flatV, cs[dIc (cod t)]? with
    | true, some (.own k2 v2 _) => match m k2 with
     | some (.rowT v2' e2 c2 ap _ ys) => if hc : c2 = dIn (cod t) then (match decide (v2 = v2' /\ e2 = ei /\ ap = true /\ d ≠ k2 /\ k2 ∈ (ρ y).keys), (cs.set (dIc (cod t)) (.d (.st (dIn (cod t)) (hc ▸ ys)))).mapM toD with
      | true, some ds => match decG (cod t) ds with
       | some T => some (T.bind fun x => .ret ⟨.one (.dp d 0 1 1), [(d, .deep 0 e ei (cod t) none [x]), (k2, .rowT (v2 + 1) ei (dIn (cod t)) true true [])]⟩)
       | none => none
      | _, _ => none) else none
     | _ => none
    | true, some .nil => match (cs.set (dIc (cod t)) (.d (.st (dIn (cod t)) []))).mapM toD with
     | some ds => match decG (cod t) ds with
      | some T => some (T.bind fun x => .ret ⟨.one (.dp d 0 1 1), [(d, .deep 0 e ei (cod t) none [x])]⟩)
      | none => none
     | none => none
    | _, _ => none
   | _, _ => none
  | _, _, _ => none
 | _, _, _ => none
def zdApp (P : Program) (dst : Option Nat) (args : List Operand) (ats : List TypeId) (ρ : Operand -> V) (m : Nat -> Option Blk) : Option (Tr Out) :=
 match dst, args, ats with
 | some _, [x, y], [t, t'] => match telem P t, ρ x, ρ y with
  | some e, .one (.dp k ver _ _), .one (.dp k2 ver2 _ _) => match m k, m k2 with
   | some (.deep v1 e1 ei c none xs), some (.deep v2 e2 ei2 c2 none ys) => if hc : c2 = c then (match decide (t = t' /\ ver = v1 /\ ver2 = v2 /\ e1 = e /\ e2 = e /\ ei2 = ei /\ k ≠ k2 /\ esz c = P.cellsOf e /\ 0 < esz c /\ (tzero P e).isSome) with
    | true => some (.grd (decide ((xs.length + (hc ▸ ys : List (τ c)).length) * P.bytesOf e <= 140737488355328 /\ xs.length + (hc ▸ ys : List (τ c)).length <= maxLen)) (.ret ⟨.one (.dp k (ver + 1) (xs ++ (hc ▸ ys : List (τ c))).length (xs ++ (hc ▸ ys : List (τ c))).length), [(k, .deep (ver + 1) e ei c none (xs ++ (hc ▸ ys : List (τ c)))), (k2, .deep (ver2 + 1) e ei c none [])]⟩))
    | false => none) else none
   | _, _ => none
  | _, _, _ => none
 | _, _, _ => none
section
variable {P : Program} {w0 : World} {U0 : Nat -> Prop} {X : Nat -> Nat -> Prop} {β0 β : Nat -> Option Place} {U : Nat -> Prop} {s : St} {a : Act} {w : World} {base : Nat}
theorem dSet_self {c : Nat} (hc : dOk c = true) (x : τ c) : dSet c x (dGet c x) = x := by
 rcases dOk_cases hc with rfl | rfl | rfl <;> rfl
theorem RepI.ofFlat' {w w' : World} {U U' : Nat -> Prop} {v : Value} {d : D} (h : RepI w U v d) (hf : d.flat = true) : RepI w' U' v d := by
 cases h with
 | i k n => exact .i k n
 | b x => exact .b x
 | s l => exact .s l
 | z v h1 => exact .z _ h1
 | nil => simp [D.flat] at hf
 | sl => simp [D.flat] at hf
 | st => simp [D.flat] at hf
 | tn => simp [D.flat] at hf
 | tr => simp [D.flat] at hf
theorem built_rep {g : Nat} {e ei : TypeId} {c : Nat} (hok : dOk c = true) {cur : Array Value} (hg : w.heap[g]? = some (.cells cur e (0, 0))) (hsz : cur.size = esz c) {cs : List C} (hl : cs.length = esz c) {w1 : World} {β1 : Nat -> Option Place} {U1 : Nat -> Prop} (hrep : ∀ (j : Nat) (u : Value) (q : C), cur[j]? = some u -> cs[j]? = some q -> RepC w1 β1 U1 base u q) (h1 : ∀ u ∈ cur.toList, u.oneCell' = true)
   {ys : List (τ (dIn c))} (hfl : (cs.set (dIc c) (.d (.b true))).all C.flatV = true) {ds : List D} (hds : (cs.set (dIc c) (.d (.st (dIn c) ys))).mapM toD = some ds) {x : τ c} (hw : WkDs ds (enc c x)) {β : Nat -> Option Place} {hole : Option (Nat × Option (Nat × Nat))}
   (hh : (hole = none /\ ys = [] /\ cs[dIc c]? = some .nil) \/ ∃ k2 v2, hole = some (0, some (k2, v2)) /\ ∀ u, cur[dIc c]? = some u -> ∃ v1 ver1, β k2 = some (.row v1 ver1) /\ v2 <= ver1 /\ (v2 = ver1 -> u = v1)) :
   dGet c x = ys /\ RepB w β U base (.deep (.slice (some ⟨g, 0, none⟩) 1 1) 0 [nilV]) (.deep 0 e ei c hole [x]) := by
 obtain ⟨hwl, hwg⟩ := WkDs_get hw
 obtain ⟨hdl, hdg⟩ := mapM_toD _ ds hds
 have hic := dIc_lt hok
 have hget : dGet c x = ys := by
   obtain ⟨d0, g4, g5⟩ := hwg _ _ (enc_dGet hok x)
   have := hdg (dIc c) (.d (.st (dIn c) ys)) d0 (by rw [List.getElem?_set_self (by omega)]) g4
   cases this
   exact g5.stEq
 refine ⟨hget, rfl, hok, rfl, ⟨fun i j u u' b hne hu hu' hb => ?_, fun i u b hu hb => ?_⟩, fun i u y hu hy hn => ?_, fun i l hl => ?_, .inr ⟨g, 1, cur, rfl, hg, Nat.le_refl _, by decide, by omega, fun i j y d hy hd => ?_⟩⟩
 . cases i with
   | zero => cases hu; simp [Value.ownBlock] at hb
   | succ i => simp at hu
 . cases i with
   | zero => cases hu; simp [Value.ownBlock] at hb
   | succ i => simp at hu
 . cases i with
   | succ i => simp at hu
   | zero =>
     cases hu; cases hy
     rcases hh with ⟨_, rfl, _⟩ | ⟨k2, v2, rfl, _⟩
     . rw [hget]; exact .inl ⟨rfl, rfl⟩
     . rw [noHole_self] at hn; cases hn
 . rcases hh with ⟨rfl, _⟩ | ⟨k2, v2, rfl, _⟩
   . cases hl
   . cases hl; exact ⟨Nat.lt_succ_self 0, rfl⟩
 . cases i with
   | succ i => simp at hy
   | zero =>
     cases hy
     rw [Nat.zero_mul, Nat.zero_add]
     have hj : j < esz c := by have := (List.getElem?_eq_some_iff.1 hd).1; rw [enc_len] at this; exact this
     have hjs : j < cur.size := by omega
     refine ⟨cur[j], by simp [hjs], h1 _ (by simp), fun hjc => ?_, fun hjc hn => ?_, fun hjc k' ver' hk => ?_⟩
     . obtain ⟨d0, g4, g5⟩ := hwg j d hd
       have hcj : (cs.set (dIc c) (.d (.st (dIn c) ys)))[j]? = some cs[j] := by rw [List.getElem?_set_ne (fun e => hjc e.symm)]; exact List.getElem?_eq_getElem (by omega)
       have h6 := hdg j _ d0 hcj g4
       have h5 := List.all_eq_true.1 hfl cs[j] (List.mem_iff_getElem?.2 ⟨j, by rw [List.getElem?_set_ne (fun e => hjc e.symm)]; exact List.getElem?_eq_getElem (by omega)⟩)
       have h4 := hrep j cur[j] cs[j] (by simp [hjs]) (List.getElem?_eq_getElem (by omega))
       refine RepI.wkD ?_ g5
       generalize cs[j] = cc at h4 h5 h6
       cases cc with
       | d x => cases h6; exact RepI.ofFlat' h4 h5
       | _ => cases h5
     . subst hjc
       rcases hh with ⟨_, _, hnil⟩ | ⟨k2, v2, rfl, _⟩
       . have h4 := hrep _ cur[dIc c] _ (by simp [hjs]) hnil
         have h4 : cur[dIc c] = nilV := h4
         rw [h4]; rfl
       . rw [noHole_self] at hn; cases hn
     . subst hjc
       rcases hh with ⟨rfl, _⟩ | ⟨k2, v2, rfl, hlk⟩
       . cases hk
       . cases hk; exact hlk _ (by simp [hjs])
theorem zdBuild_sem {cod : TypeId -> Nat} {o : Oper} {t : TypeId} {len : Nat} {parts : Array (Nat × Operand)} {ρ : Operand -> V} {m : Nat -> Option Blk} (hop : o.op = .buildSlice t len parts) (hρ : ∀ y ∈ o.op.operands, s.eval y = ρ y)
   (hm : ∀ k ∈ effKeys o.dst o.op ρ, s.blk k = m k) (hd : ∀ d, o.dst = some d -> d < s.n)
   {T : Tr Out} {E : Out} (h : zdBuild P cod o.dst t len parts.toList ρ m = some T) (hT : T.eval = some E) : SemStep P o s E := by
 unfold zdBuild at h
 rw [hop] at hρ hm
 split at h
 case h_2 => cases h
 rename_i d e y hdst hte hparts
 split at h
 case h_2 => cases h
 rename_i ei zero hei hmd hz
 split at h
 case h_2 => cases h
 rename_i cs hcnd hfill
 simp only [Bool.and_eq_true, decide_eq_true_eq] at hcnd
 obtain ⟨⟨rfl, hzl, hsm⟩, hok⟩ := hcnd
 have ht := telem_iff hte
 have hparts' : parts = #[(0, y)] := by cases parts; simp_all
 subst hparts'
 have hy : s.eval y = ρ y := hρ y (by simp [Op.operands])
 have hkd : s.blk d = none := by rw [hm d (by simp [effKeys, hdst])]; exact hmd
 have hic := dIc_lt hok
 -- the block
 have alloc : ∀ {w0 : World} {U0 : Nat -> Prop} {X : Nat -> Nat -> Prop} {β0 β : Nat -> Option Place} {U : Nat -> Prop} {act : Act} {w : World}, SimB w0 U0 X β0 β U s act w -> ∃ us' : Array Value, us'.size = esz (cod t) /\ cs.length = esz (cod t) /\
     (∀ (j : Nat) (u : Value) (q : C), us'[j]? = some u -> cs[j]? = some q -> RepC w β U w0.heap.size u q) /\ (∀ u ∈ us'.toList, u.oneCell' = true) /\ (execOp act.eval o).run P w = .ok (.value (.slice (some ⟨w.heap.size, 0, none⟩) 1 1)) (w.alloc (.cells us' e)) := by
   intro w0 U0 X β0 β U act w hs
   obtain ⟨z, i, hi, hzz, his, hzs, hzr, hz1⟩ := tzero_fill (w := w) (β := β) (U := U) (base := w0.heap.size) hz 1
   have hvy := hs.eval y
   rw [hy] at hvy
   obtain ⟨us', q1, q2, q3⟩ := fill_sound (w := w) (β := β) (U := U) (base := w0.heap.size) (fun i => some (i * zero.length, zero.length)) [(0, act.eval y)] [(0, ρ y)] _ _ cs ⟨rfl, hvy, trivial⟩ hzr hz1 hfill
   have hus : us'.size = esz (cod t) := by
     have hl1 : us'.size = ((Array.range (1 * zero.length)).map (z.cells[· % z.cells.size]!)).size := fill_size _ _ _ _ q1
     rw [hl1]; simp [hzl]
   refine ⟨us', hus, by have := q2.1; simp only [Array.length_toList] at this; omega, fun j u q hu hq => q2.2 j u q (by simpa using hu) hq, q3, ?_⟩
   simp only [execOp, hop]
   refine wrapV (run_buildSlice w t e 1 _ us' i z ht hi hzz (by rw [his]; omega) (by rw [his]; omega) ?_)
   rw [his]
   simpa using q1
 have hdk : ∀ {act : Act} {w0 w : World} {U0 : Nat -> Prop} {X : Nat -> Nat -> Prop} {β0 β : Nat -> Option Place} {U : Nat -> Prop}, SimB w0 U0 X β0 β U s act w -> d < 1000000 := fun hs => Nat.lt_of_lt_of_le (hd d hdst) (Nat.le_trans hs.small (by decide))
 have hnk : ∀ (w : World) (us : Array Value) (b : Nat), (Place.deep (.slice (some ⟨w.heap.size, 0, none⟩) 1 1) 0 [nilV]).has b -> w.heap.size <= b /\ b < (w.alloc (.cells us e)).heap.size := by
   intro w us b hb
   rcases hb with hb | ⟨u, hu, hb⟩
   . obtain rfl : w.heap.size = b := by simpa [Value.ownBlock] using hb
     rw [size_alloc]; omega
   . rw [List.mem_singleton] at hu; subst hu; simp [Value.ownBlock] at hb
 split at h
 . rename_i k2 v2 ln hfl hcell
   split at h
   case h_2 => cases h
   rename_i v2' e2 c2 ap fr ys hmk2
   split at h
   case isFalse => cases h
   rename_i hc2
   subst hc2
   split at h
   case h_2 => cases h
   rename_i ds hcc hds
   simp only [decide_eq_true_eq] at hcc
   obtain ⟨rfl, rfl, rfl, hne, hkin⟩ := hcc
   split at h
   case h_2 => cases h
   rename_i T' hdec
   cases h
   rw [Tr.eval_bind] at hT
   obtain ⟨x, hx, g2⟩ := Option.bind_eq_some_iff.1 hT
   cases g2
   have m2 : s.blk k2 = m k2 := hm k2 (by
     simp only [effKeys, List.flatMap_cons, List.flatMap_nil, List.append_nil]
     exact List.mem_append_right _ hkin)
   have hb2 : s.blk k2 = some (.rowT v2 e2 (dIn (cod t)) true fr ys) := m2.trans hmk2
   intro w0 U0 X β0 β U act w hs
   obtain ⟨us', hus, hl, hrep, h1, hrun⟩ := alloc hs
   have hj : dIc (cod t) < us'.size := by omega
   obtain ⟨ao, cap, u0, uver, hu1, hu2, hu3, hu4, hu5, hu6, hu7⟩ := hrep _ us'[dIc (cod t)] _ (by simp [hj]) hcell
   obtain ⟨hget, hrb⟩ := built_rep (w := w.alloc (.cells us' e)) (U := U) (base := w0.heap.size) (ei := e2) hok (heap_alloc_new w _) hus hl hrep h1 hfl hds (decG_wk hdec hx) (β := upd β d (.deep (.slice (some ⟨w.heap.size, 0, none⟩) 1 1) 0 [nilV])) (hole := some (0, some (k2, v2)))
     (.inr ⟨k2, v2, rfl, fun u hu => ⟨u0, uver, by rw [upd_ne _ hne]; exact hu5, hu6, fun e => by
       have : us'[dIc (cod t)]? = some us'[dIc (cod t)] := by simp [hj]
       rw [this] at hu; cases hu; exact hu7 e⟩⟩)
   obtain ⟨hs1, _⟩ := hs.newKey (k := d) (w' := w.alloc (.cells us' e)) (hdk hs) hkd rfl rfl rfl (by simp) (fun b hb => Below.heap_alloc _ _ _ hb) (hnk w us') hrb
   obtain ⟨β', hs2, vv, us1, us2, hb1, hb3⟩ := hs1.putBack hne (by rw [St.blk_set, if_pos rfl]) (by rw [St.blk_set, if_neg hne]; exact hb2)
   rw [upd_self] at hb1; cases hb1
   refine ⟨_, _, .inl hrun, β', U, ?_⟩
   rw [hdst]
   have hmod : ([x].modify 0 fun x => dSet (cod t) x ys) = [x] := by
     show [dSet (cod t) x ys] = [x]
     have hget' : dGet (cod t) x = ys := hget
     rw [<- hget', dSet_self hok]
   rw [hmod] at hs2
   refine SimB.put (s := s.upd [(d, _), (k2, _)]) (hs2.congr rfl rfl fun q => ?_) (repDp hb3 (Nat.le_refl _) (Nat.le_refl _) (fun e => by cases e) (fun x hx => by cases hx; exact ⟨_, rfl⟩)) (fun d' e' => by cases e'; exact hd d hdst)
   show look q ((d, _) :: (k2, _) :: s.mem) = look q ((d, _) :: (k2, _) :: (d, _) :: s.mem)
   simp only [look_cons]
   split
   . rfl
   . split
     . rfl
     . rfl
 . rename_i hfl hcell
   split at h
   case h_2 => cases h
   rename_i ds hds
   split at h
   case h_2 => cases h
   rename_i T' hdec
   cases h
   rw [Tr.eval_bind] at hT
   obtain ⟨x, hx, g2⟩ := Option.bind_eq_some_iff.1 hT
   cases g2
   intro w0 U0 X β0 β U act w hs
   obtain ⟨us', hus, hl, hrep, h1, hrun⟩ := alloc hs
   obtain ⟨hget, hrb⟩ := built_rep (w := w.alloc (.cells us' e)) (U := U) (base := w0.heap.size) (ei := ei) hok (heap_alloc_new w _) hus hl hrep h1 (ys := []) (by
       rw [List.all_eq_true] at hfl ⊢; exact hfl) hds (decG_wk hdec hx) (β := upd β d (.deep (.slice (some ⟨w.heap.size, 0, none⟩) 1 1) 0 [nilV])) (hole := none) (.inl ⟨rfl, rfl, hcell⟩)
   obtain ⟨hs1, _⟩ := hs.newKey (k := d) (w' := w.alloc (.cells us' e)) (hdk hs) hkd rfl rfl rfl (by simp) (fun b hb => Below.heap_alloc _ _ _ hb) (hnk w us') hrb
   refine ⟨_, _, .inl hrun, upd β d (.deep (.slice (some ⟨w.heap.size, 0, none⟩) 1 1) 0 [nilV]), U, ?_⟩
   rw [hdst]
   exact SimB.put (s := s.set d _) hs1 (repDp (upd_self _ _ _) (Nat.le_refl _) (Nat.le_refl _) (fun e => by cases e) (fun x hx => by cases hx; exact ⟨_, rfl⟩)) (fun d' e' => by cases e'; exact hd d hdst)
 . cases h
def zRows (n sz : Nat) (cur : Array Value) : List (List D) := (List.range n).map fun i => (List.range sz).map fun j => .z (cur.getD (i * sz + j) undef)
theorem zRows_len {n sz : Nat} {cur : Array Value} : (zRows n sz cur).length = n := by simp [zRows]
theorem zRows_each {n sz : Nat} {cur : Array Value} : ∀ r ∈ zRows n sz cur, r.length = sz := fun r hr => by
 simp only [zRows, List.mem_map] at hr
 obtain ⟨i, _, rfl⟩ := hr
 simp
theorem zRows_get {n sz : Nat} {cur : Array Value} {i j : Nat} (hi : i < n) (hj : j < sz) : ∃ r, (zRows n sz cur)[i]? = some r /\ r[j]? = some (.z (cur.getD (i * sz + j) undef)) := by
 refine ⟨(List.range sz).map fun j => .z (cur.getD (i * sz + j) undef), ?_, ?_⟩
 . simp only [zRows, List.getElem?_map, List.getElem?_range hi, Option.map_some]
 . simp only [List.getElem?_map, List.getElem?_range hj, Option.map_some]
theorem zRows_inv {n sz : Nat} {cur : Array Value} {i j : Nat} {r : List D} {d : D} (hi : (zRows n sz cur)[i]? = some r) (hj : r[j]? = some d) : i < n /\ j < sz /\ d = .z (cur.getD (i * sz + j) undef) := by
 have h1 : i < n := by have := (List.getElem?_eq_some_iff.1 hi).1; rwa [zRows_len] at this
 have h2 : j < sz := by have := (List.getElem?_eq_some_iff.1 hj).1; rwa [zRows_each r (List.mem_of_getElem? hi)] at this
 obtain ⟨r', e1, e2⟩ := zRows_get (cur := cur) h1 h2
 rw [e1] at hi; cases hi
 rw [e2] at hj; cases hj
 exact ⟨h1, h2, rfl⟩
theorem RepI.zEq {U : Nat -> Prop} {u u0 : Value} (h : RepI w U u (.z u0)) : u = u0 := by cases h; rfl
theorem zdApp_sem {o : Oper} {args : Array Operand} {ats : Array TypeId} {ρ : Operand -> V} {m : Nat -> Option Blk} (hop : o.op = .call { callee := .builtin .append, args := args, argTypes := ats }) (hρ : ∀ y ∈ o.op.operands, s.eval y = ρ y)
  (hm : ∀ k ∈ effKeys o.dst o.op ρ, s.blk k = m k) (hd : ∀ d, o.dst = some d -> d < s.n)
  {T : Tr Out} {E : Out} (h : zdApp P o.dst args.toList ats.toList ρ m = some T) (hT : T.eval = some E) : SemStep P o s E := by
 unfold zdApp at h
 rw [hop] at hρ hm
 split at h
 case h_2 => cases h
 rename_i d x y t t' hdst hargs hats
 split at h
 case h_2 => cases h
 rename_i e k ver len1 rm1 k2 ver2 len2 rm2 hte hxe hye
 split at h
 case h_2 => cases h
 rename_i v1 e1 ei c xs v2 e2 ei2 c2 ys hmk hmk2
 split at h
 case isFalse => cases h
 rename_i hc2
 subst hc2
 split at h
 case h_2 => cases h
 rename_i hcnd
 simp only [decide_eq_true_eq] at hcnd
 obtain ⟨rfl, rfl, rfl, rfl, rfl, rfl, hne, hsz, hpos, hz⟩ := hcnd
 cases h
 obtain ⟨g1, g2⟩ := Tr.eval_grd hT
 cases g2
 simp only [decide_eq_true_eq] at g1
 obtain ⟨hby, hmax⟩ := g1
 have ht := telem_iff hte
 obtain ⟨zs, hz⟩ := Option.isSome_iff_exists.1 hz
 have hargs' := telemArg hargs
 have hats' := tArg hats
 subst hargs'; subst hats'
 have hx : s.eval x = ρ x := hρ x (by simp [Op.operands, Call.operands])
 have hy : s.eval y = ρ y := hρ y (by simp [Op.operands, Call.operands])
 have hblk : s.blk k = some (.deep ver e2 ei2 c2 none xs) := by rw [hm k (by simp [effKeys, hxe, V.keys, C.keys])]; exact hmk
 have hblk2 : s.blk k2 = some (.deep ver2 e2 ei2 c2 none ys) := by rw [hm k2 (by simp [effKeys, hye, V.keys, C.keys])]; exact hmk2
 intro w0 U0 X β0 β U act w hs
 have hv := hs.eval x
 rw [hx, hxe] at hv
 obtain ⟨a0, cap0, v0, ver0, us, hv0, q1, q2, q3, q4, hk, hle, hsub⟩ := hv.toC
 have hv2 := hs.eval y
 rw [hy, hye] at hv2
 obtain ⟨a2, cap2, v2, ver2', us2, hv20, q5, q6, q7, q8, hk2, hle2, hsub2⟩ := hv2.toC
 obtain ⟨p, hp, hr⟩ := hs.mem k _ hblk
 rw [hk] at hp; cases hp
 obtain ⟨p, hp, hr2⟩ := hs.mem k2 _ hblk2
 rw [hk2] at hp; cases hp
 obtain ⟨h0, hok, l1, l2, l3, l4, l5⟩ := hr
 obtain ⟨h02, _, m1, m2, m3, m4, m5⟩ := hr2
 subst h0; subst h02
 have hvx := hsub rfl
 have hvy := hsub2 rfl
 rw [hv0] at hvx; rw [hv20] at hvy
 subst hvx; subst hvy
 have hexec : ∀ {v' : Value} {w' : World}, (Builtin.append_ #[t, t] o.type #[.slice a0 len1 cap0, .slice a2 len2 cap2]).run P w = .ok v' w' -> (execOp act.eval o).run P w = .ok (.value v') w' := by
  intro v' w' hr
  simp only [execOp, hop, resolve, Sem.run_bind, Sem.run_pure, Result.andThen_ok, invoke, builtin, List.map_toArray, List.map_cons, List.map_nil, hv0, hv20, hr]
 -- the two rows' cells
 obtain ⟨cur, hcur⟩ : ∃ cur : Array Value, RowRel w (fun _ => False) e2 (esz c2) (.slice a0 len1 cap0) (zRows xs.length (esz c2) cur) /\
    ∀ (i j : Nat) (x : τ c2) (d : D), xs[i]? = some x -> (enc c2 x)[j]? = some d -> ∃ u, cur[i * esz c2 + j]? = some u /\ u.oneCell' = true /\ (j ≠ dIc c2 -> RepI w (fun _ => False) u d) /\ (j = dIc c2 -> us[i]? = some u) := by
  rcases l5 with ⟨e1, rfl⟩ | ⟨g, cap, cur, e1, hg, k1, k2', k3, k4⟩
  . exact ⟨#[], .inl ⟨e1, rfl⟩, fun i j x d hi => by simp at hi⟩
  . refine ⟨cur, .inr ⟨g, cap, cur, (0, 0), by rw [zRows_len]; exact e1, hg, by rw [zRows_len]; exact k1, k2', k3, rfl, fun i j r d hi hj => ?_⟩, fun i j x d hi hj => ?_⟩
    . obtain ⟨z1, z2, rfl⟩ := zRows_inv hi hj
      obtain ⟨u, y1, y2, _⟩ := k4 i j xs[i] ((enc c2 xs[i])[j]'(by rw [enc_len]; exact z2)) (List.getElem?_eq_getElem z1) (List.getElem?_eq_getElem _)
      refine ⟨u, y1, y2, ?_⟩
      rw [Array.getD_eq_getD_getElem?, y1]
      exact .z _ y2
    . obtain ⟨u, y1, y2, y3, y4, _⟩ := k4 i j x d hi hj
      exact ⟨u, y1, y2, y3, fun e => y4 e rfl⟩
 obtain ⟨cur2, hn2, hc2, hcur2⟩ : ∃ cur2 : Array Value, (a2 = none -> zRows ys.length (esz c2) cur2 = [] /\ cap2 = 0) /\ (∀ ad, a2 = some ad -> zRows ys.length (esz c2) cur2 ≠ [] -> ad.spot = none /\ ∀ (i j : Nat) (r : List D) (d : D), (zRows ys.length (esz c2) cur2)[i]? = some r -> r[j]? = some d -> ∃ u, w.cell? ⟨ad.block, ad.off + i * esz c2 + j, none⟩ = some u /\ u.oneCell' = true /\ RepI w (fun _ => False) u d) /\
    ∀ (i j : Nat) (x : τ c2) (d : D), ys[i]? = some x -> (enc c2 x)[j]? = some d -> ∃ u, cur2[i * esz c2 + j]? = some u /\ u.oneCell' = true /\ (j ≠ dIc c2 -> RepI w (fun _ => False) u d) /\ (j = dIc c2 -> us2[i]? = some u) := by
  rcases m5 with ⟨e1, rfl⟩ | ⟨g, cap, cur, e1, hg, k1, k2', k3, k4⟩
  . cases e1
    exact ⟨#[], fun _ => ⟨rfl, rfl⟩, (fun ad e => by cases e), fun i j x d hi => by simp at hi⟩
  . cases e1
    refine ⟨cur, (fun e => by cases e), fun ad e _ => ?_, fun i j x d hi hj => ?_⟩
    . cases e
      refine ⟨rfl, fun i j r d hi hj => ?_⟩
      obtain ⟨z1, z2, rfl⟩ := zRows_inv hi hj
      obtain ⟨u, y1, y2, _⟩ := k4 i j ys[i] ((enc c2 ys[i])[j]'(by rw [enc_len]; exact z2)) (List.getElem?_eq_getElem z1) (List.getElem?_eq_getElem _)
      refine ⟨u, ?_, y2, ?_⟩
      . rw [Nat.zero_add]; simp only [World.cell?, hg]; exact y1
      . rw [Array.getD_eq_getD_getElem?, y1]; exact .z _ y2
    . obtain ⟨u, y1, y2, y3, y4, _⟩ := k4 i j x d hi hj
      exact ⟨u, y1, y2, y3, fun e => y4 e rfl⟩
 have hl2 : len2 = ys.length := by
  rcases m5 with ⟨e1, rfl⟩ | ⟨g, cap, cur, e1, _⟩
  . cases e1; rfl
  . cases e1; rfl
 subst hl2
 obtain ⟨v', w', hrun, hgrow, hob, hlt, hrow⟩ := append_core (P := P) (w := w) (UU := fun _ => False) (t := t) (ty := o.type) (rows := zRows xs.length (esz c2) cur) (new := zRows ys.length (esz c2) cur2) ht hz hsz hpos hcur.1 zRows_each zRows_each hn2 hc2
  (by rw [zRows_len, zRows_len]; exact hmax) (by rw [zRows_len, zRows_len]; exact hby) (fun b hb => hb.elim)
 rw [zRows_len] at hrun
 have hlen : (xs ++ ys).length = xs.length + ys.length := List.length_append
 -- the new header
 have hv'len : ∃ (a' : Option Addr) (cap' : Nat), v' = .slice a' (xs.length + ys.length) cap' /\ xs.length + ys.length <= cap' /\ (a' = none -> xs.length + ys.length = 0 /\ cap' = 0) /\ ∀ x, a' = some x -> ∃ g, x = ⟨g, 0, none⟩ := by
  rcases hrow with ⟨e1, e2⟩ | ⟨g, cap, cur', fz, e1, _, e3, _⟩
  . have := congrArg List.length e2
    rw [List.length_append, zRows_len, zRows_len] at this
    have this : xs.length + ys.length = 0 := this
    exact ⟨none, 0, by rw [e1, this], by omega, fun _ => ⟨this, rfl⟩, fun x hx => by cases hx⟩
  . rw [List.length_append, zRows_len, zRows_len] at e1 e3
    exact ⟨_, cap, e1, e3, fun e => (by cases e), fun x hx => (by cases hx; exact ⟨g, rfl⟩)⟩
 have hul : us.length = xs.length := l1
 have hul2 : us2.length = ys.length := m1
 have hu : ∀ i, (us ++ us2)[i]? = if i < xs.length then us[i]? else us2[i - xs.length]? := fun i => by
  split
  . rw [List.getElem?_append_left (by omega)]
  . rw [List.getElem?_append_right (by omega), hul]
 have hx' : ∀ i, (xs ++ ys)[i]? = if i < xs.length then xs[i]? else ys[i - xs.length]? := fun i => by
  split
  . rw [List.getElem?_append_left (by omega)]
  . rw [List.getElem?_append_right (by omega)]
 have hap : ∀ b, (Place.deep (.slice a0 len1 cap0) ver us).has b -> ¬ (Place.deep (.slice a2 ys.length cap2) ver2 us2).has b := fun b h1 h2 => hs.hasApart hne hk hk2 rfl h1 h2
 have hin1 : ∀ (i : Nat) (u : Value) (b : Nat), us[i]? = some u -> u.ownBlock = some b -> (Place.deep (.slice a0 len1 cap0) ver us).has b := fun i u b h1 h2 => .inr ⟨u, List.mem_of_getElem? h1, h2⟩
 have hin2 : ∀ (i : Nat) (u : Value) (b : Nat), us2[i]? = some u -> u.ownBlock = some b -> (Place.deep (.slice a2 ys.length cap2) ver2 us2).has b := fun i u b h1 h2 => .inr ⟨u, List.mem_of_getElem? h1, h2⟩
 have hold1 : ∀ b, (Place.deep (.slice a0 len1 cap0) ver us).has b -> b < w.heap.size := fun b hb => hs.blockOld hk b hb
 have hold2 : ∀ b, (Place.deep (.slice a2 ys.length cap2) ver2 us2).has b -> b < w.heap.size := fun b hb => hs.blockOld hk2 b hb
 have hv'own : ∀ b, v'.ownBlock = some b -> (Value.slice a0 len1 cap0).ownBlock = some b \/ (w.heap.size = b /\ b < w'.heap.size) := fun b hb => by
  rcases hob with e | e
  . rw [e] at hb; exact .inl hb
  . have h9 := hlt b hb
    rw [e] at hb
    exact .inr ⟨by simpa using hb, h9⟩
 have hsep : DSep v' (us ++ us2) := by
  refine ⟨fun i j u u' b hne' hi hj hb => ?_, fun i u b hi hb hv => ?_⟩
  . rw [hu] at hi hj
    split at hi
    . split at hj
      . exact l2.1 i j u u' b hne' hi hj hb
      . exact fun e => hap b (hin1 _ _ _ hi hb) (hin2 _ _ _ hj e)
    . split at hj
      . exact fun e => hap b (hin1 _ _ _ hj e) (hin2 _ _ _ hi hb)
      . exact m2.1 _ _ u u' b (by omega) hi hj hb
  . rw [hu] at hi
    rcases hv'own b hv with e | ⟨e, _⟩
    . split at hi
      . exact l2.2 _ u b hi hb e
      . exact hap b (.inl e) (hin2 _ _ _ hi hb)
    . split at hi
      . have := hold1 b (hin1 _ _ _ hi hb); omega
      . have := hold2 b (hin2 _ _ _ hi hb); omega
 have hmapI : ∀ {u : Value} {ys' : List (τ (dIn c2))}, Inner w ei2 (dIn c2) u ys' -> (∀ b, u.ownBlock = some b -> b < w.heap.size /\ (Value.slice a0 len1 cap0).ownBlock ≠ some b) -> Inner w' ei2 (dIn c2) u ys' := fun hI hb => hI.map fun b hb' => hgrow.block b (hb b hb').1 (fun e => (hb b hb').2 e.symm)
 have hinner : ∀ (i : Nat) (u : Value) (x : τ c2), (us ++ us2)[i]? = some u -> (xs ++ ys)[i]? = some x -> Inner w' ei2 (dIn c2) u (dGet c2 x) := fun i u x hi hxi => by
  rw [hu] at hi
  rw [hx'] at hxi
  split at hi
  . rename_i hlt1; rw [if_pos hlt1] at hxi
    exact hmapI (l3 i u x hi hxi rfl) fun b hb => ⟨hold1 b (hin1 _ _ _ hi hb), l2.2 i u b hi hb⟩
  . rename_i hlt1; rw [if_neg hlt1] at hxi
    exact hmapI (m3 _ u x hi hxi rfl) fun b hb => ⟨hold2 b (hin2 _ _ _ hi hb), fun e => hap b (.inl e) (hin2 _ _ _ hi hb)⟩
 have up : ∀ {u' : Value} {d : D}, RepI w (fun _ => False) u' d -> RepI w' (fun _ => False) u' d := fun hr => hr.mono (fun _ hb => hb) (fun _ hb => hb.elim)
 have houter : ∀ {cur' : Array Value} (g cap : Nat), (∀ (i j : Nat) (r : List D) (d : D), (zRows xs.length (esz c2) cur ++ zRows ys.length (esz c2) cur2)[i]? = some r -> r[j]? = some d -> ∃ u, cur'[i * esz c2 + j]? = some u /\ u.oneCell' = true /\ RepI w' (fun _ => False) u d) ->
    ∀ (i j : Nat) (x : τ c2) (d : D), (xs ++ ys)[i]? = some x -> (enc c2 x)[j]? = some d -> ∃ u, cur'[i * esz c2 + j]? = some u /\ u.oneCell' = true /\ (j ≠ dIc c2 -> RepI w' (fun _ => False) u d) /\ (j = dIc c2 -> noHole none i = true -> (us ++ us2)[i]? = some u) /\ (j = dIc c2 -> ∀ k' ver', (none : Option (Nat × Option (Nat × Nat))) = some (i, some (k', ver')) -> ∃ v1 ver1, upd (upd β k (.deep v' (ver + 1) (us ++ us2))) k2 (.deep nilV (ver2 + 1) []) k' = some (.row v1 ver1) /\ ver' <= ver1 /\ (ver' = ver1 -> u = v1)) := by
  intro cur' g cap h8 i j x d hi hj
  have hjl : j < esz c2 := by have := (List.getElem?_eq_some_iff.1 hj).1; rw [enc_len] at this; exact this
  rw [hx'] at hi
  split at hi
  . rename_i hlt1
    obtain ⟨u, y1, y2, y3, y4⟩ := hcur.2 i j x d hi hj
    obtain ⟨r, z1, z2⟩ := zRows_get (cur := cur) hlt1 hjl
    obtain ⟨u', y5, y6, y7⟩ := h8 i j r _ (by rw [List.getElem?_append_left (by rw [zRows_len]; exact hlt1)]; exact z1) z2
    rw [Array.getD_eq_getD_getElem?, y1] at y7
    obtain rfl : u' = u := y7.zEq
    exact ⟨u', y5, y6, fun e => up (y3 e), fun e _ => by rw [hu, if_pos hlt1]; exact y4 e, fun _ _ _ hh => by cases hh⟩
  . rename_i hlt1
    have hi2 : i - xs.length < ys.length := (List.getElem?_eq_some_iff.1 hi).1
    obtain ⟨u, y1, y2, y3, y4⟩ := hcur2 _ j x d hi hj
    obtain ⟨r, z1, z2⟩ := zRows_get (cur := cur2) hi2 hjl
    obtain ⟨u', y5, y6, y7⟩ := h8 i j r _ (by rw [List.getElem?_append_right (by rw [zRows_len]; omega), zRows_len]; exact z1) z2
    rw [Array.getD_eq_getD_getElem?, y1] at y7
    obtain rfl : u' = u := y7.zEq
    exact ⟨u', y5, y6, fun e => up (y3 e), fun e _ => by rw [hu, if_neg hlt1]; exact y4 e, fun _ _ _ hh => by cases hh⟩
 have hs1 := hs.repl2 (w' := w') (p1' := .deep v' (ver + 1) (us ++ us2)) (p2' := .deep nilV (ver2 + 1) []) (b1' := .deep (ver + 1) e2 ei2 c2 none (xs ++ ys)) (b2' := .deep (ver2 + 1) e2 ei2 c2 none []) hne hk hk2 hblk hblk2 rfl rfl rfl rfl hgrow.os hgrow.tape hgrow.output hgrow.size
  (fun b hb n1 _ => hgrow.block b hb (fun e => n1 (.inl e.symm))) (.inr (.inr ⟨_, _, _, _, _, _, rfl, rfl, Nat.le_succ _, fun e => absurd e (by omega)⟩)) (.inr (.inr ⟨_, _, _, _, _, _, rfl, rfl, Nat.le_succ _, fun e => absurd e (by omega)⟩))
  (fun b hb => by
    rcases hb with hb | ⟨u, hu', hb⟩
    . rcases hv'own b hb with e | ⟨e1, e2⟩
      . exact .inl (.inl e)
      . exact .inr (.inr ⟨by omega, e2⟩)
    . rcases List.mem_append.1 hu' with hu' | hu'
      . exact .inl (.inr ⟨u, hu', hb⟩)
      . exact .inr (.inl (.inr ⟨u, hu', hb⟩)))
  (fun b hb => by
    rcases hb with hb | ⟨u, hu', hb⟩
    . simp [Value.ownBlock] at hb
    . simp at hu')
  (fun b _ hb => by
    rcases hb with hb | ⟨u, hu', hb⟩
    . simp [Value.ownBlock] at hb
    . simp at hu')
  ⟨rfl, hok, by rw [List.length_append, List.length_append, hul, hul2], hsep, fun i u x hi hxi _ => hinner i u x hi hxi, fun i l hh => (by cases hh), by
    rcases hrow with ⟨e1, e2⟩ | ⟨g, cap, cur', fz, e1, e2, e3, e4, e5, rfl, e7⟩
    . have h0 := congrArg List.length e2
      rw [List.length_append, zRows_len, zRows_len] at h0
      have h0 : xs.length + ys.length = 0 := h0
      exact .inl ⟨e1, List.length_eq_zero_iff.1 (by rw [hlen]; exact h0)⟩
    . rw [List.length_append, zRows_len, zRows_len] at e1 e3
      exact .inr ⟨g, cap, cur', by rw [hlen]; exact e1, e2, by rw [hlen]; exact e3, e4, e5, houter g cap e7⟩⟩
  ⟨rfl, hok, rfl, ⟨fun i j u u' b _ hi => (by simp at hi), fun i u b hi => (by simp at hi)⟩, fun i u x hi => (by simp at hi), fun i l hh => (by cases hh), .inl ⟨rfl, rfl⟩⟩
 obtain ⟨a', cap', rfl, r1, r2, r3⟩ := hv'len
 refine ⟨_, _, .inl (hexec hrun), upd (upd β k (.deep (.slice a' (xs.length + ys.length) cap') (ver + 1) (us ++ us2))) k2 (.deep nilV (ver2 + 1) []), U, ?_⟩
 show SimB w0 U0 X β0 _ U ((s.upd [(k, .deep (ver + 1) e2 ei2 c2 none (xs ++ ys)), (k2, .deep (ver2 + 1) e2 ei2 c2 none [])]).put o.dst (.one (.dp k (ver + 1) (xs ++ ys).length (xs ++ ys).length))) _ _
 rw [hlen]
 exact hs1.put (repDp (us := us ++ us2) (by rw [upd_ne _ (fun e => hne e.symm), upd_self]) (Nat.le_refl _) r1 r2 r3) hd
end
end Go.Proofs.Ythnijeclidpooaa.Abs
namespace Go.Proofs.Ythnijeclidpooaa.Abs
open Go Go.RowKit
set_option linter.unusedVariables false
set_option linter.unusedSimpArgs false
def rowOrJ (o : Option Blk) : Bool := match o with | none => true | some (.junk _ _ _ _ _) => true | _ => false
def jdC (k nv szi i : Nat) (pz : Option (List Nat)) (l : Nat × Nat) : C := match pz with
 | none => .own k nv l.1
 | some os => .sub k nv szi (os.getD i 0) (l.1 - os.getD i 0)
def zjTake (P : Program) (t : TypeId) (k ver : Nat) (e ei : TypeId) (sz ic szi : Nat) (pz : Option (List Nat)) (ls : List (Nat × Nat)) (i off nv : Nat) : Tr Out :=
 .opt (ls[i]?) fun l => match partC P t ((List.replicate sz C.bad).set ic (jdC (hkey k) nv szi i pz l)) off with
  | some v => .ret ⟨v, [(k, .jd ver e ei sz ic szi none pz (some (i, some (hkey k, nv))) ls), (hkey k, .junk nv ei szi l.1 l.2)]⟩
  | none => .fail 45
def jdInt (P : Program) (t : TypeId) (e : TypeId) (sz ic off : Nat) : Option V := match isJt e && !decide (off <= ic /\ ic < off + tsz P t) with
 | true => partC P t ((List.replicate sz C.ui).set ic .bad) off
 | false => none
def isJC : C -> Bool
 | .ui => true
 | .d x => isN x
 | _ => false
def zjLoad (P : Program) (t : TypeId) (y : Operand) (ρ : Operand -> V) (m : Nat -> Option Blk) : Option (Tr Out) :=
 match ρ y with
 | .one (.dpr k ver sz i off) => match m k with
  | some (.jd ver' e ei sz' ic szi none pz none ls) => match decide (ver = ver' /\ sz = sz'), jdInt P t e sz ic off with
   | true, some v => some (.grd (decide (i < ls.length)) (.ret ⟨v, []⟩))
   | _, _ => match decide (ver = ver' /\ sz = sz'), m (hkey k) with
    | true, none => some (zjTake P t k ver e ei sz ic szi pz ls i off 1)
    | true, some (.junk v1 _ _ _ _) => some (zjTake P t k ver e ei sz ic szi pz ls i off (v1 + 1))
    | _, _ => none
  | _ => none
 | _ => none
def zjStore (P : Program) (dst : Option Nat) (t : TypeId) (y x : Operand) (ρ : Operand -> V) (m : Nat -> Option Blk) : Option (Tr Out) :=
 match dst, ρ y, (ρ x).cells with
 | none, .one (.dpr k ver sz i off), some cs => match m k with
  | some (.jd ver' e ei sz' ic szi (some (n, N)) pz hole ls) => if ver = ver' /\ sz = sz' /\ cs.length = tsz P t /\ off + cs.length <= sz /\ (P.info? t).isSome /\ noSp e = true then some (.grd (decide (i < N)) (.ret ⟨.one .un, [(k, .jd ver' e ei sz' ic szi (some (n, N)) pz hole ls)]⟩)) else none
  | some (.jd ver' e ei sz' ic szi none pz hole ls) => if ver = ver' /\ sz = sz' /\ cs.length = tsz P t /\ off + cs.length <= sz /\ (P.info? t).isSome /\ ¬ (off <= ic /\ ic < off + cs.length) /\ cs.all isJC = true then some (.grd (decide (i < ls.length)) (.ret ⟨.one .un, [(k, .jd ver' e ei sz' ic szi none pz hole ls)]⟩)) else none
  | _ => none
 | _, _, _ => none
def zjCap (P : Program) (args : List Operand) (ats : List TypeId) (ρ : Operand -> V) (m : Nat -> Option Blk) : Option (Tr Out) :=
 match args, ats with
 | [x], [t] => match telem P t, ρ x with
  | some _, .one (.dp k ver _ _) => match m k with
   | some (.jd ver' _ _ _ _ _ (some (_, N)) _ _ _) => if ver = ver' then some (.ret ⟨vi .i64 N, []⟩) else none
   | _ => none
  | _, _ => none
 | _, _ => none
def zjSlice (P : Program) (t : TypeId) (x : Operand) (lo hi mx : Option Operand) (ρ : Operand -> V) (m : Nat -> Option Blk) : Option (Tr Out) :=
 match lo, hi, mx with
 | none, some y, none => match telem P t, ρ x, ρ y with
  | some e, .one (.dp k ver _ _), .one (.d (.i _ n)) => match m k with
   | some (.jd ver' e' ei sz ic szi (some (_, N)) pz hole ls) => if ver = ver' /\ sz = P.cellsOf e /\ (P.info? e).isSome then some (.grd (decide (n = N)) (.ret ⟨.one (.dp k (ver' + 1) N N), [(k, .jd (ver' + 1) e' ei sz ic szi (some (N, N)) pz hole ls)]⟩)) else none
   | _ => none
  | some e, .one (.own k ver _), .one (.d (.i _ n)) => match m k with
   | some (.junk ver' e' sz _ N) => if ver = ver' /\ sz = P.cellsOf e /\ (P.info? e).isSome /\ 4000000 <= k then some (.grd (decide (n = N)) (.ret ⟨.one (.sub k ver sz 0 N), []⟩)) else none
   | _ => none
  | _, _, _ => none
 | _, _, _ => none
section
variable {P : Program} {w0 : World} {U0 : Nat -> Prop} {X : Nat -> Nat -> Prop} {β0 β : Nat -> Option Place} {U : Nat -> Prop} {s : St} {a : Act} {w : World} {base : Nat}
theorem PartO.toSub {u u2 : Value} {n o sz k nv : Nat} (h : PartO sz o u u2) (hu : (u = .slice none 0 0 /\ n = 0) \/ ∃ g N, u = .slice (some ⟨g, 0, none⟩) n N /\ n <= N) (hk : β k = some (.row u nv)) : RepC w β U base u2 (.sub k nv sz o (n - o)) := by
 rcases h with ⟨rfl, rfl⟩ | ⟨g, n', cap, o', rfl, rfl, hon, ho⟩
 . rcases hu with ⟨rfl, rfl⟩ | ⟨g, N, rfl, hn⟩
   . exact ⟨none, 0, _, _, rfl, Nat.le_refl _, fun _ => ⟨rfl, rfl⟩, hk, Nat.le_refl _, fun _ => ⟨fun h => absurd h (by omega), .inl ⟨rfl, rfl, rfl⟩⟩⟩
   . exact ⟨_, N, _, _, rfl, hn, (fun e => by cases e), hk, Nat.le_refl _, fun _ => ⟨fun _ => ⟨g, n, N, rfl, by rw [Nat.zero_mul], by omega⟩, .inr ⟨g, 0, n, N, rfl, rfl, by omega⟩⟩⟩
 . rcases hu with ⟨e, _⟩ | ⟨g', N, e, hn⟩
   . cases e
   . cases e
     exact ⟨_, _, _, _, rfl, by omega, (fun e => by cases e), hk, Nat.le_refl _, fun _ => ⟨fun hp => ⟨g, _, _, rfl, by rw [ho (by omega)], by omega⟩, .inr ⟨g, o', _, _, rfl, rfl, by omega⟩⟩⟩
theorem PartO.ofSub {sz off len cap : Nat} {v0 : Value} {ao : Option Addr} (hn0 : ao = none -> len = 0 /\ cap = 0) (hs : (0 < cap -> ∃ g n c, v0 = .slice (some ⟨g, 0, none⟩) n c /\ ao = some ⟨g, off * sz, none⟩ /\ off + cap <= c) /\ SubAt v0 ao off cap)
   (hv : ∀ g n' c, v0 = .slice (some ⟨g, 0, none⟩) n' c -> off + len = n') : PartO sz off v0 (.slice ao len cap) := by
 obtain ⟨h1, h2⟩ := hs
 rcases h2 with ⟨rfl, rfl, rfl⟩ | ⟨g, o, n', c, rfl, rfl, h3⟩
 . obtain ⟨rfl, rfl⟩ := hn0 rfl
   exact .inl ⟨rfl, rfl⟩
 . have h4 := hv _ _ _ rfl
   refine .inr ⟨g, n', c, o, rfl, ?_, by omega, fun hlt => ?_⟩
   . rw [show len = n' - off by omega, show cap = c - off by omega]
   . obtain ⟨g2, n2, c2, e1, e2, _⟩ := h1 (by omega)
     cases e1; cases e2; rfl
theorem deadRepJ {ver : Nat} {e : TypeId} {sz : Nat} : RepB w β U base (.row nilV ver) (.junk ver e sz 0 0) := ⟨rfl, .inl ⟨rfl, rfl, rfl⟩⟩
theorem SimB.newDeadJ (h : SimB w0 U0 X β0 β U s a w) {k : Nat} (hk0 : k < 1000000 \/ 2000000 <= k) (hk : s.blk k = none) (ver : Nat) (e : TypeId) (sz : Nat) : SimB w0 U0 X β0 (upd β k (.row nilV ver)) U (s.set k (.junk ver e sz 0 0)) a w :=
 (h.newKeyG (w' := w) (p := .row nilV ver) (blk := .junk ver e sz 0 0) hk0 hk rfl rfl rfl (Nat.le_refl _) (fun _ _ => rfl) (fun b hb => by simp [Place.has, Value.ownBlock] at hb) deadRepJ).1
theorem JdOk.takeOut {v : Value} {us : List Value} {e ei : TypeId} {sz ic szi : Nat} {pz : Option (List Nat)} {ls : List (Nat × Nat)} (h : JdOk w β v us e ei sz ic szi pz none ls) {i : Nat} {l : Nat × Nat} (hl : ls[i]? = some l) :
   ∃ u, us[i]? = some u /\ Loose w ei szi u l.1 l.2 /\ ∀ (β' : Nat -> Option Place) (k' nv : Nat), β' k' = some (.row u nv) -> JdOk w β' v (us.set i nilV) e ei sz ic szi pz (some (i, some (k', nv))) ls := by
 obtain ⟨h1, h2, hic, h3, _, h5⟩ := h
 have hlt : i < us.length := by rw [h1]; exact (List.getElem?_eq_some_iff.1 hl).1
 refine ⟨us[i], List.getElem?_eq_getElem hlt, h3 i _ l (List.getElem?_eq_getElem hlt) hl rfl, fun β' k' nv hk' => ⟨by rw [List.length_set]; exact h1, h2.setNil i, hic, fun j u y hu hy hn => ?_, fun j l hh => ?_, ?_⟩⟩
 . have hij : i ≠ j := fun e => by subst e; rw [noHole_self] at hn; cases hn
   rcases set_get hu with ⟨e, _⟩ | ⟨_, hu⟩
   . exact absurd e hij
   . exact h3 j u y hu hy rfl
 . cases hh; exact ⟨by omega, by rw [List.getElem?_set_self hlt]⟩
 . rcases h5 with h5 | ⟨g, cap, cur, e1, hg, k1, k2, k3, k4⟩ | ⟨gz, vs, g1, g2, g3, g4, g5⟩
   . rw [h5.2] at hl; simp at hl
   . refine .inr (.inl ⟨g, cap, cur, e1, hg, k1, k2, k3, fun j q hj hq => ?_⟩)
     obtain ⟨u, z1, z2, z4, z5⟩ := k4 j q hj hq
     refine ⟨u, z1, z2, fun hq hn => ?_, fun hq k'' ver' hh => ?_⟩
     . have hij : i ≠ j := fun e => by subst e; rw [noHole_self] at hn; cases hn
       rw [List.getElem?_set_ne hij]; exact z4 hq rfl
     . cases hh
       obtain ⟨u0, f1, f2⟩ := z4 hq rfl
       rw [List.getElem?_eq_getElem hlt] at f1; cases f1
       exact ⟨_, nv, hk', Nat.le_refl _, fun _ => f2⟩
   . refine .inr (.inr ⟨gz, vs, g1, g2, g3, fun j u hu hn => ?_, fun j k'' ver' hh => ?_⟩)
     . have hij : i ≠ j := fun e => by subst e; rw [noHole_self] at hn; cases hn
       rw [List.getElem?_set_ne hij] at hu; exact g4 j u hu rfl
     . cases hh
       exact ⟨_, _, nv, g4 i _ (List.getElem?_eq_getElem hlt) rfl, hk', Nat.le_refl _, fun _ => rfl⟩
theorem SimB.takeOutJ (h : SimB w0 U0 X β0 β U s a w) {k ver : Nat} {v : Value} {us : List Value} {e ei : TypeId} {sz ic szi : Nat} {pz : Option (List Nat)} {ls : List (Nat × Nat)} (hb : s.blk k = some (.jd ver e ei sz ic szi none pz none ls)) (hk : β k = some (.deep v ver us)) (hro : rowOrJ (s.blk (hkey k)) = true) {i : Nat} {l : Nat × Nat} (hl : ls[i]? = some l) :
  ∃ β' u, SimB w0 U0 X β0 β' U (s.upd [(k, .jd ver e ei sz ic szi none pz (some (i, some (hkey k, nextV (s.blk (hkey k))))) ls), (hkey k, .junk (nextV (s.blk (hkey k))) ei szi l.1 l.2)]) a w /\
    β' k = some (.deep v ver (us.set i nilV)) /\ β' (hkey k) = some (.row u (nextV (s.blk (hkey k)))) /\ us[i]? = some u /\ Loose w ei szi u l.1 l.2 := by
 have hkk : k ≠ hkey k := by simp [hkey]
 have main : ∀ {β : Nat -> Option Place} {s : St} {v2 : Value} {ver2 nv : Nat} {b2 : Blk}, SimB w0 U0 X β0 β U s a w -> s.blk k = some (.jd ver e ei sz ic szi none pz none ls) -> β k = some (.deep v ver us) -> β (hkey k) = some (.row v2 ver2) -> s.blk (hkey k) = some b2 -> ver2 < nv ->
    ∃ u, SimB w0 U0 X β0 (upd (upd β k (.deep v ver (us.set i nilV))) (hkey k) (.row u nv)) U (s.upd [(k, .jd ver e ei sz ic szi none pz (some (i, some (hkey k, nv))) ls), (hkey k, .junk nv ei szi l.1 l.2)]) a w /\ us[i]? = some u /\ Loose w ei szi u l.1 l.2 := by
  intro β s v2 ver2 nv b2 h hb hk hk2 hb2 hlt
  obtain ⟨p, hp, hr⟩ := h.mem k _ hb
  rw [hk] at hp; cases hp
  obtain ⟨_, hr⟩ := hr
  have hr : JdOk w β v us e ei sz ic szi pz none ls := hr
  obtain ⟨u, hu, hin, hmk⟩ := hr.takeOut hl
  have hus : ∀ b, (Place.row u nv).has b -> (Place.deep v ver us).has b := fun b hb => .inr ⟨u, List.mem_of_getElem? hu, hb⟩
  have he1 : EvoP (.deep v ver us) (.deep v ver (us.set i nilV)) := .inr (.inr ⟨_, _, _, _, _, _, rfl, rfl, Nat.le_refl _, fun _ => rfl⟩)
  have he2 : EvoP (.row v2 ver2) (.row u nv) := .inr (.inl ⟨_, _, _, _, rfl, rfl, hlt⟩)
  refine ⟨u, h.repl2 (w' := w) hkk hk hk2 hb hb2 rfl rfl rfl rfl rfl rfl rfl (Nat.le_refl _) (fun _ _ _ _ => rfl) he1 he2 (fun b hb => .inl (has_setNil hb)) (fun b hb => .inl (hus b hb)) (fun b h1 h2 => ?_) ⟨rfl, hmk _ _ _ (upd_self _ _ _)⟩ ⟨rfl, hin⟩, hu, hin⟩
  obtain ⟨_, hsep, _⟩ := hr
  rcases h1 with h1 | ⟨u', hu', hb'⟩
  . exact hsep.2 i u b hu h2 h1
  . obtain ⟨j, hj⟩ := List.mem_iff_getElem?.1 hu'
    rcases set_get hj with ⟨_, rfl, _⟩ | ⟨hne, hj⟩
    . simp [Value.ownBlock] at hb'
    . exact hsep.1 i j u u' b hne hu hj h2 hb'
 cases hb2 : s.blk (hkey k) with
 | none =>
  have hd := h.newDeadJ (k := hkey k) (.inr (by unfold hkey; omega)) hb2 0 ei szi
  obtain ⟨u, q1, q2, q3⟩ := main (nv := nextV none) hd (by rw [St.blk_set, if_neg (fun e => hkk e.symm)]; exact hb) (by rw [upd_ne _ (fun e => hkk e.symm)]; exact hk) (upd_self _ _ _) (by rw [St.blk_set, if_pos rfl]) (by decide)
  refine ⟨_, u, q1.congr rfl rfl fun j => ?_, by rw [upd_ne _ (fun e => hkk e.symm), upd_self], upd_self _ _ _, q2, q3⟩
  show look j ((k, _) :: (hkey k, _) :: s.mem) = look j ((k, _) :: (hkey k, _) :: (hkey k, _) :: s.mem)
  simp only [look_cons]
  split
  . rfl
  . split <;> rfl
 | some b2 =>
  rw [hb2] at hro
  cases b2 with
  | junk ver2 e2 s2 n2 N2 =>
    obtain ⟨p, hp, hr⟩ := h.mem _ _ hb2
    cases p with
    | cells => exact hr.elim
    | deep => exact hr.elim
    | row v2 ver2' =>
      have hv := hr.1
      subst hv
      obtain ⟨u, q1, q2, q3⟩ := main (nv := nextV (some (.junk ver2 e2 s2 n2 N2))) h hb hk hp hb2 (Nat.lt_succ_self _)
      exact ⟨_, u, q1, by rw [upd_ne _ (fun e => hkk e.symm), upd_self], upd_self _ _ _, q2, q3⟩
  | _ => cases hro
theorem JdOk.putBack {v : Value} {us : List Value} {e ei : TypeId} {sz ic szi : Nat} {pz : Option (List Nat)} {ls : List (Nat × Nat)} {i k' v' : Nat} (h : JdOk w β v us e ei sz ic szi pz (some (i, some (k', v'))) ls) {u : Value} (hk' : β k' = some (.row u v')) {n N : Nat} (hin : Loose w ei szi u n N)
   (hsep : ∀ b, u.ownBlock = some b -> ¬ (Place.deep v 0 us).has b) : ∀ (β' : Nat -> Option Place), JdOk w β' v (us.set i u) e ei sz ic szi pz none (ls.set i (n, N)) := by
 intro β'
 obtain ⟨h1, h2, hic, h3, h4, h5⟩ := h
 obtain ⟨hi, hui⟩ := h4 i _ rfl
 refine ⟨by simp [h1], h2.setV (fun j u' b hne hu' hb' hb => hsep b hb (.inr ⟨u', List.mem_of_getElem? hu', hb'⟩)) (fun b hb hv => hsep b hb (.inl hv)), hic, fun j u' y hu' hy _ => ?_, fun j l hh => (by cases hh), ?_⟩
 . rcases set_get hu' with ⟨rfl, rfl, _⟩ | ⟨hne, hu'⟩
   . rw [List.getElem?_set_self hi] at hy; cases hy; exact hin
   . rw [List.getElem?_set_ne hne] at hy
     exact h3 j u' y hu' hy (noHole_ne hne)
 . rcases h5 with h5 | ⟨g, cap, cur, e1, hg, k1, k2, k3, k4⟩ | ⟨gz, vs, g1, g2, g3, g4, g5⟩
   . rw [h5.2] at hi; simp at hi
   rotate_left
   . refine .inr (.inr ⟨gz, vs, g1, by rw [List.length_set]; exact g2, g3, fun j u' hu' hn => ?_, fun j k'' ver' hh => by cases hh⟩)
     rcases set_get hu' with ⟨rfl, rfl, _⟩ | ⟨hne, hu'⟩
     . obtain ⟨u', v1, ver1, f0, f1, f2, f3⟩ := g5 _ _ _ rfl
       rw [hk'] at f1; cases f1
       rw [f0, f3 rfl]
     . exact g4 j u' hu' (noHole_ne hne)
   . refine .inr (.inl ⟨g, cap, cur, by rw [List.length_set]; exact e1, hg, by rw [List.length_set]; exact k1, k2, k3, fun j q hj hq => ?_⟩)
     rw [List.length_set] at hj
     obtain ⟨u', z1, z2, z4, z5⟩ := k4 j q hj hq
     refine ⟨u', z1, z2, fun hqc _ => ?_, fun _ k'' ver' hh => by cases hh⟩
     by_cases hij : i = j
     . subst hij
       obtain ⟨v1, ver1, f1, f2, f3⟩ := z5 hqc _ _ rfl
       rw [hk'] at f1; cases f1
       exact ⟨_, List.getElem?_set_self (by omega), f3 rfl⟩
     . rw [List.getElem?_set_ne hij]; exact z4 hqc (noHole_ne hij)
theorem SimB.putBackJ (h : SimB w0 U0 X β0 β U s a w) {k k' ver v' i : Nat} (hkk : k ≠ k') {e ei : TypeId} {sz ic szi : Nat} {pz : Option (List Nat)} {ls : List (Nat × Nat)} (hb : s.blk k = some (.jd ver e ei sz ic szi none pz (some (i, some (k', v'))) ls)) {n N : Nat} (hb' : s.blk k' = some (.junk v' ei szi n N)) :
  ∃ β', SimB w0 U0 X β0 β' U (s.upd [(k, .jd ver e ei sz ic szi none pz none (ls.set i (n, N))), (k', .junk (v' + 1) ei szi 0 0)]) a w := by
 obtain ⟨p, hp, hr⟩ := h.mem k _ hb
 obtain ⟨p', hp', hr'⟩ := h.mem k' _ hb'
 cases p with
 | cells => exact hr.elim
 | row => exact hr.elim
 | deep v ver0 us =>
  obtain ⟨hv, hr⟩ := hr
  subst hv
  have hr : JdOk w β v us e ei sz ic szi pz (some (i, some (k', v'))) ls := hr
  cases p' with
  | cells => exact hr'.elim
  | deep => exact hr'.elim
  | row u v0 =>
   obtain ⟨hv', hin⟩ := hr'
   subst hv'
   have hsep : ∀ b, u.ownBlock = some b -> ¬ (Place.deep v ver us).has b := fun b hb1 hb2 => h.hasApart (p := .row u v') (p' := .deep v ver us) (fun e => hkk e.symm) hp' hp rfl hb1 hb2
   refine ⟨_, h.repl2 (w' := w) (p1' := .deep v ver (us.set i u)) (p2' := .row nilV (v' + 1)) hkk hp hp' hb hb' rfl rfl rfl rfl rfl rfl rfl (Nat.le_refl _) (fun _ _ _ _ => rfl) (.inr (.inr ⟨_, _, _, _, _, _, rfl, rfl, Nat.le_refl _, fun _ => rfl⟩))
     (.inr (.inl ⟨_, _, _, _, rfl, rfl, Nat.lt_succ_self _⟩)) (fun b hb => ?_) (fun b hb => (dead_has hb).elim) (fun b _ h2 => dead_has h2) ⟨rfl, hr.putBack hp' hin (fun b hb hc => hsep b hb hc) _⟩ deadRepJ⟩
   rcases has_setV hb with hb | hb
   . exact .inl hb
   . exact .inr (.inl hb)
theorem zjTake_sem {o : Oper} {t : TypeId} {y : Operand} (hop : o.op = .load t y) (hd : ∀ d, o.dst = some d -> d < s.n) {k ver sz i off : Nat} (hy : s.eval y = .one (.dpr k ver sz i off)) {e ei : TypeId} {ic szi : Nat} {pz : Option (List Nat)} {ls : List (Nat × Nat)} (hb : s.blk k = some (.jd ver e ei sz ic szi none pz none ls)) (hro : rowOrJ (s.blk (hkey k)) = true)
  {E : Out} (hE : (zjTake P t k ver e ei sz ic szi pz ls i off (nextV (s.blk (hkey k)))).eval = some E) : SemStep P o s E := by
 obtain ⟨l, hl, h2⟩ := Option.bind_eq_some_iff.1 hE
 simp only at h2
 split at h2
 case h_2 => cases h2
 rename_i vv hpart
 cases h2
 intro w0 U0 X β0 β U a w h
 have hvy := h.eval y
 rw [hy] at hvy
 obtain ⟨ad, v0, ver0, us, hv, hkβ, hv1, hv2⟩ := hvy.toC
 obtain ⟨p, hp, hr⟩ := h.mem k _ hb
 rw [hkβ] at hp; cases hp
 obtain rfl := hr.1
 obtain ⟨g, n, cp, rfl, rfl⟩ := hv2 rfl
 obtain ⟨β', u, hs1, hb1, hb2, hus, hin⟩ := h.takeOutJ hb hkβ hro hl
 have hkk : k ≠ hkey k := by simp [hkey]
 obtain ⟨p1, hp1, hr1⟩ := hs1.mem k (.jd ver e ei sz ic szi none pz (some (i, some (hkey k, nextV (s.blk (hkey k))))) ls) (by show look k ((k, _) :: _) = _; rw [look_cons_self])
 rw [hb1] at hp1; cases hp1
 obtain ⟨_, hr1⟩ := hr1
 have hr1 : JdOk w β' _ _ e ei sz ic szi pz (some (i, some (hkey k, nextV (s.blk (hkey k))))) ls := hr1
 have hil : i < ls.length := (List.getElem?_eq_some_iff.1 hl).1
 have hcells : ∀ (j : Nat) (q : C), ((List.replicate sz C.bad).set ic (jdC (hkey k) (nextV (s.blk (hkey k))) szi i pz l))[j]? = some q -> ∃ u, w.cell? ⟨g, i * sz + j, none⟩ = some u /\ u.oneCell' = true /\ RepC w β' U w0.heap.size u q := by
  intro j q hq
  have hj : j < sz := by have := (List.getElem?_eq_some_iff.1 hq).1; simpa using this
  obtain ⟨_, _, _, _, _, h5⟩ := hr1
  rcases h5 with ⟨h5, _⟩ | ⟨g', cap', cur, e1, hg, k1, k2, k3, k4⟩ | ⟨_, vs, e1, _⟩
  . cases h5
  rotate_left
  . cases e1
  . cases e1
    obtain ⟨u2, z1, z2, _, z5⟩ := k4 i j hil hj
    refine ⟨u2, by simp only [World.cell?, hg]; exact z1, z2.1, ?_⟩
    rcases set_get hq with ⟨rfl, rfl, _⟩ | ⟨_, hq⟩
    . obtain ⟨v1, ver1, f1, f2, f3⟩ := z5 rfl _ _ rfl
      rw [hb2] at f1; cases f1
      have e2 := f3 rfl
      cases pz with
      | some os => exact PartO.toSub e2 (by
         rcases hin with ⟨e3, e4, _⟩ | ⟨g2, cur2, e3, q1, _⟩
         . exact .inl ⟨e3, e4⟩
         . exact .inr ⟨_, _, e3, q1⟩) hb2
      | none =>
      have e2 : u2 = _ := e2
      subst e2
      rcases hin with ⟨rfl, e3, e4⟩ | ⟨g2, cur2, rfl, q1, q2, q3, q4, q5⟩
      . show RepC _ _ _ _ _ (.own _ _ _)
        rw [e3]; exact ⟨none, 0, _, _, rfl, Nat.le_refl _, fun _ => ⟨rfl, rfl⟩, (fun x hx => by cases hx), hb2, Nat.le_refl _, fun _ => rfl⟩
      . exact ⟨_, l.2, _, _, rfl, q1, (fun e => by cases e), (fun x hx => by cases hx; exact ⟨g2, rfl⟩), hb2, Nat.le_refl _, fun _ => rfl⟩
    . have := List.mem_of_getElem? hq
      rw [List.mem_replicate] at this
      rw [this.2]; trivial
 obtain ⟨v, hrun, hrep⟩ := load_part (P := P) (t := t) (o := i * sz) (off := off) hcells hpart
 refine ⟨v, w, .inl ?_, _, _, hs1.put hrep (fun d e => hd d e)⟩
 simp only [execOp, hop, hv]
 exact wrapV hrun
theorem jdInt_sem {o : Oper} {t : TypeId} {y : Operand} (hop : o.op = .load t y) (hd : ∀ d, o.dst = some d -> d < s.n) {k ver sz i off : Nat} (hy : s.eval y = .one (.dpr k ver sz i off)) {e ei : TypeId} {ic szi : Nat} {pz : Option (List Nat)} {hole : Option (Nat × Option (Nat × Nat))} {ls : List (Nat × Nat)} (hb : s.blk k = some (.jd ver e ei sz ic szi none pz hole ls))
   {x : V} (hx : jdInt P t e sz ic off = some x) {E : Out} (hE : (Tr.grd (decide (i < ls.length)) (.ret (⟨x, []⟩ : Out))).eval = some E) : SemStep P o s E := by
 unfold jdInt at hx
 split at hx
 case h_2 => cases hx
 rename_i hc
 rw [Bool.and_eq_true] at hc
 obtain ⟨hi, h2⟩ := Tr.eval_grd hE
 cases h2
 have hi : i < ls.length := by simpa using hi
 refine semVal hd fun w0 U0 X β0 β U a w hs => ?_
 have hvy := hs.eval y
 rw [hy] at hvy
 obtain ⟨ad, v0, ver0, us, hv, hkβ, hv1, hv2⟩ := hvy.toC
 obtain ⟨p, hp, hr⟩ := hs.mem k _ hb
 rw [hkβ] at hp; cases hp
 obtain ⟨rfl, hr⟩ := hr
 have hr : JdOk w β v0 us e ei sz ic szi pz hole ls := hr
 obtain ⟨g, n, cp, rfl, rfl⟩ := hv2 rfl
 obtain ⟨_, _, _, _, _, h5⟩ := hr
 rcases h5 with ⟨h5, _⟩ | ⟨g', cap', cur, e1, hg, k1, k2, k3, k4⟩ | ⟨_, vs, e1, _⟩
 . cases h5
 rotate_left
 . cases e1
 cases e1
 obtain ⟨v, hrun, hrep⟩ := load_part (P := P) (w := w) (β := β) (U := U) (base := w0.heap.size) (t := t) (b := g) (o := i * sz) (off := off) (fun j q hq => by
   have hj : j < sz := by have := (List.getElem?_eq_some_iff.1 hq).1; simpa using this
   obtain ⟨u2, z1, z2, _⟩ := k4 i j hi hj
   refine ⟨u2, by simp only [World.cell?, hg]; exact z1, z2.1, ?_⟩
   rcases set_get hq with ⟨_, rfl, _⟩ | ⟨hne, hq⟩
   . trivial
   . have := List.mem_of_getElem? hq
     rw [List.mem_replicate] at this
     rw [this.2]; exact z2.2 hc.1 (fun e => hne e.symm)) hx
 refine ⟨v, ?_, hrep⟩
 simp only [execOp, hop, hv]
 exact wrapV hrun
theorem jd_stored {g n cp sz : Nat} {e : TypeId} {cur : Array Value} (hg : w.heap[g]? = some (.cells cur e (0, 0))) {i off : Nat} {ul : List Value} (hin : i * sz + off + ul.length <= cur.size) :
   ∃ cur' : Array Value, (w.setCells g (i * sz + off) ul).heap[g]? = some (.cells cur' e (0, 0)) /\ cur'.size = cur.size /\ (∀ i' j, j < sz -> (i' = i -> j < off \/ off + ul.length <= j) -> off + ul.length <= sz -> cur'[i' * sz + j]? = cur[i' * sz + j]?) /\ ∀ j, (hj : j < ul.length) -> cur'[i * sz + off + j]? = some ul[j] := by
 obtain ⟨cur', p1, p2, p3⟩ := setCells_shape g ul (i * sz + off) w cur e (0, 0) hg
 refine ⟨cur', p1, p2.symm, fun i' j hj hout hsz => p3 _ ?_, fun j hj => ?_⟩
 . rcases Nat.lt_or_ge (i' * sz + j) (i * sz + off) with hlt | hge
   . exact .inl hlt
   . right
     rcases Nat.lt_or_ge (i' * sz + j) (i * sz + off + ul.length) with hlt | hge'
     . exfalso
       obtain ⟨t, ht⟩ : ∃ t, i' * sz + j = i * sz + (off + t) /\ t < ul.length := ⟨i' * sz + j - (i * sz + off), by omega, by omega⟩
       obtain ⟨e1, e2⟩ := idx_apart hj (by omega) ht.1
       have := hout e1
       omega
     . exact hge'
 . have := World.cell?_setCells_in g ul (i * sz + off) w (fun j hj => by
     simp only [World.cell?, hg]; rw [Array.getElem?_eq_getElem (by omega)]; rfl) j hj
   simp only [World.cell?, p1] at this
   exact this
theorem JdOk.store {g n cp : Nat} {us : List Value} {e ei : TypeId} {sz ic szi : Nat} {pz : Option (List Nat)} {hole : Option (Nat × Option (Nat × Nat))} {ls : List (Nat × Nat)} (h : JdOk w β (.slice (some ⟨g, 0, none⟩) n cp) us e ei sz ic szi pz hole ls) {i off : Nat} (hi : i < ls.length) {ul : List Value} (hle : off + ul.length <= sz) (hno : ¬ (off <= ic /\ ic < off + ul.length))
   (h1 : ∀ u ∈ ul, u.oneCell' = true /\ ∃ n : Int, u = .int .i64 n) : JdOk (w.setCells g (i * sz + off) ul) β (.slice (some ⟨g, 0, none⟩) n cp) us e ei sz ic szi pz hole ls /\ ∃ cur : Array Value, w.heap[g]? = some (.cells cur e (0, 0)) /\ i * sz + off + ul.length <= cur.size := by
 obtain ⟨l1, l2, l3, l4, l5, h5⟩ := h
 rcases h5 with ⟨h5, _⟩ | ⟨g', cap', cur, e1, hg, k1, k2, k3, k4⟩ | ⟨_, vs, e1, _⟩
 . cases h5
 rotate_left
 . cases e1
 cases e1
 have hin : i * sz + off + ul.length <= cur.size := by
   rw [k3]
   have : (i + 1) * sz <= cp * sz := Nat.mul_le_mul_right _ (by omega)
   rw [Nat.add_mul] at this
   omega
 refine ⟨?_, cur, hg, hin⟩
 obtain ⟨cur', p1, p2, p3, p4⟩ := jd_stored (w := w) (n := 0) (cp := 0) hg (i := i) (off := off) (ul := ul) hin
 refine ⟨l1, l2, l3, fun j u l hu hl hn => (l4 j u l hu hl hn).map fun b hb => setCells_other g ul _ w b fun e => (by subst e; exact l2.2 j u b hu hb rfl), l5, .inr (.inl ⟨g, cp, cur', rfl, p1, k1, k2, by rw [p2]; exact k3, fun i' j hi' hj => ?_⟩)⟩
 obtain ⟨u, z1, z2, z4, z5⟩ := k4 i' j hi' hj
 by_cases c : i' = i /\ off <= j /\ j < off + ul.length
 . obtain ⟨rfl, c1, c2⟩ := c
   have hj2 : j - off < ul.length := by omega
   have hu := p4 (j - off) hj2
   rw [show i' * sz + off + (j - off) = i' * sz + j by omega] at hu
   have hm := h1 _ (List.getElem_mem hj2)
   have hjc : j ≠ ic := fun e => hno (by subst e; exact ⟨c1, c2⟩)
   exact ⟨_, hu, ⟨hm.1, fun _ _ => hm.2⟩, fun e => absurd e hjc, fun e => absurd e hjc⟩
 . exact ⟨u, by rw [p3 i' j hj (fun e => by subst e; omega) hle]; exact z1, z2, z4, z5⟩
theorem JdOk.upd {v : Value} {us : List Value} {e ei : TypeId} {sz ic szi : Nat} {pz : Option (List Nat)} {hole : Option (Nat × Option (Nat × Nat))} {ls : List (Nat × Nat)} {v2 : Value} {ver2 : Nat} {us2 : List Value} {k : Nat} (h : JdOk w β v us e ei sz ic szi pz hole ls) (hk : β k = some (.deep v2 ver2 us2)) {us3 : List Value} : JdOk w (Abs.upd β k (.deep v2 ver2 us3)) v us e ei sz ic szi pz hole ls := by
 have hne : ∀ k' v1 ver1, β k' = some (.row v1 ver1) -> Abs.upd β k (.deep v2 ver2 us3) k' = some (.row v1 ver1) := fun k' v1 ver1 e1 => by
   rw [upd_ne _ (fun e => by subst e; rw [hk] at e1; cases e1)]; exact e1
 obtain ⟨l1, l2, l3, l4, l5, h5⟩ := h
 refine ⟨l1, l2, l3, l4, l5, ?_⟩
 rcases h5 with h5 | ⟨g, cap, cur, e1, hg, k1, k2, k3, k4⟩ | ⟨gz, vs, g1, g2, g3, g4, g5⟩
 . exact .inl h5
 . refine .inr (.inl ⟨g, cap, cur, e1, hg, k1, k2, k3, fun i j hi hj => ?_⟩)
   obtain ⟨u, z1, z2, z4, z5⟩ := k4 i j hi hj
   refine ⟨u, z1, z2, z4, fun hj k' ver' hh => ?_⟩
   obtain ⟨v1, ver1, f1, f2, f3⟩ := z5 hj k' ver' hh
   exact ⟨v1, ver1, hne _ _ _ f1, f2, f3⟩
 . refine .inr (.inr ⟨gz, vs, g1, g2, g3, g4, fun i k' ver' hh => ?_⟩)
   obtain ⟨u, v1, ver1, f0, f1, f2, f3⟩ := g5 i k' ver' hh
   exact ⟨u, v1, ver1, f0, hne _ _ _ f1, f2, f3⟩
theorem zjLoad_sem {o : Oper} {t : TypeId} {y : Operand} {ρ : Operand -> V} {m : Nat -> Option Blk} (hop : o.op = .load t y) (hρ : ∀ y ∈ o.op.operands, s.eval y = ρ y) (hm : ∀ k ∈ (ρ y).keys, s.blk k = m k) (hd : ∀ d, o.dst = some d -> d < s.n)
   {T : Tr Out} {E : Out} (h : zjLoad P t y ρ m = some T) (hT : T.eval = some E) : SemStep P o s E := by
 unfold zjLoad at h
 rw [hop] at hρ
 have hy0 : s.eval y = ρ y := hρ y (by simp [Op.operands])
 split at h
 case h_2 => cases h
 rename_i k ver sz i off hy
 rw [hy] at hm
 have m1 := hm k (by simp [V.keys, C.keys])
 have m2 := hm (hkey k) (by simp [V.keys, C.keys])
 split at h
 case h_2 => cases h
 rename_i ver' e ei sz' ic szi pz ls hmk
 have hb := m1.trans hmk
 have hy' : s.eval y = .one (.dpr k ver sz i off) := hy0.trans hy
 split at h
 . rename_i v hc hv
   simp only [decide_eq_true_eq] at hc
   obtain ⟨rfl, rfl⟩ := hc
   cases h
   exact jdInt_sem hop hd hy' hb hv hT
 split at h
 . rename_i hc hmh
   simp only [decide_eq_true_eq] at hc
   obtain ⟨rfl, rfl⟩ := hc
   cases h
   have hn : s.blk (hkey k) = none := m2.trans hmh
   exact zjTake_sem hop hd hy' hb (by rw [hn]; rfl) (by rw [hn]; exact hT)
 . rename_i v1 e1 s1 n1 N1 hc hmh
   simp only [decide_eq_true_eq] at hc
   obtain ⟨rfl, rfl⟩ := hc
   cases h
   have hn := m2.trans hmh
   exact zjTake_sem hop hd hy' hb (by rw [hn]; rfl) (by rw [hn]; exact hT)
 . cases h
theorem zjStore_sem {o : Oper} {t : TypeId} {y x : Operand} {ρ : Operand -> V} {m : Nat -> Option Blk} (hop : o.op = .store t y x) (hρ : ∀ y ∈ o.op.operands, s.eval y = ρ y) (hm : ∀ k ∈ effKeys o.dst o.op ρ, s.blk k = m k)
   {T : Tr Out} {E : Out} (h : zjStore P o.dst t y x ρ m = some T) (hT : T.eval = some E) : SemStep P o s E := by
 unfold zjStore at h
 rw [hop] at hρ hm
 have hy0 : s.eval y = ρ y := hρ y (by simp [Op.operands])
 have hx0 : s.eval x = ρ x := hρ x (by simp [Op.operands])
 split at h
 case h_2 => cases h
 rename_i k ver sz i off cs hdst hy hcs
 have m1 : s.blk k = m k := hm k (by simp [effKeys, hy, V.keys, C.keys])
 split at h
 case h_3 => cases h
 case h_2 =>
   rename_i ver' e ei sz' ic szi pz hole ls hmk
   split at h
   case isFalse => cases h
   rename_i hc
   obtain ⟨rfl, rfl, hlen, hle, hit, hno, hall⟩ := hc
   cases h
   obtain ⟨hi, h2⟩ := Tr.eval_grd hT
   cases h2
   have hi : i < ls.length := by simpa using hi
   have hb := m1.trans hmk
   have hy' : s.eval y = .one (.dpr k ver sz i off) := hy0.trans hy
   intro w0 U0 X β0 β U a w hs
   obtain ⟨it, hit⟩ := Option.isSome_iff_exists.1 hit
   have hvx := hs.eval x
   rw [hx0] at hvx
   obtain ⟨hrep, h1⟩ := V.cells_sound hvx hcs
   have hvy := hs.eval y
   rw [hy'] at hvy
   obtain ⟨ad, v0, ver0, us, hv, hkβ, hv1, hv2⟩ := hvy.toC
   obtain ⟨p, hp, hr⟩ := hs.mem k _ hb
   rw [hkβ] at hp; cases hp
   obtain ⟨rfl, hr⟩ := hr
   have hr : JdOk w β v0 us e ei sz ic szi pz hole ls := hr
   obtain ⟨g, n', cp, rfl, rfl⟩ := hv2 rfl
   have hl := hrep.1
   have hsz : (a.eval x).cells.size = it.size := by
     have := hrep.1
     simp only [Array.length_toList] at this
     rw [this, hlen]; simp [tsz, Program.cellsOf, hit]
   have hints : ∀ u ∈ (a.eval x).cells.toList, u.oneCell' = true /\ ∃ n : Int, u = .int .i64 n := by
     intro u hu
     refine ⟨h1 u hu, ?_⟩
     obtain ⟨j, hj⟩ := List.mem_iff_getElem?.1 hu
     have hlt : j < cs.length := by rw [<- hl]; exact (List.getElem?_eq_some_iff.1 hj).1
     have hr2 := hrep.2 j u _ hj (List.getElem?_eq_getElem hlt)
     have hq := List.all_eq_true.1 hall _ (List.getElem_mem hlt)
     generalize cs[j] = q at hr2 hq
     cases q with
     | ui => exact hr2
     | d x => exact repI_int (U := U) hr2 hq
     | _ => cases hq
   obtain ⟨hst, cur, hg, hin⟩ := hr.store hi (ul := (a.eval x).cells.toList) (off := off) (by rw [hl]; exact hle) (by rw [hl]; exact hno) hints
   have hs1 := hs.storeDeep (us' := us) (o := i * sz + off) (ul := (a.eval x).cells.toList) hb hkβ (fun b hb => hb) (blk' := .jd ver e ei sz ic szi none pz hole ls) ⟨rfl, hst.upd hkβ⟩
   refine ⟨undef, w.setCells g (i * sz + off) (a.eval x).cells.toList, .inr ⟨?_, rfl⟩, upd β k (.deep (.slice (some ⟨g, 0, none⟩) n' cp) ver us), U, ?_⟩
   . simp only [execOp, hop, hv]
     rw [Sem.run_bind, run_storeAt hit hsz (fun j hj => ?_) h1]
     . rfl
     . simp only [Array.length_toList] at hin
       exact ⟨by simp only [World.cell?, hg]; rw [Array.getElem?_eq_getElem (by omega)]; rfl, by simp [World.frozen?, hg]⟩
   . rw [hdst]
     exact hs1
 rename_i ver' e ei sz' ic szi n N pz hole ls hmk
 split at h
 case isFalse => cases h
 rename_i hc
 obtain ⟨rfl, rfl, hlen, hle, hit, hnsp⟩ := hc
 cases h
 obtain ⟨hi, h2⟩ := Tr.eval_grd hT
 cases h2
 have hi : i < N := by simpa using hi
 have hb := m1.trans hmk
 have hy' : s.eval y = .one (.dpr k ver sz i off) := hy0.trans hy
 intro w0 U0 X β0 β U a w hs
 obtain ⟨it, hit⟩ := Option.isSome_iff_exists.1 hit
 have hvx := hs.eval x
 rw [hx0] at hvx
 obtain ⟨hrep, h1⟩ := V.cells_sound hvx hcs
 have hvy := hs.eval y
 rw [hy'] at hvy
 obtain ⟨ad, v0, ver0, us, hv, hkβ, hv1, hv2⟩ := hvy.toC
 obtain ⟨p, hp, hr⟩ := hs.mem k _ hb
 rw [hkβ] at hp; cases hp
 obtain ⟨rfl, hr⟩ := hr
 have hr : Loose w e sz v0 n N := hr
 obtain ⟨g, n', cp, rfl, rfl⟩ := hv2 rfl
 rcases hr with ⟨e1, _⟩ | ⟨g', cur, e1, q1, hg, q3, q4, q5⟩
 . cases e1
 cases e1
 have hsz : (a.eval x).cells.size = it.size := by
   have := hrep.1
   simp only [Array.length_toList] at this
   rw [this, hlen]; simp [tsz, Program.cellsOf, hit]
 have hl := hrep.1
 simp only [Array.length_toList] at hl
 have hcell : ∀ j, j < (a.eval x).cells.size -> i * sz + off + j < cur.size := fun j hj => by
   have : (i + 1) * sz <= N * sz := Nat.mul_le_mul_right _ (by omega)
   rw [Nat.add_mul] at this
   rw [q3]; omega
 obtain ⟨cur', p1, p2, p3⟩ := setCells_shape g (a.eval x).cells.toList (i * sz + off) w cur e (0, 0) hg
 have hs1 := hs.storeDeep (us' := us) (o := i * sz + off) (ul := (a.eval x).cells.toList) hb hkβ (fun b hb => hb) (blk' := .jd ver e ei sz ic szi (some (n, N)) pz hole ls) ⟨rfl, .inr ⟨g, cur', rfl, q1, p1, by omega, q4, noSp_spare hnsp⟩⟩
 refine ⟨undef, w.setCells g (i * sz + off) (a.eval x).cells.toList, .inr ⟨?_, rfl⟩, upd β k (.deep (.slice (some ⟨g, 0, none⟩) n N) ver us), U, ?_⟩
 . simp only [execOp, hop, hv]
   rw [Sem.run_bind, run_storeAt hit hsz (fun j hj => ?_) h1]
   . rfl
   . exact ⟨by simp only [World.cell?, hg]; rw [Array.getElem?_eq_getElem (hcell j hj)]; rfl, by simp [World.frozen?, hg]⟩
 . rw [hdst]
   exact hs1
theorem zjCap_sem {o : Oper} {args : Array Operand} {ats : Array TypeId} {ρ : Operand -> V} {m : Nat -> Option Blk} (hop : o.op = .call { callee := .builtin .cap, args := args, argTypes := ats }) (hρ : ∀ y ∈ o.op.operands, s.eval y = ρ y)
  (hm : ∀ k ∈ effKeys o.dst o.op ρ, s.blk k = m k) (hd : ∀ d, o.dst = some d -> d < s.n)
  {T : Tr Out} {E : Out} (h : zjCap P args.toList ats.toList ρ m = some T) (hT : T.eval = some E) : SemStep P o s E := by
 unfold zjCap at h
 rw [hop] at hρ hm
 split at h
 case h_2 => cases h
 rename_i x t hargs hats
 split at h
 case h_2 => cases h
 rename_i e k ver ln rm hte hx
 split at h
 case h_2 => cases h
 rename_i ver' e' ei sz ic szi n N pz hole ls hmk
 split at h
 case isFalse => cases h
 rename_i hc
 subst hc
 cases h; cases hT
 have ha : args = #[x] := by cases args; simp_all
 have ht : ats = #[t] := by cases ats; simp_all
 subst ha; subst ht
 have hx' : s.eval x = .one (.dp k ver ln rm) := by rw [hρ x (by simp [Op.operands, Call.operands])]; exact hx
 have hk := (hm k (by simp [effKeys, hx, V.keys, C.keys])).trans hmk
 refine semVal hd ?_
 intro w0 U0 X β0 β U a w hs
 have hvx := hs.eval x
 rw [hx'] at hvx
 obtain ⟨a0, cap, v0, ver0, us, hv0, hlr, hlc, hn0, hs0, hkβ, hv1, hv2⟩ := hvx.toC
 obtain ⟨p, hp, hr⟩ := hs.mem k _ hk
 rw [hkβ] at hp; cases hp
 obtain ⟨rfl, hr⟩ := hr
 have hr : Loose w e' sz v0 n N := hr
 obtain rfl := hv2 rfl
 have hcap : cap = N := by
  rcases hr with ⟨e1, _, e2⟩ | ⟨g', cur, e1, _⟩
  . rw [hv0] at e1; cases e1; exact e2.symm
  . rw [hv0] at e1; cases e1; rfl
 subst hcap
 refine ⟨.int .i64 cap, ?_, repI _ _⟩
 simp [execOp, hop, resolve, invoke, builtin, hv0, Builtin.cap_, run_underlying (telem_iff hte), goInt]
theorem zjSlice_sem {o : Oper} {t : TypeId} {x : Operand} {lo hi mx : Option Operand} {ρ : Operand -> V} {m : Nat -> Option Blk} (hop : o.op = .slice t x lo hi mx) (hρ : ∀ y ∈ o.op.operands, s.eval y = ρ y)
   (hm : ∀ k ∈ effKeys o.dst o.op ρ, s.blk k = m k) (hd : ∀ d, o.dst = some d -> d < s.n)
   {T : Tr Out} {E : Out} (h : zjSlice P t x lo hi mx ρ m = some T) (hT : T.eval = some E) : SemStep P o s E := by
 unfold zjSlice at h
 rw [hop] at hρ hm
 split at h
 case h_2 => cases h
 rename_i y
 split at h
 . rename_i e k ver ln rm kk n hte hx hy
   split at h
   case h_2 => cases h
   rename_i ver' e' ei sz ic szi n0 N pz hole ls hmk
   split at h
   case isFalse => cases h
   rename_i hc
   obtain ⟨rfl, hsz, hie⟩ := hc
   cases h
   obtain ⟨hn, h2⟩ := Tr.eval_grd hT
   cases h2
   have hn : n = N := by simpa using hn
   subst hn
   have hx' : s.eval x = .one (.dp k ver ln rm) := by rw [hρ x (by simp [Op.operands])]; exact hx
   have hy' : s.eval y = vi kk N := by rw [hρ y (by simp [Op.operands])]; exact hy
   have hk := (hm k (by simp [effKeys, hx, V.keys, C.keys])).trans hmk
   intro w0 U0 X β0 β U a w hs
   obtain ⟨ie, hie⟩ := Option.isSome_iff_exists.1 hie
   have hvx := hs.eval x
   rw [hx'] at hvx
   have hvy := hs.eval y
   rw [hy'] at hvy
   have hvy := hvy.int
   obtain ⟨a0, cap, v0, ver0, us, hv0, hlr, hlc, hn0, hs0, hkβ, hv1, hv2⟩ := hvx.toC
   obtain ⟨p, hp, hr⟩ := hs.mem k _ hk
   rw [hkβ] at hp; cases hp
   obtain ⟨rfl, hr⟩ := hr
   have hr : Loose w e' sz v0 n0 N := hr
   obtain rfl := hv2 rfl
   have hcap : cap = N := by
     rcases hr with ⟨e1, _, e2⟩ | ⟨g', cur, e1, _⟩
     . rw [hv0] at e1; cases e1; exact e2.symm
     . rw [hv0] at e1; cases e1; rfl
   subst hcap
   have hob : ∀ b, (Place.deep (.slice a0 cap cap) (ver + 1) us).has b -> (Place.deep (a.eval x) ver us).has b := fun b hb => by
     rcases hb with hb | hb
     . have h1 : (Value.slice a0 cap cap).ownBlock = some b := hb
       left
       show (a.eval x).ownBlock = some b
       rw [hv0]
       cases a0 <;> exact h1
     . exact .inr hb
   have hs1 := hs.replE (w' := w) (p' := .deep (.slice a0 cap cap) (ver + 1) us) (blk' := .jd (ver + 1) e' ei sz ic szi (some (cap, cap)) pz hole ls) hkβ hk rfl rfl rfl (Nat.le_refl _) (fun _ _ _ => rfl) (fun _ _ _ _ => ⟨rfl, rfl⟩) (fun _ _ _ => .inl rfl)
     (.inr (.inr ⟨_, _, _, _, _, _, rfl, rfl, Nat.le_succ _, fun e => absurd e (by omega)⟩)) (fun b hb => .inl (hob b hb)) (fun b j hc => .inl ((covers_nocells rfl).2 (hob b ((covers_nocells rfl).1 hc))))
     ⟨rfl, by
       show Loose w e' sz (.slice a0 cap cap) cap cap
       rcases hr with ⟨e1, e3, e2⟩ | ⟨g', cur, e1, e2, e3⟩
       . rw [hv0] at e1; cases e1; exact .inl ⟨rfl, rfl, rfl⟩
       . rw [hv0] at e1; cases e1; exact .inr ⟨g', cur, rfl, Nat.le_refl _, e3⟩⟩
   refine ⟨.slice a0 cap cap, w, .inl ?_, ?_⟩
   . have hb : (Instr.sliceBounds true ln cap none (some (.int kk (cap : Int))) none).run P w = .ok (0, cap, cap) w := by
       simp [Instr.sliceBounds, Instr.sliceBound, asIntOf]
     simp only [execOp, hop, Option.map_none, Option.map_some, hvy, hv0]
     simp [Instr.sliceAt, Instr.slice, run_underlying (telem_iff hte), hb, run_sizeOf w hie]
     intro _
     cases a0 with
     | none => rfl
     | some z => obtain ⟨g, rfl⟩ := hs0 z rfl; simp [Addr.add_lit]
   . refine ⟨_, _, hs1.put ?_ hd⟩
     refine repDp (upd_self _ _ _) (Nat.le_refl _) (Nat.le_refl _) (fun e1 => ?_) hs0
     obtain ⟨_, e2⟩ := hn0 e1
     exact ⟨e2, e2⟩
 . rename_i e k ver ln kk n hte hx hy
   split at h
   case h_2 => cases h
   rename_i ver' e' sz n0 N hmk
   split at h
   case isFalse => cases h
   rename_i hc
   obtain ⟨rfl, hsz, hie, _⟩ := hc
   cases h
   obtain ⟨hn, h2⟩ := Tr.eval_grd hT
   cases h2
   have hn : n = N := by simpa using hn
   subst hn
   have hx' : s.eval x = .one (.own k ver ln) := by rw [hρ x (by simp [Op.operands])]; exact hx
   have hy' : s.eval y = vi kk N := by rw [hρ y (by simp [Op.operands])]; exact hy
   have hk := (hm k (by simp [effKeys, hx, V.keys, C.keys])).trans hmk
   refine semVal hd fun w0 U0 X β0 β U a w hs => ?_
   obtain ⟨ie, hie⟩ := Option.isSome_iff_exists.1 hie
   have hvx := hs.eval x
   rw [hx'] at hvx
   have hvy := hs.eval y
   rw [hy'] at hvy
   have hvy := hvy.int
   obtain ⟨a0, cap, v0, ver0, hv0, hlc, hn0, hs0, hkβ, hv1, hv2⟩ := hvx.toC
   obtain ⟨rfl, q3⟩ := hs.placeJunk hk hkβ
   obtain rfl := hv2 rfl
   have hcap : cap = N := by
     rcases q3 with ⟨e1, _, e2⟩ | ⟨g', cur, e1, _⟩
     . rw [hv0] at e1; cases e1; exact e2.symm
     . rw [hv0] at e1; cases e1; rfl
   subst hcap
   refine ⟨.slice a0 cap cap, ?_, .one _ _ ⟨a0, cap, _, ver, rfl, Nat.le_refl _, fun e1 => ?_, hkβ, Nat.le_refl _, fun _ => ⟨fun hpos => ?_, ?_⟩⟩⟩
   . have hb : (Instr.sliceBounds true ln cap none (some (.int kk (cap : Int))) none).run P w = .ok (0, cap, cap) w := by
       simp [Instr.sliceBounds, Instr.sliceBound, asIntOf]
     simp only [execOp, hop, Option.map_none, Option.map_some, hvy, hv0]
     simp [Instr.sliceAt, Instr.slice, run_underlying (telem_iff hte), hb, run_sizeOf w hie]
     intro _
     cases a0 with
     | none => rfl
     | some z => obtain ⟨g, rfl⟩ := hs0 z rfl; simp [Addr.add_lit]
   . obtain ⟨_, e2⟩ := hn0 e1
     exact ⟨e2, e2⟩
   . cases a0 with
     | none => obtain ⟨_, e2⟩ := hn0 rfl; omega
     | some z =>
       obtain ⟨g, rfl⟩ := hs0 z rfl
       exact ⟨g, ln, cap, hv0, by rw [Nat.zero_mul], by rw [Nat.zero_add]; exact Nat.le_refl _⟩
   . cases a0 with
     | none => obtain ⟨e1, e2⟩ := hn0 rfl; exact .inl ⟨by rw [hv0, e1, e2], rfl, rfl⟩
     | some z =>
       obtain ⟨g, rfl⟩ := hs0 z rfl
       exact .inr ⟨g, 0, ln, cap, hv0, rfl, by omega⟩
 . cases h
end
end Go.Proofs.Ythnijeclidpooaa.Abs
namespace Go.Proofs.Ythnijeclidpooaa.Abs
open Go Go.RowKit
set_option linter.unusedVariables false
end Go.Proofs.Ythnijeclidpooaa.Abs
namespace Go.Proofs.Ythnijeclidpooaa.Abs
open Go Go.RowKit
set_option linter.unusedVariables false
def znSlice (P : Program) (t : TypeId) (x : Operand) (lo hi mx : Option Operand) (ρ : Operand -> V) : Option (Tr Out) :=
 match P.underlying t, ρ x, lo, hi, mx with
 | some (.slice e), .one .nil, some lo, some hi, some mx => match ρ lo, ρ hi, ρ mx, (P.info? e).isSome with
  | .one (.d (.i _ a)), .one (.d (.i _ b)), .one (.d (.i _ c)), true => some (.grd (decide (0 <= a /\ a <= b /\ b <= c /\ c <= ((0 : Nat) : Int))) (.ret ⟨.one .bad, []⟩))
  | _, _, _, _ => none
 | _, _, _, _, _ => none
theorem znSlice_sem {P : Program} {s : St} {o : Oper} {t : TypeId} {x : Operand} {lo hi mx : Option Operand} {ρ : Operand -> V} (hop : o.op = .slice t x lo hi mx) (hρ : ∀ y ∈ o.op.operands, s.eval y = ρ y) (hd : ∀ d, o.dst = some d -> d < s.n)
  {T : Tr Out} {E : Out} (h : znSlice P t x lo hi mx ρ = some T) (hT : T.eval = some E) : SemStep P o s E := by
 unfold znSlice at h
 rw [hop] at hρ
 split at h
 case h_2 => cases h
 rename_i e lo hi mx hu hxe
 have hx : s.eval x = ρ x := hρ x (by simp [Op.operands])
 split at h
 case h_2 => cases h
 rename_i ka a kb b kc c h1 h2 h3 hie
 cases h
 obtain ⟨g1, g2⟩ := Tr.eval_grd hT
 cases g2
 simp only [decide_eq_true_eq] at g1
 obtain ⟨ie, hie⟩ := Option.isSome_iff_exists.1 hie
 refine semVal hd fun w0 U0 X β0 β U act w hs => ?_
 have hv := hs.eval x
 rw [hx, hxe] at hv
 have hv : act.eval x = nilV := hv.toC
 have e1 := hs.eval lo; rw [hρ lo (by simp [Op.operands]), h1] at e1; have e1 := e1.int
 have e2 := hs.eval hi; rw [hρ hi (by simp [Op.operands]), h2] at e2; have e2 := e2.int
 have e3 := hs.eval mx; rw [hρ mx (by simp [Op.operands]), h3] at e3; have e3 := e3.int
 have hb := run_bounds3 (P := P) (w := w) (len := 0) (cap := 0) (ka := ka) (kb := kb) (kc := kc) g1 (Nat.le_refl _)
 refine ⟨.slice (if c.toNat = a.toNat then none else none) (b.toNat - a.toNat) (c.toNat - a.toNat), ?_, .bad _⟩
 simp only [execOp, hop, Option.map_some, hv, e1, e2, e3]
 refine wrapV ?_
 have hsz : P.cellsOf e = ie.size := by simp [Program.cellsOf, hie]
 simp [Instr.sliceAt, Instr.slice, run_underlying hu, hb, run_sizeOf w hie, hsz]
def effD (P : Program) (cod : TypeId -> Nat) (dst : Option Nat) (op : Op) (ρ : Operand -> V) (m : Nat -> Option Blk) : Option (Tr Out) :=
 match op with
 | .makeSlice t l c => zdMake P cod dst t l c ρ m
 | .load t y => match zdLoad P t y ρ m with
  | some T => some T
  | none => zjLoad P t y ρ m
 | .store t y x => match zdStore P dst t y x ρ m with
  | some T => some T
  | none => zjStore P dst t y x ρ m
 | .slice t x lo hi mx => match zjSlice P t x lo hi mx ρ m with
  | some T => some T
  | none => match zdSlice P t x lo hi mx ρ with
   | some T => some T
   | none => znSlice P t x lo hi mx ρ
 | .call { callee := .builtin .cap, args, argTypes } => zjCap P args.toList argTypes.toList ρ m
 | .buildSlice t len parts => zdBuild P cod dst t len parts.toList ρ m
 | .call { callee := .builtin .append, args, argTypes } => match zdDel P dst args.toList argTypes.toList ρ m with
  | some T => some T
  | none => zdApp P dst args.toList argTypes.toList ρ m
 | .call { callee := .builtin .clear, args, argTypes } => zdClear P dst args.toList argTypes.toList ρ m
 | _ => none
theorem effD_sem {P : Program} {cod : TypeId -> Nat} {o : Oper} {s : St} {ρ : Operand -> V} {m : Nat -> Option Blk} (hρ : ∀ y ∈ o.op.operands, s.eval y = ρ y) (hm : ∀ k ∈ effKeys o.dst o.op ρ, s.blk k = m k) (hd : ∀ d, o.dst = some d -> d < s.n)
   {T : Tr Out} {E : Out} (h : effD P cod o.dst o.op ρ m = some T) (hT : T.eval = some E) : SemStep P o s E := by
 unfold effD at h
 split at h
 . rename_i t l c hop; exact zdMake_sem hop hρ hm hd h hT
 . rename_i t y hop
   have hm' : ∀ k ∈ (ρ y).keys, s.blk k = m k := fun k hk => hm k (by rw [hop]; exact hk)
   split at h
   . rename_i T' hT'; cases h; exact zdLoad_sem hop hρ hm' hd hT' hT
   . exact zjLoad_sem hop hρ hm' hd h hT
 . rename_i t y x hop
   split at h
   . rename_i T' hT'; cases h; exact zdStore_sem hop hρ hm hT' hT
   . exact zjStore_sem hop hρ hm h hT
 . rename_i t x lo hi mx hop
   split at h
   . rename_i T' hT'; cases h; exact zjSlice_sem hop hρ hm hd hT' hT
   . split at h
     . rename_i T' hT'; cases h; exact zdSlice_sem hop hρ hd hT' hT
     . exact znSlice_sem hop hρ hd h hT
 . rename_i args ats hop; exact zjCap_sem hop hρ hm hd h hT
 . rename_i t len parts hop; exact zdBuild_sem hop hρ hm hd h hT
 . rename_i args ats hop
   split at h
   . rename_i T' hT'; cases h; exact zdDel_sem hop hρ hm hd hT' hT
   . exact zdApp_sem hop hρ hm hd h hT
 . rename_i args ats hop; exact zdClear_sem hop hρ hm hd h hT
 . cases h
end Go.Proofs.Ythnijeclidpooaa.Abs
namespace Go.Proofs.Ythnijeclidpooaa.Abs
open Go Go.RowKit
set_option linter.unusedVariables false
set_option linter.unusedSimpArgs false
section
variable {P : Program} {w0 : World} {U0 : Nat -> Prop} {X : Nat -> Nat -> Prop} {β0 β : Nat -> Option Place} {U : Nat -> Prop} {s : St} {a : Act} {w : World} {base : Nat}
theorem RepB.takeOutX {v : Value} {ver : Nat} {us : List Value} {e ei : TypeId} {c : Nat} {os : List Nat} {xs : List (τ c)} (h : RepB w β U base (.deep v ver us) (.dx ver e ei c os none xs)) {i : Nat} {x : τ c} (hx : xs[i]? = some x) :
   ∃ u, us[i]? = some u /\ Inner w ei (dIn c) u (dGet c x) /\ ∀ (β' : Nat -> Option Place) (k' nv : Nat), β' k' = some (.row u nv) -> RepB w β' U base (.deep v ver (us.set i nilV)) (.dx ver e ei c os (some (i, some (k', nv))) xs) := by
 obtain ⟨_, hok, h1, h2, h3, _, h5⟩ := h
 have hlt : i < us.length := by rw [h1]; exact (List.getElem?_eq_some_iff.1 hx).1
 refine ⟨us[i], List.getElem?_eq_getElem hlt, h3 i _ x (List.getElem?_eq_getElem hlt) hx rfl, fun β' k' nv hk' => ⟨rfl, hok, by rw [List.length_set]; exact h1, h2.setNil i, fun j u y hu hy hn => ?_, fun j l hh => ?_, ?_⟩⟩
 . have hij : i ≠ j := fun e => by subst e; rw [noHole_self] at hn; cases hn
   rcases set_get hu with ⟨e, _⟩ | ⟨_, hu⟩
   . exact absurd e hij
   . exact h3 j u y hu hy rfl
 . cases hh; exact ⟨by omega, by rw [List.getElem?_set_self hlt]⟩
 . rcases h5 with h5 | ⟨g, cap, cur, e1, hg, k1, k2, k3, k4⟩
   . rw [h5.2] at hx; simp at hx
   . refine .inr ⟨g, cap, cur, e1, hg, k1, k2, k3, fun j q y d hy hd => ?_⟩
     obtain ⟨u, z1, z2, z3, z4, z5⟩ := k4 j q y d hy hd
     refine ⟨u, z1, z2, z3, fun hq hn => ?_, fun hq k'' ver' hh => ?_⟩
     . have hij : i ≠ j := fun e => by subst e; rw [noHole_self] at hn; cases hn
       rw [List.getElem?_set_ne hij]; exact z4 hq rfl
     . cases hh
       obtain ⟨u0, f1, f2⟩ := z4 hq rfl
       rw [List.getElem?_eq_getElem hlt] at f1; cases f1
       exact ⟨_, nv, hk', Nat.le_refl _, fun _ => f2⟩
theorem SimB.takeOutX (h : SimB w0 U0 X β0 β U s a w) {k ver : Nat} {v : Value} {us : List Value} {e ei : TypeId} {c : Nat} {os : List Nat} {xs : List (τ c)} (hb : s.blk k = some (.dx ver e ei c os none xs)) (hk : β k = some (.deep v ver us)) (hro : rowOr (s.blk (hkey k)) = true) {i : Nat} {x : τ c} (hx : xs[i]? = some x) :
  ∃ β' u, SimB w0 U0 X β0 β' U (s.upd [(k, .dx ver e ei c os (some (i, some (hkey k, nextV (s.blk (hkey k))))) xs), (hkey k, .rowT (nextV (s.blk (hkey k))) ei (dIn c) true true (dGet c x))]) a w /\
    β' k = some (.deep v ver (us.set i nilV)) /\ β' (hkey k) = some (.row u (nextV (s.blk (hkey k)))) /\ us[i]? = some u /\ Inner w ei (dIn c) u (dGet c x) /\ Evo β β' := by
 have hkk : k ≠ hkey k := by simp [hkey]
 -- with some row at the name
 have main : ∀ {β : Nat -> Option Place} {s : St} {v2 : Value} {ver2 nv : Nat} {b2 : Blk}, SimB w0 U0 X β0 β U s a w -> s.blk k = some (.dx ver e ei c os none xs) -> β k = some (.deep v ver us) -> β (hkey k) = some (.row v2 ver2) -> s.blk (hkey k) = some b2 -> ver2 < nv ->
    ∃ u, SimB w0 U0 X β0 (upd (upd β k (.deep v ver (us.set i nilV))) (hkey k) (.row u nv)) U (s.upd [(k, .dx ver e ei c os (some (i, some (hkey k, nv))) xs), (hkey k, .rowT nv ei (dIn c) true true (dGet c x))]) a w /\ us[i]? = some u /\ Inner w ei (dIn c) u (dGet c x) /\
      Evo β (upd (upd β k (.deep v ver (us.set i nilV))) (hkey k) (.row u nv)) := by
  intro β s v2 ver2 nv b2 h hb hk hk2 hb2 hlt
  obtain ⟨p, hp, hr⟩ := h.mem k _ hb
  rw [hk] at hp; cases hp
  obtain ⟨u, hu, hin, hmk⟩ := hr.takeOutX hx
  have hus : ∀ b, (Place.row u nv).has b -> (Place.deep v ver us).has b := fun b hb => .inr ⟨u, List.mem_of_getElem? hu, hb⟩
  have he1 : EvoP (.deep v ver us) (.deep v ver (us.set i nilV)) := .inr (.inr ⟨_, _, _, _, _, _, rfl, rfl, Nat.le_refl _, fun _ => rfl⟩)
  have he2 : EvoP (.row v2 ver2) (.row u nv) := .inr (.inl ⟨_, _, _, _, rfl, rfl, hlt⟩)
  refine ⟨u, h.repl2 (w' := w) hkk hk hk2 hb hb2 rfl rfl rfl rfl rfl rfl rfl (Nat.le_refl _) (fun _ _ _ _ => rfl) he1 he2 (fun b hb => .inl (has_setNil hb)) (fun b hb => .inl (hus b hb)) (fun b h1 h2 => ?_) (hmk _ _ _ (upd_self _ _ _)) hin.row, hu, hin, ?_⟩
  . obtain ⟨_, _, _, hsep, _⟩ := hr
    rcases h1 with h1 | ⟨u', hu', hb'⟩
    . exact hsep.2 i u b hu h2 h1
    . obtain ⟨j, hj⟩ := List.mem_iff_getElem?.1 hu'
      rcases set_get hj with ⟨_, rfl, _⟩ | ⟨hne, hj⟩
      . simp [Value.ownBlock] at hb'
      . exact hsep.1 i j u u' b hne hu hj h2 hb'
  . intro k1 q hq
    by_cases e1 : k1 = k
    . subst e1; rw [hk] at hq; cases hq; exact he1.to (by rw [upd_ne _ (fun e => hkk e.symm), upd_self])
    . by_cases e2 : k1 = hkey k
      . subst e2; rw [hk2] at hq; cases hq; exact he2.to (upd_self _ _ _)
      . exact .inl (by rw [upd_ne _ (fun e => e2 e.symm), upd_ne _ (fun e => e1 e.symm)]; exact hq)
 cases hb2 : s.blk (hkey k) with
 | none =>
  have hd := h.newDead (k := hkey k) (.inr (by unfold hkey; omega)) hb2 0 ei (dIn c)
  obtain ⟨u, q1, q2, q3, q4⟩ := main (nv := nextV none) hd (by rw [St.blk_set, if_neg (fun e => hkk e.symm)]; exact hb) (by rw [upd_ne _ (fun e => hkk e.symm)]; exact hk) (upd_self _ _ _) (by rw [St.blk_set, if_pos rfl]) (by decide)
  refine ⟨_, u, q1.congr rfl rfl fun j => ?_, by rw [upd_ne _ (fun e => hkk e.symm), upd_self], upd_self _ _ _, q2, q3, fun k1 p hp => ?_⟩
  . show look j ((k, _) :: (hkey k, _) :: s.mem) = look j ((k, _) :: (hkey k, _) :: (hkey k, _) :: s.mem)
    simp only [look_cons]
    split
    . rfl
    . split <;> rfl
  . refine q4 k1 p ?_
    rw [upd_ne _ (fun e => by subst e; rw [h.noKey hb2] at hp; cases hp)]; exact hp
 | some b2 =>
  rw [hb2] at hro
  cases b2 with
  | rowT ver2 e2 c2 ap fr ys =>
    obtain ⟨p, hp, hr⟩ := h.mem _ _ hb2
    cases p with
    | cells => exact hr.elim
    | deep => exact hr.elim
    | row v2 ver2' =>
      have hv := hr.1
      subst hv
      obtain ⟨u, q1, q2, q3, q4⟩ := main (nv := nextV (some (.rowT ver2 e2 c2 ap fr ys))) h hb hk hp hb2 (Nat.lt_succ_self _)
      exact ⟨_, u, q1, by rw [upd_ne _ (fun e => hkk e.symm), upd_self], upd_self _ _ _, q2, q3, q4⟩
  | _ => cases hro

theorem RepB.putBackX {v : Value} {ver : Nat} {us : List Value} {e ei : TypeId} {c : Nat} {os : List Nat} {xs : List (τ c)} {i k' v' : Nat} (h : RepB w β U base (.deep v ver us) (.dx ver e ei c os (some (i, some (k', v'))) xs)) {u : Value} (hk' : β k' = some (.row u v'))
   {ys : List (τ (dIn c))} (hin : Inner w ei (dIn c) u ys) (hsep : ∀ b, u.ownBlock = some b -> ¬ (Place.deep v ver us).has b) :
   ∀ (β' : Nat -> Option Place), RepB w β' U base (.deep v ver (us.set i u)) (.dx ver e ei c os none (xs.modify i fun x => dSet c x ys)) := by
 intro β'
 obtain ⟨_, hok, h1, h2, h3, h4, h5⟩ := h
 obtain ⟨hi, hui⟩ := h4 i _ rfl
 refine ⟨rfl, hok, by simp [h1], h2.setV (fun j u' b hne hu' hb' hb => hsep b hb (.inr ⟨u', List.mem_of_getElem? hu', hb'⟩)) (fun b hb hv => hsep b hb (.inl hv)), fun j u' y hu' hy _ => ?_, fun j l hh => (by cases hh), ?_⟩
 . rw [List.getElem?_modify] at hy
   rcases set_get hu' with ⟨rfl, rfl, _⟩ | ⟨hne, hu'⟩
   . simp only [if_true] at hy
     obtain ⟨x, hx, rfl⟩ := Option.map_eq_some_iff.1 hy
     rw [dGet_dSet hok]; exact hin
   . exact h3 j u' y hu' (by simpa [hne] using hy) (noHole_ne hne)
 . rcases h5 with h5 | ⟨g, cap, cur, e1, hg, k1, k2, k3, k4⟩
   . rw [h5.2] at hi; simp at hi
   . refine .inr ⟨g, cap, cur, by rw [List.length_modify]; exact e1, hg, by rw [List.length_modify]; exact k1, k2, k3, fun j q y d hy hd => ?_⟩
     rw [List.getElem?_modify] at hy
     by_cases hij : i = j
     . subst hij
       simp only [if_true] at hy
       obtain ⟨x, hx, rfl⟩ := Option.map_eq_some_iff.1 hy
       by_cases hq : q = dIc c
       . subst hq
         obtain ⟨u', z1, z2, z3, z4, z5⟩ := k4 i (dIc c) x _ hx (enc_dGet hok x)
         obtain ⟨v1, ver1, f1, f2, f3⟩ := z5 rfl _ _ rfl
         rw [hk'] at f1; cases f1
         exact ⟨u', z1, z2, fun hq => absurd rfl hq, fun _ _ => ⟨u, List.getElem?_set_self (by omega), f3 rfl⟩, fun _ k'' ver' hh => by cases hh⟩
       . rw [enc_dSet hok _ _ hq] at hd
         obtain ⟨u', z1, z2, z3, z4, z5⟩ := k4 i q x d hx hd
         exact ⟨u', z1, z2, z3, fun hq' => absurd hq' hq, fun _ k'' ver' hh => by cases hh⟩
     . have hy' : xs[j]? = some y := by simpa [hij] using hy
       obtain ⟨u', z1, z2, z3, z4, z5⟩ := k4 j q y d hy' hd
       exact ⟨u', z1, z2, z3, fun hq _ => by rw [List.getElem?_set_ne hij]; exact z4 hq (noHole_ne hij), fun _ k'' ver' hh => by cases hh⟩
theorem SimB.putBackX (h : SimB w0 U0 X β0 β U s a w) {k k' ver v' i : Nat} (hkk : k ≠ k') {e ei : TypeId} {c : Nat} {os : List Nat} {xs : List (τ c)} (hb : s.blk k = some (.dx ver e ei c os (some (i, some (k', v'))) xs)) {fr : Bool} {ys : List (τ (dIn c))} (hb' : s.blk k' = some (.rowT v' ei (dIn c) true fr ys)) :
  ∃ β', SimB w0 U0 X β0 β' U (s.upd [(k, .dx ver e ei c os none (xs.modify i fun x => dSet c x ys)), (k', .rowT (v' + 1) ei (dIn c) true true [])]) a w /\ ∃ v us us', β k = some (.deep v ver us) /\ β' k = some (.deep v ver us') := by
 obtain ⟨p, hp, hr⟩ := h.mem k _ hb
 obtain ⟨p', hp', hr'⟩ := h.mem k' _ hb'
 cases p with
 | cells => exact hr.elim
 | row => exact hr.elim
 | deep v ver0 us =>
  have hv := hr.1
  subst hv
  cases p' with
  | cells => exact hr'.elim
  | deep => exact hr'.elim
  | row u v0 =>
   have hv' := hr'.1
   subst hv'
   have hok := hr.2.1
   have hin := Inner.ofRow hr' (flat_dIn hok)
   have hsep : ∀ b, u.ownBlock = some b -> ¬ (Place.deep v ver us).has b := fun b hb1 hb2 => h.hasApart (p := .row u v') (p' := .deep v ver us) (fun e => hkk e.symm) hp' hp rfl hb1 hb2
   refine ⟨_, h.repl2 (w' := w) (p1' := .deep v ver (us.set i u)) (p2' := .row nilV (v' + 1)) hkk hp hp' hb hb' rfl rfl rfl rfl rfl rfl rfl (Nat.le_refl _) (fun _ _ _ _ => rfl) (.inr (.inr ⟨_, _, _, _, _, _, rfl, rfl, Nat.le_refl _, fun _ => rfl⟩))
     (.inr (.inl ⟨_, _, _, _, rfl, rfl, Nat.lt_succ_self _⟩)) (fun b hb => ?_) (fun b hb => (dead_has hb).elim) (fun b _ h2 => dead_has h2) (hr.putBackX hp' hin hsep _) deadRep, v, us, us.set i u, hp, ?_⟩
   . rcases has_setV hb with hb | hb
     . exact .inl hb
     . exact .inr (.inl hb)
   . rw [upd_ne _ (fun e => hkk e.symm), upd_self]
theorem dx_cells {v : Value} {ver : Nat} {us : List Value} {e ei : TypeId} {c : Nat} {os : List Nat} {hole : Option (Nat × Option (Nat × Nat))} {xs : List (τ c)} (h : RepB w β U base (.deep v ver us) (.dx ver e ei c os hole xs)) {g n cp : Nat} (hv : v = .slice (some ⟨g, 0, none⟩) n cp) {i : Nat} {x : τ c} (hx : xs[i]? = some x) {l : C}
   (hl : ∀ u, w.cell? ⟨g, i * esz c + dIc c, none⟩ = some u -> RepC w β U base u l) :
   ∀ (j : Nat) (q : C), (dCells c x l)[j]? = some q -> ∃ u, w.cell? ⟨g, i * esz c + j, none⟩ = some u /\ u.oneCell' = true /\ RepC w β U base u q := by
 obtain ⟨_, hok, h1, h2, h3, h4, h5⟩ := h
 intro j q hq
 subst hv
 rcases h5 with ⟨h5, _⟩ | ⟨g', cap, cur, e1, hg, k1, k2, k3, k4⟩
 . cases h5
 . cases e1
   have cellE : ∀ {q : Nat} {u : Value}, cur[q]? = some u -> w.cell? ⟨g, q, none⟩ = some u := fun hc => by simp only [World.cell?, hg]; exact hc
   rcases dCells_get hq with ⟨rfl, rfl⟩ | ⟨hj, d, hd, rfl⟩
   . obtain ⟨u, z1, z2, _⟩ := k4 i _ x _ hx (enc_dGet hok x)
     exact ⟨u, cellE z1, z2, hl u (cellE z1)⟩
   . obtain ⟨u, z1, z2, z3, _⟩ := k4 i j x d hx hd
     exact ⟨u, cellE z1, z2, toC_sound (fr := true) ((z3 hj).mono (fun _ hb => hb.elim) (fun _ hb => hb.elim))⟩
def oSet : List Nat -> Nat -> Nat -> List Nat
 | [], 0, o => [o]
 | [], i + 1, o => 0 :: oSet [] i o
 | _ :: r, 0, o => o :: r
 | a :: r, i + 1, o => a :: oSet r i o
theorem oSet_self : ∀ (os : List Nat) (i o : Nat), (oSet os i o).getD i 0 = o
 | [], 0, o => rfl
 | [], i + 1, o => by show (0 :: oSet [] i o).getD (i + 1) 0 = o; rw [List.getD_cons_succ]; exact oSet_self [] i o
 | _ :: r, 0, o => rfl
 | a :: r, i + 1, o => by show (a :: oSet r i o).getD (i + 1) 0 = o; rw [List.getD_cons_succ]; exact oSet_self r i o
theorem oSet_ne : ∀ (os : List Nat) (i j o : Nat), i ≠ j -> (oSet os i o).getD j 0 = os.getD j 0
 | [], 0, 0, o, h => absurd rfl h
 | [], 0, j + 1, o, h => rfl
 | [], i + 1, 0, o, h => rfl
 | [], i + 1, j + 1, o, h => by show (0 :: oSet [] i o).getD (j + 1) 0 = _; rw [List.getD_cons_succ, oSet_ne [] i j o (by omega)]; rfl
 | _ :: r, 0, 0, o, h => absurd rfl h
 | _ :: r, 0, j + 1, o, h => rfl
 | a :: r, i + 1, 0, o, h => rfl
 | a :: r, i + 1, j + 1, o, h => by show (a :: oSet r i o).getD (j + 1) 0 = _; rw [List.getD_cons_succ, List.getD_cons_succ]; exact oSet_ne r i j o (by omega)
def zxTake (P : Program) (t : TypeId) (k ver : Nat) (e ei : TypeId) (c : Nat) (os : List Nat) (xs : List (τ c)) (i off nv : Nat) : Tr Out :=
 .opt (xs[i]?) fun x => match partC P t (dCells c x (.sub (hkey k) nv (esz (dIn c)) (os.getD i 0) ((dGet c x).length - os.getD i 0))) off with
  | some v => .ret ⟨v, [(k, .dx ver e ei c os (some (i, some (hkey k, nv))) xs), (hkey k, .rowT nv ei (dIn c) true true (dGet c x))]⟩
  | none => .fail 43
def zxIn (P : Program) (t : TypeId) (k : Nat) (c : Nat) (os : List Nat) (xs : List (τ c)) (i j off v1 n : Nat) : Tr Out :=
 .grd (decide (i = j)) (.opt (xs[i]?) fun x => match partC P t (dCells c x (.sub (hkey k) v1 (esz (dIn c)) (os.getD i 0) (n - os.getD i 0))) off with
  | some v => .ret ⟨v, []⟩
  | none => .fail 43)
def zxLoad (P : Program) (t : TypeId) (y : Operand) (ρ : Operand -> V) (m : Nat -> Option Blk) : Option (Tr Out) :=
 match ρ y with
 | .one (.dpr k ver sz i off) => match m k with
  | some (.dx ver' e ei c os hole xs) => match decide (ver = ver' /\ sz = esz c), decide (off <= dIc c /\ dIc c < off + tsz P t) with
   | true, false => some (.opt (xs[i]?) fun x => match partC P t (dCells c x .bad) off with
    | some v => .ret ⟨v, []⟩
    | none => .fail 43)
   | true, true => match hole, m (hkey k) with
    | none, none => some (zxTake P t k ver e ei c os xs i off 1)
    | none, some (.rowT v1 _ _ _ _ _) => some (zxTake P t k ver e ei c os xs i off (v1 + 1))
    | some (j, some (k', v')), some (.rowT v1 _ _ _ _ ys) => match decide (k' = hkey k /\ v' = v1) with
     | true => some (zxIn P t k c os xs i j off v1 ys.length)
     | false => none
    | _, _ => none
   | _, _ => none
  | _ => none
 | _ => none
theorem zxTake_sem {o : Oper} {t : TypeId} {y : Operand} (hop : o.op = .load t y) (hd : ∀ d, o.dst = some d -> d < s.n) {k ver sz i off : Nat} (hy : s.eval y = .one (.dpr k ver sz i off)) {e ei : TypeId} {c : Nat} {os : List Nat} {xs : List (τ c)} (hb : s.blk k = some (.dx ver e ei c os none xs)) (hro : rowOr (s.blk (hkey k)) = true)
  (hsz : sz = esz c) {E : Out} (hE : (zxTake P t k ver e ei c os xs i off (nextV (s.blk (hkey k)))).eval = some E) (h : SimB w0 U0 X β0 β U s a w) :
  ∃ v, (execOp a.eval o).run P w = .ok (.value v) w /\ Sim w0 U0 X β0 (s.out o.dst E) (a.put o.dst v) w := by
 obtain ⟨x, hx, h2⟩ := Option.bind_eq_some_iff.1 hE
 simp only at h2
 split at h2
 case h_2 => cases h2
 rename_i vv hpart
 cases h2
 have hvy := h.eval y
 rw [hy] at hvy
 obtain ⟨ad, v0, ver0, us, hv, hkβ, hv1, hv2⟩ := hvy.toC
 obtain ⟨p, hp, hr⟩ := h.mem k _ hb
 rw [hkβ] at hp; cases hp
 obtain rfl := hr.1
 obtain ⟨g, n, cp, rfl, rfl⟩ := hv2 rfl
 obtain ⟨β', u, hs1, hb1, hb2, hus, hin, hevo⟩ := h.takeOutX hb hkβ hro hx
 have hkk : k ≠ hkey k := by simp [hkey]
 obtain ⟨p1, hp1, hr1⟩ := hs1.mem k (.dx ver e ei c os (some (i, some (hkey k, nextV (s.blk (hkey k))))) xs) (by show look k ((k, _) :: _) = _; rw [look_cons_self])
 rw [hb1] at hp1; cases hp1
 obtain ⟨ao, cap, hsh, hs2, hs3, hs4⟩ := hin.shape
 have hcells := dx_cells hr1 rfl hx (l := .sub (hkey k) (nextV (s.blk (hkey k))) (esz (dIn c)) (os.getD i 0) ((dGet c x).length - os.getD i 0)) (fun u' hu' => by
  obtain ⟨_, hok, _, _, _, _, h5⟩ := hr1
  rcases h5 with ⟨h5, _⟩ | ⟨g', cap', cur, e1, hg, k1, k2, k3, k4⟩
  . cases h5
  . cases e1
    obtain ⟨u2, z1, _, _, _, z5⟩ := k4 i _ x _ hx (enc_dGet hok x)
    obtain ⟨v1, ver1, f1, f2, f3⟩ := z5 rfl _ _ rfl
    rw [hb2] at f1; cases f1
    have e2 := f3 rfl
    simp only [World.cell?, hg] at hu'
    rw [z1] at hu'; cases hu'
    exact PartO.toSub e2 (by
     rcases hin with ⟨e3, e4⟩ | ⟨g3, cap3, cur3, e3, _, e5, _⟩
     . exact .inl ⟨e3, by rw [e4]; rfl⟩
     . exact .inr ⟨_, _, e3, e5⟩) hb2)
 obtain ⟨v, hrun, hrep⟩ := load_part (P := P) (t := t) (o := i * esz c) (off := off) hcells hpart
 subst hsz
 refine ⟨v, ?_, _, _, hs1.put hrep (fun d e => hd d e)⟩
 simp only [execOp, hop, hv]
 exact wrapV hrun
theorem zxLoad_sem {o : Oper} {t : TypeId} {y : Operand} {ρ : Operand -> V} {m : Nat -> Option Blk} (hop : o.op = .load t y) (hρ : ∀ y ∈ o.op.operands, s.eval y = ρ y) (hm : ∀ k ∈ (ρ y).keys, s.blk k = m k) (hd : ∀ d, o.dst = some d -> d < s.n)
   {T : Tr Out} {E : Out} (h : zxLoad P t y ρ m = some T) (hT : T.eval = some E) : SemStep P o s E := by
 unfold zxLoad at h
 rw [hop] at hρ
 have hy0 : s.eval y = ρ y := hρ y (by simp [Op.operands])
 split at h
 case h_2 => cases h
 rename_i k ver sz i off hy
 rw [hy] at hm
 have m1 := hm k (by simp [V.keys, C.keys])
 have m2 := hm (hkey k) (by simp [V.keys, C.keys])
 split at h
 case h_2 => cases h
 rename_i ver' e ei c os hole xs hmk
 have hb : s.blk k = some (.dx ver' e ei c os hole xs) := m1.trans hmk
 have hy' : s.eval y = .one (.dpr k ver sz i off) := hy0.trans hy
 split at h
 . rename_i hc hin
   simp only [decide_eq_true_eq] at hc
   obtain ⟨rfl, rfl⟩ := hc
   cases h
   obtain ⟨x, hx, h2⟩ := Option.bind_eq_some_iff.1 hT
   simp only at h2
   split at h2
   case h_2 => cases h2
   rename_i vv hpart
   cases h2
   refine semVal hd fun w0 U0 X β0 β U a w hs => ?_
   have hvy := hs.eval y
   rw [hy'] at hvy
   obtain ⟨ad, v0, ver0, us, hv, hkβ, hv1, hv2⟩ := hvy.toC
   obtain ⟨p, hp, hr⟩ := hs.mem k _ hb
   rw [hkβ] at hp; cases hp
   obtain rfl := hr.1
   obtain ⟨g, n, cp, rfl, rfl⟩ := hv2 rfl
   obtain ⟨v, hrun, hrep⟩ := load_part (P := P) (t := t) (o := i * esz c) (off := off) (dx_cells hr rfl hx (l := .bad) (fun _ _ => trivial)) hpart
   refine ⟨v, ?_, hrep⟩
   simp only [execOp, hop, hv]
   exact wrapV hrun
 . rename_i hc hin
   simp only [decide_eq_true_eq] at hc
   obtain ⟨rfl, hsz⟩ := hc
   split at h
   . rename_i hmh
     cases h
     have hn : s.blk (hkey k) = none := m2.trans hmh
     intro w0 U0 X β0 β U a w hs
     obtain ⟨v, q1, q2⟩ := zxTake_sem hop hd hy' hb (by rw [hn]; rfl) hsz (by rw [hn]; exact hT) hs
     exact ⟨v, w, .inl q1, q2⟩
   . rename_i v1 e1 c1 ap fr ys hmh
     cases h
     have hn := m2.trans hmh
     intro w0 U0 X β0 β U a w hs
     obtain ⟨v, q1, q2⟩ := zxTake_sem hop hd hy' hb (by rw [hn]; rfl) hsz (by rw [hn]; exact hT) hs
     exact ⟨v, w, .inl q1, q2⟩
   . rename_i j k' v' v1 e1 c1 ap fr ys hmh
     split at h
     case h_2 => cases h
     rename_i hc2
     simp only [decide_eq_true_eq] at hc2
     obtain ⟨rfl, rfl⟩ := hc2
     cases h
     have hn := m2.trans hmh
     unfold zxIn at hT
     obtain ⟨hij, hT2⟩ := Tr.eval_grd hT
     have hij : i = j := by simpa using hij
     subst hij
     obtain ⟨x, hx, h2⟩ := Option.bind_eq_some_iff.1 hT2
     simp only at h2
     split at h2
     case h_2 => cases h2
     rename_i vv hpart
     cases h2
     refine semVal hd fun w0 U0 X β0 β U a w hs => ?_
     have hvy := hs.eval y
     rw [hy'] at hvy
     obtain ⟨ad, v0, ver0, us, hv, hkβ, hv1, hv2⟩ := hvy.toC
     obtain ⟨p, hp, hr⟩ := hs.mem k _ hb
     rw [hkβ] at hp; cases hp
     obtain rfl := hr.1
     obtain ⟨g, n, cp, rfl, rfl⟩ := hv2 rfl
     have hcells := dx_cells hr rfl hx (l := .sub (hkey k) v' (esz (dIn c)) (os.getD i 0) (ys.length - os.getD i 0)) (fun u' hu' => by
      obtain ⟨_, hok, _, _, _, _, h5⟩ := hr
      rcases h5 with ⟨h5, _⟩ | ⟨g', cap', cur, e1, hg, k1, k2, k3, k4⟩
      . cases h5
      . cases e1
        obtain ⟨u2, z1, _, _, _, z5⟩ := k4 i _ x _ hx (enc_dGet hok x)
        obtain ⟨w1, ver1, f1, f2, f3⟩ := z5 rfl _ _ rfl
        obtain ⟨q1, q2, q3⟩ := hs.placeStd (by rw [hn]; rfl) f1
        subst q1
        have e2 := f3 rfl
        simp only [World.cell?, hg] at hu'
        rw [z1] at hu'; cases hu'
        exact PartO.toSub e2 (by
         rcases q3 with ⟨e3, e4⟩ | ⟨g3, cap3, cur3, fz3, e3, _, e5, _⟩
         . exact .inl ⟨e3, by simpa using e4⟩
         . rw [List.length_map] at e3 e5; exact .inr ⟨_, _, e3, e5⟩) f1)
     obtain ⟨v, hrun, hrep⟩ := load_part (P := P) (t := t) (o := i * esz c) (off := off) hcells hpart
     subst hsz
     refine ⟨v, ?_, hrep⟩
     simp only [execOp, hop, hv]
     exact wrapV hrun
   . cases h
 . cases h
theorem flat_storeX {v : Value} {ver : Nat} {us : List Value} {e ei : TypeId} {c : Nat} {os : List Nat} {hole : Option (Nat × Option (Nat × Nat))} {xs : List (τ c)} {g n cp : Nat} (hv : v = .slice (some ⟨g, 0, none⟩) n cp) (h : RepB w β U base (.deep v ver us) (.dx ver e ei c os hole xs)) {i off : Nat} {x0 x1 : τ c} (hx0 : xs[i]? = some x0)
   {ds : List D} (hle : off + ds.length <= esz c) (hno : ¬ (off <= dIc c /\ dIc c < off + ds.length)) (hw : WkDs (spliceC (enc c x0) off ds) (enc c x1)) {ul : List Value} (hul : ul.length = ds.length) (h1 : ∀ u ∈ ul, u.oneCell' = true)
   (hds : ∀ (j : Nat) (u : Value) (d : D), ul[j]? = some u -> ds[j]? = some d -> RepI w (fun _ => False) u d) {β' : Nat -> Option Place} (hβ : ∀ k v1 v2, β k = some (.row v1 v2) -> β' k = some (.row v1 v2)) :
   RepB (w.setCells g (i * esz c + off) ul) β' U base (.deep v ver us) (.dx ver e ei c os hole (xs.set i x1)) := by
 obtain ⟨_, hok, l1, l2, l3, l4, l5⟩ := h
 obtain ⟨hwl, hwg⟩ := WkDs_get hw
 have hi : i < xs.length := (List.getElem?_eq_some_iff.1 hx0).1
 have hel : (enc c x0).length = esz c := enc_len c x0
 have hsame : dGet c x1 = dGet c x0 := by
   have hj := enc_dGet hok x1
   obtain ⟨d0, g4, g5⟩ := hwg _ _ hj
   rw [spliceC_get _ _ _ _ (by omega), if_neg hno, enc_dGet hok] at g4
   cases g4
   exact g5.stEq
 subst hv
 rcases l5 with ⟨e1, _⟩ | ⟨g', cap, cur, e1, hg, k1, k2, k3, k4⟩
 . cases e1
 cases e1
 have hin : i * esz c + off + ul.length <= cur.size := by
   rw [k3]
   have : (i + 1) * esz c <= cp * esz c := Nat.mul_le_mul_right _ (by omega)
   rw [Nat.add_mul] at this
   omega
 obtain ⟨cur', p1, p2, p3, p4⟩ := deep_stored (w := w) (n := xs.length) (cp := cp) (c := c) hg (i := i) (off := off) (ul := ul) hin
 have hoth : ∀ (j : Nat) (u : Value) (b : Nat), us[j]? = some u -> u.ownBlock = some b -> (w.setCells g (i * esz c + off) ul).heap[b]? = w.heap[b]? := fun j u b hu hb => setCells_other g ul _ w b fun e => by
   subst e; exact l2.2 j u b hu hb rfl
 refine ⟨rfl, hok, by rw [List.length_set]; exact l1, l2, fun j u x hu hx hn => ?_, fun j l hh => by rw [List.length_set]; exact l4 j l hh, .inr ⟨g, cp, cur', by rw [List.length_set], p1, by rw [List.length_set]; exact k1, k2, by rw [p2]; exact k3, fun j q x d hx hd => ?_⟩⟩
 . rcases set_get hx with ⟨rfl, rfl, _⟩ | ⟨_, hx⟩
   . rw [hsame]; exact (l3 i u x0 hu hx0 hn).map (fun b hb => hoth i u b hu hb)
   . exact (l3 j u x hu hx hn).map (fun b hb => hoth j u b hu hb)
 . have hq : q < esz c := by have := (List.getElem?_eq_some_iff.1 hd).1; rw [enc_len] at this; exact this
   have up : ∀ {u : Value} {d : D}, RepI w (fun _ => False) u d -> RepI (w.setCells g (i * esz c + off) ul) (fun _ => False) u d := fun hr => hr.mono (fun _ hb => hb) (fun _ hb => hb.elim)
   rcases set_get hx with ⟨rfl, rfl, _⟩ | ⟨hij, hx⟩
   . obtain ⟨d0, g4, g5⟩ := hwg _ _ hd
     rw [spliceC_get _ _ _ _ (by omega)] at g4
     split at g4
     . rename_i hr
       have hlt : q - off < ul.length := by omega
       have := p4 (q - off) hlt
       rw [show i * esz c + off + (q - off) = i * esz c + q by omega] at this
       refine ⟨ul[q - off], this, h1 _ (List.getElem_mem hlt), fun _ => (up (hds _ _ _ (List.getElem?_eq_getElem hlt) g4)).wkD g5, fun hj => ?_, fun hj => ?_⟩
       . exact absurd (by omega : off <= dIc c /\ dIc c < off + ds.length) hno
       . exact absurd (by omega : off <= dIc c /\ dIc c < off + ds.length) hno
     . rename_i hr
       obtain ⟨u, z1, z2, z3, z4, z5⟩ := k4 i q x0 d0 hx0 g4
       refine ⟨u, (p3 i q hq (fun _ => by omega) (by omega)).trans z1, z2, fun hj => (up (z3 hj)).wkD g5, z4, fun hj k' ver' hh => ?_⟩
       obtain ⟨v1, ver1, f1, f2, f3⟩ := z5 hj k' ver' hh
       exact ⟨v1, ver1, hβ _ _ _ f1, f2, f3⟩
   . obtain ⟨u, z1, z2, z3, z4, z5⟩ := k4 j q x d hx hd
     refine ⟨u, (p3 j q hq (fun e => absurd e.symm hij) (by omega)).trans z1, z2, fun hj => up (z3 hj), z4, fun hj k' ver' hh => ?_⟩
     obtain ⟨v1, ver1, f1, f2, f3⟩ := z5 hj k' ver' hh
     exact ⟨v1, ver1, hβ _ _ _ f1, f2, f3⟩
def zxStore (P : Program) (dst : Option Nat) (t : TypeId) (y x : Operand) (ρ : Operand -> V) (m : Nat -> Option Blk) : Option (Tr Out) :=
 match dst, ρ y, (ρ x).cells with
 | none, .one (.dpr k ver sz i off), some cs => match m k with
  | some (.dx ver' e ei c os hole xs) => match decide (ver = ver' /\ sz = esz c /\ cs.length = tsz P t /\ off + cs.length <= sz /\ (P.info? t).isSome), decide (off <= dIc c /\ dIc c < off + cs.length) with
   | true, false => match cs.all C.flatV, cs.mapM toD with
    | true, some ds => some (.opt (xs[i]?) fun x0 => match decG c (spliceC (enc c x0) off ds) with
     | some T => T.bind fun x1 => .ret ⟨.one .un, [(k, .dx ver' e ei c os hole (xs.set i x1))]⟩
     | none => .fail 44)
    | _, _ => none
   | _, _ => none
  | _ => none
 | _, _, _ => none
theorem zxStore_sem {o : Oper} {t : TypeId} {y x : Operand} {ρ : Operand -> V} {m : Nat -> Option Blk} (hop : o.op = .store t y x) (hρ : ∀ y ∈ o.op.operands, s.eval y = ρ y) (hm : ∀ k ∈ effKeys o.dst o.op ρ, s.blk k = m k)
   {T : Tr Out} {E : Out} (h : zxStore P o.dst t y x ρ m = some T) (hT : T.eval = some E) : SemStep P o s E := by
 unfold zxStore at h
 rw [hop] at hρ hm
 have hy0 : s.eval y = ρ y := hρ y (by simp [Op.operands])
 have hx0 : s.eval x = ρ x := hρ x (by simp [Op.operands])
 split at h
 case h_2 => cases h
 rename_i k ver sz i off cs hdst hy hcs
 have m1 : s.blk k = m k := hm k (by simp [effKeys, hy, V.keys, C.keys])
 split at h
 case h_2 => cases h
 rename_i ver' e ei c os hole xs hmk
 have hb : s.blk k = some (.dx ver' e ei c os hole xs) := m1.trans hmk
 have hy' : s.eval y = .one (.dpr k ver sz i off) := hy0.trans hy
 -- what is common
 have common : ∀ {w0 : World} {U0 : Nat -> Prop} {X : Nat -> Nat -> Prop} {β0 β : Nat -> Option Place} {U : Nat -> Prop} {a : Act} {w : World}, SimB w0 U0 X β0 β U s a w -> (ver = ver' /\ sz = esz c /\ cs.length = tsz P t /\ off + cs.length <= sz /\ (P.info? t).isSome) -> ∀ {x0 : τ c}, xs[i]? = some x0 ->
     ∃ g n cp us, β k = some (.deep (.slice (some ⟨g, 0, none⟩) n cp) ver us) /\ RepB w β U w0.heap.size (.deep (.slice (some ⟨g, 0, none⟩) n cp) ver us) (.dx ver e ei c os hole xs) /\ RepCs w β U w0.heap.size (a.eval x).cells.toList cs /\ (∀ u ∈ (a.eval x).cells.toList, u.oneCell' = true) /\
      (execOp a.eval o).run P w = .ok .skip (w.setCells g (i * esz c + off) (a.eval x).cells.toList) := by
   rintro w0 U0 X β0 β U a w hs ⟨rfl, rfl, hlen, hle, hit⟩ x0 hx
   obtain ⟨it, hit⟩ := Option.isSome_iff_exists.1 hit
   have hvx := hs.eval x
   rw [hx0] at hvx
   obtain ⟨hrep, h1⟩ := V.cells_sound hvx hcs
   have hvy := hs.eval y
   rw [hy'] at hvy
   obtain ⟨ad, v0, ver0, us, hv, hkβ, hv1, hv2⟩ := hvy.toC
   obtain ⟨p, hp, hr⟩ := hs.mem k _ hb
   rw [hkβ] at hp; cases hp
   obtain rfl := hr.1
   obtain ⟨g, n, cp, rfl, rfl⟩ := hv2 rfl
   refine ⟨g, n, cp, us, hkβ, hr, hrep, h1, ?_⟩
   have hsz : (a.eval x).cells.size = it.size := by
     have := hrep.1
     simp only [Array.length_toList] at this
     rw [this, hlen]; simp [tsz, Program.cellsOf, hit]
   obtain ⟨_, hok, l1, l2, l3, l4, l5⟩ := hr
   rcases l5 with ⟨e1, _⟩ | ⟨g', cap, cur, e1, hg, k1, k2, k3, k4⟩
   . cases e1
   cases e1
   have hi : i < xs.length := (List.getElem?_eq_some_iff.1 hx).1
   simp only [execOp, hop, hv]
   rw [Sem.run_bind, run_storeAt hit hsz (fun j hj => ?_) h1]
   . rfl
   . have hl := hrep.1
     simp only [Array.length_toList] at hl
     have : (i + 1) * esz c <= cp * esz c := Nat.mul_le_mul_right _ (by omega)
     rw [Nat.add_mul] at this
     exact ⟨by simp only [World.cell?, hg]; rw [Array.getElem?_eq_getElem (by omega)]; rfl, by simp [World.frozen?, hg]⟩
 split at h
 . -- flat cells
   rename_i hc hin
   simp only [decide_eq_true_eq] at hc
   simp only [decide_eq_false_iff_not] at hin
   split at h
   case h_2 => cases h
   rename_i ds hfl hds
   cases h
   obtain ⟨y0, hy0', h2⟩ := Option.bind_eq_some_iff.1 hT
   simp only at h2
   split at h2
   case h_2 => cases h2
   rename_i T1 hT1
   rw [Tr.eval_bind] at h2
   obtain ⟨x1, hx1, h3⟩ := Option.bind_eq_some_iff.1 h2
   cases h3
   have hw := decG_wk hT1 hx1
   intro w0 U0 X β0 β U a w hs
   obtain ⟨g, n, cp, us, hkβ, hr, hrep, h1, hrun⟩ := common hs hc hy0'
   obtain ⟨rfl, rfl, hlen, hle, hit⟩ := hc
   obtain ⟨hdl, hdg⟩ := mapM_toD cs ds hds
   have hul : (a.eval x).cells.toList.length = ds.length := by rw [<- hdl]; exact hrep.1
   have hfs := flat_storeX rfl hr hy0' (off := off) (x1 := x1) (ds := ds) (by omega) (by omega) hw hul h1 (fun j u d hu hd => by
     have hj : j < cs.length := by have := (List.getElem?_eq_some_iff.1 hd).1; omega
     have hcj := List.getElem?_eq_getElem hj
     have h4 := toD_sound (hrep.2 j u _ hu hcj) (hdg j _ d hcj hd)
     have h5 := List.all_eq_true.1 hfl _ (List.getElem_mem hj)
     have h6 := hdg j _ d hcj hd
     generalize cs[j] = cc at h5 h6
     cases cc with
     | d x => cases h6; exact flat_any h4 h5
     | _ => cases h5) (β' := upd β k (.deep (.slice (some ⟨g, 0, none⟩) n cp) ver us)) (fun k1 v1 v2 h1 => by
      rw [upd_ne _ (fun e => by subst e; rw [hkβ] at h1; cases h1)]; exact h1)
   have hs1 := hs.storeDeep hb hkβ (fun b hb => hb) hfs
   refine ⟨undef, _, .inr ⟨hrun, rfl⟩, upd β k (.deep (.slice (some ⟨g, 0, none⟩) n cp) ver us), U, ?_⟩
   rw [hdst]
   exact hs1
 . cases h
theorem part_store {v : Value} {ver : Nat} {us : List Value} {e ei : TypeId} {c : Nat} {os : List Nat} {k' v' : Nat} {xs : List (τ c)} {g n cp i : Nat} (hv : v = .slice (some ⟨g, 0, none⟩) n cp) (h : RepB w β U base (.deep v ver us) (.dx ver e ei c os (some (i, some (k', v'))) xs))
   {u u' : Value} {o : Nat} (hu1 : u'.oneCell' = true) (hpart : PartO (esz (dIn c)) o u u') {β' : Nat -> Option Place} (hk' : β' k' = some (.row u v')) :
   RepB (w.setCells g (i * esz c + dIc c) [u']) β' U base (.deep v ver us) (.dx ver e ei c (oSet os i o) (some (i, some (k', v'))) xs) := by
 obtain ⟨_, hok, l1, l2, l3, l4, l5⟩ := h
 obtain ⟨hi, hui⟩ := l4 i _ rfl
 have hic := dIc_lt hok
 subst hv
 rcases l5 with ⟨e1, _⟩ | ⟨g', cap, cur, e1, hg, k1, k2', k3, k4⟩
 . cases e1
 cases e1
 have hin : i * esz c + dIc c + [u'].length <= cur.size := by
   rw [k3]
   have : (i + 1) * esz c <= cp * esz c := Nat.mul_le_mul_right _ (by omega)
   rw [Nat.add_mul] at this
   simp only [List.length_singleton]
   omega
 obtain ⟨cur', p1, p2, p3, p4⟩ := deep_stored (w := w) (n := xs.length) (cp := cp) (c := c) hg (i := i) (off := dIc c) (ul := [u']) hin
 simp only [List.length_singleton] at p3 p4
 have hoth : ∀ (j : Nat) (u0 : Value) (b : Nat), us[j]? = some u0 -> u0.ownBlock = some b -> (w.setCells g (i * esz c + dIc c) [u']).heap[b]? = w.heap[b]? := fun j u0 b hu hb => setCells_other g [u'] _ w b fun e => by
   subst e; exact l2.2 j u0 b hu hb rfl
 have up : ∀ {u0 : Value} {d : D}, RepI w (fun _ => False) u0 d -> RepI (w.setCells g (i * esz c + dIc c) [u']) (fun _ => False) u0 d := fun hr => hr.mono (fun _ hb => hb) (fun _ hb => hb.elim)
 refine ⟨rfl, hok, l1, l2, fun j u0 x hu hx hn => (l3 j u0 x hu hx hn).map (fun b hb => hoth j u0 b hu hb), l4, .inr ⟨g, cp, cur', rfl, p1, k1, k2', by rw [p2]; exact k3, fun j q x d hx hd => ?_⟩⟩
 have hq : q < esz c := by have := (List.getElem?_eq_some_iff.1 hd).1; rw [enc_len] at this; exact this
 by_cases hat : i = j /\ q = dIc c
 . obtain ⟨rfl, rfl⟩ := hat
   refine ⟨u', by simpa using p4 0 (by simp), hu1, fun hj => absurd rfl hj, fun _ hn => ?_, fun _ k2 v2 hh => ?_⟩
   . rw [noHole_self] at hn; cases hn
   . cases hh
     exact ⟨u, v', hk', Nat.le_refl _, fun _ => by rw [oSet_self]; exact hpart⟩
 . obtain ⟨u0, z1, z2, z3, z4, z5⟩ := k4 j q x d hx hd
   refine ⟨u0, (p3 j q hq (fun e => by
     have : q ≠ dIc c := fun e' => hat ⟨e.symm, e'⟩
     omega) (by omega)).trans z1, z2, fun hj => up (z3 hj), fun hj hn => ?_, fun hj k2 v2 hh => ?_⟩
   . have hij : i ≠ j := fun e => hat ⟨e, hj⟩
     rw [oSet_ne _ _ _ _ hij]; exact z4 hj hn
   . cases hh; exact absurd ⟨rfl, hj⟩ hat
def zxSub (P : Program) (dst : Option Nat) (t : TypeId) (y x : Operand) (ρ : Operand -> V) (m : Nat -> Option Blk) : Option (Tr Out) :=
 match dst, ρ y, ρ x with
 | none, .one (.dpr k ver sz i off), .one (.sub k2 v2 sz2 off2 len2) => match m k, m k2 with
  | some (.dx ver' e ei c os (some (j, some (k', v'))) xs), some (.rowT v2' e2 c2 ap fr ys) => match decide (ver = ver' /\ sz = esz c /\ off = dIc c /\ 1 = tsz P t /\ (P.info? t).isSome /\ v2 = v2' /\ sz2 = esz (dIn c) /\ k ≠ k2 /\ k' = k2 /\ v' = v2) with
   | true => some (.grd (decide (i = j /\ off2 + len2 = ys.length)) (.opt (xs[i]?) fun _ => .ret ⟨.one .un, [(k, .dx ver' e ei c (oSet os i off2) (some (j, some (k', v'))) xs)]⟩))
   | false => none
  | _, _ => none
 | _, _, _ => none
theorem zxSub_sem {o : Oper} {t : TypeId} {y x : Operand} {ρ : Operand -> V} {m : Nat -> Option Blk} (hop : o.op = .store t y x) (hρ : ∀ y ∈ o.op.operands, s.eval y = ρ y) (hm : ∀ k ∈ effKeys o.dst o.op ρ, s.blk k = m k)
   {T : Tr Out} {E : Out} (h : zxSub P o.dst t y x ρ m = some T) (hT : T.eval = some E) : SemStep P o s E := by
 unfold zxSub at h
 rw [hop] at hρ hm
 have hy0 : s.eval y = ρ y := hρ y (by simp [Op.operands])
 have hx0 : s.eval x = ρ x := hρ x (by simp [Op.operands])
 split at h
 case h_2 => cases h
 rename_i k ver sz i off k2 v2 sz2 off2 len2 hdst hy hx
 have m1 : s.blk k = m k := hm k (by simp [effKeys, hy, hx, V.keys, C.keys])
 have m2 : s.blk k2 = m k2 := hm k2 (by simp [effKeys, hy, hx, V.keys, C.keys])
 split at h
 case h_2 => cases h
 rename_i ver' e ei c os j k' v' xs v2' e2 c2 ap fr ys hmk hmk2
 split at h
 case h_2 => cases h
 rename_i hc
 simp only [decide_eq_true_eq] at hc
 obtain ⟨rfl, rfl, rfl, htz, hit, rfl, rfl, hne, rfl, rfl⟩ := hc
 cases h
 obtain ⟨hg1, hT⟩ := Tr.eval_grd hT
 simp only [decide_eq_true_eq] at hg1
 obtain ⟨rfl, hlen⟩ := hg1
 obtain ⟨y0, hy0', h2⟩ := Option.bind_eq_some_iff.1 hT
 cases h2
 have hb : s.blk k = some (.dx ver e ei c os (some (i, some (k', v'))) xs) := m1.trans hmk
 have hb2 : s.blk k' = some (.rowT v' e2 c2 ap fr ys) := m2.trans hmk2
 have hy' : s.eval y = .one (.dpr k ver (esz c) i (dIc c)) := hy0.trans hy
 intro w0 U0 X β0 β U a w hs
 obtain ⟨it, hit⟩ := Option.isSome_iff_exists.1 hit
 have hvx := hs.eval x
 rw [hx0, hx] at hvx
 obtain ⟨ao, cap', v0, uver, hux, hlc, hn0, hk2β, hle2, hpt⟩ := hvx.toC
 have hvy := hs.eval y
 rw [hy'] at hvy
 obtain ⟨ad, vd, ver0, us, hv, hkβ, hv1, hv2⟩ := hvy.toC
 obtain ⟨p, hp, hr⟩ := hs.mem k _ hb
 rw [hkβ] at hp; cases hp
 obtain rfl := hr.1
 obtain ⟨q1, q2, q3⟩ := hs.placeStd (by rw [hb2]; rfl) hk2β
 subst q1
 obtain ⟨g, n, cp, rfl, rfl⟩ := hv2 rfl
 have hpart : PartO (esz (dIn c)) off2 v0 (a.eval x) := by
   rw [hux]
   refine PartO.ofSub hn0 (hpt rfl) fun g3 n3 c3 e3 => ?_
   rcases q3 with ⟨e4, _⟩ | ⟨g4, cap4, cur4, fz4, e4, _⟩
   . rw [e4] at e3; cases e3
   . rw [e4] at e3; cases e3
     rw [List.length_map]; exact hlen
 have hone : (a.eval x).oneCell' = true := by rw [hux]; rfl
 have hcells : (a.eval x).cells.toList = [a.eval x] := by rw [hux]; rfl
 have hst := part_store rfl hr hone hpart (β' := upd β k (.deep (.slice (some ⟨g, 0, none⟩) n cp) ver us)) (by rw [upd_ne _ hne]; exact hk2β)
 have hs1 := hs.storeDeep hb hkβ (fun b hb => hb) hst
 refine ⟨undef, w.setCells g (i * esz c + dIc c) [a.eval x], .inr ⟨?_, rfl⟩, upd β k (.deep (.slice (some ⟨g, 0, none⟩) n cp) ver us), U, ?_⟩
 rotate_left
 . rw [hdst]; exact hs1
 . have hsz : (a.eval x).cells.size = it.size := by
     rw [<- Array.length_toList, hcells]
     simp only [tsz, Program.cellsOf, hit] at htz
     simpa using htz
   obtain ⟨_, hok, l1, l2, l3, l4, l5⟩ := hr
   rcases l5 with ⟨e1, _⟩ | ⟨g', cap, cur, e1, hg, k1, k2, k3, k4⟩
   . cases e1
   cases e1
   have hi : i < xs.length := (List.getElem?_eq_some_iff.1 hy0').1
   have hic := dIc_lt hok
   simp only [execOp, hop, hv]
   rw [Sem.run_bind, run_storeAt hit hsz (fun j hj => ?_) (fun u hu => by rw [hcells] at hu; simp only [List.mem_singleton] at hu; subst hu; exact hone)]
   . rw [hcells]; rfl
   . have hj0 : j = 0 := by rw [<- Array.length_toList, hcells] at hj; simp at hj; omega
     subst hj0
     have : (i + 1) * esz c <= cp * esz c := Nat.mul_le_mul_right _ (by omega)
     rw [Nat.add_mul] at this
     exact ⟨by simp only [World.cell?, hg]; rw [Array.getElem?_eq_getElem (by omega)]; rfl, by simp [World.frozen?, hg]⟩
def zkCap (P : Program) (args : List Operand) (ats : List TypeId) (ρ : Operand -> V) (m : Nat -> Option Blk) : Option (Tr Out) :=
 match args, ats with
 | [x], [t] => match telem P t, ρ x with
  | some _, .one (.sub k ver _ off _) => match m k with
   | some (.junk ver' _ _ _ N) => if ver = ver' then some (.ret ⟨vi .i64 (N - off : Nat), []⟩) else none
   | _ => none
  | _, _ => none
 | _, _ => none
def zkSlice (P : Program) (t : TypeId) (x : Operand) (lo hi mx : Option Operand) (ρ : Operand -> V) (m : Nat -> Option Blk) : Option (Tr Out) :=
 match lo, hi, mx with
 | none, some y, none => match telem P t, ρ x, ρ y with
  | some e, .one (.sub k ver sz off _), .one (.d (.i _ n)) => match m k with
   | some (.junk ver' e' sz' _ N) => if ver = ver' /\ sz = P.cellsOf e /\ (P.info? e).isSome then some (.grd (decide (n = (N - off : Nat))) (.ret ⟨.one (.sub k ver sz off (N - off)), []⟩)) else none
   | _ => none
  | _, _, _ => none
 | _, _, _ => none
theorem sub_room {v0 : Value} {ver ver0 : Nat} {e : TypeId} {sz l N off cap : Nat} {ao : Option Addr} (hn0 : ao = none -> cap = 0) (hs : SubAt v0 ao off cap) (q3 : (v0 = .slice none 0 0 /\ l = 0 /\ N = 0) \/ ∃ (g : Nat) (cur : Array Value), v0 = .slice (some ⟨g, 0, none⟩) l N /\ l <= N /\ w.heap[g]? = some (.cells cur e (0, 0)) /\ cur.size = N * sz /\ N <= maxLen /\ Spare e sz 0 N cur) : cap = N - off := by
 rcases hs with ⟨rfl, rfl, rfl⟩ | ⟨g, o, n, c, rfl, rfl, h3⟩
 . rcases q3 with ⟨_, _, rfl⟩ | ⟨g, cur, e1, _⟩
   . exact hn0 rfl
   . cases e1
 . rcases q3 with ⟨e1, _⟩ | ⟨g, cur, e1, _⟩
   . cases e1
   . cases e1; omega
theorem zkCap_sem {o : Oper} {args : Array Operand} {ats : Array TypeId} {ρ : Operand -> V} {m : Nat -> Option Blk} (hop : o.op = .call { callee := .builtin .cap, args := args, argTypes := ats }) (hρ : ∀ y ∈ o.op.operands, s.eval y = ρ y)
  (hm : ∀ k ∈ effKeys o.dst o.op ρ, s.blk k = m k) (hd : ∀ d, o.dst = some d -> d < s.n)
  {T : Tr Out} {E : Out} (h : zkCap P args.toList ats.toList ρ m = some T) (hT : T.eval = some E) : SemStep P o s E := by
 unfold zkCap at h
 rw [hop] at hρ hm
 split at h
 case h_2 => cases h
 rename_i x t hargs hats
 split at h
 case h_2 => cases h
 rename_i e k ver sz off ln hte hx
 split at h
 case h_2 => cases h
 rename_i ver' e' sz' n N hmk
 split at h
 case isFalse => cases h
 rename_i hc
 subst hc
 cases h; cases hT
 have ha : args = #[x] := by cases args; simp_all
 have ht : ats = #[t] := by cases ats; simp_all
 subst ha; subst ht
 have hx' : s.eval x = .one (.sub k ver sz off ln) := by rw [hρ x (by simp [Op.operands, Call.operands])]; exact hx
 have hk := (hm k (by simp [effKeys, hx, V.keys, C.keys])).trans hmk
 refine semVal hd ?_
 intro w0 U0 X β0 β U a w hs
 have hvx := hs.eval x
 rw [hx'] at hvx
 obtain ⟨ao, cap, v0, ver0, hv0, hlc, hn0, hkβ, hv1, hpt⟩ := hvx.toC
 obtain ⟨rfl, q3⟩ := hs.placeJunk hk hkβ
 have hcap := sub_room (fun e => (hn0 e).2) (hpt rfl).2 q3 (ver := 0) (ver0 := 0)
 subst hcap
 refine ⟨.int .i64 ((N - off : Nat) : Int), ?_, repI _ _⟩
 simp [execOp, hop, resolve, invoke, builtin, hv0, Builtin.cap_, run_underlying (telem_iff hte), goInt]
theorem zkSlice_sem {o : Oper} {t : TypeId} {x : Operand} {lo hi mx : Option Operand} {ρ : Operand -> V} {m : Nat -> Option Blk} (hop : o.op = .slice t x lo hi mx) (hρ : ∀ y ∈ o.op.operands, s.eval y = ρ y)
  (hm : ∀ k ∈ effKeys o.dst o.op ρ, s.blk k = m k) (hd : ∀ d, o.dst = some d -> d < s.n)
  {T : Tr Out} {E : Out} (h : zkSlice P t x lo hi mx ρ m = some T) (hT : T.eval = some E) : SemStep P o s E := by
 unfold zkSlice at h
 rw [hop] at hρ hm
 split at h
 case h_2 => cases h
 rename_i y
 split at h
 case h_2 => cases h
 rename_i e k ver sz off ln kk n hte hx hy
 split at h
 case h_2 => cases h
 rename_i ver' e' sz' n0 N hmk
 split at h
 case isFalse => cases h
 rename_i hc
 obtain ⟨rfl, hsz, hie⟩ := hc
 cases h
 obtain ⟨hn, h2⟩ := Tr.eval_grd hT
 cases h2
 have hn : n = ((N - off : Nat) : Int) := by simpa using hn
 subst hn
 have hx' : s.eval x = .one (.sub k ver sz off ln) := by rw [hρ x (by simp [Op.operands])]; exact hx
 have hy' : s.eval y = vi kk ((N - off : Nat) : Int) := by rw [hρ y (by simp [Op.operands])]; exact hy
 have hk := (hm k (by simp [effKeys, hx, V.keys, C.keys])).trans hmk
 refine semVal hd fun w0 U0 X β0 β U a w hs => ?_
 obtain ⟨ie, hie⟩ := Option.isSome_iff_exists.1 hie
 have hvx := hs.eval x
 rw [hx'] at hvx
 have hvy := hs.eval y
 rw [hy'] at hvy
 have hvy := hvy.int
 obtain ⟨ao, cap, v0, ver0, hv0, hlc, hn0, hkβ, hv1, hpt⟩ := hvx.toC
 obtain ⟨rfl, q3⟩ := hs.placeJunk hk hkβ
 have hcap := sub_room (fun e => (hn0 e).2) (hpt rfl).2 q3 (ver := 0) (ver0 := 0)
 subst hcap
 refine ⟨.slice ao (N - off) (N - off), ?_, .one _ _ ⟨ao, N - off, v0, ver, rfl, Nat.le_refl _, fun e1 => ⟨(hn0 e1).2, (hn0 e1).2⟩, hkβ, Nat.le_refl _, hpt⟩⟩
 have hb : ∀ R : Nat, (Instr.sliceBounds true ln R none (some (.int kk (R : Int))) none).run P w = .ok (0, R, R) w := fun R => by
  simp [Instr.sliceBounds, Instr.sliceBound, asIntOf]
 have hb := hb (N - off)
 generalize N - off = R at *
 simp only [execOp, hop, Option.map_none, Option.map_some, hvy, hv0]
 simp [Instr.sliceAt, Instr.slice, run_underlying (telem_iff hte), hb, run_sizeOf w hie]
 intro _
 cases ao with
 | none => rfl
 | some z => cases z; simp [Addr.add]
end
def tidyL (s : St) (k : Nat) : List (Nat × Blk) :=
 match s.blk k with
 | some (.deep ver e ei c (some (i, some (k', v'))) xs) => match s.blk k' with
  | some (.rowT v'' e2 c2 ap _ ys) => if hc : c2 = dIn c then (match decide (k ≠ k' /\ v' = v'' /\ e2 = ei /\ ap = true) with
   | true => [(k, .deep ver e ei c none (xs.modify i fun x => dSet c x (hc ▸ ys))), (k', .rowT (v' + 1) ei (dIn c) true true [])]
   | false => []) else []
  | _ => []
 | some (.jd ver e ei sz ic szi none pz (some (i, some (k', v'))) ls) => match s.blk k' with
  | some (.junk v'' e2 s2 n N) => match decide (k ≠ k' /\ v' = v'' /\ e2 = ei /\ s2 = szi) with
   | true => [(k, .jd ver e ei sz ic szi none pz none (ls.set i (n, N))), (k', .junk (v' + 1) ei szi 0 0)]
   | false => []
  | _ => []
 | some (.dx ver e ei c os (some (i, some (k', v'))) xs) => match s.blk k' with
  | some (.rowT v'' e2 c2 ap _ ys) => if hc : c2 = dIn c then (match decide (k ≠ k' /\ v' = v'' /\ e2 = ei /\ ap = true) with
   | true => [(k, .dx ver e ei c os none (xs.modify i fun x => dSet c x (hc ▸ ys))), (k', .rowT (v' + 1) ei (dIn c) true true [])]
   | false => []) else []
  | _ => []
 | _ => []
theorem SimB.tidy {w0 : World} {U0 : Nat -> Prop} {X : Nat -> Nat -> Prop} {β0 β : Nat -> Option Place} {U : Nat -> Prop} {s : St} {a : Act} {w : World} (h : SimB w0 U0 X β0 β U s a w) (k : Nat) : Sim w0 U0 X β0 (s.upd (tidyL s k)) a w := by
 unfold tidyL
 split
 . rename_i ver e ei c i k' v' xs hb
   split
   . rename_i v'' e2 c2 ap fr ys hb'
     split
     . rename_i hc
       subst hc
       split
       . rename_i hcc
         simp only [decide_eq_true_eq] at hcc
         obtain ⟨hne, rfl, rfl, rfl⟩ := hcc
         obtain ⟨β', h1, _⟩ := h.putBack hne hb hb'
         exact ⟨β', U, h1⟩
       . exact ⟨β, U, h⟩
     . exact ⟨β, U, h⟩
   . exact ⟨β, U, h⟩
 . rename_i ver e ei sz ic szi pz i k' v' ls hb
   split
   . rename_i v'' e2 s2 n N hb'
     split
     . rename_i hcc
       simp only [decide_eq_true_eq] at hcc
       obtain ⟨hne, rfl, rfl, rfl⟩ := hcc
       obtain ⟨β', h1⟩ := h.putBackJ hne hb hb'
       exact ⟨β', U, h1⟩
     . exact ⟨β, U, h⟩
   . exact ⟨β, U, h⟩
 . rename_i ver e ei c os i k' v' xs hb
   split
   . rename_i v'' e2 c2 ap fr ys hb'
     split
     . rename_i hc
       subst hc
       split
       . rename_i hcc
         simp only [decide_eq_true_eq] at hcc
         obtain ⟨hne, rfl, rfl, rfl⟩ := hcc
         obtain ⟨β', h1, _⟩ := h.putBackX hne hb hb'
         exact ⟨β', U, h1⟩
       . exact ⟨β, U, h⟩
     . exact ⟨β, U, h⟩
   . exact ⟨β, U, h⟩
 . exact ⟨β, U, h⟩
end Go.Proofs.Ythnijeclidpooaa.Abs
