/- Texts towards the law TopPieces, put together (part 4): an abstract walk and its proof, functions of the program as trees, and plain laws. Conditions: none. -/
import Derived.LoopN
import Derived.Test.YtaeeadldamflcaaGreatDoorProg
import Derived.Test.YtaeeadldamflcaaGreatDoorK3
namespace Go.Proofs.YtaeeadldamflcaaGreatDoor.Abs
open Go Go.RowKit
set_option linter.unusedVariables false
set_option linter.unusedSimpArgs false
section
variable {P : Program} {w0 : World} {U0 : Nat -> Prop} {X : Nat -> Nat -> Prop} {β0 β : Nat -> Option Place} {U : Nat -> Prop} {s : St} {a : Act} {w : World} {base : Nat}
theorem covers_nocells {p : Place} (h : p.nocells = true) {blk : Blk} {b j : Nat} : p.covers blk b j ↔ p.has b := by
 cases p with
 | cells => cases h
 | row => cases blk <;> exact Iff.rfl
 | deep => cases blk <;> exact Iff.rfl
def EvoP (p p' : Place) : Prop := p' = p \/ (∃ v0 ver0 v1 ver1, p = .row v0 ver0 /\ p' = .row v1 ver1 /\ ver0 < ver1) \/ ∃ v0 ver0 us0 v1 ver1 us1, p = .deep v0 ver0 us0 /\ p' = .deep v1 ver1 us1 /\ ver0 <= ver1 /\ (ver0 = ver1 -> v0 = v1)
theorem EvoP.to {p p' : Place} (h : EvoP p p') {β' : Nat -> Option Place} {k : Nat} (hk : β' k = some p') : β' k = some p \/ (∃ v0 ver0 v1 ver1, p = .row v0 ver0 /\ β' k = some (.row v1 ver1) /\ ver0 < ver1) \/ ∃ v0 ver0 us0 v1 ver1 us1, p = .deep v0 ver0 us0 /\ β' k = some (.deep v1 ver1 us1) /\ ver0 <= ver1 /\ (ver0 = ver1 -> v0 = v1) := by
 rcases h with rfl | ⟨v0, ver0, v1, ver1, rfl, rfl, h3⟩ | ⟨v0, ver0, us0, v1, ver1, us1, rfl, rfl, h3, h4⟩
 . exact .inl hk
 . exact .inr (.inl ⟨_, _, _, _, rfl, hk, h3⟩)
 . exact .inr (.inr ⟨_, _, _, _, _, _, rfl, hk, h3, h4⟩)
theorem EvoP.step {p0 p p' : Place} (he : EvoP p p') {β' : Nat -> Option Place} {k : Nat} (hk : β k = some p) (hk' : β' k = some p')
   (h : β k = some p0 \/ (∃ v0 ver0 v1 ver1, p0 = .row v0 ver0 /\ β k = some (.row v1 ver1) /\ ver0 < ver1) \/ ∃ v0 ver0 us0 v1 ver1 us1, p0 = .deep v0 ver0 us0 /\ β k = some (.deep v1 ver1 us1) /\ ver0 <= ver1 /\ (ver0 = ver1 -> v0 = v1)) :
   β' k = some p0 \/ (∃ v0 ver0 v1 ver1, p0 = .row v0 ver0 /\ β' k = some (.row v1 ver1) /\ ver0 < ver1) \/ ∃ v0 ver0 us0 v1 ver1 us1, p0 = .deep v0 ver0 us0 /\ β' k = some (.deep v1 ver1 us1) /\ ver0 <= ver1 /\ (ver0 = ver1 -> v0 = v1) := by
 rcases h with q | ⟨v0, ver0, v1, ver1, e1, e2, e3⟩ | ⟨v0, ver0, us0, v1, ver1, us1, e1, e2, e3, e4⟩
 . rw [hk] at q; cases q; exact he.to hk'
 . rw [hk] at e2; cases e2
   rcases he with rfl | ⟨x0, y0, x1, y1, f1, rfl, f3⟩ | ⟨x0, y0, z0, x1, y1, z1, f1, _⟩
   . exact .inr (.inl ⟨_, _, _, _, e1, hk', e3⟩)
   . cases f1; exact .inr (.inl ⟨_, _, _, _, e1, hk', by omega⟩)
   . cases f1
 . rw [hk] at e2; cases e2
   rcases he with rfl | ⟨x0, y0, x1, y1, f1, _⟩ | ⟨x0, y0, z0, x1, y1, z1, f1, rfl, f3, f4⟩
   . exact .inr (.inr ⟨_, _, _, _, _, _, e1, hk', e3, e4⟩)
   . cases f1
   . cases f1; exact .inr (.inr ⟨_, _, _, _, _, _, e1, hk', by omega, fun q => (e4 (by omega)).trans (f4 (by omega))⟩)

theorem SimB.repl2 (h : SimB w0 U0 X β0 β U s a w) {k1 k2 : Nat} (hne : k1 ≠ k2) {p1 p2 : Place} {b1 b2 : Blk} (hk1 : β k1 = some p1) (hk2 : β k2 = some p2) (hb1 : s.blk k1 = some b1) (hb2 : s.blk k2 = some b2)
  (n1 : p1.nocells = true) (n2 : p2.nocells = true) {w' : World} {p1' p2' : Place} {b1' b2' : Blk} (n1' : p1'.nocells = true) (n2' : p2'.nocells = true)
  (hos : w'.os = w.os) (htape : w'.tape = w.tape) (hout : w'.output = w.output) (hsize : w.heap.size <= w'.heap.size)
  (hother : ∀ b, b < w.heap.size -> ¬ p1.has b -> ¬ p2.has b -> w'.heap[b]? = w.heap[b]?) (he1 : EvoP p1 p1') (he2 : EvoP p2 p2')
  (h1 : ∀ b, p1'.has b -> p1.has b \/ p2.has b \/ (w.heap.size <= b /\ b < w'.heap.size)) (h2 : ∀ b, p2'.has b -> p1.has b \/ p2.has b \/ (w.heap.size <= b /\ b < w'.heap.size))
  (hd : ∀ b, p1'.has b -> ¬ p2'.has b)
  (hr1 : RepB w' (upd (upd β k1 p1') k2 p2') U w0.heap.size p1' b1') (hr2 : RepB w' (upd (upd β k1 p1') k2 p2') U w0.heap.size p2' b2') :
  SimB w0 U0 X β0 (upd (upd β k1 p1') k2 p2') U (s.upd [(k1, b1'), (k2, b2')]) a w' := by
 have z1 : upd (upd β k1 p1') k2 p2' k1 = some p1' := by rw [upd_ne _ (fun e => hne e.symm), upd_self]
 have z2 : upd (upd β k1 p1') k2 p2' k2 = some p2' := upd_self _ _ _
 have z3 : ∀ k, k ≠ k1 -> k ≠ k2 -> upd (upd β k1 p1') k2 p2' k = β k := fun k e1 e2 => by rw [upd_ne _ (fun e => e2 e.symm), upd_ne _ (fun e => e1 e.symm)]
 generalize hβ' : upd (upd β k1 p1') k2 p2' = β' at z1 z2 z3 hr1 hr2 ⊢
 have y1 : (s.upd [(k1, b1'), (k2, b2')]).blk k1 = some b1' := by show look k1 ((k1, b1') :: _) = _; rw [look_cons_self]
 have y2 : (s.upd [(k1, b1'), (k2, b2')]).blk k2 = some b2' := by show look k2 ((k1, b1') :: (k2, b2') :: _) = _; rw [look_cons_ne hne, look_cons_self]
 have y3 : ∀ k, k ≠ k1 -> k ≠ k2 -> (s.upd [(k1, b1'), (k2, b2')]).blk k = s.blk k := fun k e1 e2 => by
  show look k ((k1, b1') :: (k2, b2') :: s.mem) = _
  rw [look_cons_ne (fun e => e1 e.symm), look_cons_ne (fun e => e2 e.symm)]; rfl
 have hget : ∀ k p, β' k = some p -> (k = k1 /\ p = p1') \/ (k = k2 /\ p = p2') \/ (k ≠ k1 /\ k ≠ k2 /\ β k = some p) := by
  intro k p hp
  by_cases e1 : k = k1
  . subst e1; rw [z1] at hp; exact .inl ⟨rfl, (Option.some.inj hp).symm⟩
  . by_cases e2 : k = k2
    . subst e2; rw [z2] at hp; exact .inr (.inl ⟨rfl, (Option.some.inj hp).symm⟩)
    . rw [z3 k e1 e2] at hp; exact .inr (.inr ⟨e1, e2, hp⟩)
 have hU : ∀ b, U b -> w'.heap[b]? = w.heap[b]? := fun b hb => hother b (h.stab b hb) (fun e => (h.apart k1 p1 b hk1 e).1 hb) (fun e => (h.apart k2 p2 b hk2 e).1 hb)
 have hoth : ∀ k p b, k ≠ k1 -> k ≠ k2 -> β k = some p -> p.has b -> w'.heap[b]? = w.heap[b]? := fun k p b e1 e2 hp hb =>
  hother b (h.blockOld hp b hb) (h.hasApart e1 hp hk1 n1 hb) (h.hasApart e2 hp hk2 n2 hb)
 have hevo : Evo β β' := by
  intro k p hp
  by_cases e1 : k = k1
  . subst e1; rw [hk1] at hp; cases hp; exact he1.to z1
  . by_cases e2 : k = k2
    . subst e2; rw [hk2] at hp; cases hp; exact he2.to z2
    . exact .inl ((z3 k e1 e2).trans hp)
 have hap1 : ∀ b, p1.has b -> ¬ U b /\ b < w.heap.size := fun b hb => h.apart k1 p1 b hk1 hb
 have hap2 : ∀ b, p2.has b -> ¬ U b /\ b < w.heap.size := fun b hb => h.apart k2 p2 b hk2 hb
 have hap : ∀ b, (p1.has b \/ p2.has b \/ (w.heap.size <= b /\ b < w'.heap.size)) -> ¬ U b /\ b < w'.heap.size := fun b hb => by
  rcases hb with hb | hb | ⟨q1, q2⟩
  . obtain ⟨q1, q2⟩ := hap1 b hb; exact ⟨q1, by omega⟩
  . obtain ⟨q1, q2⟩ := hap2 b hb; exact ⟨q1, by omega⟩
  . exact ⟨fun hu => by have := h.stab b hu; omega, q2⟩
 have hfar : ∀ k p b, k ≠ k1 -> k ≠ k2 -> β k = some p -> p.has b -> ¬ (p1.has b \/ p2.has b \/ (w.heap.size <= b /\ b < w'.heap.size)) := fun k p b e1 e2 hp hb hc => by
  rcases hc with hc | hc | ⟨q1, _⟩
  . exact h.hasApart e1 hp hk1 n1 hb hc
  . exact h.hasApart e2 hp hk2 n2 hb hc
  . have := h.blockOld hp b hb; omega
 have hmay : ∀ b j, (p1.has b \/ p2.has b \/ (w.heap.size <= b /\ b < w'.heap.size)) -> b < w0.heap.size -> X b j := fun b j hb hlt => by
  rcases hb with hb | hb | ⟨q1, _⟩
  . exact h.may k1 p1 b1 b j hk1 hb1 ((covers_nocells n1).2 hb) hlt
  . exact h.may k2 p2 b2 b j hk2 hb2 ((covers_nocells n2).2 hb) hlt
  . have := h.baseLe; omega
 exact {
  n := h.n, small := h.small, args := h.args, ver0 := h.ver0, defers := h.defers, glob := h.glob.map (fun _ hb => hb) hU, env := fun t => (h.env t).map (fun _ hb => hb) hU hevo
  hist := fun k p hp hb => by
    by_cases e1 : k = k1
    . subst e1; exact he1.step hk1 z1 (h.hist k p hp (by rw [hb1]; rfl))
    . by_cases e2 : k = k2
      . subst e2; exact he2.step hk2 z2 (h.hist k p hp (by rw [hb2]; rfl))
      . rw [y3 k e1 e2] at hb; rw [z3 k e1 e2]; exact h.hist k p hp hb
  mem := fun k blk hk => by
    by_cases e1 : k = k1
    . subst e1; rw [y1] at hk; cases hk; exact ⟨_, z1, hr1⟩
    . by_cases e2 : k = k2
      . subst e2; rw [y2] at hk; cases hk; exact ⟨_, z2, hr2⟩
      . rw [y3 k e1 e2] at hk
        obtain ⟨p, hp, hr⟩ := h.mem k blk hk
        exact ⟨p, (z3 k e1 e2).trans hp, hr.mapBlock (fun _ hb => hb) hU hevo (fun b hb => hoth k p b e1 e2 hp hb)⟩
  dom := fun k p hp => by
    rcases hget k p hp with ⟨rfl, _⟩ | ⟨rfl, _⟩ | ⟨e1, e2, hp'⟩
    . rw [y1]; rfl
    . rw [y2]; rfl
    . rw [y3 k e1 e2]; exact h.dom k p hp'
  apart := fun k p b hp hb => by
    rcases hget k p hp with ⟨rfl, rfl⟩ | ⟨rfl, rfl⟩ | ⟨e1, e2, hp'⟩
    . exact hap b (h1 b hb)
    . exact hap b (h2 b hb)
    . obtain ⟨q1, q2⟩ := h.apart k p b hp' hb; exact ⟨q1, by omega⟩
  inj := fun k k' p p' blk blk' b j hkk hp hp' hb hb' hc hc' => by
    have c1 := covers_block hc
    have c2 := covers_block hc'
    rcases hget k p hp with ⟨rfl, rfl⟩ | ⟨rfl, rfl⟩ | ⟨e1, e2, hq⟩ <;> rcases hget k' p' hp' with ⟨rfl, rfl⟩ | ⟨rfl, rfl⟩ | ⟨e1', e2', hq'⟩
    . exact hkk rfl
    . exact hd b c1 c2
    . exact hfar k' p' b e1' e2' hq' c2 (h1 b c1)
    . exact hd b c2 c1
    . exact hkk rfl
    . exact hfar k' p' b e1' e2' hq' c2 (h2 b c1)
    . exact hfar k p b e1 e2 hq c1 (h1 b c2)
    . exact hfar k p b e1 e2 hq c1 (h2 b c2)
    . rw [y3 k e1 e2] at hb; rw [y3 k' e1' e2'] at hb'
      exact h.inj k k' p p' blk blk' b j hkk hq hq' hb hb' hc hc'
  stab := fun b hb => by have := h.stab b hb; omega
  old := h.old, new := h.new
  chg := by
    refine h.chg.trans ⟨hos, htape, hout, hsize, fun b hb => ?_⟩
    have hb2' : b < w.heap.size := Nat.lt_of_lt_of_le hb h.baseLe
    by_cases c1 : p1.has b
    . exact .inr (.inr fun j => hmay b j (.inl c1) hb)
    . by_cases c2 : p2.has b
      . exact .inr (.inr fun j => hmay b j (.inr (.inl c2)) hb)
      . exact .inl (hother b hb2' c1 c2)
  may := fun k p blk b j hp hb hc hlt => by
    rcases hget k p hp with ⟨rfl, rfl⟩ | ⟨rfl, rfl⟩ | ⟨e1, e2, hq⟩
    . exact hmay b j (h1 b (covers_block hc)) hlt
    . exact hmay b j (h2 b (covers_block hc)) hlt
    . rw [y3 k e1 e2] at hb; exact h.may k p blk b j hq hb hc hlt }

theorem SimB.congr (h : SimB w0 U0 X β0 β U s a w) {s' : St} (hn : s'.n = s.n) (he : s'.env = s.env) (hb : ∀ k, s'.blk k = s.blk k) : SimB w0 U0 X β0 β U s' a w :=
 h.blkWk hn he fun k => by rw [hb k]; cases s.blk k with
  | none => trivial
  | some b => exact BlkWk.rfl b

abbrev nilV : Value := .slice none 0 0
theorem SimB.newDead (h : SimB w0 U0 X β0 β U s a w) {k : Nat} (hk0 : k < 1000000 \/ 2000000 <= k) (hk : s.blk k = none) (ver : Nat) (e : TypeId) (c : Nat) : SimB w0 U0 X β0 (upd β k (.row nilV ver)) U (s.set k (.rowT ver e c true true [])) a w :=
 (h.newKeyG (w' := w) (p := .row nilV ver) (blk := .rowT ver e c true true []) hk0 hk rfl rfl rfl (Nat.le_refl _) (fun _ _ => rfl) (fun b hb => by simp [Place.has, Value.ownBlock] at hb) ⟨rfl, fun r hr => by simp at hr, .inl ⟨rfl, rfl⟩⟩).1
theorem deadRep {ver : Nat} {e : TypeId} {c : Nat} : RepB w β U base (.row nilV ver) (.rowT ver e c true true []) := ⟨rfl, fun r hr => by simp at hr, .inl ⟨rfl, rfl⟩⟩
theorem dead_has {ver b : Nat} : ¬ (Place.row nilV ver).has b := by simp [Place.has, Value.ownBlock]

theorem Inner.row {e : TypeId} {c : Nat} {u : Value} {ys : List (τ c)} (h : Inner w e c u ys) {nv : Nat} : RepB w β U base (.row u nv) (.rowT nv e c true true ys) := by
 refine ⟨rfl, fun r hr => by obtain ⟨y, _, rfl⟩ := List.mem_map.1 hr; exact enc_len c y, ?_⟩
 rcases h with ⟨rfl, rfl⟩ | ⟨g, cap, cur, rfl, h1, h2, h3, h4, hs, h5⟩
 . exact .inl ⟨rfl, rfl⟩
 . refine .inr ⟨g, cap, cur, (0, 0), by rw [List.length_map], h1, by rw [List.length_map]; exact h2, h3, h4, fun _ => ⟨rfl, by rw [List.length_map]; exact hs⟩, fun i _ => by simp [World.frozen?, h1], fun i j r d hi hj => ?_⟩
   rw [List.getElem?_map, Option.map_eq_some_iff] at hi
   obtain ⟨y, hy, rfl⟩ := hi
   obtain ⟨u, k1, k2, k3⟩ := h5 i j y d hy hj
   exact ⟨u, k1, k2, k3.ofNone⟩
theorem Inner.ofRow {e : TypeId} {c : Nat} {u : Value} {ver : Nat} {fr : Bool} {ys : List (τ c)} (h : RepB w β U base (.row u ver) (.rowT ver e c true fr ys)) (hf : flatT c = true) : Inner w e c u ys := by
 obtain ⟨_, _, h2⟩ := h
 rcases h2 with ⟨h2, h3⟩ | ⟨g, cap, cur, fz, rfl, h1, h2, h3, h4, h5, h6, h7⟩
 . exact .inl ⟨h2, by simpa using h3⟩
 . obtain ⟨rfl, hs⟩ := h5 rfl
   rw [List.length_map] at h2 hs ⊢
   refine .inr ⟨g, cap, cur, rfl, h1, h2, h3, h4, hs, fun i j y d hi hj => ?_⟩
   obtain ⟨u, k1, k2, k3⟩ := h7 i j (enc c y) d (by rw [List.getElem?_map, hi]; rfl) hj
   exact ⟨u, k1, k2, flat_any k3 (List.all_eq_true.1 (flatT_all c y hf) d (List.mem_of_getElem? hj))⟩
theorem Inner.shape {e : TypeId} {c : Nat} {u : Value} {ys : List (τ c)} (h : Inner w e c u ys) : ∃ (ao : Option Addr) (cap : Nat), u = .slice ao ys.length cap /\ ys.length <= cap /\ (ao = none -> ys.length = 0 /\ cap = 0) /\ ∀ x, ao = some x -> ∃ g, x = ⟨g, 0, none⟩ := by
 rcases h with ⟨rfl, rfl⟩ | ⟨g, cap, cur, rfl, h1, h2, _⟩
 . exact ⟨none, 0, rfl, Nat.le_refl _, fun _ => ⟨rfl, rfl⟩, fun x hx => by cases hx⟩
 . exact ⟨_, cap, rfl, h2, fun e => (by cases e), fun x hx => (by cases hx; exact ⟨g, rfl⟩)⟩

theorem set_get {α : Type} {l : List α} {i j : Nat} {x y : α} (h : (l.set i x)[j]? = some y) : (i = j /\ x = y /\ i < l.length) \/ (i ≠ j /\ l[j]? = some y) := by
 by_cases e : i = j
 . subst e
   rw [List.getElem?_set_self'] at h
   cases hl : l[i]? with
   | none => rw [hl] at h; cases h
   | some z => rw [hl] at h; exact .inl ⟨rfl, by simpa using h, (List.getElem?_eq_some_iff.1 hl).1⟩
 . rw [List.getElem?_set_ne e] at h; exact .inr ⟨e, h⟩
theorem DSep.setNil {v : Value} {us : List Value} (h : DSep v us) (i : Nat) : DSep v (us.set i nilV) := by
 obtain ⟨h1, h2⟩ := h
 refine ⟨fun j j' u u' b hne hu hu' hb => ?_, fun j u b hu hb => ?_⟩
 . rcases set_get hu with ⟨_, rfl, _⟩ | ⟨_, hu⟩
   . simp [Value.ownBlock] at hb
   . rcases set_get hu' with ⟨_, rfl, _⟩ | ⟨_, hu'⟩
     . simp [Value.ownBlock]
     . exact h1 j j' u u' b hne hu hu' hb
 . rcases set_get hu with ⟨_, rfl, _⟩ | ⟨_, hu⟩
   . simp [Value.ownBlock] at hb
   . exact h2 j u b hu hb
theorem DSep.setV {v : Value} {us : List Value} (h : DSep v us) {i : Nat} {x : Value} (h1 : ∀ j u b, i ≠ j -> us[j]? = some u -> u.ownBlock = some b -> x.ownBlock ≠ some b) (h2 : ∀ b, x.ownBlock = some b -> v.ownBlock ≠ some b) : DSep v (us.set i x) := by
 refine ⟨fun j j' u u' b hne hu hu' hb => ?_, fun j u b hu hb => ?_⟩
 . rcases set_get hu with ⟨rfl, rfl, _⟩ | ⟨e, hu⟩
   . rcases set_get hu' with ⟨rfl, rfl, _⟩ | ⟨_, hu'⟩
     . exact absurd rfl hne
     . exact fun e => h1 j' u' b hne hu' e hb
   . rcases set_get hu' with ⟨rfl, rfl, _⟩ | ⟨_, hu'⟩
     . exact h1 j u b e hu hb
     . exact h.1 j j' u u' b hne hu hu' hb
 . rcases set_get hu with ⟨_, rfl, _⟩ | ⟨_, hu⟩
   . exact h2 b hb
   . exact h.2 j u b hu hb

theorem RepB.takeOut {v : Value} {ver : Nat} {us : List Value} {e ei : TypeId} {c : Nat} {xs : List (τ c)} (h : RepB w β U base (.deep v ver us) (.deep ver e ei c none xs)) {i : Nat} {x : τ c} (hx : xs[i]? = some x) :
   ∃ u, us[i]? = some u /\ Inner w ei (dIn c) u (dGet c x) /\ ∀ (β' : Nat -> Option Place) (k' nv : Nat), β' k' = some (.row u nv) -> RepB w β' U base (.deep v ver (us.set i nilV)) (.deep ver e ei c (some (i, some (k', nv))) xs) := by
 obtain ⟨_, hok, h1, h2, h3, _, h5⟩ := h
 have hlt : i < us.length := by rw [h1]; exact (List.getElem?_eq_some_iff.1 hx).1
 refine ⟨us[i], List.getElem?_eq_getElem hlt, h3 i _ x (List.getElem?_eq_getElem hlt) hx rfl, fun β' k' nv hk' => ⟨rfl, hok, by rw [List.length_set]; exact h1, h2.setNil i, fun j u y hu hy hn => ?_, fun j l hh => ?_, ?_⟩⟩
 . have hij : i ≠ j := fun e => by subst e; rw [noHole_self] at hn; cases hn
   rcases set_get hu with ⟨e, _⟩ | ⟨_, hu⟩
   . exact absurd e hij
   . exact h3 j u y hu hy rfl
 . cases hh; exact ⟨by omega, by rw [List.getElem?_set_self hlt]⟩
 . rcases h5 with h5 | ⟨g, cap, cur, e1, hg, k1, k2, k3, k4⟩
   . rw [h5.2] at hx; simp at hx
   . refine .inr ⟨g, cap, cur, e1, hg, k1, k2, k3, fun j q y d hy hd => ?_⟩
     obtain ⟨u, z1, z2, z3, z4, z5⟩ := k4 j q y d hy hd
     refine ⟨u, z1, z2, z3, fun hq hn => ?_, fun hq k'' ver' hh => ?_⟩
     . have hij : i ≠ j := fun e => by subst e; rw [noHole_self] at hn; cases hn
       rw [List.getElem?_set_ne hij]; exact z4 hq rfl
     . cases hh
       have := z4 hq rfl
       rw [List.getElem?_eq_getElem hlt] at this
       exact ⟨_, nv, hk', Nat.le_refl _, fun _ => (Option.some.inj this).symm⟩
theorem has_setNil {v : Value} {ver : Nat} {us : List Value} {i b : Nat} (h : (Place.deep v ver (us.set i nilV)).has b) : (Place.deep v ver us).has b := by
 rcases h with h | ⟨u, hu, hb⟩
 . exact .inl h
 . obtain ⟨j, hj⟩ := List.mem_iff_getElem?.1 hu
   rcases set_get hj with ⟨_, rfl, _⟩ | ⟨_, hj⟩
   . simp [Value.ownBlock] at hb
   . exact .inr ⟨u, List.mem_of_getElem? hj, hb⟩
theorem has_setV {v x : Value} {ver : Nat} {us : List Value} {i b : Nat} (h : (Place.deep v ver (us.set i x)).has b) : (Place.deep v ver us).has b \/ x.ownBlock = some b := by
 rcases h with h | ⟨u, hu, hb⟩
 . exact .inl (.inl h)
 . obtain ⟨j, hj⟩ := List.mem_iff_getElem?.1 hu
   rcases set_get hj with ⟨_, rfl, _⟩ | ⟨_, hj⟩
   . exact .inr hb
   . exact .inl (.inr ⟨u, List.mem_of_getElem? hj, hb⟩)

def nextV (o : Option Blk) : Nat := match o with | none => 1 | some b => b.ver + 1
def rowOr (o : Option Blk) : Bool := match o with | none => true | some (.rowT _ _ _ _ _ _) => true | _ => false
theorem SimB.takeOut (h : SimB w0 U0 X β0 β U s a w) {k ver : Nat} {v : Value} {us : List Value} {e ei : TypeId} {c : Nat} {xs : List (τ c)} (hb : s.blk k = some (.deep ver e ei c none xs)) (hk : β k = some (.deep v ver us)) (hro : rowOr (s.blk (hkey k)) = true) {i : Nat} {x : τ c} (hx : xs[i]? = some x) :
  ∃ β' u, SimB w0 U0 X β0 β' U (s.upd [(k, .deep ver e ei c (some (i, some (hkey k, nextV (s.blk (hkey k))))) xs), (hkey k, .rowT (nextV (s.blk (hkey k))) ei (dIn c) true true (dGet c x))]) a w /\
    β' k = some (.deep v ver (us.set i nilV)) /\ β' (hkey k) = some (.row u (nextV (s.blk (hkey k)))) /\ us[i]? = some u /\ Inner w ei (dIn c) u (dGet c x) /\ Evo β β' := by
 have hkk : k ≠ hkey k := by simp [hkey]
 -- with some row at the name
 have main : ∀ {β : Nat -> Option Place} {s : St} {v2 : Value} {ver2 nv : Nat} {b2 : Blk}, SimB w0 U0 X β0 β U s a w -> s.blk k = some (.deep ver e ei c none xs) -> β k = some (.deep v ver us) -> β (hkey k) = some (.row v2 ver2) -> s.blk (hkey k) = some b2 -> ver2 < nv ->
    ∃ u, SimB w0 U0 X β0 (upd (upd β k (.deep v ver (us.set i nilV))) (hkey k) (.row u nv)) U (s.upd [(k, .deep ver e ei c (some (i, some (hkey k, nv))) xs), (hkey k, .rowT nv ei (dIn c) true true (dGet c x))]) a w /\ us[i]? = some u /\ Inner w ei (dIn c) u (dGet c x) /\
      Evo β (upd (upd β k (.deep v ver (us.set i nilV))) (hkey k) (.row u nv)) := by
  intro β s v2 ver2 nv b2 h hb hk hk2 hb2 hlt
  obtain ⟨p, hp, hr⟩ := h.mem k _ hb
  rw [hk] at hp; cases hp
  obtain ⟨u, hu, hin, hmk⟩ := hr.takeOut hx
  have hus : ∀ b, (Place.row u nv).has b -> (Place.deep v ver us).has b := fun b hb => .inr ⟨u, List.mem_of_getElem? hu, hb⟩
  have he1 : EvoP (.deep v ver us) (.deep v ver (us.set i nilV)) := .inr (.inr ⟨_, _, _, _, _, _, rfl, rfl, Nat.le_refl _, fun _ => rfl⟩)
  have he2 : EvoP (.row v2 ver2) (.row u nv) := .inr (.inl ⟨_, _, _, _, rfl, rfl, hlt⟩)
  refine ⟨u, h.repl2 (w' := w) hkk hk hk2 hb hb2 rfl rfl rfl rfl rfl rfl rfl (Nat.le_refl _) (fun _ _ _ _ => rfl) he1 he2 (fun b hb => .inl (has_setNil hb)) (fun b hb => .inl (hus b hb)) (fun b h1 h2 => ?_) (hmk _ _ _ (upd_self _ _ _)) hin.row, hu, hin, ?_⟩
  . obtain ⟨_, _, _, hsep, _⟩ := hr
    rcases h1 with h1 | ⟨u', hu', hb'⟩
    . exact hsep.2 i u b hu h2 h1
    . obtain ⟨j, hj⟩ := List.mem_iff_getElem?.1 hu'
      rcases set_get hj with ⟨_, rfl, _⟩ | ⟨hne, hj⟩
      . simp [Value.ownBlock] at hb'
      . exact hsep.1 i j u u' b hne hu hj h2 hb'
  . intro k1 q hq
    by_cases e1 : k1 = k
    . subst e1; rw [hk] at hq; cases hq; exact he1.to (by rw [upd_ne _ (fun e => hkk e.symm), upd_self])
    . by_cases e2 : k1 = hkey k
      . subst e2; rw [hk2] at hq; cases hq; exact he2.to (upd_self _ _ _)
      . exact .inl (by rw [upd_ne _ (fun e => e2 e.symm), upd_ne _ (fun e => e1 e.symm)]; exact hq)
 cases hb2 : s.blk (hkey k) with
 | none =>
  have hd := h.newDead (k := hkey k) (.inr (by unfold hkey; omega)) hb2 0 ei (dIn c)
  obtain ⟨u, q1, q2, q3, q4⟩ := main (nv := nextV none) hd (by rw [St.blk_set, if_neg (fun e => hkk e.symm)]; exact hb) (by rw [upd_ne _ (fun e => hkk e.symm)]; exact hk) (upd_self _ _ _) (by rw [St.blk_set, if_pos rfl]) (by decide)
  refine ⟨_, u, q1.congr rfl rfl fun j => ?_, by rw [upd_ne _ (fun e => hkk e.symm), upd_self], upd_self _ _ _, q2, q3, fun k1 p hp => ?_⟩
  . show look j ((k, _) :: (hkey k, _) :: s.mem) = look j ((k, _) :: (hkey k, _) :: (hkey k, _) :: s.mem)
    simp only [look_cons]
    split
    . rfl
    . split <;> rfl
  . refine q4 k1 p ?_
    rw [upd_ne _ (fun e => by subst e; rw [h.noKey hb2] at hp; cases hp)]; exact hp
 | some b2 =>
  rw [hb2] at hro
  cases b2 with
  | rowT ver2 e2 c2 ap fr ys =>
    obtain ⟨p, hp, hr⟩ := h.mem _ _ hb2
    cases p with
    | cells => exact hr.elim
    | deep => exact hr.elim
    | row v2 ver2' =>
      have hv := hr.1
      subst hv
      obtain ⟨u, q1, q2, q3, q4⟩ := main (nv := nextV (some (.rowT ver2 e2 c2 ap fr ys))) h hb hk hp hb2 (Nat.lt_succ_self _)
      exact ⟨_, u, q1, by rw [upd_ne _ (fun e => hkk e.symm), upd_self], upd_self _ _ _, q2, q3, q4⟩
  | _ => cases hro

theorem RepB.putBack {v : Value} {ver : Nat} {us : List Value} {e ei : TypeId} {c : Nat} {xs : List (τ c)} {i k' v' : Nat} (h : RepB w β U base (.deep v ver us) (.deep ver e ei c (some (i, some (k', v'))) xs)) {u : Value} (hk' : β k' = some (.row u v'))
   {ys : List (τ (dIn c))} (hin : Inner w ei (dIn c) u ys) (hsep : ∀ b, u.ownBlock = some b -> ¬ (Place.deep v ver us).has b) :
   ∀ (β' : Nat -> Option Place), RepB w β' U base (.deep v ver (us.set i u)) (.deep ver e ei c none (xs.modify i fun x => dSet c x ys)) := by
 intro β'
 obtain ⟨_, hok, h1, h2, h3, h4, h5⟩ := h
 obtain ⟨hi, hui⟩ := h4 i _ rfl
 refine ⟨rfl, hok, by simp [h1], h2.setV (fun j u' b hne hu' hb' hb => hsep b hb (.inr ⟨u', List.mem_of_getElem? hu', hb'⟩)) (fun b hb hv => hsep b hb (.inl hv)), fun j u' y hu' hy _ => ?_, fun j l hh => (by cases hh), ?_⟩
 . rw [List.getElem?_modify] at hy
   rcases set_get hu' with ⟨rfl, rfl, _⟩ | ⟨hne, hu'⟩
   . simp only [if_true] at hy
     obtain ⟨x, hx, rfl⟩ := Option.map_eq_some_iff.1 hy
     rw [dGet_dSet hok]; exact hin
   . exact h3 j u' y hu' (by simpa [hne] using hy) (noHole_ne hne)
 . rcases h5 with h5 | ⟨g, cap, cur, e1, hg, k1, k2, k3, k4⟩
   . rw [h5.2] at hi; simp at hi
   . refine .inr ⟨g, cap, cur, by rw [List.length_modify]; exact e1, hg, by rw [List.length_modify]; exact k1, k2, k3, fun j q y d hy hd => ?_⟩
     rw [List.getElem?_modify] at hy
     by_cases hij : i = j
     . subst hij
       simp only [if_true] at hy
       obtain ⟨x, hx, rfl⟩ := Option.map_eq_some_iff.1 hy
       by_cases hq : q = dIc c
       . subst hq
         obtain ⟨u', z1, z2, z3, z4, z5⟩ := k4 i (dIc c) x _ hx (enc_dGet hok x)
         obtain ⟨v1, ver1, f1, f2, f3⟩ := z5 rfl _ _ rfl
         rw [hk'] at f1; cases f1
         have := f3 rfl
         subst this
         exact ⟨u', z1, z2, fun hq => absurd rfl hq, fun _ _ => by rw [List.getElem?_set_self (by omega)], fun _ k'' ver' hh => by cases hh⟩
       . rw [enc_dSet hok _ _ hq] at hd
         obtain ⟨u', z1, z2, z3, z4, z5⟩ := k4 i q x d hx hd
         exact ⟨u', z1, z2, z3, fun hq' => absurd hq' hq, fun _ k'' ver' hh => by cases hh⟩
     . have hy' : xs[j]? = some y := by simpa [hij] using hy
       obtain ⟨u', z1, z2, z3, z4, z5⟩ := k4 j q y d hy' hd
       exact ⟨u', z1, z2, z3, fun hq _ => by rw [List.getElem?_set_ne hij]; exact z4 hq (noHole_ne hij), fun _ k'' ver' hh => by cases hh⟩
theorem SimB.putBack (h : SimB w0 U0 X β0 β U s a w) {k k' ver v' i : Nat} (hkk : k ≠ k') {e ei : TypeId} {c : Nat} {xs : List (τ c)} (hb : s.blk k = some (.deep ver e ei c (some (i, some (k', v'))) xs)) {fr : Bool} {ys : List (τ (dIn c))} (hb' : s.blk k' = some (.rowT v' ei (dIn c) true fr ys)) :
  ∃ β', SimB w0 U0 X β0 β' U (s.upd [(k, .deep ver e ei c none (xs.modify i fun x => dSet c x ys)), (k', .rowT (v' + 1) ei (dIn c) true true [])]) a w /\ ∃ v us us', β k = some (.deep v ver us) /\ β' k = some (.deep v ver us') := by
 obtain ⟨p, hp, hr⟩ := h.mem k _ hb
 obtain ⟨p', hp', hr'⟩ := h.mem k' _ hb'
 cases p with
 | cells => exact hr.elim
 | row => exact hr.elim
 | deep v ver0 us =>
  have hv := hr.1
  subst hv
  cases p' with
  | cells => exact hr'.elim
  | deep => exact hr'.elim
  | row u v0 =>
   have hv' := hr'.1
   subst hv'
   have hok := hr.2.1
   have hin := Inner.ofRow hr' (flat_dIn hok)
   have hsep : ∀ b, u.ownBlock = some b -> ¬ (Place.deep v ver us).has b := fun b hb1 hb2 => h.hasApart (p := .row u v') (p' := .deep v ver us) (fun e => hkk e.symm) hp' hp rfl hb1 hb2
   refine ⟨_, h.repl2 (w' := w) (p1' := .deep v ver (us.set i u)) (p2' := .row nilV (v' + 1)) hkk hp hp' hb hb' rfl rfl rfl rfl rfl rfl rfl (Nat.le_refl _) (fun _ _ _ _ => rfl) (.inr (.inr ⟨_, _, _, _, _, _, rfl, rfl, Nat.le_refl _, fun _ => rfl⟩))
     (.inr (.inl ⟨_, _, _, _, rfl, rfl, Nat.lt_succ_self _⟩)) (fun b hb => ?_) (fun b hb => (dead_has hb).elim) (fun b _ h2 => dead_has h2) (hr.putBack hp' hin hsep _) deadRep, v, us, us.set i u, hp, ?_⟩
   . rcases has_setV hb with hb | hb
     . exact .inl hb
     . exact .inr (.inl hb)
   . rw [upd_ne _ (fun e => hkk e.symm), upd_self]
end
end Go.Proofs.YtaeeadldamflcaaGreatDoor.Abs
namespace Go.Proofs.YtaeeadldamflcaaGreatDoor.Abs
open Go Go.RowKit
set_option linter.unusedVariables false
set_option linter.unusedSimpArgs false
def dps : List (Nat × Nat) := [(73, 82)]
def nilAt (cs : List C) (j : Nat) : Bool := match cs[j]? with | some .nil => true | _ => false
def zdMake (P : Program) (cod : TypeId -> Nat) (dst : Option Nat) (t : TypeId) (l c : Operand) (ρ : Operand -> V) (m : Nat -> Option Blk) : Option (Tr Out) :=
 match dst, telem P t, ρ l, ρ c with
 | some d, some e, .one (.d (.i _ n)), .one (.d (.i _ q)) => match look e dps, m d, tzero P e, zeroOf P e (cod t) with
  | some ei, none, some zs, some T => match dOk (cod t) && nilAt zs (dIc (cod t)) with
   | true => some (.grd (decide (0 <= n /\ n <= q /\ q.toNat * P.bytesOf e <= 140737488355328 /\ q <= maxLen)) (T.bind fun z => .ret ⟨.one (.dp d 0 (List.replicate n.toNat z).length q.toNat), [(d, .deep 0 e ei (cod t) none (List.replicate n.toNat z))]⟩))
   | false => none
  | _, _, _, _ => none
 | _, _, _, _ => none
section
variable {P : Program} {w0 : World} {U0 : Nat -> Prop} {X : Nat -> Nat -> Prop} {β0 β : Nat -> Option Place} {U : Nat -> Prop} {s : St} {a : Act} {w : World} {base : Nat}
theorem repDp {k ver len room cap : Nat} {ao : Option Addr} {us : List Value} (hk : β k = some (.deep (.slice ao len cap) ver us)) (h1 : len <= room) (h2 : room <= cap) (hn : ao = none -> len = 0 /\ cap = 0) (hs : ∀ x, ao = some x -> ∃ g, x = ⟨g, 0, none⟩) : RepV w β U base (.slice ao len cap) (.one (.dp k ver len room)) :=
 .one _ _ ⟨ao, cap, _, ver, us, rfl, h1, h2, hn, hs, hk, Nat.le_refl _, fun _ => rfl⟩
theorem ne_of_nilV {c : Nat} {ys : List (τ c)} {U : Nat -> Prop} (h : RepI w U nilV (.st c ys)) : ys = [] := by
 have h := h.unst
 generalize hr : ys.map (enc c) = rows at h
 cases h with
 | nil => simpa using hr
theorem zdMake_sem {P : Program} {cod : TypeId -> Nat} {o : Oper} {s : St} {t : TypeId} {l c : Operand} {ρ : Operand -> V} {m : Nat -> Option Blk} (hop : o.op = .makeSlice t l c) (hρ : ∀ y ∈ o.op.operands, s.eval y = ρ y)
   (hm : ∀ k ∈ effKeys o.dst o.op ρ, s.blk k = m k) (hd : ∀ d, o.dst = some d -> d < s.n)
   {T : Tr Out} {E : Out} (h : zdMake P cod o.dst t l c ρ m = some T) (hT : T.eval = some E) : SemStep P o s E := by
 unfold zdMake at h
 rw [hop] at hρ hm
 split at h
 case h_2 => cases h
 rename_i d e kl n kc q hdst hte hle hce
 split at h
 case h_2 => cases h
 rename_i ei zs T' hei hmd htz hzero
 split at h
 case h_2 => cases h
 rename_i hok
 cases h
 simp only [Bool.and_eq_true] at hok
 obtain ⟨hok, hnil⟩ := hok
 obtain ⟨g1, hT⟩ := Tr.eval_grd hT
 rw [Tr.eval_bind] at hT
 obtain ⟨z, hz, g2⟩ := Option.bind_eq_some_iff.1 hT
 cases g2
 simp only [decide_eq_true_eq] at g1
 have ht := telem_iff hte
 have hl : s.eval l = ρ l := hρ l (by simp [Op.operands])
 have hc : s.eval c = ρ c := hρ c (by simp [Op.operands])
 have hkd : s.blk d = none := by rw [hm d (by simp [effKeys, hdst])]; exact hmd
 intro w0 U0 X β0 β U a w hs
 obtain ⟨i, zv, hi, hzz, hzs, his, hz1, hzr⟩ := zeroOf_rep (w := w) (UU := fun _ => False) hzero hz
 obtain ⟨i2, zv2, hi2, hzz2, hrep2, _, _⟩ := tzero_sound (w := w) (β := β) (U := U) (base := w0.heap.size) htz
 rw [hi] at hi2; cases hi2
 rw [hzz] at hzz2; cases hzz2
 have hpos : dIc (cod t) < esz (cod t) := dIc_lt hok
 have hnilv : zv.cells[dIc (cod t)]? = some nilV := by
   unfold nilAt at hnil
   split at hnil
   . rename_i hcs
     have hlt : dIc (cod t) < zv.cells.toList.length := by simp only [Array.length_toList]; omega
     have := hrep2.2 _ _ _ (List.getElem?_eq_getElem hlt) hcs
     have e1 : zv.cells.toList[dIc (cod t)] = nilV := this
     rw [<- Array.getElem?_toList, List.getElem?_eq_getElem hlt, e1]
   . cases hnil
 have hzd : dGet (cod t) z = [] := by
   obtain ⟨u, k1, k2⟩ := hzr _ _ (enc_dGet hok z)
   rw [hnilv] at k1; cases k1
   exact ne_of_nilV k2
 have q1 := hs.eval l; rw [hl, hle] at q1; have q1 := q1.int
 have q2 := hs.eval c; rw [hc, hce] at q2; have q2 := q2.int
 have hbi : P.bytesOf e = i.bytes := by simp [Program.bytesOf, hi]
 have hq0 : 0 <= q := by omega
 have hmax := g1.2.2.2
 have h63 : q <= 9223372036854775807 := by simp only [maxLen] at hmax; omega
 have hby : (i.bytes : Int) * q <= 281474976710656 := by
   have := g1.2.2.1
   rw [hbi] at this
   have e1 : ((q.toNat * i.bytes : Nat) : Int) <= 140737488355328 := by omega
   rw [Int.natCast_mul, Int.toNat_of_nonneg hq0, Int.mul_comm] at e1
   omega
 have hr := run_make (P := P) w t e i zv ht hi hzz kl kc n q g1.1 g1.2.1 hby h63
 have hrep := zeros_rep (w := w) (by rw [hzs, his]) hzr q.toNat
 have hlen : (List.replicate n.toNat z).length = n.toNat := List.length_replicate
 have hcell : ∀ (i' : Nat), i' < q.toNat -> ∀ j, j < esz (cod t) -> ∃ u, (madeCells zv.cells (q.toNat * i.size))[i' * esz (cod t) + j]? = some u /\ u.oneCell' = true /\ zv.cells[j]? = some u := by
   intro i' hi' j hj
   have hlt : i' * esz (cod t) + j < q.toNat * i.size := by rw [his]; exact mul_lt_of hi' hj
   have hj' : j < zv.cells.size := by omega
   refine ⟨zv.cells[j], ?_, hz1 _ (by simp), by simp [hj']⟩
   simp only [madeCells]
   rw [Array.getElem?_map, Array.getElem?_range, if_pos hlt]
   have e1 : (i' * esz (cod t) + j) % zv.cells.size = j := by
     rw [hzs, his, Nat.add_comm, Nat.add_mul_mod_self_right]; exact Nat.mod_eq_of_lt hj
   simp only [Option.map_some, e1]
   simp [hj']
 obtain ⟨hs1, _⟩ := hs.newKey (k := d) (p := .deep (.slice (some ⟨w.heap.size, 0, none⟩) n.toNat q.toNat) 0 (List.replicate n.toNat nilV)) (blk := .deep 0 e ei (cod t) none (List.replicate n.toNat z))
   (w' := w.alloc (.cells (madeCells zv.cells (q.toNat * i.size)) e)) (Nat.lt_of_lt_of_le (hd d hdst) (Nat.le_trans hs.small (by decide))) hkd rfl rfl rfl (by simp) (fun b hb => Below.heap_alloc _ _ _ hb)
   (fun b hb => by
     rcases hb with hb | ⟨u, hu, hb⟩
     . obtain rfl : w.heap.size = b := by simpa [Value.ownBlock] using hb
       rw [size_alloc]; omega
     . rw [List.mem_replicate] at hu; rw [hu.2] at hb; simp [Value.ownBlock] at hb)
   ⟨rfl, hok, by simp, ⟨fun i j u u' b _ hu _ hb => by
       have := List.mem_of_getElem? hu
       rw [List.mem_replicate] at this; rw [this.2] at hb; simp [Value.ownBlock] at hb, fun i u b hu hb => by
       have := List.mem_of_getElem? hu
       rw [List.mem_replicate] at this; rw [this.2] at hb; simp [Value.ownBlock] at hb⟩,
     fun i' u x hu hx _ => by
       have h1 := List.mem_of_getElem? hu
       have h2 := List.mem_of_getElem? hx
       rw [List.mem_replicate] at h1 h2
       rw [h1.2, h2.2, hzd]; exact .inl ⟨rfl, rfl⟩,
     fun i l hh => (by cases hh), .inr ⟨w.heap.size, q.toNat, _, by rw [hlen], heap_alloc_new w _, by rw [hlen]; omega, by omega, by simp [madeCells, his], fun i' j x dd hx hdd => by
       have hil : i' < n.toNat := by have := (List.getElem?_eq_some_iff.1 hx).1; rw [hlen] at this; exact this
       have hxz : x = z := by have := List.mem_of_getElem? hx; rw [List.mem_replicate] at this; exact this.2
       subst hxz
       have hjl : j < esz (cod t) := by have := (List.getElem?_eq_some_iff.1 hdd).1; rw [enc_len] at this; exact this
       obtain ⟨u, k1, k2, k3⟩ := hcell i' (by omega) j hjl
       obtain ⟨u', k4, k5⟩ := hzr j dd hdd
       rw [k3] at k4; cases k4
       refine ⟨u, k1, k2, fun _ => k5.mono (fun _ hb => hb) (fun _ hb => hb.elim), fun hj _ => ?_, fun _ _ _ hh => by cases hh⟩
       subst hj
       rw [hnilv] at k3; cases k3
       rw [List.getElem?_replicate, if_pos hil]⟩⟩
 refine ⟨.slice (some ⟨w.heap.size, 0, none⟩) n.toNat q.toNat, w.alloc (.cells (madeCells zv.cells (q.toNat * i.size)) e), .inl ?_, ?_⟩
 . simp only [execOp, hop, q1, q2]
   exact wrapV hr
 . rw [hdst]
   refine ⟨_, U, SimB.put (s := s.set d _) hs1 ?_ (fun d' e' => by cases e'; exact hd d hdst)⟩
   rw [hlen]
   exact repDp (upd_self _ _ _) (by omega) (Nat.le_refl _) (fun e => by cases e) (fun x hx => by cases hx; exact ⟨_, rfl⟩)

def dCells (c : Nat) (x : τ c) (l : C) : List C := ((enc c x).map (toC true)).set (dIc c) l
def zdTake (P : Program) (t : TypeId) (k ver : Nat) (e ei : TypeId) (c : Nat) (xs : List (τ c)) (i off nv : Nat) : Tr Out :=
 .opt (xs[i]?) fun x => match partC P t (dCells c x (.own (hkey k) nv (dGet c x).length)) off with
  | some v => .ret ⟨v, [(k, .deep ver e ei c (some (i, some (hkey k, nv))) xs), (hkey k, .rowT nv ei (dIn c) true true (dGet c x))]⟩
  | none => .fail 43
def zdLoad (P : Program) (t : TypeId) (y : Operand) (ρ : Operand -> V) (m : Nat -> Option Blk) : Option (Tr Out) :=
 match ρ y with
 | .one (.dpr k ver sz i off) => match m k with
  | some (.deep ver' e ei c hole xs) => match decide (ver = ver' /\ sz = esz c), decide (off <= dIc c /\ dIc c < off + tsz P t) with
   | true, false => some (.opt (xs[i]?) fun x => match partC P t (dCells c x .bad) off with
    | some v => .ret ⟨v, []⟩
    | none => .fail 43)
   | true, true => match hole, m (hkey k) with
    | none, none => some (zdTake P t k ver e ei c xs i off 1)
    | none, some (.rowT v1 _ _ _ _ _) => some (zdTake P t k ver e ei c xs i off (v1 + 1))
    | some (j, some (k', v')), some (.rowT v1 e1 c1 ap _ ys) => if hc : c1 = dIn c then (match decide (k' = hkey k /\ v' = v1 /\ e1 = ei /\ ap = true) with
     | true => some (zdTake P t k ver e ei c (xs.modify j fun x => dSet c x (hc ▸ ys)) i off (v1 + 2))
     | false => none) else none
    | _, _ => none
   | _, _ => none
  | _ => none
 | _ => none
theorem dCells_get {c : Nat} {x : τ c} {l : C} {j : Nat} {q : C} (h : (dCells c x l)[j]? = some q) : (j = dIc c /\ q = l) \/ (j ≠ dIc c /\ ∃ d, (enc c x)[j]? = some d /\ q = toC true d) := by
 unfold dCells at h
 rcases set_get h with ⟨rfl, rfl, _⟩ | ⟨e, h⟩
 . exact .inl ⟨rfl, rfl⟩
 . rw [List.getElem?_map, Option.map_eq_some_iff] at h
   obtain ⟨d, h1, rfl⟩ := h
   exact .inr ⟨fun e' => e e'.symm, d, h1, rfl⟩
theorem deep_cells {v : Value} {ver : Nat} {us : List Value} {e ei : TypeId} {c : Nat} {hole : Option (Nat × Option (Nat × Nat))} {xs : List (τ c)} (h : RepB w β U base (.deep v ver us) (.deep ver e ei c hole xs)) {g n cp : Nat} (hv : v = .slice (some ⟨g, 0, none⟩) n cp) {i : Nat} {x : τ c} (hx : xs[i]? = some x) {l : C}
   (hl : ∀ u, w.cell? ⟨g, i * esz c + dIc c, none⟩ = some u -> RepC w β U base u l) :
   ∀ (j : Nat) (q : C), (dCells c x l)[j]? = some q -> ∃ u, w.cell? ⟨g, i * esz c + j, none⟩ = some u /\ u.oneCell' = true /\ RepC w β U base u q := by
 obtain ⟨_, hok, h1, h2, h3, h4, h5⟩ := h
 intro j q hq
 subst hv
 rcases h5 with ⟨h5, _⟩ | ⟨g', cap, cur, e1, hg, k1, k2, k3, k4⟩
 . cases h5
 . cases e1
   have cellE : ∀ {q : Nat} {u : Value}, cur[q]? = some u -> w.cell? ⟨g, q, none⟩ = some u := fun hc => by simp only [World.cell?, hg]; exact hc
   rcases dCells_get hq with ⟨rfl, rfl⟩ | ⟨hj, d, hd, rfl⟩
   . obtain ⟨u, z1, z2, _⟩ := k4 i _ x _ hx (enc_dGet hok x)
     exact ⟨u, cellE z1, z2, hl u (cellE z1)⟩
   . obtain ⟨u, z1, z2, z3, _⟩ := k4 i j x d hx hd
     exact ⟨u, cellE z1, z2, toC_sound (fr := true) ((z3 hj).mono (fun _ hb => hb.elim) (fun _ hb => hb.elim))⟩
theorem zdTake_sem {o : Oper} {t : TypeId} {y : Operand} (hop : o.op = .load t y) (hd : ∀ d, o.dst = some d -> d < s.n) {k ver sz i off : Nat} (hy : s.eval y = .one (.dpr k ver sz i off)) {e ei : TypeId} {c : Nat} {xs : List (τ c)} (hb : s.blk k = some (.deep ver e ei c none xs)) (hro : rowOr (s.blk (hkey k)) = true)
  (hsz : sz = esz c) {E : Out} (hE : (zdTake P t k ver e ei c xs i off (nextV (s.blk (hkey k)))).eval = some E) (h : SimB w0 U0 X β0 β U s a w) :
  ∃ v, (execOp a.eval o).run P w = .ok (.value v) w /\ Sim w0 U0 X β0 (s.out o.dst E) (a.put o.dst v) w := by
 obtain ⟨x, hx, h2⟩ := Option.bind_eq_some_iff.1 hE
 simp only at h2
 split at h2
 case h_2 => cases h2
 rename_i vv hpart
 cases h2
 have hvy := h.eval y
 rw [hy] at hvy
 obtain ⟨ad, v0, ver0, us, hv, hkβ, hv1, hv2⟩ := hvy.toC
 obtain ⟨p, hp, hr⟩ := h.mem k _ hb
 rw [hkβ] at hp; cases hp
 obtain rfl := hr.1
 obtain ⟨g, n, cp, rfl, rfl⟩ := hv2 rfl
 obtain ⟨β', u, hs1, hb1, hb2, hus, hin, hevo⟩ := h.takeOut hb hkβ hro hx
 have hkk : k ≠ hkey k := by simp [hkey]
 obtain ⟨p1, hp1, hr1⟩ := hs1.mem k (.deep ver e ei c (some (i, some (hkey k, nextV (s.blk (hkey k))))) xs) (by show look k ((k, _) :: _) = _; rw [look_cons_self])
 rw [hb1] at hp1; cases hp1
 obtain ⟨ao, cap, hsh, hs2, hs3, hs4⟩ := hin.shape
 have hcells := deep_cells hr1 rfl hx (l := .own (hkey k) (nextV (s.blk (hkey k))) (dGet c x).length) (fun u' hu' => by
  obtain ⟨_, hok, _, _, _, _, h5⟩ := hr1
  rcases h5 with ⟨h5, _⟩ | ⟨g', cap', cur, e1, hg, k1, k2, k3, k4⟩
  . cases h5
  . cases e1
    obtain ⟨u2, z1, _, _, _, z5⟩ := k4 i _ x _ hx (enc_dGet hok x)
    obtain ⟨v1, ver1, f1, f2, f3⟩ := z5 rfl _ _ rfl
    rw [hb2] at f1; cases f1
    have e2 := f3 rfl
    subst e2
    simp only [World.cell?, hg] at hu'
    rw [z1] at hu'; cases hu'
    subst hsh
    exact ⟨ao, cap, _, _, rfl, hs2, hs3, hs4, hb2, Nat.le_refl _, fun _ => rfl⟩)
 obtain ⟨v, hrun, hrep⟩ := load_part (P := P) (t := t) (o := i * esz c) (off := off) hcells hpart
 subst hsz
 refine ⟨v, ?_, _, _, hs1.put hrep (fun d e => hd d e)⟩
 simp only [execOp, hop, hv]
 exact wrapV hrun
theorem zdLoad_sem {o : Oper} {t : TypeId} {y : Operand} {ρ : Operand -> V} {m : Nat -> Option Blk} (hop : o.op = .load t y) (hρ : ∀ y ∈ o.op.operands, s.eval y = ρ y) (hm : ∀ k ∈ (ρ y).keys, s.blk k = m k) (hd : ∀ d, o.dst = some d -> d < s.n)
   {T : Tr Out} {E : Out} (h : zdLoad P t y ρ m = some T) (hT : T.eval = some E) : SemStep P o s E := by
 unfold zdLoad at h
 rw [hop] at hρ
 have hy0 : s.eval y = ρ y := hρ y (by simp [Op.operands])
 split at h
 case h_2 => cases h
 rename_i k ver sz i off hy
 rw [hy] at hm
 have m1 := hm k (by simp [V.keys, C.keys])
 have m2 := hm (hkey k) (by simp [V.keys, C.keys])
 split at h
 case h_2 => cases h
 rename_i ver' e ei c hole xs hmk
 have hb : s.blk k = some (.deep ver' e ei c hole xs) := m1.trans hmk
 have hy' : s.eval y = .one (.dpr k ver sz i off) := hy0.trans hy
 split at h
 . -- flat cells
   rename_i hc hin
   simp only [decide_eq_true_eq] at hc
   obtain ⟨rfl, rfl⟩ := hc
   cases h
   obtain ⟨x, hx, h2⟩ := Option.bind_eq_some_iff.1 hT
   simp only at h2
   split at h2
   case h_2 => cases h2
   rename_i vv hpart
   cases h2
   refine semVal hd fun w0 U0 X β0 β U a w hs => ?_
   have hvy := hs.eval y
   rw [hy'] at hvy
   obtain ⟨ad, v0, ver0, us, hv, hkβ, hv1, hv2⟩ := hvy.toC
   obtain ⟨p, hp, hr⟩ := hs.mem k _ hb
   rw [hkβ] at hp; cases hp
   obtain rfl := hr.1
   obtain ⟨g, n, cp, rfl, rfl⟩ := hv2 rfl
   obtain ⟨v, hrun, hrep⟩ := load_part (P := P) (t := t) (o := i * esz c) (off := off) (deep_cells hr rfl hx (l := .bad) (fun _ _ => trivial)) hpart
   refine ⟨v, ?_, hrep⟩
   simp only [execOp, hop, hv]
   exact wrapV hrun
 . rename_i hc hin
   simp only [decide_eq_true_eq] at hc
   obtain ⟨rfl, hsz⟩ := hc
   split at h
   . rename_i hmh
     cases h
     have hn : s.blk (hkey k) = none := m2.trans hmh
     intro w0 U0 X β0 β U a w hs
     obtain ⟨v, h1, h2⟩ := zdTake_sem (P := P) hop hd hy' hb (by rw [hn]; rfl) hsz (E := E) (by rw [hn]; exact hT) hs
     exact ⟨v, w, .inl h1, h2⟩
   . rename_i v1 e1 c1 ap1 fr1 ys1 hmh
     cases h
     have hn : s.blk (hkey k) = some (.rowT v1 e1 c1 ap1 fr1 ys1) := m2.trans hmh
     intro w0 U0 X β0 β U a w hs
     obtain ⟨v, h1, h2⟩ := zdTake_sem (P := P) hop hd hy' hb (by rw [hn]; rfl) hsz (E := E) (by rw [hn]; exact hT) hs
     exact ⟨v, w, .inl h1, h2⟩
   . rename_i j k' v' v1 e1 c1 ap fr ys hmh
     split at h
     case isFalse => cases h
     rename_i hc1
     subst hc1
     split at h
     case h_2 => cases h
     rename_i hcc
     simp only [decide_eq_true_eq] at hcc
     obtain ⟨rfl, rfl, rfl, rfl⟩ := hcc
     cases h
     have hn := m2.trans hmh
     have hkk : k ≠ hkey k := by simp [hkey]
     intro w0 U0 X β0 β U a w hs
     obtain ⟨β', hs1, _⟩ := hs.putBack hkk hb hn
     have b1 : (s.upd [(k, .deep ver e e1 c none (xs.modify j fun x => dSet c x ys)), (hkey k, .rowT (v' + 1) e1 (dIn c) true true [])]).blk (hkey k) = some (.rowT (v' + 1) e1 (dIn c) true true []) := by
       show look (hkey k) ((k, _) :: (hkey k, _) :: _) = _; rw [look_cons_ne hkk, look_cons_self]
     have b0 : (s.upd [(k, .deep ver e e1 c none (xs.modify j fun x => dSet c x ys)), (hkey k, .rowT (v' + 1) e1 (dIn c) true true [])]).blk k = some (.deep ver e e1 c none (xs.modify j fun x => dSet c x ys)) := by
       show look k ((k, _) :: _) = _; rw [look_cons_self]
     obtain ⟨v, h1, β2, U2, h2⟩ := zdTake_sem (P := P) (s := s.upd [(k, .deep ver e e1 c none (xs.modify j fun x => dSet c x ys)), (hkey k, .rowT (v' + 1) e1 (dIn c) true true [])]) hop hd hy' b0 (by rw [b1]; rfl) hsz (E := E) (by rw [b1]; exact hT) hs1
     refine ⟨v, w, .inl h1, β2, U2, h2.congr (by cases o.dst <;> rfl) (by cases o.dst <;> rfl) fun q => ?_⟩
     obtain ⟨x, hx, h3⟩ := Option.bind_eq_some_iff.1 hT
     simp only at h3
     split at h3
     case h_2 => cases h3
     cases h3
     unfold St.out
     rw [St.blk_put, St.blk_put]
     show look q ((k, _) :: (hkey k, _) :: s.mem) = look q ((k, _) :: (hkey k, _) :: (k, _) :: (hkey k, _) :: s.mem)
     simp only [look_cons]
     split
     . rfl
     . split <;> rfl
   . cases h
 . cases h
end
end Go.Proofs.YtaeeadldamflcaaGreatDoor.Abs
namespace Go.Proofs.YtaeeadldamflcaaGreatDoor.Abs
open Go Go.RowKit
set_option linter.unusedVariables false
set_option linter.unusedSimpArgs false
def C.flatV : C -> Bool
 | .d x => x.flat
 | _ => false
def atHole (hole : Option (Nat × Option (Nat × Nat))) (i : Nat) (T : Tr Out) : Tr Out := match hole with
 | none => T
 | some (j, _) => .grd (decide (j = i)) T
def zdStore (P : Program) (dst : Option Nat) (t : TypeId) (y x : Operand) (ρ : Operand -> V) (m : Nat -> Option Blk) : Option (Tr Out) :=
 match dst, ρ y, (ρ x).cells with
 | none, .one (.dpr k ver sz i off), some cs => match m k with
  | some (.deep ver' e ei c hole xs) => match decide (ver = ver' /\ sz = esz c /\ cs.length = tsz P t /\ off + cs.length <= sz /\ (P.info? t).isSome), decide (off <= dIc c /\ dIc c < off + cs.length) with
   | true, false => match cs.all C.flatV, cs.mapM toD with
    | true, some ds => some (.opt (xs[i]?) fun x0 => match decG c (spliceC (enc c x0) off ds) with
     | some T => T.bind fun x1 => .ret ⟨.one .un, [(k, .deep ver' e ei c hole (xs.set i x1))]⟩
     | none => .fail 44)
    | _, _ => none
   | true, true => match cs with
    | [.own k2 v2 _] => match m k2 with
     | some (.rowT v2' e2 c2 ap _ ys) => if hc : c2 = dIn c then (match decide (v2 = v2' /\ e2 = ei /\ ap = true /\ k ≠ k2) with
      | true => some (atHole hole i (.opt (xs[i]?) fun x0 => .ret ⟨.one .un, [(k, .deep ver' e ei c none (xs.set i (dSet c x0 (hc ▸ ys)))), (k2, .rowT (v2 + 1) ei (dIn c) true true [])]⟩))
      | false => none) else none
     | _ => none
    | [.nil] => some (atHole hole i (.opt (xs[i]?) fun x0 => .ret ⟨.one .un, [(k, .deep ver' e ei c none (xs.set i (dSet c x0 [])))]⟩))
    | _ => none
   | _, _ => none
  | _ => none
 | _, _, _ => none
section
variable {P : Program} {w0 : World} {U0 : Nat -> Prop} {X : Nat -> Nat -> Prop} {β0 β : Nat -> Option Place} {U : Nat -> Prop} {s : St} {a : Act} {w : World} {base : Nat}
theorem modify_set {α : Type} {l : List α} {i : Nat} {x : α} (h : l[i]? = some x) (f : α -> α) : l.modify i f = l.set i (f x) := by
 apply List.ext_getElem?
 intro j
 rw [List.getElem?_modify]
 by_cases e : i = j
 . subst e; rw [List.getElem?_set_self (List.getElem?_eq_some_iff.1 h).1, h]; simp
 . rw [List.getElem?_set_ne e]; simp [e]
theorem SimB.storeDeep (h : SimB w0 U0 X β0 β U s a w) {k ver g n cp : Nat} {us : List Value} {blk : Blk} (hb : s.blk k = some blk) (hk : β k = some (.deep (.slice (some ⟨g, 0, none⟩) n cp) ver us)) {o : Nat} {ul us' : List Value} {blk' : Blk}
  (hhas : ∀ b, (Place.deep (.slice (some ⟨g, 0, none⟩) n cp) ver us').has b -> (Place.deep (.slice (some ⟨g, 0, none⟩) n cp) ver us).has b)
  (hrep : RepB (w.setCells g o ul) (upd β k (.deep (.slice (some ⟨g, 0, none⟩) n cp) ver us')) U w0.heap.size (.deep (.slice (some ⟨g, 0, none⟩) n cp) ver us') blk') :
  SimB w0 U0 X β0 (upd β k (.deep (.slice (some ⟨g, 0, none⟩) n cp) ver us')) U (s.set k blk') a (w.setCells g o ul) := by
 have hg : (Place.deep (.slice (some ⟨g, 0, none⟩) n cp) ver us).has g := .inl rfl
 have hoth : ∀ b, b ≠ g -> (w.setCells g o ul).heap[b]? = w.heap[b]? := fun b hb => setCells_other g ul o w b hb
 refine h.replE hk hb (setCells_rest g ul o w).1 (setCells_rest g ul o w).2.1 (setCells_rest g ul o w).2.2 (by rw [setCells_size]; exact Nat.le_refl _) (fun b _ hne => hoth b (fun e => hne (by subst e; exact hg)))
  (fun b j _ hnc => ?_) (fun b _ hpb => .inr (.inr fun j => (covers_nocells rfl).2 hpb)) (.inr (.inr ⟨_, _, _, _, _, _, rfl, rfl, Nat.le_refl _, fun _ => rfl⟩)) (fun b hb => .inl (hhas b hb)) (fun b j hc => .inl ((covers_nocells rfl).2 (hhas b ((covers_nocells rfl).1 hc)))) hrep
 have hne : b ≠ g := fun e => hnc (by subst e; exact (covers_nocells rfl).2 hg)
 exact ⟨World.cell?_of_block (w := w) (hoth b hne), World.frozen?_of_block (w := w) (hoth b hne)⟩
theorem deep_stored {g n cp : Nat} {e : TypeId} {c : Nat} {cur : Array Value} (hg : w.heap[g]? = some (.cells cur e (0, 0))) {i off : Nat} {ul : List Value} (hin : i * esz c + off + ul.length <= cur.size) :
   ∃ cur' : Array Value, (w.setCells g (i * esz c + off) ul).heap[g]? = some (.cells cur' e (0, 0)) /\ cur'.size = cur.size /\ (∀ i' j, j < esz c -> (i' = i -> j < off \/ off + ul.length <= j) -> off + ul.length <= esz c -> cur'[i' * esz c + j]? = cur[i' * esz c + j]?) /\ ∀ j, (hj : j < ul.length) -> cur'[i * esz c + off + j]? = some ul[j] := by
 obtain ⟨cur', p1, p2, p3⟩ := setCells_shape g ul (i * esz c + off) w cur e (0, 0) hg
 refine ⟨cur', p1, p2.symm, fun i' j hj hout hsz => p3 _ ?_, fun j hj => ?_⟩
 . rcases Nat.lt_or_ge (i' * esz c + j) (i * esz c + off) with hlt | hge
   . exact .inl hlt
   . right
     rcases Nat.lt_or_ge (i' * esz c + j) (i * esz c + off + ul.length) with hlt | hge'
     . exfalso
       obtain ⟨t, ht⟩ : ∃ t, i' * esz c + j = i * esz c + (off + t) /\ t < ul.length := ⟨i' * esz c + j - (i * esz c + off), by omega, by omega⟩
       obtain ⟨e1, e2⟩ := idx_apart hj (by omega) ht.1
       have := hout e1
       omega
     . exact hge'
 . have := World.cell?_setCells_in g ul (i * esz c + off) w (fun j hj => by
     simp only [World.cell?, hg]; rw [Array.getElem?_eq_getElem (by omega)]; rfl) j hj
   simp only [World.cell?, p1] at this
   exact this
theorem WkD.stEq {c : Nat} {ys zs : List (τ c)} (h : WkD (.st c ys) (.st c zs)) : zs = ys := by
 rcases h with h | ⟨_, _, h, _⟩
 . cases h; rfl
 . cases h
theorem flat_store {v : Value} {ver : Nat} {us : List Value} {e ei : TypeId} {c : Nat} {hole : Option (Nat × Option (Nat × Nat))} {xs : List (τ c)} {g n cp : Nat} (hv : v = .slice (some ⟨g, 0, none⟩) n cp) (h : RepB w β U base (.deep v ver us) (.deep ver e ei c hole xs)) {i off : Nat} {x0 x1 : τ c} (hx0 : xs[i]? = some x0)
   {ds : List D} (hle : off + ds.length <= esz c) (hno : ¬ (off <= dIc c /\ dIc c < off + ds.length)) (hw : WkDs (spliceC (enc c x0) off ds) (enc c x1)) {ul : List Value} (hul : ul.length = ds.length) (h1 : ∀ u ∈ ul, u.oneCell' = true)
   (hds : ∀ (j : Nat) (u : Value) (d : D), ul[j]? = some u -> ds[j]? = some d -> RepI w (fun _ => False) u d) {β' : Nat -> Option Place} (hβ : ∀ k v1 v2, β k = some (.row v1 v2) -> β' k = some (.row v1 v2)) :
   RepB (w.setCells g (i * esz c + off) ul) β' U base (.deep v ver us) (.deep ver e ei c hole (xs.set i x1)) := by
 obtain ⟨_, hok, l1, l2, l3, l4, l5⟩ := h
 obtain ⟨hwl, hwg⟩ := WkDs_get hw
 have hi : i < xs.length := (List.getElem?_eq_some_iff.1 hx0).1
 have hel : (enc c x0).length = esz c := enc_len c x0
 have hsame : dGet c x1 = dGet c x0 := by
   have hj := enc_dGet hok x1
   obtain ⟨d0, g4, g5⟩ := hwg _ _ hj
   rw [spliceC_get _ _ _ _ (by omega), if_neg hno, enc_dGet hok] at g4
   cases g4
   exact g5.stEq
 subst hv
 rcases l5 with ⟨e1, _⟩ | ⟨g', cap, cur, e1, hg, k1, k2, k3, k4⟩
 . cases e1
 cases e1
 have hin : i * esz c + off + ul.length <= cur.size := by
   rw [k3]
   have : (i + 1) * esz c <= cp * esz c := Nat.mul_le_mul_right _ (by omega)
   rw [Nat.add_mul] at this
   omega
 obtain ⟨cur', p1, p2, p3, p4⟩ := deep_stored (w := w) (n := xs.length) (cp := cp) (c := c) hg (i := i) (off := off) (ul := ul) hin
 have hoth : ∀ (j : Nat) (u : Value) (b : Nat), us[j]? = some u -> u.ownBlock = some b -> (w.setCells g (i * esz c + off) ul).heap[b]? = w.heap[b]? := fun j u b hu hb => setCells_other g ul _ w b fun e => by
   subst e; exact l2.2 j u b hu hb rfl
 refine ⟨rfl, hok, by rw [List.length_set]; exact l1, l2, fun j u x hu hx hn => ?_, fun j l hh => by rw [List.length_set]; exact l4 j l hh, .inr ⟨g, cp, cur', by rw [List.length_set], p1, by rw [List.length_set]; exact k1, k2, by rw [p2]; exact k3, fun j q x d hx hd => ?_⟩⟩
 . rcases set_get hx with ⟨rfl, rfl, _⟩ | ⟨_, hx⟩
   . rw [hsame]; exact (l3 i u x0 hu hx0 hn).map (fun b hb => hoth i u b hu hb)
   . exact (l3 j u x hu hx hn).map (fun b hb => hoth j u b hu hb)
 . have hq : q < esz c := by have := (List.getElem?_eq_some_iff.1 hd).1; rw [enc_len] at this; exact this
   have up : ∀ {u : Value} {d : D}, RepI w (fun _ => False) u d -> RepI (w.setCells g (i * esz c + off) ul) (fun _ => False) u d := fun hr => hr.mono (fun _ hb => hb) (fun _ hb => hb.elim)
   rcases set_get hx with ⟨rfl, rfl, _⟩ | ⟨hij, hx⟩
   . obtain ⟨d0, g4, g5⟩ := hwg _ _ hd
     rw [spliceC_get _ _ _ _ (by omega)] at g4
     split at g4
     . rename_i hr
       have hlt : q - off < ul.length := by omega
       have := p4 (q - off) hlt
       rw [show i * esz c + off + (q - off) = i * esz c + q by omega] at this
       refine ⟨ul[q - off], this, h1 _ (List.getElem_mem hlt), fun _ => (up (hds _ _ _ (List.getElem?_eq_getElem hlt) g4)).wkD g5, fun hj => ?_, fun hj => ?_⟩
       . exact absurd (by omega : off <= dIc c /\ dIc c < off + ds.length) hno
       . exact absurd (by omega : off <= dIc c /\ dIc c < off + ds.length) hno
     . rename_i hr
       obtain ⟨u, z1, z2, z3, z4, z5⟩ := k4 i q x0 d0 hx0 g4
       refine ⟨u, (p3 i q hq (fun _ => by omega) (by omega)).trans z1, z2, fun hj => (up (z3 hj)).wkD g5, z4, fun hj k' ver' hh => ?_⟩
       obtain ⟨v1, ver1, f1, f2, f3⟩ := z5 hj k' ver' hh
       exact ⟨v1, ver1, hβ _ _ _ f1, f2, f3⟩
   . obtain ⟨u, z1, z2, z3, z4, z5⟩ := k4 j q x d hx hd
     refine ⟨u, (p3 j q hq (fun e => absurd e.symm hij) (by omega)).trans z1, z2, fun hj => up (z3 hj), z4, fun hj k' ver' hh => ?_⟩
     obtain ⟨v1, ver1, f1, f2, f3⟩ := z5 hj k' ver' hh
     exact ⟨v1, ver1, hβ _ _ _ f1, f2, f3⟩
theorem head_store {v : Value} {ver : Nat} {us : List Value} {e ei : TypeId} {c : Nat} {hole : Option (Nat × Option (Nat × Nat))} {xs : List (τ c)} {g n cp : Nat} (hv : v = .slice (some ⟨g, 0, none⟩) n cp) (h : RepB w β U base (.deep v ver us) (.deep ver e ei c hole xs)) {i : Nat} {x0 : τ c} (hx0 : xs[i]? = some x0)
   (hh : hole = none \/ ∃ l, hole = some (i, l)) {u : Value} (hu1 : u.oneCell' = true) {β' : Nat -> Option Place} {k2 v2 : Nat} (hl : ∃ v1 ver1, β' k2 = some (.row v1 ver1) /\ v2 <= ver1 /\ (v2 = ver1 -> u = v1)) :
   RepB (w.setCells g (i * esz c + dIc c) [u]) β' U base (.deep v ver (us.set i nilV)) (.deep ver e ei c (some (i, some (k2, v2))) xs) := by
 obtain ⟨_, hok, l1, l2, l3, l4, l5⟩ := h
 have hi : i < xs.length := (List.getElem?_eq_some_iff.1 hx0).1
 have hno : ∀ j, i ≠ j -> noHole hole j = true := fun j hj => by
   rcases hh with rfl | ⟨l, rfl⟩
   . rfl
   . exact noHole_ne hj
 have hic := dIc_lt hok
 subst hv
 rcases l5 with ⟨e1, _⟩ | ⟨g', cap, cur, e1, hg, k1, k2', k3, k4⟩
 . cases e1
 cases e1
 have hin : i * esz c + dIc c + [u].length <= cur.size := by
   rw [k3]
   have : (i + 1) * esz c <= cp * esz c := Nat.mul_le_mul_right _ (by omega)
   rw [Nat.add_mul] at this
   simp only [List.length_singleton]
   omega
 obtain ⟨cur', p1, p2, p3, p4⟩ := deep_stored (w := w) (n := xs.length) (cp := cp) (c := c) hg (i := i) (off := dIc c) (ul := [u]) hin
 simp only [List.length_singleton] at p3 p4
 have hoth : ∀ (j : Nat) (u' : Value) (b : Nat), us[j]? = some u' -> u'.ownBlock = some b -> (w.setCells g (i * esz c + dIc c) [u]).heap[b]? = w.heap[b]? := fun j u' b hu hb => setCells_other g [u] _ w b fun e => by
   subst e; exact l2.2 j u' b hu hb rfl
 have up : ∀ {u' : Value} {d : D}, RepI w (fun _ => False) u' d -> RepI (w.setCells g (i * esz c + dIc c) [u]) (fun _ => False) u' d := fun hr => hr.mono (fun _ hb => hb) (fun _ hb => hb.elim)
 refine ⟨rfl, hok, by rw [List.length_set]; exact l1, l2.setNil i, fun j u' x hu hx hn => ?_, fun j l hh => ?_, .inr ⟨g, cp, cur', rfl, p1, k1, k2', by rw [p2]; exact k3, fun j q x d hx hd => ?_⟩⟩
 . have hij : i ≠ j := fun e => by subst e; rw [noHole_self] at hn; cases hn
   rcases set_get hu with ⟨e, _⟩ | ⟨_, hu⟩
   . exact absurd e hij
   . exact (l3 j u' x hu hx (hno j hij)).map (fun b hb => hoth j u' b hu hb)
 . cases hh; exact ⟨hi, by rw [List.getElem?_set_self (by omega)]⟩
 . have hq : q < esz c := by have := (List.getElem?_eq_some_iff.1 hd).1; rw [enc_len] at this; exact this
   by_cases hat : i = j /\ q = dIc c
   . obtain ⟨rfl, rfl⟩ := hat
     refine ⟨u, by simpa using p4 0 (by simp), hu1, fun hj => absurd rfl hj, fun _ hn => ?_, fun _ k' ver' hh => ?_⟩
     . rw [noHole_self] at hn; cases hn
     . cases hh; exact hl
   . obtain ⟨u', z1, z2, z3, z4, z5⟩ := k4 j q x d hx hd
     refine ⟨u', (p3 j q hq (fun e => by
       have : q ≠ dIc c := fun e' => hat ⟨e.symm, e'⟩
       omega) (by omega)).trans z1, z2, fun hj => up (z3 hj), fun hj hn => ?_, fun hj k' ver' hh => ?_⟩
     . have hij : i ≠ j := fun e => by subst e; rw [noHole_self] at hn; cases hn
       rw [List.getElem?_set_ne hij]; exact z4 hj (hno j hij)
     . cases hh; exact absurd ⟨rfl, hj⟩ hat
theorem nil_store {v : Value} {ver : Nat} {us : List Value} {e ei : TypeId} {c : Nat} {hole : Option (Nat × Option (Nat × Nat))} {xs : List (τ c)} {g n cp : Nat} (hv : v = .slice (some ⟨g, 0, none⟩) n cp) (h : RepB w β U base (.deep v ver us) (.deep ver e ei c hole xs)) {i : Nat} {x0 : τ c} (hx0 : xs[i]? = some x0)
  (hh : hole = none \/ ∃ l, hole = some (i, l)) {β' : Nat -> Option Place} :
  RepB (w.setCells g (i * esz c + dIc c) [nilV]) β' U base (.deep v ver (us.set i nilV)) (.deep ver e ei c none (xs.set i (dSet c x0 []))) := by
 have hr := head_store hv h hx0 hh (u := nilV) rfl (β' := fun _ => some (.row nilV 0)) (k2 := 0) (v2 := 0) ⟨_, _, rfl, Nat.le_refl _, fun _ => rfl⟩
 have := hr.putBack (u := nilV) rfl (ys := []) (.inl ⟨rfl, rfl⟩) (fun b hb => by simp [Value.ownBlock] at hb) β'
 rw [modify_set hx0, List.set_set] at this
 exact this
theorem atHole_eval {hole : Option (Nat × Option (Nat × Nat))} {i : Nat} {T : Tr Out} {E : Out} (h : (atHole hole i T).eval = some E) : (hole = none \/ ∃ l, hole = some (i, l)) /\ T.eval = some E := by
 unfold atHole at h
 split at h
 . exact ⟨.inl rfl, h⟩
 . rename_i j l
   obtain ⟨h1, h2⟩ := Tr.eval_grd h
   simp only [decide_eq_true_eq] at h1
   subst h1
   exact ⟨.inr ⟨l, rfl⟩, h2⟩
theorem zdStore_sem {o : Oper} {t : TypeId} {y x : Operand} {ρ : Operand -> V} {m : Nat -> Option Blk} (hop : o.op = .store t y x) (hρ : ∀ y ∈ o.op.operands, s.eval y = ρ y) (hm : ∀ k ∈ effKeys o.dst o.op ρ, s.blk k = m k)
   {T : Tr Out} {E : Out} (h : zdStore P o.dst t y x ρ m = some T) (hT : T.eval = some E) : SemStep P o s E := by
 unfold zdStore at h
 rw [hop] at hρ hm
 have hy0 : s.eval y = ρ y := hρ y (by simp [Op.operands])
 have hx0 : s.eval x = ρ x := hρ x (by simp [Op.operands])
 split at h
 case h_2 => cases h
 rename_i k ver sz i off cs hdst hy hcs
 have m1 : s.blk k = m k := hm k (by simp [effKeys, hy, V.keys, C.keys])
 split at h
 case h_2 => cases h
 rename_i ver' e ei c hole xs hmk
 have hb : s.blk k = some (.deep ver' e ei c hole xs) := m1.trans hmk
 have hy' : s.eval y = .one (.dpr k ver sz i off) := hy0.trans hy
 -- what is common
 have common : ∀ {w0 : World} {U0 : Nat -> Prop} {X : Nat -> Nat -> Prop} {β0 β : Nat -> Option Place} {U : Nat -> Prop} {a : Act} {w : World}, SimB w0 U0 X β0 β U s a w -> (ver = ver' /\ sz = esz c /\ cs.length = tsz P t /\ off + cs.length <= sz /\ (P.info? t).isSome) -> ∀ {x0 : τ c}, xs[i]? = some x0 ->
     ∃ g n cp us, β k = some (.deep (.slice (some ⟨g, 0, none⟩) n cp) ver us) /\ RepB w β U w0.heap.size (.deep (.slice (some ⟨g, 0, none⟩) n cp) ver us) (.deep ver e ei c hole xs) /\ RepCs w β U w0.heap.size (a.eval x).cells.toList cs /\ (∀ u ∈ (a.eval x).cells.toList, u.oneCell' = true) /\
       (execOp a.eval o).run P w = .ok .skip (w.setCells g (i * esz c + off) (a.eval x).cells.toList) := by
   rintro w0 U0 X β0 β U a w hs ⟨rfl, rfl, hlen, hle, hit⟩ x0 hx
   obtain ⟨it, hit⟩ := Option.isSome_iff_exists.1 hit
   have hvx := hs.eval x
   rw [hx0] at hvx
   obtain ⟨hrep, h1⟩ := V.cells_sound hvx hcs
   have hvy := hs.eval y
   rw [hy'] at hvy
   obtain ⟨ad, v0, ver0, us, hv, hkβ, hv1, hv2⟩ := hvy.toC
   obtain ⟨p, hp, hr⟩ := hs.mem k _ hb
   rw [hkβ] at hp; cases hp
   obtain rfl := hr.1
   obtain ⟨g, n, cp, rfl, rfl⟩ := hv2 rfl
   refine ⟨g, n, cp, us, hkβ, hr, hrep, h1, ?_⟩
   have hsz : (a.eval x).cells.size = it.size := by
     have := hrep.1
     simp only [Array.length_toList] at this
     rw [this, hlen]; simp [tsz, Program.cellsOf, hit]
   obtain ⟨_, hok, l1, l2, l3, l4, l5⟩ := hr
   rcases l5 with ⟨e1, _⟩ | ⟨g', cap, cur, e1, hg, k1, k2, k3, k4⟩
   . cases e1
   cases e1
   have hi : i < xs.length := (List.getElem?_eq_some_iff.1 hx).1
   simp only [execOp, hop, hv]
   rw [Sem.run_bind, run_storeAt hit hsz (fun j hj => ?_) h1]
   . rfl
   . have hl := hrep.1
     simp only [Array.length_toList] at hl
     have : (i + 1) * esz c <= cp * esz c := Nat.mul_le_mul_right _ (by omega)
     rw [Nat.add_mul] at this
     exact ⟨by simp only [World.cell?, hg]; rw [Array.getElem?_eq_getElem (by omega)]; rfl, by simp [World.frozen?, hg]⟩
 split at h
 . -- flat cells
   rename_i hc hin
   simp only [decide_eq_true_eq] at hc
   simp only [decide_eq_false_iff_not] at hin
   split at h
   case h_2 => cases h
   rename_i ds hfl hds
   cases h
   obtain ⟨y0, hy0', h2⟩ := Option.bind_eq_some_iff.1 hT
   simp only at h2
   split at h2
   case h_2 => cases h2
   rename_i T1 hT1
   rw [Tr.eval_bind] at h2
   obtain ⟨x1, hx1, h3⟩ := Option.bind_eq_some_iff.1 h2
   cases h3
   have hw := decG_wk hT1 hx1
   intro w0 U0 X β0 β U a w hs
   obtain ⟨g, n, cp, us, hkβ, hr, hrep, h1, hrun⟩ := common hs hc hy0'
   obtain ⟨rfl, rfl, hlen, hle, hit⟩ := hc
   obtain ⟨hdl, hdg⟩ := mapM_toD cs ds hds
   have hul : (a.eval x).cells.toList.length = ds.length := by rw [<- hdl]; exact hrep.1
   have hfs := flat_store rfl hr hy0' (off := off) (x1 := x1) (ds := ds) (by omega) (by omega) hw hul h1 (fun j u d hu hd => by
     have hj : j < cs.length := by have := (List.getElem?_eq_some_iff.1 hd).1; omega
     have hcj := List.getElem?_eq_getElem hj
     have h4 := toD_sound (hrep.2 j u _ hu hcj) (hdg j _ d hcj hd)
     have h5 := List.all_eq_true.1 hfl _ (List.getElem_mem hj)
     have h6 := hdg j _ d hcj hd
     generalize cs[j] = cc at h5 h6
     cases cc with
     | d x => cases h6; exact flat_any h4 h5
     | _ => cases h5) (β' := upd β k (.deep (.slice (some ⟨g, 0, none⟩) n cp) ver us)) (fun k1 v1 v2 h1 => by
       rw [upd_ne _ (fun e => by subst e; rw [hkβ] at h1; cases h1)]; exact h1)
   have hs1 := hs.storeDeep hb hkβ (fun b hb => hb) hfs
   refine ⟨undef, _, .inr ⟨hrun, rfl⟩, upd β k (.deep (.slice (some ⟨g, 0, none⟩) n cp) ver us), U, ?_⟩
   rw [hdst]
   exact hs1
 . rename_i hc hin
   simp only [decide_eq_true_eq] at hc hin
   split at h
   . -- a row of the call's own
     rename_i k2 v2 n2
     have m2 : s.blk k2 = m k2 := by
       refine hm k2 ?_
       have hk1 : (ρ y).keys = [k, hkey k] := by rw [hy]; rfl
       have hk2 : k2 ∈ (ρ x).keys := by
         revert hcs
         cases ρ x with
         | one c => cases c <;> (intro hh; simp only [V.cells] at hh; first | (cases hh; simp [V.keys, C.keys]; done) | (cases hh; done))
         | agg cs => simp only [V.cells, Option.some.injEq]; rintro rfl; simp [V.keys, C.keys]
         | tup => simp [V.cells]
       simp only [effKeys, hk1]
       exact List.mem_append_right _ hk2
     split at h
     case h_2 => cases h
     rename_i v2' e2 c2 ap fr ys hmk2
     split at h
     case isFalse => cases h
     rename_i hc2
     subst hc2
     split at h
     case h_2 => cases h
     rename_i hcc
     simp only [decide_eq_true_eq] at hcc
     obtain ⟨rfl, rfl, rfl, hne⟩ := hcc
     cases h
     obtain ⟨hh, hT⟩ := atHole_eval hT
     obtain ⟨y0, hy0', h2⟩ := Option.bind_eq_some_iff.1 hT
     cases h2
     have hb2 : s.blk k2 = some (.rowT v2 e2 (dIn c) true fr ys) := m2.trans hmk2
     intro w0 U0 X β0 β U a w hs
     obtain ⟨g, n, cp, us, hkβ, hr, hrep, h1, hrun⟩ := common hs hc hy0'
     obtain ⟨rfl, rfl, hlen, hle, hit⟩ := hc
     have hoff : off = dIc c := by simp only [List.length_singleton] at hin; omega
     subst hoff
     obtain ⟨u, hu, hru⟩ : ∃ u, (a.eval x).cells.toList = [u] /\ RepC w β U w0.heap.size u (.own k2 v2 n2) := by
       obtain ⟨u, e1, e2⟩ := hrep.one; exact ⟨u, e1, e2⟩
     obtain ⟨ao, cap, u0, uver, hu1, hu2, hu3, hu4, hu5, hu6, hu7⟩ := hru
     have h1u : u.oneCell' = true := h1 u (by rw [hu]; simp)
     rw [hu] at hrun
     have hst := head_store rfl hr hy0' hh h1u (β' := upd β k (.deep (.slice (some ⟨g, 0, none⟩) n cp) ver (us.set i nilV))) (k2 := k2) (v2 := v2) ⟨u0, uver, by rw [upd_ne _ hne]; exact hu5, hu6, hu7⟩
     have hs1 := hs.storeDeep hb hkβ (fun b hb => has_setNil hb) hst
     obtain ⟨β', hs2, _⟩ := hs1.putBack hne (by rw [St.blk_set, if_pos rfl]) (by rw [St.blk_set, if_neg hne]; exact hb2)
     refine ⟨undef, _, .inr ⟨hrun, rfl⟩, β', U, ?_⟩
     rw [hdst]
     rw [modify_set hy0'] at hs2
     refine hs2.congr rfl rfl fun q => ?_
     show look q ((k, _) :: (k2, _) :: s.mem) = look q ((k, _) :: (k2, _) :: (k, _) :: s.mem)
     simp only [look_cons]
     split
     . rfl
     . split
       . rfl
       . rfl
   . -- nil
     cases h
     obtain ⟨hh, hT⟩ := atHole_eval hT
     obtain ⟨y0, hy0', h2⟩ := Option.bind_eq_some_iff.1 hT
     cases h2
     intro w0 U0 X β0 β U a w hs
     obtain ⟨g, n, cp, us, hkβ, hr, hrep, h1, hrun⟩ := common hs hc hy0'
     obtain ⟨rfl, rfl, hlen, hle, hit⟩ := hc
     have hoff : off = dIc c := by simp only [List.length_singleton] at hin; omega
     subst hoff
     obtain ⟨u, hu, hru⟩ := hrep.one
     have hru : u = nilV := hru
     subst hru
     rw [hu] at hrun
     have hs1 := hs.storeDeep hb hkβ (fun b hb => has_setNil hb) (nil_store rfl hr hy0' hh)
     refine ⟨undef, _, .inr ⟨hrun, rfl⟩, upd β k (.deep (.slice (some ⟨g, 0, none⟩) n cp) ver (us.set i nilV)), U, ?_⟩
     rw [hdst]
     exact hs1
   . cases h
 . cases h
end
end Go.Proofs.YtaeeadldamflcaaGreatDoor.Abs
namespace Go.Proofs.YtaeeadldamflcaaGreatDoor.Abs
open Go Go.RowKit
set_option linter.unusedVariables false
set_option linter.unusedSimpArgs false
def zdSlice (P : Program) (t : TypeId) (x : Operand) (lo hi mx : Option Operand) (ρ : Operand -> V) : Option (Tr Out) :=
 match P.underlying t, ρ x with
 | some (.slice e), .one (.dp k ver len room) => match mx with
  | none => match optI 0 (lo.map ρ), optI len (hi.map ρ), (P.info? e).isSome with
   | some a, some b, true => some (.grd (decide (0 <= a /\ a <= b /\ b <= (room : Int))) (.ret ⟨.one (.dsub k ver (P.cellsOf e) a.toNat (b - a).toNat), []⟩))
   | _, _, _ => none
  | some mx => match lo, hi with
   | some lo, some hi => match ρ lo, ρ hi, ρ mx, (P.info? e).isSome with
    | .one (.d (.i _ a)), .one (.d (.i _ b)), .one (.d (.i _ c)), true => some (.grd (decide (0 <= a /\ a <= b /\ b <= c /\ c <= (len : Int))) (.ret ⟨.one .bad, []⟩))
    | _, _, _, _ => none
   | _, _ => none
 | _, _ => none
def zdDel (P : Program) (dst : Option Nat) (args : List Operand) (ats : List TypeId) (ρ : Operand -> V) (m : Nat -> Option Blk) : Option (Tr Out) :=
 match dst, args, ats with
 | some _, [x, y], [t, t'] => match telem P t, ρ x, ρ y with
  | some e, .one (.dsub k ver sz o1 a), .one (.dsub k' ver' sz' b n) => match m k with
   | some (.deep v1 e1 ei c none xs) => match decide (t = t' /\ k = k' /\ ver = v1 /\ ver' = v1 /\ e1 = e /\ sz = esz c /\ sz' = esz c /\ esz c = P.cellsOf e /\ 0 < esz c /\ (tzero P e).isSome) with
    | true => some (.grd (decide (o1 = 0 /\ a <= b /\ b + n = xs.length)) (.ret ⟨.one (.dp k (ver + 1) (xs.take a ++ xs.drop b).length xs.length), [(k, .deep (ver + 1) e ei c none (xs.take a ++ xs.drop b))]⟩))
    | false => none
   | _ => none
  | _, _, _ => none
 | _, _, _ => none
def zdClear (P : Program) (dst : Option Nat) (args : List Operand) (ats : List TypeId) (ρ : Operand -> V) (m : Nat -> Option Blk) : Option (Tr Out) :=
 match args, ats with
 | [x], [t] => match telem P t, ρ x with
  | some e, .one (.dsub k ver sz off n) => match m k with
   | some (.deep v1 e1 ei c hole xs) => match decide (ver = v1 /\ e1 = e /\ sz = esz c /\ esz c = P.cellsOf e /\ (tzero P e).isSome) with
    | true => some (.grd (decide (xs.length <= off)) (.ret ⟨.one .bad, [(k, .deep v1 e1 ei c hole xs)]⟩))
    | false => none
   | _ => none
  | _, _ => none
 | _, _ => none
section
variable {P : Program} {w0 : World} {U0 : Nat -> Prop} {X : Nat -> Nat -> Prop} {β0 β : Nat -> Option Place} {U : Nat -> Prop} {s : St} {a : Act} {w : World} {base : Nat}
theorem zdSlice_sem {o : Oper} {t : TypeId} {x : Operand} {lo hi mx : Option Operand} {ρ : Operand -> V} (hop : o.op = .slice t x lo hi mx) (hρ : ∀ y ∈ o.op.operands, s.eval y = ρ y) (hd : ∀ d, o.dst = some d -> d < s.n)
   {T : Tr Out} {E : Out} (h : zdSlice P t x lo hi mx ρ = some T) (hT : T.eval = some E) : SemStep P o s E := by
 unfold zdSlice at h
 rw [hop] at hρ
 have hx : s.eval x = ρ x := hρ x (by cases lo <;> cases hi <;> cases mx <;> simp [Op.operands])
 split at h
 case h_2 => cases h
 rename_i e k ver len room hu hxe
 split at h
 . split at h
   case h_2 => cases h
   rename_i a b h1 h2 hie
   cases h
   obtain ⟨g1, g2⟩ := Tr.eval_grd hT
   cases g2
   simp only [decide_eq_true_eq] at g1
   obtain ⟨ie, hie⟩ := Option.isSome_iff_exists.1 hie
   refine semVal hd fun w0 U0 X β0 β U act w hs => ?_
   have hv := hs.eval x
   rw [hx, hxe] at hv
   obtain ⟨ao, cap, v0, ver0, us, hv, hlr, hlc, hn0, hs0, hk, hle, hown⟩ := hv.toC
   have el : ∀ (q : Operand), lo = some q -> s.eval q = ρ q := fun q e => hρ q (by subst e; cases hi <;> simp [Op.operands])
   have eh : ∀ (q : Operand), hi = some q -> s.eval q = ρ q := fun q e => hρ q (by subst e; cases lo <;> simp [Op.operands])
   have hl1 : (lo.map act.eval = none /\ a = 0) \/ ∃ kk, lo.map act.eval = some (.int kk a) := optI_sound (w := w) (β := β) (U := U) (base := w0.heap.size) (by
     cases lo with
     | none => exact .inl ⟨rfl, rfl⟩
     | some q => exact .inr ⟨_, _, rfl, rfl, by have := hs.eval q; rw [el q rfl] at this; exact this⟩) h1
   have hh1 : (hi.map act.eval = none /\ b = len) \/ ∃ kk, hi.map act.eval = some (.int kk b) := optI_sound (w := w) (β := β) (U := U) (base := w0.heap.size) (by
     cases hi with
     | none => exact .inl ⟨rfl, rfl⟩
     | some q => exact .inr ⟨_, _, rfl, rfl, by have := hs.eval q; rw [eh q rfl] at this; exact this⟩) h2
   have hb := run_bounds2 (P := P) (w := w) (len := len) (cap := cap) hl1 hh1 g1.1 g1.2.1 (by omega)
   have hsz : P.cellsOf e = ie.size := by simp [Program.cellsOf, hie]
   refine ⟨.slice (if cap = a.toNat then ao else ao.map (·.add (a.toNat * ie.size))) (b.toNat - a.toNat) (cap - a.toNat), ?_, .one _ _ ⟨_, _, v0, ver0, us, by rw [show (b - a).toNat = b.toNat - a.toNat by omega], hk, hle, fun e1 => ?_⟩⟩
   . simp only [execOp, hop, hv]
     refine wrapV ?_
     simp [Instr.sliceAt, Instr.slice, run_underlying hu, hb, run_sizeOf w hie, hsz]
   . have hv0 := (hown e1).symm.trans hv
     cases ao with
     | none =>
      obtain ⟨rfl, rfl⟩ := hn0 rfl
      refine .inl ⟨hv0, by simp, by omega, by omega⟩
     | some ad =>
      obtain ⟨g, rfl⟩ := hs0 ad rfl
      refine .inr ⟨g, len, cap, hv0, by omega, rfl, ?_⟩
      have : a.toNat <= cap := by omega
      by_cases hc : cap = a.toNat
      . rw [if_pos hc, if_neg (by omega)]
      . rw [if_neg hc, if_pos (by omega), hsz, Option.map_some, Addr.add_lit, Nat.zero_add]
 . rename_i mx
   split at h
   case h_2 => cases h
   rename_i lo hi
   split at h
   case h_2 => cases h
   rename_i ka a kb b kc c h1 h2 h3 hie
   cases h
   obtain ⟨g1, g2⟩ := Tr.eval_grd hT
   cases g2
   simp only [decide_eq_true_eq] at g1
   obtain ⟨ie, hie⟩ := Option.isSome_iff_exists.1 hie
   refine semVal hd fun w0 U0 X β0 β U act w hs => ?_
   have hv := hs.eval x
   rw [hx, hxe] at hv
   obtain ⟨ao, cap, v0, ver0, us, hv, hlr, hlc, hn0, hs0, hk, hle, hown⟩ := hv.toC
   have e1 := hs.eval lo; rw [hρ lo (by simp [Op.operands]), h1] at e1; have e1 := e1.int
   have e2 := hs.eval hi; rw [hρ hi (by simp [Op.operands]), h2] at e2; have e2 := e2.int
   have e3 := hs.eval mx; rw [hρ mx (by simp [Op.operands]), h3] at e3; have e3 := e3.int
   have hb := run_bounds3 (P := P) (w := w) (len := len) (cap := cap) (ka := ka) (kb := kb) (kc := kc) g1 (by omega)
   refine ⟨.slice (if c.toNat = a.toNat then ao else ao.map (·.add (a.toNat * ie.size))) (b.toNat - a.toNat) (c.toNat - a.toNat), ?_, .bad _⟩
   simp only [execOp, hop, Option.map_some, hv, e1, e2, e3]
   refine wrapV ?_
   have hsz : P.cellsOf e = ie.size := by simp [Program.cellsOf, hie]
   simp [Instr.sliceAt, Instr.slice, run_underlying hu, hb, run_sizeOf w hie, hsz]

theorem get_join {α : Type} {l : List α} {a b n : Nat} (hab : a <= b) (hbn : b + n = l.length) (i : Nat) : (l.take a ++ l.drop b)[i]? = if i < a then l[i]? else l[b + (i - a)]? := by
 have ha : (l.take a).length = a := by rw [List.length_take]; omega
 split
 . rename_i h; rw [List.getElem?_append_left (by omega), List.getElem?_take, if_pos h]
 . rename_i h; rw [List.getElem?_append_right (by omega), List.getElem?_drop, ha]
theorem zdDel_sem {o : Oper} {args : Array Operand} {ats : Array TypeId} {ρ : Operand -> V} {m : Nat -> Option Blk} (hop : o.op = .call { callee := .builtin .append, args := args, argTypes := ats }) (hρ : ∀ y ∈ o.op.operands, s.eval y = ρ y)
   (hm : ∀ k ∈ effKeys o.dst o.op ρ, s.blk k = m k) (hd : ∀ d, o.dst = some d -> d < s.n)
   {T : Tr Out} {E : Out} (h : zdDel P o.dst args.toList ats.toList ρ m = some T) (hT : T.eval = some E) : SemStep P o s E := by
 unfold zdDel at h
 rw [hop] at hρ hm
 split at h
 case h_2 => cases h
 rename_i d x y t t' hdst hargs hats
 split at h
 case h_2 => cases h
 rename_i e k ver sz o1 a k' ver' sz' b n hte hxe hye
 split at h
 case h_2 => cases h
 rename_i v1 e1 ei c xs hmk
 split at h
 case h_2 => cases h
 rename_i hcnd
 simp only [decide_eq_true_eq] at hcnd
 obtain ⟨rfl, rfl, rfl, rfl, rfl, rfl, rfl, hsz, hpos, hz⟩ := hcnd
 cases h
 obtain ⟨g1, g2⟩ := Tr.eval_grd hT
 cases g2
 simp only [decide_eq_true_eq] at g1
 obtain ⟨rfl, hab, hbn⟩ := g1
 have ht := telem_iff hte
 obtain ⟨zs, hz⟩ := Option.isSome_iff_exists.1 hz
 have hargs' := telemArg hargs
 have hats' := tArg hats
 subst hargs'; subst hats'
 have hx : s.eval x = ρ x := hρ x (by simp [Op.operands, Call.operands])
 have hy : s.eval y = ρ y := hρ y (by simp [Op.operands, Call.operands])
 have hblk : s.blk k = some (.deep ver' e1 ei c none xs) := by rw [hm k (by simp [effKeys, hxe, V.keys, C.keys])]; exact hmk
 intro w0 U0 X β0 β U act w hs
 have hv := hs.eval x
 rw [hx, hxe] at hv
 obtain ⟨a0, cap0, v0, ver0, us, hv0, hk, hle, hsub⟩ := hv.toC
 have hv2 := hs.eval y
 rw [hy, hye] at hv2
 obtain ⟨a2, cap2, v2, ver2, us2, hv20, hk2, hle2, hsub2⟩ := hv2.toC
 rw [hk] at hk2; cases hk2
 obtain ⟨p, hp, hr⟩ := hs.mem k _ hblk
 rw [hk] at hp; cases hp
 have h0 := hr.1
 subst h0
 obtain ⟨i, z, hi, hzz, _, _, hzs⟩ := tzero_sound (w := w) (β := fun _ => none) (U := fun _ => True) (base := 0) hz
 have hci : esz c = i.size := by rw [hsz]; simp [Program.cellsOf, hi]
 have hexec : ∀ {v' : Value} {w' : World}, (Builtin.append_ #[t, t] o.type #[.slice a0 a cap0, .slice a2 n cap2]).run P w = .ok v' w' -> (execOp act.eval o).run P w = .ok (.value v') w' := by
   intro v' w' hr
   simp only [execOp, hop, resolve, Sem.run_bind, Sem.run_pure, Result.andThen_ok, invoke, builtin, List.map_toArray, List.map_cons, List.map_nil, hv0, hv20, hr]
 obtain ⟨_, hok, l1, l2, l3, l4, l5⟩ := hr
 have hjl : (xs.take a ++ xs.drop b).length = a + n := by rw [List.length_append, List.length_take, List.length_drop]; omega
 rcases l5 with ⟨rfl, rfl⟩ | ⟨g, cap, cur, rfl, hg, k1, k2', k3, k4⟩
 . -- nothing there
   have hn : n = 0 /\ b = 0 := by simp at hbn; omega
   obtain ⟨rfl, rfl⟩ := hn
   have ha : a = 0 := by omega
   subst ha
   rcases hsub rfl with ⟨_, rfl, _, rfl⟩ | ⟨_, _, _, e, _⟩
   case inr => cases e
   rcases hsub2 rfl with ⟨_, rfl, _, rfl⟩ | ⟨_, _, _, e, _⟩
   case inr => cases e
   have hrun := run_append_nothing (P := P) w t t o.type e1 i ht hi none 0 0 (Nat.le_refl _) (.slice none 0 0) (Src.ofNil w ht 0)
   have hus : us = [] := List.length_eq_zero_iff.1 (by simpa using l1)
   subst hus
   have hs1 := hs.replE (w' := w) (p' := .deep nilV (ver' + 1) []) (blk' := .deep (ver' + 1) e1 ei c none []) hk hblk rfl rfl rfl (Nat.le_refl _) (fun _ _ _ => rfl) (fun _ _ _ _ => ⟨rfl, rfl⟩) (fun _ _ _ => .inl rfl)
     (.inr (.inr ⟨_, _, _, _, _, _, rfl, rfl, Nat.le_succ _, fun e => absurd e (by omega)⟩)) (fun b hb => .inl hb) (fun b j hc => .inl hc)
     ⟨rfl, hok, rfl, l2, fun i u x hu => (by simp at hu), fun i l hh => (by cases hh), .inl ⟨rfl, rfl⟩⟩
   refine ⟨_, w, .inl (hexec hrun), upd β k (.deep nilV (ver' + 1) []), U, ?_⟩
   show SimB w0 U0 X β0 _ U ((s.set k (.deep (ver' + 1) e1 ei c none [])).put o.dst (.one (.dp k (ver' + 1) 0 0))) _ _
   exact hs1.put (repDp (upd_self _ _ _) (Nat.le_refl _) (Nat.le_refl _) (fun _ => ⟨rfl, rfl⟩) (fun x hx => by cases hx)) hd
 . rcases hsub rfl with ⟨e, _⟩ | ⟨g', n', c', e, f1, rfl, rfl⟩
   . cases e
   simp only [Value.slice.injEq, Option.some.injEq, Addr.mk.injEq, and_true, true_and] at e
   obtain ⟨rfl, rfl, rfl⟩ := e
   rcases hsub2 rfl with ⟨e, _⟩ | ⟨g', n', c', e, f2, rfl, rfl⟩
   . cases e
   simp only [Value.slice.injEq, Option.some.injEq, Addr.mk.injEq, and_true, true_and] at e
   obtain ⟨rfl, rfl, rfl⟩ := e
   have hz0 : (if 0 < cap then 0 * esz c else 0) = 0 := by split <;> simp
   -- what is moved
   have hcell : ∀ (q j : Nat), q < xs.length -> j < esz c -> ∃ u, cur[q * esz c + j]? = some u /\ u.oneCell' = true := fun q j hq hj => by
     obtain ⟨u, z1, z2, _⟩ := k4 q j xs[q] ((enc c xs[q])[j]'(by rw [enc_len]; exact hj)) (List.getElem?_eq_getElem hq) (List.getElem?_eq_getElem _)
     exact ⟨u, z1, z2⟩
   let news : List Value := (List.range (n * esz c)).map fun q => cur.getD (b * esz c + q) undef
   have hnl : news.length = n * esz c := by simp [news]
   have hnget : ∀ q, q < n * esz c -> ∃ u, news[q]? = some u /\ cur[b * esz c + q]? = some u /\ u.oneCell' = true := fun q hq => by
     have hd1 : q / esz c < n := Nat.div_lt_of_lt_mul (by rw [Nat.mul_comm]; exact hq)
     have hm1 : q % esz c < esz c := Nat.mod_lt _ hpos
     obtain ⟨u, z1, z2⟩ := hcell (b + q / esz c) (q % esz c) (by omega) hm1
     have e2 : (b + q / esz c) * esz c + q % esz c = b * esz c + q := by
       rw [Nat.add_mul, Nat.add_assoc]
       have := Nat.div_add_mod q (esz c)
       rw [Nat.mul_comm] at this
       omega
     rw [e2] at z1
     refine ⟨u, ?_, z1, z2⟩
     simp only [news, List.getElem?_map, List.getElem?_range hq, Option.map_some]
     rw [Array.getD_eq_getD_getElem?, z1]; rfl
   have hone : ∀ u ∈ news, u.oneCell' = true := fun u hu => by
     obtain ⟨q, hq⟩ := List.mem_iff_getElem?.1 hu
     have hql := (List.getElem?_eq_some_iff.1 hq).1
     obtain ⟨u', z1, _, z3⟩ := hnget q (by omega)
     rw [hq] at z1; cases z1; exact z3
   have hsrc : Src P i.size t (.slice (some ⟨g, if b < cap then b * esz c else 0, none⟩) n (cap - b)) n news w :=
     Src.ofSlice w ht _ n _ news (by rw [<- hci]; exact hnl) (fun q u hq => by
       have hql : q < n * esz c := by have := (List.getElem?_eq_some_iff.1 hq).1; omega
       obtain ⟨u', z1, z2, _⟩ := hnget q hql
       rw [hq] at z1; cases z1
       have hn0 : 0 < n := by
         rcases Nat.eq_zero_or_pos n with e | e
         . subst e; omega
         . exact e
       rw [if_pos (by omega), Addr.add_lit]
       simp only [World.cell?, hg]; exact z2) hone
   have hbound : a * esz c + news.length <= cur.size := by
     rw [hnl, k3, <- Nat.add_mul]; exact Nat.mul_le_mul_right _ (by omega)
   have hrun := run_append_room_src (P := P) w t t o.type e1 i ht hi g 0 a (cap - 0) _ n news hsrc (by omega) (fun j hj => by
       rw [Nat.zero_add, <- hci]
       simp only [World.cell?, hg]
       rw [Array.getElem?_eq_getElem (by omega)]; rfl) (fun j hj => by simp [World.frozen?, hg])
   rw [Nat.zero_add, <- hci] at hrun
   obtain ⟨cur', p1, p2, p3⟩ := setCells_shape g news (a * esz c) w cur e1 (0, 0) hg
   have p4 : ∀ q, q < n * esz c -> cur'[a * esz c + q]? = cur[b * esz c + q]? := fun q hq => by
     obtain ⟨u, z1, z2, _⟩ := hnget q hq
     have := World.cell?_setCells_in g news (a * esz c) w (fun j hj => by
       simp only [World.cell?, hg]; rw [Array.getElem?_eq_getElem (by omega)]; rfl) q (by omega)
     simp only [World.cell?, p1] at this
     have h5 : cur'[a * esz c + q]? = some (news[q]'(by omega)) := this
     rw [h5, z2]
     rw [List.getElem?_eq_getElem (by omega)] at z1
     exact z1
   have hju : ∀ i, (us.take a ++ us.drop b)[i]? = if i < a then us[i]? else us[b + (i - a)]? := get_join hab (by rw [l1]; exact hbn)
   have hjx : ∀ i, (xs.take a ++ xs.drop b)[i]? = if i < a then xs[i]? else xs[b + (i - a)]? := get_join hab hbn
   have hoth : ∀ b', b' ≠ g -> (w.setCells g (a * esz c) news).heap[b']? = w.heap[b']? := fun b' hb' => setCells_other g news _ w b' hb'
   have hhas : ∀ b', (Place.deep (.slice (some ⟨g, 0, none⟩) (a + n) cap) (ver' + 1) (us.take a ++ us.drop b)).has b' -> (Place.deep (.slice (some ⟨g, 0, none⟩) xs.length cap) ver' us).has b' := fun b' hb' => by
     rcases hb' with hb' | ⟨u, hu, hb'⟩
     . exact .inl hb'
     . refine .inr ⟨u, ?_, hb'⟩
       rcases List.mem_append.1 hu with hu | hu
       . exact List.mem_of_mem_take hu
       . exact List.mem_of_mem_drop hu
   have hgh : (Place.deep (.slice (some ⟨g, 0, none⟩) xs.length cap) ver' us).has g := .inl rfl
   have hs1 := hs.replE (w' := w.setCells g (a * esz c) news) (p' := .deep (.slice (some ⟨g, 0, none⟩) (a + n) cap) (ver' + 1) (us.take a ++ us.drop b)) (blk' := .deep (ver' + 1) e1 ei c none (xs.take a ++ xs.drop b)) hk hblk
     (setCells_rest g news _ w).1 (setCells_rest g news _ w).2.1 (setCells_rest g news _ w).2.2 (by rw [setCells_size]; exact Nat.le_refl _) (fun b' _ hne => hoth b' (fun e => hne (by subst e; exact hgh)))
     (fun b' j _ hnc => by
       have hne : b' ≠ g := fun e => hnc (by subst e; exact (covers_nocells rfl).2 hgh)
       exact ⟨World.cell?_of_block (w := w) (hoth b' hne), World.frozen?_of_block (w := w) (hoth b' hne)⟩)
     (fun b' _ hpb => .inr (.inr fun j => (covers_nocells rfl).2 hpb)) (.inr (.inr ⟨_, _, _, _, _, _, rfl, rfl, Nat.le_succ _, fun e => absurd e (by omega)⟩)) (fun b' hb' => .inl (hhas b' hb')) (fun b' j hc => .inl ((covers_nocells rfl).2 (hhas b' ((covers_nocells rfl).1 hc))))
     ⟨rfl, hok, by rw [hjl, List.length_append, List.length_take, List.length_drop, l1]; omega, ⟨fun i j u u' b' hne hu hu' hb' => by
         rw [hju] at hu hu'
         split at hu
         . split at hu'
           . exact l2.1 i j u u' b' hne hu hu' hb'
           . exact l2.1 i _ u u' b' (by omega) hu hu' hb'
         . split at hu'
           . exact l2.1 _ j u u' b' (by omega) hu hu' hb'
           . exact l2.1 _ _ u u' b' (by omega) hu hu' hb', fun i u b' hu hb' hv => by
         rw [hju] at hu
         split at hu
         . exact l2.2 _ u b' hu hb' hv
         . exact l2.2 _ u b' hu hb' hv⟩, fun i u x hu hx _ => by
         rw [hju] at hu
         rw [hjx] at hx
         have up : ∀ q, us[q]? = some u -> xs[q]? = some x -> Inner (w.setCells g (a * esz c) news) ei (dIn c) u (dGet c x) := fun q h1 h2 =>
           (l3 q u x h1 h2 rfl).map fun b' hb' => hoth b' fun e => by subst e; exact l2.2 q u b' h1 hb' rfl
         split at hu
         . rename_i hlt; rw [if_pos hlt] at hx; exact up _ hu hx
         . rename_i hlt; rw [if_neg hlt] at hx; exact up _ hu hx, fun i l hh => (by cases hh), .inr ⟨g, cap, cur', by rw [hjl], p1, by rw [hjl]; omega, k2', by rw [<- p2]; exact k3, fun i j x d hx hd => by
         have hj : j < esz c := by have := (List.getElem?_eq_some_iff.1 hd).1; rw [enc_len] at this; exact this
         rw [hjx] at hx
         have up : ∀ {u' : Value} {d : D}, RepI w (fun _ => False) u' d -> RepI (w.setCells g (a * esz c) news) (fun _ => False) u' d := fun hr => hr.mono (fun _ hb => hb) (fun _ hb => hb.elim)
         split at hx
         . rename_i hlt
           obtain ⟨u, z1, z2, z3, z4, _⟩ := k4 i j x d hx hd
           have hlt2 : i * esz c + j < a * esz c := mul_lt_of hlt hj
           refine ⟨u, by rw [p3 _ (.inl hlt2)]; exact z1, z2, fun h => up (z3 h), fun h _ => by rw [hju, if_pos hlt]; exact z4 h rfl, fun _ _ _ hh => by cases hh⟩
         . rename_i hlt
           obtain ⟨u, z1, z2, z3, z4, _⟩ := k4 _ j x d hx hd
           have hil : b + (i - a) < xs.length := (List.getElem?_eq_some_iff.1 hx).1
           have e2 : i * esz c + j = a * esz c + ((i - a) * esz c + j) := by
             rw [<- Nat.add_assoc, <- Nat.add_mul]; congr 2; omega
           have e3 : b * esz c + ((i - a) * esz c + j) = (b + (i - a)) * esz c + j := by rw [Nat.add_mul, Nat.add_assoc]
           refine ⟨u, by rw [e2, p4 _ (mul_lt_of (by omega) hj), e3]; exact z1, z2, fun h => up (z3 h), fun h _ => by rw [hju, if_neg hlt]; exact z4 h rfl, fun _ _ _ hh => by cases hh⟩⟩⟩
   rw [hz0] at hexec
   refine ⟨_, _, .inl (hexec hrun), upd β k (.deep (.slice (some ⟨g, 0, none⟩) (a + n) cap) (ver' + 1) (us.take a ++ us.drop b)), U, ?_⟩
   show SimB w0 U0 X β0 _ U ((s.set k (.deep (ver' + 1) e1 ei c none (xs.take a ++ xs.drop b))).put o.dst (.one (.dp k (ver' + 1) (xs.take a ++ xs.drop b).length xs.length))) _ _
   rw [hjl]
   exact hs1.put (repDp (upd_self _ _ _) (by omega) k1 (fun e => by cases e) (fun x hx => by cases hx; exact ⟨g, rfl⟩)) hd

theorem zdClear_sem {o : Oper} {args : Array Operand} {ats : Array TypeId} {ρ : Operand -> V} {m : Nat -> Option Blk} (hop : o.op = .call { callee := .builtin .clear, args := args, argTypes := ats }) (hρ : ∀ y ∈ o.op.operands, s.eval y = ρ y)
   (hm : ∀ k ∈ effKeys o.dst o.op ρ, s.blk k = m k) (hd : ∀ d, o.dst = some d -> d < s.n)
   {T : Tr Out} {E : Out} (h : zdClear P o.dst args.toList ats.toList ρ m = some T) (hT : T.eval = some E) : SemStep P o s E := by
 unfold zdClear at h
 rw [hop] at hρ hm
 split at h
 case h_2 => cases h
 rename_i x t hargs hats
 split at h
 case h_2 => cases h
 rename_i e k ver sz off n hte hxe
 split at h
 case h_2 => cases h
 rename_i v1 e1 ei c hole xs hmk
 split at h
 case h_2 => cases h
 rename_i hcnd
 simp only [decide_eq_true_eq] at hcnd
 obtain ⟨rfl, rfl, rfl, hsz, hz⟩ := hcnd
 cases h
 obtain ⟨g1, g2⟩ := Tr.eval_grd hT
 cases g2
 simp only [decide_eq_true_eq] at g1
 have ht := telem_iff hte
 obtain ⟨zs, hz⟩ := Option.isSome_iff_exists.1 hz
 have hargs' : args = #[x] := by cases args; simp_all
 have hats' : ats = #[t] := by cases ats; simp_all
 subst hargs'; subst hats'
 have hx : s.eval x = ρ x := hρ x (by simp [Op.operands, Call.operands])
 have hblk : s.blk k = some (.deep ver e1 ei c hole xs) := by rw [hm k (by simp [effKeys, hxe, V.keys, C.keys])]; exact hmk
 intro w0 U0 X β0 β U act w hs
 have hv := hs.eval x
 rw [hx, hxe] at hv
 obtain ⟨a0, cap0, v0, ver0, us, hv0, hk, hle, hsub⟩ := hv.toC
 obtain ⟨p, hp, hr⟩ := hs.mem k _ hblk
 rw [hk] at hp; cases hp
 have h0 := hr.1
 subst h0
 obtain ⟨i, zv, hi, hzz, hrep, hz1, hzs⟩ := tzero_sound (w := w) (β := fun _ => none) (U := fun _ => True) (base := 0) hz
 have his : esz c = i.size := by rw [hsz]; simp [Program.cellsOf, hi]
 have hexec : ∀ {v' : Value} {w' : World}, (Builtin.clear_ #[t] o.type #[.slice a0 n cap0]).run P w = .ok v' w' -> (execOp act.eval o).run P w = .ok (.value v') w' := by
   intro v' w' hr
   simp only [execOp, hop, resolve, Sem.run_bind, Sem.run_pure, Result.andThen_ok, invoke, builtin, List.map_toArray, List.map_cons, List.map_nil, hv0, hr]
 have same : SimB w0 U0 X β0 β U (s.set k (.deep ver e1 ei c hole xs)) act w := hs.congr rfl rfl fun q => by
   rw [St.blk_set]
   split
   . rename_i e2; subst e2; exact hblk.symm
   . rfl
 by_cases hl0 : n = 0
 . subst hl0
   have hrun : (Builtin.clear_ #[t] o.type #[.slice a0 0 cap0]).run P w = .ok (.tuple #[]) w := by
     cases a0 <;> simp [Builtin.clear_, run_underlying ht]
   refine ⟨_, w, .inl (hexec hrun), β, U, ?_⟩
   show SimB w0 U0 X β0 β U ((s.set k (.deep ver e1 ei c hole xs)).put o.dst (.one .bad)) _ _
   exact SimB.put same (RepV.bad _) hd
 . have hr' := hr
   obtain ⟨_, hok, l1, l2, l3, l4, l5⟩ := hr
   rcases hsub rfl with ⟨_, _, e, _⟩ | ⟨g, n', cc, rfl, f1, rfl, rfl⟩
   . exact absurd e hl0
   rcases l5 with ⟨e, _⟩ | ⟨g', cap', cur, e, hg, k1, k2', k3, k4⟩
   . cases e
   cases e
   rw [if_pos (by omega)] at hexec
   have hpos : 0 < esz c := by have := dIc_lt hok; omega
   generalize hus : ((Array.range (n * zv.cells.size)).map (zv.cells[· % zv.cells.size]!)).toList = ul
   have husl : ul.length = n * esz c := by rw [<- hus]; simp [hzs, his]
   have hone : ∀ u ∈ ul, u.oneCell' = true := by
     intro u hu
     rw [<- hus] at hu
     simp only [Array.toList_map, Array.toList_range, List.mem_map] at hu
     obtain ⟨q, hq, rfl⟩ := hu
     have hlt : q % zv.cells.size < zv.cells.size := Nat.mod_lt _ (by omega)
     have : zv.cells[q % zv.cells.size]! = zv.cells[q % zv.cells.size] := by simp [hlt]
     rw [this]; exact hz1 _ (by simp)
   have hfit : off * esz c + ul.length <= cur.size := by rw [husl, k3, <- Nat.add_mul]; exact Nat.mul_le_mul_right _ f1
   have hst := run_storeCells_cells (P := P) g (off * esz c) ul 0 w (fun j hj => by
      simp only [World.cell?, hg, Nat.add_zero]
      rw [Array.getElem?_eq_getElem (by omega)]; rfl) (fun j hj => by simp [World.frozen?, hg]) hone
   rw [Nat.add_zero] at hst
   have hrun : (Builtin.clear_ #[t] o.type #[.slice (some ⟨g, off * esz c, none⟩) n (cc - off)]).run P w = .ok (.tuple #[]) (w.setCells g (off * esz c) ul) := by
     obtain ⟨m', rfl⟩ : ∃ m', n = m' + 1 := ⟨n - 1, by omega⟩
     have hzc : (Builtin.zeroCells zv.cells (m' + 1)).toList = ul := by rw [<- hus]; rfl
     have hv : (zeroValue e1).run P w = .ok zv w := by simp [zeroValue, typeInfo, hi, hzz]
     simp [Builtin.clear_, run_underlying ht, hv, hzc, hst]
   obtain ⟨cur', p1, p2, p3⟩ := setCells_shape g ul (off * esz c) w cur e1 (0, 0) hg
   have hoth : ∀ b', b' ≠ g -> (w.setCells g (off * esz c) ul).heap[b']? = w.heap[b']? := fun b' hb' => setCells_other g ul _ w b' hb'
   have hs1 := hs.storeDeep (us' := us) (o := off * esz c) (ul := ul) hblk hk (fun b hb => hb) (blk' := .deep ver e1 ei c hole xs)
     ⟨rfl, hok, l1, l2, fun i u x hu hx hn => (l3 i u x hu hx hn).map fun b' hb' => hoth b' fun e => by subst e; exact l2.2 i u b' hu hb' rfl, l4, .inr ⟨g, cc, cur', rfl, p1, k1, k2', by rw [<- p2]; exact k3, fun i j x d hx hd => by
      obtain ⟨u, z1, z2, z3, z4, z5⟩ := k4 i j x d hx hd
      have hj : j < esz c := by have := (List.getElem?_eq_some_iff.1 hd).1; rw [enc_len] at this; exact this
      have hil := (List.getElem?_eq_some_iff.1 hx).1
      have hlt : i * esz c + j < off * esz c := mul_lt_of (by omega) hj
      refine ⟨u, by rw [p3 _ (.inl hlt)]; exact z1, z2, fun h => (z3 h).mono (fun _ hb => hb) (fun _ hb => hb.elim), z4, fun h k' ver' hh => ?_⟩
      obtain ⟨vv1, ver1, q1, q2, q3⟩ := z5 h k' ver' hh
      exact ⟨vv1, ver1, by rw [upd_ne _ (fun e => by subst e; rw [hk] at q1; cases q1)]; exact q1, q2, q3⟩⟩⟩
   refine ⟨_, _, .inl (hexec hrun), upd β k (.deep (.slice (some ⟨g, 0, none⟩) xs.length cc) ver us), U, ?_⟩
   show SimB w0 U0 X β0 _ U ((s.set k (.deep ver e1 ei c hole xs)).put o.dst (.one .bad)) _ _
   exact hs1.put (RepV.bad _) hd
end
end Go.Proofs.YtaeeadldamflcaaGreatDoor.Abs
namespace Go.Proofs.YtaeeadldamflcaaGreatDoor.Abs
open Go Go.RowKit
set_option linter.unusedVariables false
set_option linter.unusedSimpArgs false
def zdBuild (P : Program) (cod : TypeId -> Nat) (dst : Option Nat) (t : TypeId) (len : Nat) (parts : List (Nat × Operand)) (ρ : Operand -> V) (m : Nat -> Option Blk) : Option (Tr Out) :=
 match dst, telem P t, parts with
 | some d, some e, [(0, y)] => match look e dps, m d, tzero P e with
  | some ei, none, some zero => match decide (len = 1 /\ zero.length = esz (cod t) /\ esz (cod t) <= 2 ^ 24) && dOk (cod t), fillA (fun i => some (i * zero.length, zero.length)) ((List.range (1 * zero.length)).map fun i => zero.getD (i % zero.length) .bad) [(0, ρ y)] with
   | true, some cs => match (cs.set (dIc (cod t)) (.d (.b true))).all C.flatV, cs[dIc (cod t)]? with
    | true, some (.own k2 v2 _) => match m k2 with
     | some (.rowT v2' e2 c2 ap _ ys) => if hc : c2 = dIn (cod t) then (match decide (v2 = v2' /\ e2 = ei /\ ap = true /\ d ≠ k2 /\ k2 ∈ (ρ y).keys), (cs.set (dIc (cod t)) (.d (.st (dIn (cod t)) (hc ▸ ys)))).mapM toD with
      | true, some ds => match decG (cod t) ds with
       | some T => some (T.bind fun x => .ret ⟨.one (.dp d 0 1 1), [(d, .deep 0 e ei (cod t) none [x]), (k2, .rowT (v2 + 1) ei (dIn (cod t)) true true [])]⟩)
       | none => none
      | _, _ => none) else none
     | _ => none
    | true, some .nil => match (cs.set (dIc (cod t)) (.d (.st (dIn (cod t)) []))).mapM toD with
     | some ds => match decG (cod t) ds with
      | some T => some (T.bind fun x => .ret ⟨.one (.dp d 0 1 1), [(d, .deep 0 e ei (cod t) none [x])]⟩)
      | none => none
     | none => none
    | _, _ => none
   | _, _ => none
  | _, _, _ => none
 | _, _, _ => none
def zdApp (P : Program) (dst : Option Nat) (args : List Operand) (ats : List TypeId) (ρ : Operand -> V) (m : Nat -> Option Blk) : Option (Tr Out) :=
 match dst, args, ats with
 | some _, [x, y], [t, t'] => match telem P t, ρ x, ρ y with
  | some e, .one (.dp k ver _ _), .one (.dp k2 ver2 _ _) => match m k, m k2 with
   | some (.deep v1 e1 ei c none xs), some (.deep v2 e2 ei2 c2 none ys) => if hc : c2 = c then (match decide (t = t' /\ ver = v1 /\ ver2 = v2 /\ e1 = e /\ e2 = e /\ ei2 = ei /\ k ≠ k2 /\ esz c = P.cellsOf e /\ 0 < esz c /\ (tzero P e).isSome) with
    | true => some (.grd (decide ((xs.length + (hc ▸ ys : List (τ c)).length) * P.bytesOf e <= 140737488355328 /\ xs.length + (hc ▸ ys : List (τ c)).length <= maxLen)) (.ret ⟨.one (.dp k (ver + 1) (xs ++ (hc ▸ ys : List (τ c))).length (xs ++ (hc ▸ ys : List (τ c))).length), [(k, .deep (ver + 1) e ei c none (xs ++ (hc ▸ ys : List (τ c)))), (k2, .deep (ver2 + 1) e ei c none [])]⟩))
    | false => none) else none
   | _, _ => none
  | _, _, _ => none
 | _, _, _ => none
section
variable {P : Program} {w0 : World} {U0 : Nat -> Prop} {X : Nat -> Nat -> Prop} {β0 β : Nat -> Option Place} {U : Nat -> Prop} {s : St} {a : Act} {w : World} {base : Nat}
theorem dSet_self {c : Nat} (hc : dOk c = true) (x : τ c) : dSet c x (dGet c x) = x := by
 rcases dOk_cases hc with rfl | rfl | rfl <;> rfl
theorem RepI.ofFlat' {w w' : World} {U U' : Nat -> Prop} {v : Value} {d : D} (h : RepI w U v d) (hf : d.flat = true) : RepI w' U' v d := by
 cases h with
 | i k n => exact .i k n
 | b x => exact .b x
 | s l => exact .s l
 | z v h1 => exact .z _ h1
 | nil => simp [D.flat] at hf
 | sl => simp [D.flat] at hf
 | st => simp [D.flat] at hf
 | tn => simp [D.flat] at hf
 | tr => simp [D.flat] at hf
theorem built_rep {g : Nat} {e ei : TypeId} {c : Nat} (hok : dOk c = true) {cur : Array Value} (hg : w.heap[g]? = some (.cells cur e (0, 0))) (hsz : cur.size = esz c) {cs : List C} (hl : cs.length = esz c) {w1 : World} {β1 : Nat -> Option Place} {U1 : Nat -> Prop} (hrep : ∀ (j : Nat) (u : Value) (q : C), cur[j]? = some u -> cs[j]? = some q -> RepC w1 β1 U1 base u q) (h1 : ∀ u ∈ cur.toList, u.oneCell' = true)
   {ys : List (τ (dIn c))} (hfl : (cs.set (dIc c) (.d (.b true))).all C.flatV = true) {ds : List D} (hds : (cs.set (dIc c) (.d (.st (dIn c) ys))).mapM toD = some ds) {x : τ c} (hw : WkDs ds (enc c x)) {β : Nat -> Option Place} {hole : Option (Nat × Option (Nat × Nat))}
   (hh : (hole = none /\ ys = [] /\ cs[dIc c]? = some .nil) \/ ∃ k2 v2, hole = some (0, some (k2, v2)) /\ ∀ u, cur[dIc c]? = some u -> ∃ v1 ver1, β k2 = some (.row v1 ver1) /\ v2 <= ver1 /\ (v2 = ver1 -> u = v1)) :
   dGet c x = ys /\ RepB w β U base (.deep (.slice (some ⟨g, 0, none⟩) 1 1) 0 [nilV]) (.deep 0 e ei c hole [x]) := by
 obtain ⟨hwl, hwg⟩ := WkDs_get hw
 obtain ⟨hdl, hdg⟩ := mapM_toD _ ds hds
 have hic := dIc_lt hok
 have hget : dGet c x = ys := by
   obtain ⟨d0, g4, g5⟩ := hwg _ _ (enc_dGet hok x)
   have := hdg (dIc c) (.d (.st (dIn c) ys)) d0 (by rw [List.getElem?_set_self (by omega)]) g4
   cases this
   exact g5.stEq
 refine ⟨hget, rfl, hok, rfl, ⟨fun i j u u' b hne hu hu' hb => ?_, fun i u b hu hb => ?_⟩, fun i u y hu hy hn => ?_, fun i l hl => ?_, .inr ⟨g, 1, cur, rfl, hg, Nat.le_refl _, by decide, by omega, fun i j y d hy hd => ?_⟩⟩
 . cases i with
   | zero => cases hu; simp [Value.ownBlock] at hb
   | succ i => simp at hu
 . cases i with
   | zero => cases hu; simp [Value.ownBlock] at hb
   | succ i => simp at hu
 . cases i with
   | succ i => simp at hu
   | zero =>
     cases hu; cases hy
     rcases hh with ⟨_, rfl, _⟩ | ⟨k2, v2, rfl, _⟩
     . rw [hget]; exact .inl ⟨rfl, rfl⟩
     . rw [noHole_self] at hn; cases hn
 . rcases hh with ⟨rfl, _⟩ | ⟨k2, v2, rfl, _⟩
   . cases hl
   . cases hl; exact ⟨Nat.lt_succ_self 0, rfl⟩
 . cases i with
   | succ i => simp at hy
   | zero =>
     cases hy
     rw [Nat.zero_mul, Nat.zero_add]
     have hj : j < esz c := by have := (List.getElem?_eq_some_iff.1 hd).1; rw [enc_len] at this; exact this
     have hjs : j < cur.size := by omega
     refine ⟨cur[j], by simp [hjs], h1 _ (by simp), fun hjc => ?_, fun hjc hn => ?_, fun hjc k' ver' hk => ?_⟩
     . obtain ⟨d0, g4, g5⟩ := hwg j d hd
       have hcj : (cs.set (dIc c) (.d (.st (dIn c) ys)))[j]? = some cs[j] := by rw [List.getElem?_set_ne (fun e => hjc e.symm)]; exact List.getElem?_eq_getElem (by omega)
       have h6 := hdg j _ d0 hcj g4
       have h5 := List.all_eq_true.1 hfl cs[j] (List.mem_iff_getElem?.2 ⟨j, by rw [List.getElem?_set_ne (fun e => hjc e.symm)]; exact List.getElem?_eq_getElem (by omega)⟩)
       have h4 := hrep j cur[j] cs[j] (by simp [hjs]) (List.getElem?_eq_getElem (by omega))
       refine RepI.wkD ?_ g5
       generalize cs[j] = cc at h4 h5 h6
       cases cc with
       | d x => cases h6; exact RepI.ofFlat' h4 h5
       | _ => cases h5
     . subst hjc
       rcases hh with ⟨_, _, hnil⟩ | ⟨k2, v2, rfl, _⟩
       . have h4 := hrep _ cur[dIc c] _ (by simp [hjs]) hnil
         have h4 : cur[dIc c] = nilV := h4
         rw [h4]; rfl
       . rw [noHole_self] at hn; cases hn
     . subst hjc
       rcases hh with ⟨rfl, _⟩ | ⟨k2, v2, rfl, hlk⟩
       . cases hk
       . cases hk; exact hlk _ (by simp [hjs])
theorem zdBuild_sem {cod : TypeId -> Nat} {o : Oper} {t : TypeId} {len : Nat} {parts : Array (Nat × Operand)} {ρ : Operand -> V} {m : Nat -> Option Blk} (hop : o.op = .buildSlice t len parts) (hρ : ∀ y ∈ o.op.operands, s.eval y = ρ y)
   (hm : ∀ k ∈ effKeys o.dst o.op ρ, s.blk k = m k) (hd : ∀ d, o.dst = some d -> d < s.n)
   {T : Tr Out} {E : Out} (h : zdBuild P cod o.dst t len parts.toList ρ m = some T) (hT : T.eval = some E) : SemStep P o s E := by
 unfold zdBuild at h
 rw [hop] at hρ hm
 split at h
 case h_2 => cases h
 rename_i d e y hdst hte hparts
 split at h
 case h_2 => cases h
 rename_i ei zero hei hmd hz
 split at h
 case h_2 => cases h
 rename_i cs hcnd hfill
 simp only [Bool.and_eq_true, decide_eq_true_eq] at hcnd
 obtain ⟨⟨rfl, hzl, hsm⟩, hok⟩ := hcnd
 have ht := telem_iff hte
 have hparts' : parts = #[(0, y)] := by cases parts; simp_all
 subst hparts'
 have hy : s.eval y = ρ y := hρ y (by simp [Op.operands])
 have hkd : s.blk d = none := by rw [hm d (by simp [effKeys, hdst])]; exact hmd
 have hic := dIc_lt hok
 -- the block
 have alloc : ∀ {w0 : World} {U0 : Nat -> Prop} {X : Nat -> Nat -> Prop} {β0 β : Nat -> Option Place} {U : Nat -> Prop} {act : Act} {w : World}, SimB w0 U0 X β0 β U s act w -> ∃ us' : Array Value, us'.size = esz (cod t) /\ cs.length = esz (cod t) /\
     (∀ (j : Nat) (u : Value) (q : C), us'[j]? = some u -> cs[j]? = some q -> RepC w β U w0.heap.size u q) /\ (∀ u ∈ us'.toList, u.oneCell' = true) /\ (execOp act.eval o).run P w = .ok (.value (.slice (some ⟨w.heap.size, 0, none⟩) 1 1)) (w.alloc (.cells us' e)) := by
   intro w0 U0 X β0 β U act w hs
   obtain ⟨z, i, hi, hzz, his, hzs, hzr, hz1⟩ := tzero_fill (w := w) (β := β) (U := U) (base := w0.heap.size) hz 1
   have hvy := hs.eval y
   rw [hy] at hvy
   obtain ⟨us', q1, q2, q3⟩ := fill_sound (w := w) (β := β) (U := U) (base := w0.heap.size) (fun i => some (i * zero.length, zero.length)) [(0, act.eval y)] [(0, ρ y)] _ _ cs ⟨rfl, hvy, trivial⟩ hzr hz1 hfill
   have hus : us'.size = esz (cod t) := by
     have hl1 : us'.size = ((Array.range (1 * zero.length)).map (z.cells[· % z.cells.size]!)).size := fill_size _ _ _ _ q1
     rw [hl1]; simp [hzl]
   refine ⟨us', hus, by have := q2.1; simp only [Array.length_toList] at this; omega, fun j u q hu hq => q2.2 j u q (by simpa using hu) hq, q3, ?_⟩
   simp only [execOp, hop]
   refine wrapV (run_buildSlice w t e 1 _ us' i z ht hi hzz (by rw [his]; omega) (by rw [his]; omega) ?_)
   rw [his]
   simpa using q1
 have hdk : ∀ {act : Act} {w0 w : World} {U0 : Nat -> Prop} {X : Nat -> Nat -> Prop} {β0 β : Nat -> Option Place} {U : Nat -> Prop}, SimB w0 U0 X β0 β U s act w -> d < 1000000 := fun hs => Nat.lt_of_lt_of_le (hd d hdst) (Nat.le_trans hs.small (by decide))
 have hnk : ∀ (w : World) (us : Array Value) (b : Nat), (Place.deep (.slice (some ⟨w.heap.size, 0, none⟩) 1 1) 0 [nilV]).has b -> w.heap.size <= b /\ b < (w.alloc (.cells us e)).heap.size := by
   intro w us b hb
   rcases hb with hb | ⟨u, hu, hb⟩
   . obtain rfl : w.heap.size = b := by simpa [Value.ownBlock] using hb
     rw [size_alloc]; omega
   . rw [List.mem_singleton] at hu; subst hu; simp [Value.ownBlock] at hb
 split at h
 . rename_i k2 v2 ln hfl hcell
   split at h
   case h_2 => cases h
   rename_i v2' e2 c2 ap fr ys hmk2
   split at h
   case isFalse => cases h
   rename_i hc2
   subst hc2
   split at h
   case h_2 => cases h
   rename_i ds hcc hds
   simp only [decide_eq_true_eq] at hcc
   obtain ⟨rfl, rfl, rfl, hne, hkin⟩ := hcc
   split at h
   case h_2 => cases h
   rename_i T' hdec
   cases h
   rw [Tr.eval_bind] at hT
   obtain ⟨x, hx, g2⟩ := Option.bind_eq_some_iff.1 hT
   cases g2
   have m2 : s.blk k2 = m k2 := hm k2 (by
     simp only [effKeys, List.flatMap_cons, List.flatMap_nil, List.append_nil]
     exact List.mem_append_right _ hkin)
   have hb2 : s.blk k2 = some (.rowT v2 e2 (dIn (cod t)) true fr ys) := m2.trans hmk2
   intro w0 U0 X β0 β U act w hs
   obtain ⟨us', hus, hl, hrep, h1, hrun⟩ := alloc hs
   have hj : dIc (cod t) < us'.size := by omega
   obtain ⟨ao, cap, u0, uver, hu1, hu2, hu3, hu4, hu5, hu6, hu7⟩ := hrep _ us'[dIc (cod t)] _ (by simp [hj]) hcell
   obtain ⟨hget, hrb⟩ := built_rep (w := w.alloc (.cells us' e)) (U := U) (base := w0.heap.size) (ei := e2) hok (heap_alloc_new w _) hus hl hrep h1 hfl hds (decG_wk hdec hx) (β := upd β d (.deep (.slice (some ⟨w.heap.size, 0, none⟩) 1 1) 0 [nilV])) (hole := some (0, some (k2, v2)))
     (.inr ⟨k2, v2, rfl, fun u hu => ⟨u0, uver, by rw [upd_ne _ hne]; exact hu5, hu6, fun e => by
       have : us'[dIc (cod t)]? = some us'[dIc (cod t)] := by simp [hj]
       rw [this] at hu; cases hu; exact hu7 e⟩⟩)
   obtain ⟨hs1, _⟩ := hs.newKey (k := d) (w' := w.alloc (.cells us' e)) (hdk hs) hkd rfl rfl rfl (by simp) (fun b hb => Below.heap_alloc _ _ _ hb) (hnk w us') hrb
   obtain ⟨β', hs2, vv, us1, us2, hb1, hb3⟩ := hs1.putBack hne (by rw [St.blk_set, if_pos rfl]) (by rw [St.blk_set, if_neg hne]; exact hb2)
   rw [upd_self] at hb1; cases hb1
   refine ⟨_, _, .inl hrun, β', U, ?_⟩
   rw [hdst]
   have hmod : ([x].modify 0 fun x => dSet (cod t) x ys) = [x] := by
     show [dSet (cod t) x ys] = [x]
     have hget' : dGet (cod t) x = ys := hget
     rw [<- hget', dSet_self hok]
   rw [hmod] at hs2
   refine SimB.put (s := s.upd [(d, _), (k2, _)]) (hs2.congr rfl rfl fun q => ?_) (repDp hb3 (Nat.le_refl _) (Nat.le_refl _) (fun e => by cases e) (fun x hx => by cases hx; exact ⟨_, rfl⟩)) (fun d' e' => by cases e'; exact hd d hdst)
   show look q ((d, _) :: (k2, _) :: s.mem) = look q ((d, _) :: (k2, _) :: (d, _) :: s.mem)
   simp only [look_cons]
   split
   . rfl
   . split
     . rfl
     . rfl
 . rename_i hfl hcell
   split at h
   case h_2 => cases h
   rename_i ds hds
   split at h
   case h_2 => cases h
   rename_i T' hdec
   cases h
   rw [Tr.eval_bind] at hT
   obtain ⟨x, hx, g2⟩ := Option.bind_eq_some_iff.1 hT
   cases g2
   intro w0 U0 X β0 β U act w hs
   obtain ⟨us', hus, hl, hrep, h1, hrun⟩ := alloc hs
   obtain ⟨hget, hrb⟩ := built_rep (w := w.alloc (.cells us' e)) (U := U) (base := w0.heap.size) (ei := ei) hok (heap_alloc_new w _) hus hl hrep h1 (ys := []) (by
       rw [List.all_eq_true] at hfl ⊢; exact hfl) hds (decG_wk hdec hx) (β := upd β d (.deep (.slice (some ⟨w.heap.size, 0, none⟩) 1 1) 0 [nilV])) (hole := none) (.inl ⟨rfl, rfl, hcell⟩)
   obtain ⟨hs1, _⟩ := hs.newKey (k := d) (w' := w.alloc (.cells us' e)) (hdk hs) hkd rfl rfl rfl (by simp) (fun b hb => Below.heap_alloc _ _ _ hb) (hnk w us') hrb
   refine ⟨_, _, .inl hrun, upd β d (.deep (.slice (some ⟨w.heap.size, 0, none⟩) 1 1) 0 [nilV]), U, ?_⟩
   rw [hdst]
   exact SimB.put (s := s.set d _) hs1 (repDp (upd_self _ _ _) (Nat.le_refl _) (Nat.le_refl _) (fun e => by cases e) (fun x hx => by cases hx; exact ⟨_, rfl⟩)) (fun d' e' => by cases e'; exact hd d hdst)
 . cases h
def zRows (n sz : Nat) (cur : Array Value) : List (List D) := (List.range n).map fun i => (List.range sz).map fun j => .z (cur.getD (i * sz + j) undef)
theorem zRows_len {n sz : Nat} {cur : Array Value} : (zRows n sz cur).length = n := by simp [zRows]
theorem zRows_each {n sz : Nat} {cur : Array Value} : ∀ r ∈ zRows n sz cur, r.length = sz := fun r hr => by
 simp only [zRows, List.mem_map] at hr
 obtain ⟨i, _, rfl⟩ := hr
 simp
theorem zRows_get {n sz : Nat} {cur : Array Value} {i j : Nat} (hi : i < n) (hj : j < sz) : ∃ r, (zRows n sz cur)[i]? = some r /\ r[j]? = some (.z (cur.getD (i * sz + j) undef)) := by
 refine ⟨(List.range sz).map fun j => .z (cur.getD (i * sz + j) undef), ?_, ?_⟩
 . simp only [zRows, List.getElem?_map, List.getElem?_range hi, Option.map_some]
 . simp only [List.getElem?_map, List.getElem?_range hj, Option.map_some]
theorem zRows_inv {n sz : Nat} {cur : Array Value} {i j : Nat} {r : List D} {d : D} (hi : (zRows n sz cur)[i]? = some r) (hj : r[j]? = some d) : i < n /\ j < sz /\ d = .z (cur.getD (i * sz + j) undef) := by
 have h1 : i < n := by have := (List.getElem?_eq_some_iff.1 hi).1; rwa [zRows_len] at this
 have h2 : j < sz := by have := (List.getElem?_eq_some_iff.1 hj).1; rwa [zRows_each r (List.mem_of_getElem? hi)] at this
 obtain ⟨r', e1, e2⟩ := zRows_get (cur := cur) h1 h2
 rw [e1] at hi; cases hi
 rw [e2] at hj; cases hj
 exact ⟨h1, h2, rfl⟩
theorem RepI.zEq {U : Nat -> Prop} {u u0 : Value} (h : RepI w U u (.z u0)) : u = u0 := by cases h; rfl
theorem zdApp_sem {o : Oper} {args : Array Operand} {ats : Array TypeId} {ρ : Operand -> V} {m : Nat -> Option Blk} (hop : o.op = .call { callee := .builtin .append, args := args, argTypes := ats }) (hρ : ∀ y ∈ o.op.operands, s.eval y = ρ y)
  (hm : ∀ k ∈ effKeys o.dst o.op ρ, s.blk k = m k) (hd : ∀ d, o.dst = some d -> d < s.n)
  {T : Tr Out} {E : Out} (h : zdApp P o.dst args.toList ats.toList ρ m = some T) (hT : T.eval = some E) : SemStep P o s E := by
 unfold zdApp at h
 rw [hop] at hρ hm
 split at h
 case h_2 => cases h
 rename_i d x y t t' hdst hargs hats
 split at h
 case h_2 => cases h
 rename_i e k ver len1 rm1 k2 ver2 len2 rm2 hte hxe hye
 split at h
 case h_2 => cases h
 rename_i v1 e1 ei c xs v2 e2 ei2 c2 ys hmk hmk2
 split at h
 case isFalse => cases h
 rename_i hc2
 subst hc2
 split at h
 case h_2 => cases h
 rename_i hcnd
 simp only [decide_eq_true_eq] at hcnd
 obtain ⟨rfl, rfl, rfl, rfl, rfl, rfl, hne, hsz, hpos, hz⟩ := hcnd
 cases h
 obtain ⟨g1, g2⟩ := Tr.eval_grd hT
 cases g2
 simp only [decide_eq_true_eq] at g1
 obtain ⟨hby, hmax⟩ := g1
 have ht := telem_iff hte
 obtain ⟨zs, hz⟩ := Option.isSome_iff_exists.1 hz
 have hargs' := telemArg hargs
 have hats' := tArg hats
 subst hargs'; subst hats'
 have hx : s.eval x = ρ x := hρ x (by simp [Op.operands, Call.operands])
 have hy : s.eval y = ρ y := hρ y (by simp [Op.operands, Call.operands])
 have hblk : s.blk k = some (.deep ver e2 ei2 c2 none xs) := by rw [hm k (by simp [effKeys, hxe, V.keys, C.keys])]; exact hmk
 have hblk2 : s.blk k2 = some (.deep ver2 e2 ei2 c2 none ys) := by rw [hm k2 (by simp [effKeys, hye, V.keys, C.keys])]; exact hmk2
 intro w0 U0 X β0 β U act w hs
 have hv := hs.eval x
 rw [hx, hxe] at hv
 obtain ⟨a0, cap0, v0, ver0, us, hv0, q1, q2, q3, q4, hk, hle, hsub⟩ := hv.toC
 have hv2 := hs.eval y
 rw [hy, hye] at hv2
 obtain ⟨a2, cap2, v2, ver2', us2, hv20, q5, q6, q7, q8, hk2, hle2, hsub2⟩ := hv2.toC
 obtain ⟨p, hp, hr⟩ := hs.mem k _ hblk
 rw [hk] at hp; cases hp
 obtain ⟨p, hp, hr2⟩ := hs.mem k2 _ hblk2
 rw [hk2] at hp; cases hp
 obtain ⟨h0, hok, l1, l2, l3, l4, l5⟩ := hr
 obtain ⟨h02, _, m1, m2, m3, m4, m5⟩ := hr2
 subst h0; subst h02
 have hvx := hsub rfl
 have hvy := hsub2 rfl
 rw [hv0] at hvx; rw [hv20] at hvy
 subst hvx; subst hvy
 have hexec : ∀ {v' : Value} {w' : World}, (Builtin.append_ #[t, t] o.type #[.slice a0 len1 cap0, .slice a2 len2 cap2]).run P w = .ok v' w' -> (execOp act.eval o).run P w = .ok (.value v') w' := by
  intro v' w' hr
  simp only [execOp, hop, resolve, Sem.run_bind, Sem.run_pure, Result.andThen_ok, invoke, builtin, List.map_toArray, List.map_cons, List.map_nil, hv0, hv20, hr]
 -- the two rows' cells
 obtain ⟨cur, hcur⟩ : ∃ cur : Array Value, RowRel w (fun _ => False) e2 (esz c2) (.slice a0 len1 cap0) (zRows xs.length (esz c2) cur) /\
    ∀ (i j : Nat) (x : τ c2) (d : D), xs[i]? = some x -> (enc c2 x)[j]? = some d -> ∃ u, cur[i * esz c2 + j]? = some u /\ u.oneCell' = true /\ (j ≠ dIc c2 -> RepI w (fun _ => False) u d) /\ (j = dIc c2 -> us[i]? = some u) := by
  rcases l5 with ⟨e1, rfl⟩ | ⟨g, cap, cur, e1, hg, k1, k2', k3, k4⟩
  . exact ⟨#[], .inl ⟨e1, rfl⟩, fun i j x d hi => by simp at hi⟩
  . refine ⟨cur, .inr ⟨g, cap, cur, (0, 0), by rw [zRows_len]; exact e1, hg, by rw [zRows_len]; exact k1, k2', k3, rfl, fun i j r d hi hj => ?_⟩, fun i j x d hi hj => ?_⟩
    . obtain ⟨z1, z2, rfl⟩ := zRows_inv hi hj
      obtain ⟨u, y1, y2, _⟩ := k4 i j xs[i] ((enc c2 xs[i])[j]'(by rw [enc_len]; exact z2)) (List.getElem?_eq_getElem z1) (List.getElem?_eq_getElem _)
      refine ⟨u, y1, y2, ?_⟩
      rw [Array.getD_eq_getD_getElem?, y1]
      exact .z _ y2
    . obtain ⟨u, y1, y2, y3, y4, _⟩ := k4 i j x d hi hj
      exact ⟨u, y1, y2, y3, fun e => y4 e rfl⟩
 obtain ⟨cur2, hn2, hc2, hcur2⟩ : ∃ cur2 : Array Value, (a2 = none -> zRows ys.length (esz c2) cur2 = [] /\ cap2 = 0) /\ (∀ ad, a2 = some ad -> zRows ys.length (esz c2) cur2 ≠ [] -> ad.spot = none /\ ∀ (i j : Nat) (r : List D) (d : D), (zRows ys.length (esz c2) cur2)[i]? = some r -> r[j]? = some d -> ∃ u, w.cell? ⟨ad.block, ad.off + i * esz c2 + j, none⟩ = some u /\ u.oneCell' = true /\ RepI w (fun _ => False) u d) /\
    ∀ (i j : Nat) (x : τ c2) (d : D), ys[i]? = some x -> (enc c2 x)[j]? = some d -> ∃ u, cur2[i * esz c2 + j]? = some u /\ u.oneCell' = true /\ (j ≠ dIc c2 -> RepI w (fun _ => False) u d) /\ (j = dIc c2 -> us2[i]? = some u) := by
  rcases m5 with ⟨e1, rfl⟩ | ⟨g, cap, cur, e1, hg, k1, k2', k3, k4⟩
  . cases e1
    exact ⟨#[], fun _ => ⟨rfl, rfl⟩, (fun ad e => by cases e), fun i j x d hi => by simp at hi⟩
  . cases e1
    refine ⟨cur, (fun e => by cases e), fun ad e _ => ?_, fun i j x d hi hj => ?_⟩
    . cases e
      refine ⟨rfl, fun i j r d hi hj => ?_⟩
      obtain ⟨z1, z2, rfl⟩ := zRows_inv hi hj
      obtain ⟨u, y1, y2, _⟩ := k4 i j ys[i] ((enc c2 ys[i])[j]'(by rw [enc_len]; exact z2)) (List.getElem?_eq_getElem z1) (List.getElem?_eq_getElem _)
      refine ⟨u, ?_, y2, ?_⟩
      . rw [Nat.zero_add]; simp only [World.cell?, hg]; exact y1
      . rw [Array.getD_eq_getD_getElem?, y1]; exact .z _ y2
    . obtain ⟨u, y1, y2, y3, y4, _⟩ := k4 i j x d hi hj
      exact ⟨u, y1, y2, y3, fun e => y4 e rfl⟩
 have hl2 : len2 = ys.length := by
  rcases m5 with ⟨e1, rfl⟩ | ⟨g, cap, cur, e1, _⟩
  . cases e1; rfl
  . cases e1; rfl
 subst hl2
 obtain ⟨v', w', hrun, hgrow, hob, hlt, hrow⟩ := append_core (P := P) (w := w) (UU := fun _ => False) (t := t) (ty := o.type) (rows := zRows xs.length (esz c2) cur) (new := zRows ys.length (esz c2) cur2) ht hz hsz hpos hcur.1 zRows_each zRows_each hn2 hc2
  (by rw [zRows_len, zRows_len]; exact hmax) (by rw [zRows_len, zRows_len]; exact hby) (fun b hb => hb.elim)
 rw [zRows_len] at hrun
 have hlen : (xs ++ ys).length = xs.length + ys.length := List.length_append
 -- the new header
 have hv'len : ∃ (a' : Option Addr) (cap' : Nat), v' = .slice a' (xs.length + ys.length) cap' /\ xs.length + ys.length <= cap' /\ (a' = none -> xs.length + ys.length = 0 /\ cap' = 0) /\ ∀ x, a' = some x -> ∃ g, x = ⟨g, 0, none⟩ := by
  rcases hrow with ⟨e1, e2⟩ | ⟨g, cap, cur', fz, e1, _, e3, _⟩
  . have := congrArg List.length e2
    rw [List.length_append, zRows_len, zRows_len] at this
    have this : xs.length + ys.length = 0 := this
    exact ⟨none, 0, by rw [e1, this], by omega, fun _ => ⟨this, rfl⟩, fun x hx => by cases hx⟩
  . rw [List.length_append, zRows_len, zRows_len] at e1 e3
    exact ⟨_, cap, e1, e3, fun e => (by cases e), fun x hx => (by cases hx; exact ⟨g, rfl⟩)⟩
 have hul : us.length = xs.length := l1
 have hul2 : us2.length = ys.length := m1
 have hu : ∀ i, (us ++ us2)[i]? = if i < xs.length then us[i]? else us2[i - xs.length]? := fun i => by
  split
  . rw [List.getElem?_append_left (by omega)]
  . rw [List.getElem?_append_right (by omega), hul]
 have hx' : ∀ i, (xs ++ ys)[i]? = if i < xs.length then xs[i]? else ys[i - xs.length]? := fun i => by
  split
  . rw [List.getElem?_append_left (by omega)]
  . rw [List.getElem?_append_right (by omega)]
 have hap : ∀ b, (Place.deep (.slice a0 len1 cap0) ver us).has b -> ¬ (Place.deep (.slice a2 ys.length cap2) ver2 us2).has b := fun b h1 h2 => hs.hasApart hne hk hk2 rfl h1 h2
 have hin1 : ∀ (i : Nat) (u : Value) (b : Nat), us[i]? = some u -> u.ownBlock = some b -> (Place.deep (.slice a0 len1 cap0) ver us).has b := fun i u b h1 h2 => .inr ⟨u, List.mem_of_getElem? h1, h2⟩
 have hin2 : ∀ (i : Nat) (u : Value) (b : Nat), us2[i]? = some u -> u.ownBlock = some b -> (Place.deep (.slice a2 ys.length cap2) ver2 us2).has b := fun i u b h1 h2 => .inr ⟨u, List.mem_of_getElem? h1, h2⟩
 have hold1 : ∀ b, (Place.deep (.slice a0 len1 cap0) ver us).has b -> b < w.heap.size := fun b hb => hs.blockOld hk b hb
 have hold2 : ∀ b, (Place.deep (.slice a2 ys.length cap2) ver2 us2).has b -> b < w.heap.size := fun b hb => hs.blockOld hk2 b hb
 have hv'own : ∀ b, v'.ownBlock = some b -> (Value.slice a0 len1 cap0).ownBlock = some b \/ (w.heap.size = b /\ b < w'.heap.size) := fun b hb => by
  rcases hob with e | e
  . rw [e] at hb; exact .inl hb
  . have h9 := hlt b hb
    rw [e] at hb
    exact .inr ⟨by simpa using hb, h9⟩
 have hsep : DSep v' (us ++ us2) := by
  refine ⟨fun i j u u' b hne' hi hj hb => ?_, fun i u b hi hb hv => ?_⟩
  . rw [hu] at hi hj
    split at hi
    . split at hj
      . exact l2.1 i j u u' b hne' hi hj hb
      . exact fun e => hap b (hin1 _ _ _ hi hb) (hin2 _ _ _ hj e)
    . split at hj
      . exact fun e => hap b (hin1 _ _ _ hj e) (hin2 _ _ _ hi hb)
      . exact m2.1 _ _ u u' b (by omega) hi hj hb
  . rw [hu] at hi
    rcases hv'own b hv with e | ⟨e, _⟩
    . split at hi
      . exact l2.2 _ u b hi hb e
      . exact hap b (.inl e) (hin2 _ _ _ hi hb)
    . split at hi
      . have := hold1 b (hin1 _ _ _ hi hb); omega
      . have := hold2 b (hin2 _ _ _ hi hb); omega
 have hmapI : ∀ {u : Value} {ys' : List (τ (dIn c2))}, Inner w ei2 (dIn c2) u ys' -> (∀ b, u.ownBlock = some b -> b < w.heap.size /\ (Value.slice a0 len1 cap0).ownBlock ≠ some b) -> Inner w' ei2 (dIn c2) u ys' := fun hI hb => hI.map fun b hb' => hgrow.block b (hb b hb').1 (fun e => (hb b hb').2 e.symm)
 have hinner : ∀ (i : Nat) (u : Value) (x : τ c2), (us ++ us2)[i]? = some u -> (xs ++ ys)[i]? = some x -> Inner w' ei2 (dIn c2) u (dGet c2 x) := fun i u x hi hxi => by
  rw [hu] at hi
  rw [hx'] at hxi
  split at hi
  . rename_i hlt1; rw [if_pos hlt1] at hxi
    exact hmapI (l3 i u x hi hxi rfl) fun b hb => ⟨hold1 b (hin1 _ _ _ hi hb), l2.2 i u b hi hb⟩
  . rename_i hlt1; rw [if_neg hlt1] at hxi
    exact hmapI (m3 _ u x hi hxi rfl) fun b hb => ⟨hold2 b (hin2 _ _ _ hi hb), fun e => hap b (.inl e) (hin2 _ _ _ hi hb)⟩
 have up : ∀ {u' : Value} {d : D}, RepI w (fun _ => False) u' d -> RepI w' (fun _ => False) u' d := fun hr => hr.mono (fun _ hb => hb) (fun _ hb => hb.elim)
 have houter : ∀ {cur' : Array Value} (g cap : Nat), (∀ (i j : Nat) (r : List D) (d : D), (zRows xs.length (esz c2) cur ++ zRows ys.length (esz c2) cur2)[i]? = some r -> r[j]? = some d -> ∃ u, cur'[i * esz c2 + j]? = some u /\ u.oneCell' = true /\ RepI w' (fun _ => False) u d) ->
    ∀ (i j : Nat) (x : τ c2) (d : D), (xs ++ ys)[i]? = some x -> (enc c2 x)[j]? = some d -> ∃ u, cur'[i * esz c2 + j]? = some u /\ u.oneCell' = true /\ (j ≠ dIc c2 -> RepI w' (fun _ => False) u d) /\ (j = dIc c2 -> noHole none i = true -> (us ++ us2)[i]? = some u) /\ (j = dIc c2 -> ∀ k' ver', (none : Option (Nat × Option (Nat × Nat))) = some (i, some (k', ver')) -> ∃ v1 ver1, upd (upd β k (.deep v' (ver + 1) (us ++ us2))) k2 (.deep nilV (ver2 + 1) []) k' = some (.row v1 ver1) /\ ver' <= ver1 /\ (ver' = ver1 -> u = v1)) := by
  intro cur' g cap h8 i j x d hi hj
  have hjl : j < esz c2 := by have := (List.getElem?_eq_some_iff.1 hj).1; rw [enc_len] at this; exact this
  rw [hx'] at hi
  split at hi
  . rename_i hlt1
    obtain ⟨u, y1, y2, y3, y4⟩ := hcur.2 i j x d hi hj
    obtain ⟨r, z1, z2⟩ := zRows_get (cur := cur) hlt1 hjl
    obtain ⟨u', y5, y6, y7⟩ := h8 i j r _ (by rw [List.getElem?_append_left (by rw [zRows_len]; exact hlt1)]; exact z1) z2
    rw [Array.getD_eq_getD_getElem?, y1] at y7
    obtain rfl : u' = u := y7.zEq
    exact ⟨u', y5, y6, fun e => up (y3 e), fun e _ => by rw [hu, if_pos hlt1]; exact y4 e, fun _ _ _ hh => by cases hh⟩
  . rename_i hlt1
    have hi2 : i - xs.length < ys.length := (List.getElem?_eq_some_iff.1 hi).1
    obtain ⟨u, y1, y2, y3, y4⟩ := hcur2 _ j x d hi hj
    obtain ⟨r, z1, z2⟩ := zRows_get (cur := cur2) hi2 hjl
    obtain ⟨u', y5, y6, y7⟩ := h8 i j r _ (by rw [List.getElem?_append_right (by rw [zRows_len]; omega), zRows_len]; exact z1) z2
    rw [Array.getD_eq_getD_getElem?, y1] at y7
    obtain rfl : u' = u := y7.zEq
    exact ⟨u', y5, y6, fun e => up (y3 e), fun e _ => by rw [hu, if_neg hlt1]; exact y4 e, fun _ _ _ hh => by cases hh⟩
 have hs1 := hs.repl2 (w' := w') (p1' := .deep v' (ver + 1) (us ++ us2)) (p2' := .deep nilV (ver2 + 1) []) (b1' := .deep (ver + 1) e2 ei2 c2 none (xs ++ ys)) (b2' := .deep (ver2 + 1) e2 ei2 c2 none []) hne hk hk2 hblk hblk2 rfl rfl rfl rfl hgrow.os hgrow.tape hgrow.output hgrow.size
  (fun b hb n1 _ => hgrow.block b hb (fun e => n1 (.inl e.symm))) (.inr (.inr ⟨_, _, _, _, _, _, rfl, rfl, Nat.le_succ _, fun e => absurd e (by omega)⟩)) (.inr (.inr ⟨_, _, _, _, _, _, rfl, rfl, Nat.le_succ _, fun e => absurd e (by omega)⟩))
  (fun b hb => by
    rcases hb with hb | ⟨u, hu', hb⟩
    . rcases hv'own b hb with e | ⟨e1, e2⟩
      . exact .inl (.inl e)
      . exact .inr (.inr ⟨by omega, e2⟩)
    . rcases List.mem_append.1 hu' with hu' | hu'
      . exact .inl (.inr ⟨u, hu', hb⟩)
      . exact .inr (.inl (.inr ⟨u, hu', hb⟩)))
  (fun b hb => by
    rcases hb with hb | ⟨u, hu', hb⟩
    . simp [Value.ownBlock] at hb
    . simp at hu')
  (fun b _ hb => by
    rcases hb with hb | ⟨u, hu', hb⟩
    . simp [Value.ownBlock] at hb
    . simp at hu')
  ⟨rfl, hok, by rw [List.length_append, List.length_append, hul, hul2], hsep, fun i u x hi hxi _ => hinner i u x hi hxi, fun i l hh => (by cases hh), by
    rcases hrow with ⟨e1, e2⟩ | ⟨g, cap, cur', fz, e1, e2, e3, e4, e5, rfl, e7⟩
    . have h0 := congrArg List.length e2
      rw [List.length_append, zRows_len, zRows_len] at h0
      have h0 : xs.length + ys.length = 0 := h0
      exact .inl ⟨e1, List.length_eq_zero_iff.1 (by rw [hlen]; exact h0)⟩
    . rw [List.length_append, zRows_len, zRows_len] at e1 e3
      exact .inr ⟨g, cap, cur', by rw [hlen]; exact e1, e2, by rw [hlen]; exact e3, e4, e5, houter g cap e7⟩⟩
  ⟨rfl, hok, rfl, ⟨fun i j u u' b _ hi => (by simp at hi), fun i u b hi => (by simp at hi)⟩, fun i u x hi => (by simp at hi), fun i l hh => (by cases hh), .inl ⟨rfl, rfl⟩⟩
 obtain ⟨a', cap', rfl, r1, r2, r3⟩ := hv'len
 refine ⟨_, _, .inl (hexec hrun), upd (upd β k (.deep (.slice a' (xs.length + ys.length) cap') (ver + 1) (us ++ us2))) k2 (.deep nilV (ver2 + 1) []), U, ?_⟩
 show SimB w0 U0 X β0 _ U ((s.upd [(k, .deep (ver + 1) e2 ei2 c2 none (xs ++ ys)), (k2, .deep (ver2 + 1) e2 ei2 c2 none [])]).put o.dst (.one (.dp k (ver + 1) (xs ++ ys).length (xs ++ ys).length))) _ _
 rw [hlen]
 exact hs1.put (repDp (us := us ++ us2) (by rw [upd_ne _ (fun e => hne e.symm), upd_self]) (Nat.le_refl _) r1 r2 r3) hd
end
end Go.Proofs.YtaeeadldamflcaaGreatDoor.Abs
namespace Go.Proofs.YtaeeadldamflcaaGreatDoor.Abs
open Go Go.RowKit
set_option linter.unusedVariables false
def tidyL (s : St) (k : Nat) : List (Nat × Blk) :=
 match s.blk k with
 | some (.deep ver e ei c (some (i, some (k', v'))) xs) => match s.blk k' with
  | some (.rowT v'' e2 c2 ap _ ys) => if hc : c2 = dIn c then (match decide (k ≠ k' /\ v' = v'' /\ e2 = ei /\ ap = true) with
   | true => [(k, .deep ver e ei c none (xs.modify i fun x => dSet c x (hc ▸ ys))), (k', .rowT (v' + 1) ei (dIn c) true true [])]
   | false => []) else []
  | _ => []
 | _ => []
theorem SimB.tidy {w0 : World} {U0 : Nat -> Prop} {X : Nat -> Nat -> Prop} {β0 β : Nat -> Option Place} {U : Nat -> Prop} {s : St} {a : Act} {w : World} (h : SimB w0 U0 X β0 β U s a w) (k : Nat) : Sim w0 U0 X β0 (s.upd (tidyL s k)) a w := by
 unfold tidyL
 split
 . rename_i ver e ei c i k' v' xs hb
   split
   . rename_i v'' e2 c2 ap fr ys hb'
     split
     . rename_i hc
       subst hc
       split
       . rename_i hcc
         simp only [decide_eq_true_eq] at hcc
         obtain ⟨hne, rfl, rfl, rfl⟩ := hcc
         obtain ⟨β', h1, _⟩ := h.putBack hne hb hb'
         exact ⟨β', U, h1⟩
       . exact ⟨β, U, h⟩
     . exact ⟨β, U, h⟩
   . exact ⟨β, U, h⟩
 . exact ⟨β, U, h⟩
end Go.Proofs.YtaeeadldamflcaaGreatDoor.Abs
namespace Go.Proofs.YtaeeadldamflcaaGreatDoor.Abs
open Go Go.RowKit
set_option linter.unusedVariables false
def znSlice (P : Program) (t : TypeId) (x : Operand) (lo hi mx : Option Operand) (ρ : Operand -> V) : Option (Tr Out) :=
 match P.underlying t, ρ x, lo, hi, mx with
 | some (.slice e), .one .nil, some lo, some hi, some mx => match ρ lo, ρ hi, ρ mx, (P.info? e).isSome with
  | .one (.d (.i _ a)), .one (.d (.i _ b)), .one (.d (.i _ c)), true => some (.grd (decide (0 <= a /\ a <= b /\ b <= c /\ c <= ((0 : Nat) : Int))) (.ret ⟨.one .bad, []⟩))
  | _, _, _, _ => none
 | _, _, _, _, _ => none
theorem znSlice_sem {P : Program} {s : St} {o : Oper} {t : TypeId} {x : Operand} {lo hi mx : Option Operand} {ρ : Operand -> V} (hop : o.op = .slice t x lo hi mx) (hρ : ∀ y ∈ o.op.operands, s.eval y = ρ y) (hd : ∀ d, o.dst = some d -> d < s.n)
  {T : Tr Out} {E : Out} (h : znSlice P t x lo hi mx ρ = some T) (hT : T.eval = some E) : SemStep P o s E := by
 unfold znSlice at h
 rw [hop] at hρ
 split at h
 case h_2 => cases h
 rename_i e lo hi mx hu hxe
 have hx : s.eval x = ρ x := hρ x (by simp [Op.operands])
 split at h
 case h_2 => cases h
 rename_i ka a kb b kc c h1 h2 h3 hie
 cases h
 obtain ⟨g1, g2⟩ := Tr.eval_grd hT
 cases g2
 simp only [decide_eq_true_eq] at g1
 obtain ⟨ie, hie⟩ := Option.isSome_iff_exists.1 hie
 refine semVal hd fun w0 U0 X β0 β U act w hs => ?_
 have hv := hs.eval x
 rw [hx, hxe] at hv
 have hv : act.eval x = nilV := hv.toC
 have e1 := hs.eval lo; rw [hρ lo (by simp [Op.operands]), h1] at e1; have e1 := e1.int
 have e2 := hs.eval hi; rw [hρ hi (by simp [Op.operands]), h2] at e2; have e2 := e2.int
 have e3 := hs.eval mx; rw [hρ mx (by simp [Op.operands]), h3] at e3; have e3 := e3.int
 have hb := run_bounds3 (P := P) (w := w) (len := 0) (cap := 0) (ka := ka) (kb := kb) (kc := kc) g1 (Nat.le_refl _)
 refine ⟨.slice (if c.toNat = a.toNat then none else none) (b.toNat - a.toNat) (c.toNat - a.toNat), ?_, .bad _⟩
 simp only [execOp, hop, Option.map_some, hv, e1, e2, e3]
 refine wrapV ?_
 have hsz : P.cellsOf e = ie.size := by simp [Program.cellsOf, hie]
 simp [Instr.sliceAt, Instr.slice, run_underlying hu, hb, run_sizeOf w hie, hsz]
def effD (P : Program) (cod : TypeId -> Nat) (dst : Option Nat) (op : Op) (ρ : Operand -> V) (m : Nat -> Option Blk) : Option (Tr Out) :=
 match op with
 | .makeSlice t l c => zdMake P cod dst t l c ρ m
 | .load t y => zdLoad P t y ρ m
 | .store t y x => zdStore P dst t y x ρ m
 | .slice t x lo hi mx => match zdSlice P t x lo hi mx ρ with
  | some T => some T
  | none => znSlice P t x lo hi mx ρ
 | .buildSlice t len parts => zdBuild P cod dst t len parts.toList ρ m
 | .call { callee := .builtin .append, args, argTypes } => match zdDel P dst args.toList argTypes.toList ρ m with
  | some T => some T
  | none => zdApp P dst args.toList argTypes.toList ρ m
 | .call { callee := .builtin .clear, args, argTypes } => zdClear P dst args.toList argTypes.toList ρ m
 | _ => none
theorem effD_sem {P : Program} {cod : TypeId -> Nat} {o : Oper} {s : St} {ρ : Operand -> V} {m : Nat -> Option Blk} (hρ : ∀ y ∈ o.op.operands, s.eval y = ρ y) (hm : ∀ k ∈ effKeys o.dst o.op ρ, s.blk k = m k) (hd : ∀ d, o.dst = some d -> d < s.n)
   {T : Tr Out} {E : Out} (h : effD P cod o.dst o.op ρ m = some T) (hT : T.eval = some E) : SemStep P o s E := by
 unfold effD at h
 split at h
 . rename_i t l c hop; exact zdMake_sem hop hρ hm hd h hT
 . rename_i t y hop
   refine zdLoad_sem hop hρ (fun k hk => hm k ?_) hd h hT
   rw [hop]; exact hk
 . rename_i t y x hop; exact zdStore_sem hop hρ hm h hT
 . rename_i t x lo hi mx hop
   split at h
   . rename_i T' hT'; cases h; exact zdSlice_sem hop hρ hd hT' hT
   . exact znSlice_sem hop hρ hd h hT
 . rename_i t len parts hop; exact zdBuild_sem hop hρ hm hd h hT
 . rename_i args ats hop
   split at h
   . rename_i T' hT'; cases h; exact zdDel_sem hop hρ hm hd hT' hT
   . exact zdApp_sem hop hρ hm hd h hT
 . rename_i args ats hop; exact zdClear_sem hop hρ hm hd h hT
 . cases h
end Go.Proofs.YtaeeadldamflcaaGreatDoor.Abs
namespace Go.Proofs.YtaeeadldamflcaaGreatDoor.Abs
open Go Go.RowKit
set_option linter.unusedVariables false
set_option linter.unusedSimpArgs false
abbrev Mem := List (Nat × Blk)

inductive PD where
 | i (k : IntKind)
 | b
 | s
 | st (c : Nat)
def PdsT : List PD -> Type -> Type
 | [], R => R
 | .i _ :: ps, R => Int × PdsT ps R
 | .b :: ps, R => Bool × PdsT ps R
 | .s :: ps, R => List UInt8 × PdsT ps R
 | .st c :: ps, R => List (τ c) × PdsT ps R
def putDs : (ps : List PD) -> {R : Type} -> PdsT ps R -> List D × R
 | [], _, r => ([], r)
 | .i k :: ps, _, (n, x) => (.i k n :: (putDs ps x).1, (putDs ps x).2)
 | .b :: ps, _, (n, x) => (.b n :: (putDs ps x).1, (putDs ps x).2)
 | .s :: ps, _, (n, x) => (.s n :: (putDs ps x).1, (putDs ps x).2)
 | .st c :: ps, _, (n, x) => (.st c n :: (putDs ps x).1, (putDs ps x).2)
def castSt (c k : Nat) (xs : List (τ k)) : Option (List (τ c)) := if h : k = c then some (h ▸ xs) else none
theorem castSt_eq {c k : Nat} {xs : List (τ k)} {ys : List (τ c)} (h : castSt c k xs = some ys) : D.st k xs = D.st c ys := by
 unfold castSt at h
 split at h
 . rename_i e; subst e; cases h; rfl
 . cases h
def getDs : (ps : List PD) -> List D -> Option (∀ R : Type, R -> PdsT ps R)
 | [], [] => some fun _ r => r
 | .i k :: ps, d :: ds => match d, getDs ps ds with
  | .i k' n, some g => if k = k' then some fun R r => (n, g R r) else none
  | _, _ => none
 | .b :: ps, d :: ds => match d, getDs ps ds with
  | .b n, some g => some fun R r => (n, g R r)
  | _, _ => none
 | .s :: ps, d :: ds => match d, getDs ps ds with
  | .s n, some g => some fun R r => (n, g R r)
  | _, _ => none
 | .st c :: ps, d :: ds => match d, getDs ps ds with
  | .st k xs, some g => match castSt c k xs with
   | some ys => some fun R r => (ys, g R r)
   | none => none
  | _, _ => none
 | _, _ => none
theorem getDs_put : ∀ {ps : List PD} {ds : List D} {g : ∀ R : Type, R -> PdsT ps R}, getDs ps ds = some g -> ∀ (R : Type) (r : R), putDs ps (g R r) = (ds, r)
 | [], [], g, h, R, r => by cases h; rfl
 | [], _ :: _, g, h, R, r => by cases h
 | .i k :: ps, [], g, h, R, r => by cases h
 | .b :: ps, [], g, h, R, r => by cases h
 | .s :: ps, [], g, h, R, r => by cases h
 | .st c :: ps, [], g, h, R, r => by cases h
 | .i k :: ps, d :: ds, g, h, R, r => by
  unfold getDs at h
  split at h
  . rename_i k' n g' hg
    split at h
    . rename_i e; subst e; cases h
      simp only [putDs, getDs_put hg R r]
    . cases h
  . cases h
 | .b :: ps, d :: ds, g, h, R, r => by
  unfold getDs at h
  split at h
  . rename_i n g' hg
    cases h
    simp only [putDs, getDs_put hg R r]
  . cases h
 | .s :: ps, d :: ds, g, h, R, r => by
  unfold getDs at h
  split at h
  . rename_i n g' hg
    cases h
    simp only [putDs, getDs_put hg R r]
  . cases h
 | .st c :: ps, d :: ds, g, h, R, r => by
  unfold getDs at h
  split at h
  . rename_i k xs g' hg
    split at h
    . rename_i ys hy
      cases h
      simp only [putDs, getDs_put hg R r, castSt_eq hy]
    . cases h
  . cases h

inductive Pt where
 | i (k : IntKind)
 | kn (k : IntKind) (n : Nat)
 | b
 | s
 | st (c : Nat) (fr : Bool)
 | nil
 | un
 | ne
 | bad
 | own (k : Nat)
 | pre (k sz : Nat)
 | sub (k sz : Nat)
 | pr (k sz off : Nat)
 | mp (k : Nat)
 | ptr (k off : Nat)
 | clo (f : FuncId) (ps : List PD)
 | clp (f : FuncId) (ks : List (Nat × Nat))
 | tr
 | dp (k : Nat)
 | dpr (k sz off : Nat)
def Pt.T : Pt -> Type -> Type
 | .i _, R => Int × R
 | .b, R => Bool × R
 | .s, R => List UInt8 × R
 | .st c _, R => List (τ c) × R
 | .clo _ ps, R => PdsT ps R
 | .pre _ _, R => Nat × R
 | .sub _ _, R => Nat × (Nat × R)
 | .pr _ _ _, R => Nat × R
 | .kn _ _, R => R
 | .tr, R => TT × R
 | .dp _, R => Nat × R
 | .dpr _ _ _, R => Nat × R
 | .nil, R | .un, R | .ne, R | .bad, R | .own _, R | .ptr _ _, R | .clp _ _, R | .mp _, R => R
def stC (fr : Bool) (c : Nat) (xs : List (τ c)) : C := match fr with | true => .f (.st c xs) | false => .d (.st c xs)
def vk (k : Nat) : Nat := match Nat.ble 1000000 k && Nat.blt k 1500000 with | true => 1 | false => 0
def Pt.put (len : Nat -> Nat) : (p : Pt) -> {R : Type} -> p.T R -> C × R
 | .i k, _, (n, r) => (.d (.i k n), r)
 | .kn k n, _, r => (.d (.i k (n : Int)), r)
 | .b, _, (x, r) => (.d (.b x), r)
 | .s, _, (l, r) => (.d (.s l), r)
 | .st c fr, _, (xs, r) => (stC fr c xs, r)
 | .nil, _, r => (.nil, r)
 | .un, _, r => (.un, r)
 | .ne, _, r => (.ne, r)
 | .bad, _, r => (.bad, r)
 | .own k, _, r => (.own k (vk k) (len k), r)
 | .pre k sz, _, (n, r) => (.pre k (vk k) sz n, r)
 | .sub k sz, _, (o, n, r) => (.sub k (vk k) sz o n, r)
 | .pr k sz off, _, (n, r) => (.pr k (vk k) sz n off, r)
 | .mp k, _, r => (.mp k, r)
 | .ptr k o, _, r => (.ptr k o, r)
 | .clo f ps, _, x => (.clo f (putDs ps x).1, (putDs ps x).2)
 | .clp f ks, _, r => (.clp f ks, r)
 | .tr, _, (t, r) => (.d (.tr t), r)
 | .dp k, _, (n, r) => (.dp k (vk k) (len k) n, r)
 | .dpr k sz off, _, (n, r) => (.dpr k (vk k) sz n off, r)
def getSt (c : Nat) (fr : Bool) : C -> Option (List (τ c))
 | .d (.st k xs) => match fr with | true => none | false => castSt c k xs
 | .f (.st k xs) => castSt c k xs
 | .nil => some []
 | _ => none
theorem getSt_wk {c : Nat} {fr : Bool} {x : C} {xs : List (τ c)} (h : getSt c fr x = some xs) : WkC x (stC fr c xs) := by
 cases x with
 | d d =>
  cases d with
  | st k ys =>
   cases fr with
   | true => cases h
   | false => exact .inl (by rw [castSt_eq (show castSt c k ys = some xs from h)]; rfl)
  | _ => cases h
 | f d =>
  cases d with
  | st k ys =>
   have := castSt_eq (show castSt c k ys = some xs from h)
   cases fr with
   | true => exact .inl (by rw [this]; rfl)
   | false => exact .inr (.inr (.inr (.inl ⟨_, rfl, by rw [this]; rfl⟩)))
  | _ => cases h
 | nil =>
  have : xs = [] := by cases h; rfl
  subst this
  cases fr with
  | true => exact .inr (.inr (.inl ⟨rfl, .inr (.inr ⟨c, rfl⟩)⟩))
  | false => exact .inr (.inr (.inl ⟨rfl, .inr (.inl ⟨c, rfl⟩)⟩))
 | _ => cases h
abbrev Ob := List (Nat × Nat)
def Pt.get : (p : Pt) -> C -> Option (Ob × ∀ R : Type, R -> p.T R)
 | .i k, c => match c with
  | .d (.i k' n) => if k = k' then some ([], fun _ r => (n, r)) else none
  | _ => none
 | .kn k n, c => match c with
  | .d (.i k' m) => if k = k' /\ m = (n : Int) then some ([], fun _ r => r) else none
  | _ => none
 | .b, c => match c with
  | .d (.b x) => some ([], fun _ r => (x, r))
  | _ => none
 | .s, c => match c with
  | .d (.s l) => some ([], fun _ r => (l, r))
  | _ => none
 | .st q fr, c => match getSt q fr c with
  | some xs => some ([], fun _ r => (xs, r))
  | none => none
 | .nil, c => match c with
  | .nil => some ([], fun _ r => r)
  | _ => none
 | .un, c => match c with
  | .un => some ([], fun _ r => r)
  | _ => none
 | .ne, c => match c with
  | .ne => some ([], fun _ r => r)
  | _ => none
 | .bad, _ => some ([], fun _ r => r)
 | .own k, c => match c with
  | .own k' ver len => if k = k' /\ ver = vk k then some ([(k, len)], fun _ r => r) else none
  | _ => none
 | .pre k sz, c => match c with
  | .pre k' ver sz' len => if k = k' /\ ver = vk k /\ sz = sz' then some ([], fun _ r => (len, r)) else none
  | _ => none
 | .sub k sz, c => match c with
  | .sub k' ver sz' o len => if k = k' /\ ver = vk k /\ sz = sz' then some ([], fun _ r => (o, len, r)) else none
  | .own k' ver len => if k = k' /\ ver = vk k then some ([], fun _ r => (0, len, r)) else none
  | _ => none
 | .pr k sz off, c => match c with
  | .pr k' ver sz' ix off' => if k = k' /\ ver = vk k /\ sz = sz' /\ off = off' then some ([], fun _ r => (ix, r)) else none
  | _ => none
 | .mp k, c => match c with
  | .mp k' => if k = k' then some ([], fun _ r => r) else none
  | _ => none
 | .ptr k o, c => match c with
  | .ptr k' o' => if k = k' /\ o = o' then some ([], fun _ r => r) else none
  | _ => none
 | .clo f ps, c => match c with
  | .clo f' ds => if f = f' then match getDs ps ds with
   | some g => some ([], g)
   | none => none
   else none
  | _ => none
 | .clp f ks, c => match c with
  | .clp f' ks' => if f = f' /\ ks = ks' then some ([], fun _ r => r) else none
  | _ => none
 | .tr, c => match c with
  | .d (.tr t) => some ([], fun _ r => (t, r))
  | _ => none
 | .dp k, c => match c with
  | .dp k' ver len room => if k = k' /\ ver = vk k then some ([(k, len)], fun _ r => (room, r)) else none
  | _ => none
 | .dpr k sz off, c => match c with
  | .dpr k' ver sz' ix off' => if k = k' /\ ver = vk k /\ sz = sz' /\ off = off' then some ([], fun _ r => (ix, r)) else none
  | _ => none
def ObOk (len : Nat -> Nat) (l : Ob) : Prop := ∀ q ∈ l, q.2 = len q.1
theorem Pt.get_put {len : Nat -> Nat} {p : Pt} {c : C} {l : Ob} {g : ∀ R : Type, R -> p.T R} (h : p.get c = some (l, g)) (ho : ObOk len l) (R : Type) (r : R) : (p.put len (g R r)).2 = r /\ WkC c (p.put len (g R r)).1 := by
 cases p with
 | i k =>
  simp only [Pt.get] at h
  split at h
  . split at h
    . rename_i e; subst e; cases h; exact ⟨rfl, .inl rfl⟩
    . cases h
  . cases h
 | kn k n =>
  simp only [Pt.get] at h
  split at h
  . split at h
    . rename_i e; obtain ⟨rfl, rfl⟩ := e; cases h; exact ⟨rfl, .inl rfl⟩
    . cases h
  . cases h
 | b => simp only [Pt.get] at h; split at h; (cases h; exact ⟨rfl, .inl rfl⟩); cases h
 | s => simp only [Pt.get] at h; split at h; (cases h; exact ⟨rfl, .inl rfl⟩); cases h
 | tr => simp only [Pt.get] at h; split at h; (cases h; exact ⟨rfl, .inl rfl⟩); cases h
 | st q fr =>
  simp only [Pt.get] at h
  split at h
  . rename_i xs hx; cases h; exact ⟨rfl, getSt_wk hx⟩
  . cases h
 | nil => simp only [Pt.get] at h; split at h; (cases h; exact ⟨rfl, .inl rfl⟩); cases h
 | un => simp only [Pt.get] at h; split at h; (cases h; exact ⟨rfl, .inl rfl⟩); cases h
 | ne => simp only [Pt.get] at h; split at h; (cases h; exact ⟨rfl, .inl rfl⟩); cases h
 | bad => simp only [Pt.get] at h; cases h; exact ⟨rfl, .inr (.inl rfl)⟩
 | own k =>
  simp only [Pt.get] at h
  split at h
  . split at h
    . rename_i k' ver n e
      obtain ⟨rfl, rfl⟩ := e
      cases h
      refine ⟨rfl, .inl ?_⟩
      have := ho (k, n) (by simp)
      simp only at this
      rw [this]; rfl
    . cases h
  . cases h
 | dp k =>
  simp only [Pt.get] at h
  split at h
  . split at h
    . rename_i k' ver n room e
      obtain ⟨rfl, rfl⟩ := e
      cases h
      refine ⟨rfl, .inl ?_⟩
      have := ho (k, n) (by simp)
      simp only at this
      rw [this]; rfl
    . cases h
  . cases h
 | dpr k sz off =>
  simp only [Pt.get] at h
  split at h
  . split at h
    . rename_i e; obtain ⟨rfl, rfl, rfl, rfl⟩ := e; cases h; exact ⟨rfl, .inl rfl⟩
    . cases h
  . cases h
 | pre k sz =>
  simp only [Pt.get] at h
  split at h
  . split at h
    . rename_i e; obtain ⟨rfl, rfl, rfl⟩ := e; cases h; exact ⟨rfl, .inl rfl⟩
    . cases h
  . cases h
 | sub k sz =>
  simp only [Pt.get] at h
  split at h
  . split at h
    . rename_i e; obtain ⟨rfl, rfl, rfl⟩ := e; cases h; exact ⟨rfl, .inl rfl⟩
    . cases h
  . split at h
    . rename_i e; obtain ⟨rfl, rfl⟩ := e; cases h; exact ⟨rfl, .inr (.inr (.inr (.inr ⟨_, _, _, sz, rfl, rfl⟩)))⟩
    . cases h
  . cases h
 | pr k sz off =>
  simp only [Pt.get] at h
  split at h
  . split at h
    . rename_i e; obtain ⟨rfl, rfl, rfl, rfl⟩ := e; cases h; exact ⟨rfl, .inl rfl⟩
    . cases h
  . cases h
 | mp k =>
  simp only [Pt.get] at h
  split at h
  . split at h
    . rename_i e; subst e; cases h; exact ⟨rfl, .inl rfl⟩
    . cases h
  . cases h
 | ptr k o =>
  simp only [Pt.get] at h
  split at h
  . split at h
    . rename_i e; obtain ⟨rfl, rfl⟩ := e; cases h; exact ⟨rfl, .inl rfl⟩
    . cases h
  . cases h
 | clp f ks =>
  simp only [Pt.get] at h
  split at h
  . split at h
    . rename_i e; obtain ⟨rfl, rfl⟩ := e; cases h; exact ⟨rfl, .inl rfl⟩
    . cases h
  . cases h
 | clo f ps =>
  simp only [Pt.get] at h
  split at h
  . split at h
    . rename_i e; subst e
      split at h
      . rename_i g' hg; cases h
        have := getDs_put hg R r
        refine ⟨by simp only [Pt.put]; rw [this], .inl ?_⟩
        simp only [Pt.put]; rw [this]
      . cases h
    . cases h
  . cases h

def PtsT : List Pt -> Type -> Type
 | [], R => R
 | p :: ps, R => p.T (PtsT ps R)
def putPts (len : Nat -> Nat) : (ps : List Pt) -> {R : Type} -> PtsT ps R -> List C × R
 | [], _, r => ([], r)
 | p :: ps, _, x => ((p.put len x).1 :: (putPts len ps (p.put len x).2).1, (putPts len ps (p.put len x).2).2)
def getPts : (ps : List Pt) -> List C -> Option (Ob × ∀ R : Type, R -> PtsT ps R)
 | [], [] => some ([], fun _ r => r)
 | p :: ps, c :: cs => match p.get c, getPts ps cs with
  | some (l1, g1), some (l2, g2) => some (l1 ++ l2, fun R r => g1 _ (g2 R r))
  | _, _ => none
 | _, _ => none
theorem ObOk.left {len : Nat -> Nat} {l1 l2 : Ob} (h : ObOk len (l1 ++ l2)) : ObOk len l1 := fun q hq => h q (List.mem_append_left _ hq)
theorem ObOk.right {len : Nat -> Nat} {l1 l2 : Ob} (h : ObOk len (l1 ++ l2)) : ObOk len l2 := fun q hq => h q (List.mem_append_right _ hq)
theorem getPts_put {len : Nat -> Nat} : ∀ {ps : List Pt} {cs : List C} {l : Ob} {g : ∀ R : Type, R -> PtsT ps R}, getPts ps cs = some (l, g) -> ObOk len l -> ∀ (R : Type) (r : R), (putPts len ps (g R r)).2 = r /\ WkCs cs (putPts len ps (g R r)).1
 | [], [], l, g, h, ho, R, r => by cases h; exact ⟨rfl, trivial⟩
 | [], _ :: _, l, g, h, ho, R, r => by cases h
 | _ :: _, [], l, g, h, ho, R, r => by cases h
 | p :: ps, c :: cs, l, g, h, ho, R, r => by
  unfold getPts at h
  split at h
  . rename_i l1 g1 l2 g2 h1 h2
    cases h
    obtain ⟨a1, a2⟩ := Pt.get_put h1 ho.left _ (g2 R r)
    obtain ⟨b1, b2⟩ := getPts_put h2 ho.right R r
    simp only [putPts]
    rw [a1]
    exact ⟨b1, a2, b2⟩
  . cases h
def skipPts : (ps : List Pt) -> {R : Type} -> PtsT ps R -> R := fun ps _ x => (putPts (fun _ => 0) ps x).2

inductive VP1 where
 | one (p : Pt)
 | agg (ps : List Pt)
inductive VP where
 | v (x : VP1)
 | tup (xs : List VP1)
def VP1.T : VP1 -> Type -> Type
 | .one p, R => p.T R
 | .agg ps, R => PtsT ps R
def VP1.put (len : Nat -> Nat) : (p : VP1) -> {R : Type} -> p.T R -> V × R
 | .one p, _, x => (.one (p.put len x).1, (p.put len x).2)
 | .agg ps, _, x => (.agg (putPts len ps x).1, (putPts len ps x).2)
def VP1.get : (p : VP1) -> V -> Option (Ob × ∀ R : Type, R -> p.T R)
 | .one p, v => match v with
  | .one c => p.get c
  | _ => none
 | .agg ps, v => match v with
  | .agg cs => getPts ps cs
  | _ => none
theorem VP1.get_put {len : Nat -> Nat} {p : VP1} {u : V} {l : Ob} {g : ∀ R : Type, R -> p.T R} (h : p.get u = some (l, g)) (ho : ObOk len l) (R : Type) (r : R) : (p.put len (g R r)).2 = r /\ WkV u (p.put len (g R r)).1 := by
 cases p with
 | one p =>
  cases u with
  | one c =>
   have h' : p.get c = some (l, g) := h
   have := Pt.get_put (len := len) h' ho R r
   exact ⟨this.1, this.2⟩
  | agg => cases h
  | tup => cases h
 | agg ps =>
  cases u with
  | agg cs =>
   have h' : getPts ps cs = some (l, g) := h
   have := getPts_put (len := len) h' ho R r
   exact ⟨this.1, this.2⟩
  | one => cases h
  | tup => cases h
def VPsT : List VP1 -> Type -> Type
 | [], R => R
 | p :: ps, R => p.T (VPsT ps R)
def putVs (len : Nat -> Nat) : (ps : List VP1) -> {R : Type} -> VPsT ps R -> List V × R
 | [], _, r => ([], r)
 | p :: ps, _, x => ((p.put len x).1 :: (putVs len ps (p.put len x).2).1, (putVs len ps (p.put len x).2).2)
def getVs : (ps : List VP1) -> List V -> Option (Ob × ∀ R : Type, R -> VPsT ps R)
 | [], [] => some ([], fun _ r => r)
 | p :: ps, c :: cs => match p.get c, getVs ps cs with
  | some (l1, g1), some (l2, g2) => some (l1 ++ l2, fun R r => g1 _ (g2 R r))
  | _, _ => none
 | _, _ => none
theorem getVs_put {len : Nat -> Nat} : ∀ {ps : List VP1} {cs : List V} {l : Ob} {g : ∀ R : Type, R -> VPsT ps R}, getVs ps cs = some (l, g) -> ObOk len l -> ∀ (R : Type) (r : R), (putVs len ps (g R r)).2 = r /\ WkVs cs (putVs len ps (g R r)).1
 | [], [], l, g, h, ho, R, r => by cases h; exact ⟨rfl, trivial⟩
 | [], _ :: _, l, g, h, ho, R, r => by cases h
 | _ :: _, [], l, g, h, ho, R, r => by cases h
 | p :: ps, c :: cs, l, g, h, ho, R, r => by
  unfold getVs at h
  split at h
  . rename_i l1 g1 l2 g2 h1 h2
    cases h
    obtain ⟨a1, a2⟩ := VP1.get_put h1 ho.left _ (g2 R r)
    obtain ⟨b1, b2⟩ := getVs_put h2 ho.right R r
    simp only [putVs]
    rw [a1]
    exact ⟨b1, a2, b2⟩
  . cases h
def WkX (x y : V) : Prop := WkV x y \/ ∃ vs vs', x = .tup vs /\ y = .tup vs' /\ WkVs vs vs'
def VP.T : VP -> Type -> Type
 | .v p, R => p.T R
 | .tup ps, R => VPsT ps R
def VP.put (len : Nat -> Nat) : (p : VP) -> {R : Type} -> p.T R -> V × R
 | .v p, _, x => p.put len x
 | .tup ps, _, x => (.tup (putVs len ps x).1, (putVs len ps x).2)
def VP.get : (p : VP) -> V -> Option (Ob × ∀ R : Type, R -> p.T R)
 | .v p, u => p.get u
 | .tup ps, u => match u with
  | .tup vs => getVs ps vs
  | _ => none
theorem VP.get_put {len : Nat -> Nat} {p : VP} {u : V} {l : Ob} {g : ∀ R : Type, R -> p.T R} (h : p.get u = some (l, g)) (ho : ObOk len l) (R : Type) (r : R) : (p.put len (g R r)).2 = r /\ WkX u (p.put len (g R r)).1 := by
 cases p with
 | v p =>
  have h' : p.get u = some (l, g) := h
  have := VP1.get_put (len := len) h' ho R r
  exact ⟨this.1, .inl this.2⟩
 | tup ps =>
  cases u with
  | tup us =>
   have h' : getVs ps us = some (l, g) := h
   have := getVs_put (len := len) h' ho R r
   exact ⟨this.1, .inr ⟨_, _, rfl, rfl, this.2⟩⟩
  | one => cases h
  | agg => cases h

def EnvT : List (Nat × VP) -> Type -> Type
 | [], R => R
 | p :: ps, R => p.2.T (EnvT ps R)
def putEnv (len : Nat -> Nat) : (ps : List (Nat × VP)) -> {R : Type} -> EnvT ps R -> List (Nat × V) × R
 | [], _, r => ([], r)
 | p :: ps, _, x => ((p.1, (p.2.put len x).1) :: (putEnv len ps (p.2.put len x).2).1, (putEnv len ps (p.2.put len x).2).2)
def getEnv : (ps : List (Nat × VP)) -> List (Nat × V) -> Option (Ob × ∀ R : Type, R -> EnvT ps R)
 | [], [] => some ([], fun _ r => r)
 | p :: ps, c :: cs => match Nat.beq p.1 c.1, p.2.get c.2, getEnv ps cs with
  | true, some (l1, g1), some (l2, g2) => some (l1 ++ l2, fun R r => g1 _ (g2 R r))
  | _, _, _ => none
 | _, _ => none
def EnvWk : List (Nat × V) -> List (Nat × V) -> Prop
 | [], [] => True
 | c :: cs, d :: ds => c.1 = d.1 /\ WkX c.2 d.2 /\ EnvWk cs ds
 | _, _ => False
theorem getEnv_put {len : Nat -> Nat} : ∀ {ps : List (Nat × VP)} {cs : List (Nat × V)} {l : Ob} {g : ∀ R : Type, R -> EnvT ps R}, getEnv ps cs = some (l, g) -> ObOk len l -> ∀ (R : Type) (r : R), (putEnv len ps (g R r)).2 = r /\ EnvWk cs (putEnv len ps (g R r)).1
 | [], [], l, g, h, ho, R, r => by cases h; exact ⟨rfl, trivial⟩
 | [], _ :: _, l, g, h, ho, R, r => by cases h
 | _ :: _, [], l, g, h, ho, R, r => by cases h
 | p :: ps, c :: cs, l, g, h, ho, R, r => by
  unfold getEnv at h
  split at h
  . rename_i l1 g1 l2 g2 h0 h1 h2
    cases h
    obtain ⟨a1, a2⟩ := VP.get_put h1 ho.left _ (g2 R r)
    obtain ⟨b1, b2⟩ := getEnv_put h2 ho.right R r
    simp only [putEnv]
    rw [a1]
    exact ⟨b1, (Nat.eq_of_beq_eq_true h0).symm, a2, b2⟩
  . cases h
inductive BP where
 | cells (ps : List Pt)
 | row (e : TypeId) (c : Nat) (ap fr : Bool)
 | map (kt : Nat)
 | junk (e : TypeId) (sz : Nat)
 | bx (T : TypeId) (q : Nat)
 | buf (e : TypeId)
 | deep (e ei : TypeId) (c : Nat)
 | deepH (e ei : TypeId) (c q : Nat)
def BP.T : BP -> Type -> Type
 | .bx _ _, R => R
 | .buf _, R => List UInt8 × R
 | .deep _ _ c, R => List (τ c) × R
 | .deepH _ _ c _, R => Nat × (List (τ c) × R)
 | .junk _ _, R => Nat × R
 | .map kt, R => List (τ kt × Int) × R
 | .cells ps, R => PtsT ps R
 | .row _ c _ _, R => List (τ c) × R
def BP.put (len : Nat -> Nat) (k : Nat) : (p : BP) -> {R : Type} -> p.T R -> Blk × R
 | .cells ps, _, x => (.cells (putPts len ps x).1, (putPts len ps x).2)
 | .row e c ap fr, _, (xs, r) => (.rowT (vk k) e c ap fr xs, r)
 | .map kt, _, (es, r) => (.mp kt es, r)
 | .junk e sz, _, (n, r) => (.junk (vk k) e sz (len k) n, r)
 | .bx T q, _, r => (.bx T (some (q, vk q)), r)
 | .buf e, _, (xs, r) => (.buf (vk k) e xs, r)
 | .deep e ei c, _, (xs, r) => (.deep (vk k) e ei c none xs, r)
 | .deepH e ei c q, _, (i, xs, r) => (.deep (vk k) e ei c (some (i, some (q, vk q))) xs, r)
def getDp (k : Nat) (e ei : TypeId) (c : Nat) : Blk -> Option (List (τ c))
 | .deep ver e' ei' c' none xs => if ver = vk k /\ e = e' /\ ei = ei' then castSt c c' xs else none
 | _ => none
theorem getDp_eq {k : Nat} {e ei : TypeId} {c : Nat} {b : Blk} {ys : List (τ c)} (h : getDp k e ei c b = some ys) : b = .deep (vk k) e ei c none ys := by
 unfold getDp at h
 split at h
 . rename_i ver e' ei' c' xs
   split at h
   . rename_i q
     obtain ⟨rfl, rfl, rfl⟩ := q
     unfold castSt at h
     split at h
     . rename_i q; subst q; cases h; rfl
     . cases h
   . cases h
 . cases h
def getDh (k : Nat) (e ei : TypeId) (c q : Nat) : Blk -> Option (Nat × List (τ c))
 | .deep ver e' ei' c' (some (i, some (q', v))) xs => if ver = vk k /\ e = e' /\ ei = ei' /\ q = q' /\ v = vk q then (castSt c c' xs).map fun ys => (i, ys) else none
 | _ => none
theorem getDh_eq {k : Nat} {e ei : TypeId} {c q : Nat} {b : Blk} {i : Nat} {ys : List (τ c)} (h : getDh k e ei c q b = some (i, ys)) : b = .deep (vk k) e ei c (some (i, some (q, vk q))) ys := by
 unfold getDh at h
 split at h
 . rename_i ver e' ei' c' i' q' v xs
   split at h
   . rename_i z
     obtain ⟨rfl, rfl, rfl, rfl, rfl⟩ := z
     unfold castSt at h
     split at h
     . rename_i z; subst z; cases h; rfl
     . cases h
   . cases h
 . cases h
def getBf (k : Nat) (e : TypeId) : Blk -> Option (List UInt8)
 | .buf ver e' xs => if ver = vk k /\ e = e' then some xs else none
 | _ => none
theorem getBf_eq {k : Nat} {e : TypeId} {b : Blk} {xs : List UInt8} (h : getBf k e b = some xs) : b = .buf (vk k) e xs := by
 unfold getBf at h
 split at h
 . split at h
   . rename_i q; obtain ⟨rfl, rfl⟩ := q; cases h; rfl
   . cases h
 . cases h
def isBx (T : TypeId) (q : Nat) : Blk -> Bool
 | .bx T' (some (q', v)) => decide (T = T' /\ q = q' /\ v = vk q)
 | _ => false
theorem isBx_eq {T : TypeId} {q : Nat} {b : Blk} (h : isBx T q b = true) : b = .bx T (some (q, vk q)) := by
 unfold isBx at h
 split at h
 . obtain ⟨rfl, rfl, rfl⟩ := of_decide_eq_true h; rfl
 . cases h
def getJk (k : Nat) (e : TypeId) (sz : Nat) : Blk -> Option (Nat × Nat)
 | .junk ver e' sz' l n => if ver = vk k /\ e = e' /\ sz = sz' then some (l, n) else none
 | _ => none
theorem getJk_eq {k : Nat} {e : TypeId} {sz : Nat} {b : Blk} {l n : Nat} (h : getJk k e sz b = some (l, n)) : b = .junk (vk k) e sz l n := by
 cases b with
 | junk ver e' sz' l' n' =>
  have h' : (if ver = vk k /\ e = e' /\ sz = sz' then some (l', n') else none) = some (l, n) := h
  split at h'
  . rename_i q; obtain ⟨rfl, rfl, rfl⟩ := q; cases h'; rfl
  . cases h'
 | cells => exact absurd (show (none : Option (Nat × Nat)) = some (l, n) from h) (by simp)
 | row => exact absurd (show (none : Option (Nat × Nat)) = some (l, n) from h) (by simp)
 | bx => exact absurd (show (none : Option (Nat × Nat)) = some (l, n) from h) (by simp)
 | buf => exact absurd (show (none : Option (Nat × Nat)) = some (l, n) from h) (by simp)
 | deep => exact absurd (show (none : Option (Nat × Nat)) = some (l, n) from h) (by simp)
 | rowT => exact absurd (show (none : Option (Nat × Nat)) = some (l, n) from h) (by simp)
 | mp => exact absurd (show (none : Option (Nat × Nat)) = some (l, n) from h) (by simp)
def getMp (kt : Nat) : Blk -> Option (List (τ kt × Int))
 | .mp kt' es => if h : kt' = kt then some (h ▸ es) else none
 | _ => none
theorem getMp_eq {kt : Nat} {b : Blk} {es : List (τ kt × Int)} (h : getMp kt b = some es) : b = .mp kt es := by
 cases b with
 | mp kt' es' =>
  have h' : (if h : kt' = kt then some (h ▸ es') else none) = some es := h
  split at h'
  . rename_i e; subst e; cases h'; rfl
  . cases h'
 | cells => exact absurd (show (none : Option (List (τ kt × Int))) = some es from h) (by simp)
 | row => exact absurd (show (none : Option (List (τ kt × Int))) = some es from h) (by simp)
 | bx => exact absurd (show (none : Option (List (τ kt × Int))) = some es from h) (by simp)
 | buf => exact absurd (show (none : Option (List (τ kt × Int))) = some es from h) (by simp)
 | deep => exact absurd (show (none : Option (List (τ kt × Int))) = some es from h) (by simp)
 | rowT => exact absurd (show (none : Option (List (τ kt × Int))) = some es from h) (by simp)
 | junk => exact absurd (show (none : Option (List (τ kt × Int))) = some es from h) (by simp)
def getRow (k : Nat) (e : TypeId) (c : Nat) (ap fr : Bool) : Blk -> Option (List (τ c))
 | .rowT ver e' c' ap' fr' xs => if ver = vk k /\ e = e' /\ ap = ap' /\ fr = fr' then castSt c c' xs else none
 | _ => none
theorem getRow_wk {k : Nat} {e : TypeId} {c : Nat} {ap fr : Bool} {b : Blk} {ys : List (τ c)} (h : getRow k e c ap fr b = some ys) : b = .rowT (vk k) e c ap fr ys := by
 cases b with
 | rowT ver e' c' ap' fr' xs =>
  have h' : (if ver = vk k /\ e = e' /\ ap = ap' /\ fr = fr' then castSt c c' xs else none) = some ys := h
  by_cases e1 : ver = vk k /\ e = e' /\ ap = ap' /\ fr = fr'
  . rw [if_pos e1] at h'
    obtain ⟨rfl, rfl, rfl, rfl⟩ := e1
    unfold castSt at h'
    split at h'
    . rename_i e; subst e; cases h'; rfl
    . cases h'
  . rw [if_neg e1] at h'; cases h'
 | cells => exact absurd (show (none : Option (List (τ c))) = some ys from h) (by simp)
 | mp => exact absurd (show (none : Option (List (τ c))) = some ys from h) (by simp)
 | row => exact absurd (show (none : Option (List (τ c))) = some ys from h) (by simp)
 | bx => exact absurd (show (none : Option (List (τ c))) = some ys from h) (by simp)
 | buf => exact absurd (show (none : Option (List (τ c))) = some ys from h) (by simp)
 | deep => exact absurd (show (none : Option (List (τ c))) = some ys from h) (by simp)
 | junk => exact absurd (show (none : Option (List (τ c))) = some ys from h) (by simp)
def BP.get (k : Nat) : (p : BP) -> Blk -> Option (Ob × ∀ R : Type, R -> p.T R)
 | .cells ps, b => match b with
  | .cells cs => getPts ps cs
  | _ => none
 | .row e c ap fr, b => match getRow k e c ap fr b with
  | some ys => some ([], fun _ r => (ys, r))
  | none => none
 | .map kt, b => match getMp kt b with
  | some es => some ([], fun _ r => (es, r))
  | none => none
 | .junk e sz, b => match getJk k e sz b with
  | some (l, n) => some ([(k, l)], fun _ r => (n, r))
  | none => none
 | .bx T q, b => match isBx T q b with
  | true => some ([], fun _ r => r)
  | false => none
 | .buf e, b => match getBf k e b with
  | some xs => some ([], fun _ r => (xs, r))
  | none => none
 | .deep e ei c, b => match getDp k e ei c b with
  | some xs => some ([], fun _ r => (xs, r))
  | none => none
 | .deepH e ei c q, b => match getDh k e ei c q b with
  | some (i, xs) => some ([], fun _ r => (i, xs, r))
  | none => none
theorem WkB.blk {b b' : Blk} (h : WkB b b') : BlkWk b b' := by
 refine ⟨?_, fun p x j => WkB_covers h, fun w β U base p hr => hr.wk h⟩
 cases b with
 | cells cs => cases b' with
  | cells => rfl
  | mp => cases h
  | row => cases h
  | rowT => cases h
  | junk => cases h
  | bx => cases h
  | buf => cases h
  | deep => cases h
 | deep => cases h; rfl
 | mp => cases h; rfl
 | bx => cases h; rfl
 | buf => cases h; rfl
 | junk => cases h; rfl
 | row => cases h; rfl
 | rowT => cases h; rfl
theorem BP.get_put {len : Nat -> Nat} {k : Nat} {p : BP} {b : Blk} {l : Ob} {g : ∀ R : Type, R -> p.T R} (h : p.get k b = some (l, g)) (ho : ObOk len l) (R : Type) (r : R) : (p.put len k (g R r)).2 = r /\ BlkWk b (p.put len k (g R r)).1 := by
 cases p with
 | cells ps =>
  cases b with
  | cells cs =>
   have h' : getPts ps cs = some (l, g) := h
   have := getPts_put (len := len) h' ho R r
   exact ⟨this.1, WkB.blk (show WkB (.cells _) (.cells _) from this.2)⟩
  | mp => cases h
  | row => cases h
  | rowT => cases h
  | junk => cases h
  | bx => cases h
  | buf => cases h
  | deep => cases h
 | deep e ei c =>
  cases hr : getDp k e ei c b with
  | none =>
   have h' : (match getDp k e ei c b with | some xs => some (([] : Ob), fun (R : Type) (r : R) => ((xs, r) : List (τ c) × R)) | none => none) = some (l, g) := h
   rw [hr] at h'
   exact absurd h' (by simp)
  | some xs =>
   have h' : (match getDp k e ei c b with | some xs => some (([] : Ob), fun (R : Type) (r : R) => ((xs, r) : List (τ c) × R)) | none => none) = some (l, g) := h
   rw [hr] at h'
   have h3 : g = fun R r => (xs, r) := (congrArg Prod.snd (Option.some.inj h')).symm
   subst h3
   refine ⟨rfl, ?_⟩
   rw [getDp_eq hr]
   exact BlkWk.rfl _
 | deepH e ei c q =>
  cases hr : getDh k e ei c q b with
  | none =>
   have h' : (match getDh k e ei c q b with | some (i, xs) => some (([] : Ob), fun (R : Type) (r : R) => ((i, xs, r) : Nat × (List (τ c) × R))) | none => none) = some (l, g) := h
   rw [hr] at h'
   exact absurd h' (by simp)
  | some z =>
   obtain ⟨i, xs⟩ := z
   have h' : (match getDh k e ei c q b with | some (i, xs) => some (([] : Ob), fun (R : Type) (r : R) => ((i, xs, r) : Nat × (List (τ c) × R))) | none => none) = some (l, g) := h
   rw [hr] at h'
   have h3 : g = fun R r => (i, xs, r) := (congrArg Prod.snd (Option.some.inj h')).symm
   subst h3
   refine ⟨rfl, ?_⟩
   rw [getDh_eq hr]
   exact BlkWk.rfl _
 | bx T q =>
  cases hr : isBx T q b with
  | false =>
   have h' : (match isBx T q b with | true => some (([] : Ob), fun (R : Type) (r : R) => r) | false => none) = some (l, g) := h
   rw [hr] at h'
   exact absurd h' (by simp)
  | true =>
   have h' : (match isBx T q b with | true => some (([] : Ob), fun (R : Type) (r : R) => r) | false => none) = some (l, g) := h
   rw [hr] at h'
   have h3 : g = fun R r => r := (congrArg Prod.snd (Option.some.inj h')).symm
   subst h3
   refine ⟨rfl, ?_⟩
   rw [isBx_eq hr]
   exact BlkWk.rfl _
 | buf e =>
  cases hr : getBf k e b with
  | none =>
   have h' : (match getBf k e b with | some xs => some (([] : Ob), fun (R : Type) (r : R) => ((xs, r) : List UInt8 × R)) | none => none) = some (l, g) := h
   rw [hr] at h'
   exact absurd h' (by simp)
  | some xs =>
   have h' : (match getBf k e b with | some xs => some (([] : Ob), fun (R : Type) (r : R) => ((xs, r) : List UInt8 × R)) | none => none) = some (l, g) := h
   rw [hr] at h'
   have h3 : g = fun R r => (xs, r) := (congrArg Prod.snd (Option.some.inj h')).symm
   subst h3
   refine ⟨rfl, ?_⟩
   rw [getBf_eq hr]
   exact BlkWk.rfl _
 | junk e sz =>
  cases hr : getJk k e sz b with
  | none =>
   have h' : (match getJk k e sz b with | some (l, n) => some (([(k, l)] : Ob), fun (R : Type) (r : R) => ((n, r) : Nat × R)) | none => none) = some (l, g) := h
   rw [hr] at h'
   exact absurd h' (by simp)
  | some q =>
   obtain ⟨l0, n0⟩ := q
   have h' : (match getJk k e sz b with | some (l, n) => some (([(k, l)] : Ob), fun (R : Type) (r : R) => ((n, r) : Nat × R)) | none => none) = some (l, g) := h
   rw [hr] at h'
   have h1 : [(k, l0)] = l := congrArg Prod.fst (Option.some.inj h')
   have h2 := congrArg Prod.snd (Option.some.inj h')
   have h3 : g = fun R r => (n0, r) := h2.symm
   subst h1; subst h3
   refine ⟨rfl, ?_⟩
   have h4 : l0 = len k := ho (k, l0) (by simp)
   rw [getJk_eq hr, h4]
   exact BlkWk.rfl _
 | map kt =>
  cases hr : getMp kt b with
  | none =>
   have h' : (match getMp kt b with | some es => some (([] : Ob), fun (R : Type) (r : R) => ((es, r) : List (τ kt × Int) × R)) | none => none) = some (l, g) := h
   rw [hr] at h'
   exact absurd h' (by simp)
  | some es =>
   have h' : (match getMp kt b with | some es => some (([] : Ob), fun (R : Type) (r : R) => ((es, r) : List (τ kt × Int) × R)) | none => none) = some (l, g) := h
   rw [hr] at h'
   have h2 := congrArg Prod.snd (Option.some.inj h')
   have h3 : g = fun R r => (es, r) := h2.symm
   subst h3
   refine ⟨rfl, ?_⟩
   rw [getMp_eq hr]
   exact BlkWk.rfl _
 | row e c ap fr =>
  cases hr : getRow k e c ap fr b with
  | none =>
   have h' : (match getRow k e c ap fr b with | some ys => some (([] : Ob), fun (R : Type) (r : R) => ((ys, r) : List (τ c) × R)) | none => none) = some (l, g) := h
   rw [hr] at h'
   exact absurd h' (by simp)
  | some ys =>
   have h' : (match getRow k e c ap fr b with | some ys => some (([] : Ob), fun (R : Type) (r : R) => ((ys, r) : List (τ c) × R)) | none => none) = some (l, g) := h
   rw [hr] at h'
   have h2 := congrArg Prod.snd (Option.some.inj h')
   have h3 : g = fun R r => (ys, r) := h2.symm
   subst h3
   refine ⟨rfl, ?_⟩
   rw [getRow_wk hr]
   exact BlkWk.rfl _
def MemT : List (Nat × BP) -> Type -> Type
 | [], R => R
 | p :: ps, R => p.2.T (MemT ps R)
def putMem (len : Nat -> Nat) : (ps : List (Nat × BP)) -> {R : Type} -> MemT ps R -> List (Nat × Blk) × R
 | [], _, r => ([], r)
 | p :: ps, _, x => ((p.1, (p.2.put len p.1 x).1) :: (putMem len ps (p.2.put len p.1 x).2).1, (putMem len ps (p.2.put len p.1 x).2).2)
def getMem : (ps : List (Nat × BP)) -> List (Nat × Blk) -> Option (Ob × ∀ R : Type, R -> MemT ps R)
 | [], [] => some ([], fun _ r => r)
 | p :: ps, c :: cs => match Nat.beq p.1 c.1, p.2.get p.1 c.2, getMem ps cs with
  | true, some (l1, g1), some (l2, g2) => some (l1 ++ l2, fun R r => g1 _ (g2 R r))
  | _, _, _ => none
 | _, _ => none
def MemWk : List (Nat × Blk) -> List (Nat × Blk) -> Prop
 | [], [] => True
 | c :: cs, d :: ds => c.1 = d.1 /\ BlkWk c.2 d.2 /\ MemWk cs ds
 | _, _ => False
theorem getMem_put {len : Nat -> Nat} : ∀ {ps : List (Nat × BP)} {cs : List (Nat × Blk)} {l : Ob} {g : ∀ R : Type, R -> MemT ps R}, getMem ps cs = some (l, g) -> ObOk len l -> ∀ (R : Type) (r : R), (putMem len ps (g R r)).2 = r /\ MemWk cs (putMem len ps (g R r)).1
 | [], [], l, g, h, ho, R, r => by cases h; exact ⟨rfl, trivial⟩
 | [], _ :: _, l, g, h, ho, R, r => by cases h
 | _ :: _, [], l, g, h, ho, R, r => by cases h
 | p :: ps, c :: cs, l, g, h, ho, R, r => by
  unfold getMem at h
  split at h
  . rename_i l1 g1 l2 g2 h0 h1 h2
    cases h
    obtain ⟨a1, a2⟩ := BP.get_put h1 ho.left _ (g2 R r)
    obtain ⟨b1, b2⟩ := getMem_put h2 ho.right R r
    simp only [putMem]
    rw [a1]
    exact ⟨b1, (Nat.eq_of_beq_eq_true h0).symm, a2, b2⟩
  . cases h
def memLen : (ps : List (Nat × BP)) -> {R : Type} -> MemT ps R -> Nat -> Nat
 | [], _, _, _ => 0
 | (q, .row e c ap fr) :: ps, _, (xs, x), k => match Nat.beq q k with | true => xs.length | false => memLen ps x k
 | (q, .cells cs) :: ps, _, x, k => memLen ps (skipPts cs x) k
 | (q, .map kt) :: ps, _, (es, x), k => memLen ps x k
 | (q, .junk e sz) :: ps, _, (n, x), k => match Nat.beq q k with | true => n | false => memLen ps x k
 | (q, .bx _ _) :: ps, _, x, k => memLen ps x k
 | (q, .buf _) :: ps, _, (_, x), k => memLen ps x k
 | (q, .deep _ _ _) :: ps, _, (xs, x), k => match Nat.beq q k with | true => xs.length | false => memLen ps x k
 | (q, .deepH _ _ _ _) :: ps, _, (_, xs, x), k => match Nat.beq q k with | true => xs.length | false => memLen ps x k

structure SP where
 n : Nat
 env : List (Nat × VP)
 mem : List (Nat × BP)
def SP.T (sp : SP) : Type := EnvT sp.env (MemT sp.mem Unit)
def SP.len (sp : SP) (x : sp.T) : Nat -> Nat := memLen sp.mem (putEnv (fun _ => 0) sp.env x).2
def SP.put (sp : SP) (x : sp.T) : St :=
 ⟨sp.n, (putEnv (sp.len x) sp.env x).1, (putMem (sp.len x) sp.mem (putEnv (sp.len x) sp.env x).2).1⟩
def SP.get (sp : SP) (s : St) : Option (Ob × sp.T) :=
 match Nat.beq s.n sp.n, getEnv sp.env s.env, getMem sp.mem s.mem with
 | true, some (l1, g1), some (l2, g2) => some (l1 ++ l2, g1 _ (g2 Unit ()))
 | _, _, _ => none
def grdOb {α : Type} (len : Nat -> Nat) : Ob -> Tr α -> Tr α
 | [], T => T
 | (k, n) :: r, T => .grd (decide (n = len k)) (grdOb len r T)
theorem eval_grdOb {α : Type} {len : Nat -> Nat} : ∀ {l : Ob} {T : Tr α} {a : α}, (grdOb len l T).eval = some a -> ObOk len l /\ T.eval = some a
 | [], T, a, h => ⟨fun q hq => (by cases hq), h⟩
 | (k, n) :: r, T, a, h => by
  obtain ⟨h1, h2⟩ := Tr.eval_grd h
  obtain ⟨h3, h4⟩ := eval_grdOb h2
  refine ⟨fun q hq => ?_, h4⟩
  rcases List.mem_cons.1 hq with rfl | hq
  . simpa using h1
  . exact h3 q hq

theorem SP.get_put {sp : SP} {s : St} {l : Ob} {x : sp.T} (h : sp.get s = some (l, x)) (hob0 : ObOk (sp.len x) l) : s.n = (sp.put x).n /\ EnvWk s.env (sp.put x).env /\ MemWk s.mem (sp.put x).mem := by
 unfold SP.get at h
 split at h
 . rename_i l1 g1 l2 g2 h0 h1 h2
   have ho := congrArg Prod.fst (Option.some.inj h)
   have hx := congrArg Prod.snd (Option.some.inj h)
   simp only at ho hx
   subst hx
   subst ho
   have skip0 : ∀ (len : Nat -> Nat), ObOk len l1 -> (putEnv len sp.env (g1 _ (g2 Unit ()))).2 = g2 Unit () := fun len hl => (getEnv_put h1 hl _ _).1
   have skip : ∀ (len : Nat -> Nat), (putEnv len sp.env (g1 _ (g2 Unit ()))).2 = g2 Unit () := by
    intro len
    have e : ∀ len len' : Nat -> Nat, (putEnv len sp.env (g1 _ (g2 Unit ()))).2 = (putEnv len' sp.env (g1 _ (g2 Unit ()))).2 := by
     intro len len'
     have ePt : ∀ (p : Pt) {R : Type} (x : p.T R), (p.put len x).2 = (p.put len' x).2 := by
      intro p R x; cases p <;> rfl
     have ePts : ∀ (ps : List Pt) {R : Type} (x : PtsT ps R), (putPts len ps x).2 = (putPts len' ps x).2 := by
      intro ps
      induction ps with
      | nil => intro R x; rfl
      | cons p ps ih => intro R x; simp only [putPts]; rw [ePt p x]; exact ih _
     have eV1 : ∀ (p : VP1) {R : Type} (x : p.T R), (p.put len x).2 = (p.put len' x).2 := by
      intro p R x
      cases p with
      | one p => exact ePt p x
      | agg ps => exact ePts ps x
     have eVs : ∀ (ps : List VP1) {R : Type} (x : VPsT ps R), (putVs len ps x).2 = (putVs len' ps x).2 := by
      intro ps
      induction ps with
      | nil => intro R x; rfl
      | cons p ps ih => intro R x; simp only [putVs]; rw [eV1 p x]; exact ih _
     have eV : ∀ (p : VP) {R : Type} (x : p.T R), (p.put len x).2 = (p.put len' x).2 := by
      intro p R x
      cases p with
      | v p => exact eV1 p x
      | tup ps => exact eVs ps x
     have eE : ∀ (ps : List (Nat × VP)) {R : Type} (x : EnvT ps R), (putEnv len ps x).2 = (putEnv len' ps x).2 := by
      intro ps
      induction ps with
      | nil => intro R x; rfl
      | cons p ps ih => intro R x; simp only [putEnv]; rw [eV p.2 x]; exact ih _
     exact eE _ _
    rw [e len (sp.len (g1 _ (g2 Unit ())))]
    exact skip0 _ (fun q hq => hob0 q (List.mem_append_left _ hq))
   have hob : ∀ q ∈ l1 ++ l2, q.2 = sp.len (g1 _ (g2 Unit ())) q.1 := hob0
   refine ⟨Nat.eq_of_beq_eq_true h0, (getEnv_put h1 (fun q hq => hob q (List.mem_append_left _ hq)) _ _).2, ?_⟩
   unfold SP.put
   simp only
   rw [skip]
   exact (getMem_put h2 (fun q hq => hob q (List.mem_append_right _ hq)) _ _).2
 . cases h

theorem EnvWk.get : ∀ {cs ds : List (Nat × V)}, EnvWk cs ds -> ∀ t, (look t cs = none /\ look t ds = none) \/ ∃ x y, look t cs = some x /\ look t ds = some y /\ WkX x y
 | [], [], h, t => .inl ⟨rfl, rfl⟩
 | c :: cs, d :: ds, h, t => by
  obtain ⟨h1, h2, h3⟩ := h
  obtain ⟨a, b⟩ := c; obtain ⟨a', b'⟩ := d
  simp only at h1 h2; subst h1
  rw [look_cons, look_cons]
  by_cases e : a = t
  . rw [if_pos e, if_pos e]; exact .inr ⟨_, _, rfl, rfl, h2⟩
  . rw [if_neg e, if_neg e]; exact EnvWk.get h3 t
 | [], _ :: _, h, t => h.elim
 | _ :: _, [], h, t => h.elim
theorem MemWk.get : ∀ {cs ds : List (Nat × Blk)}, MemWk cs ds -> ∀ t, OptWk (look t cs) (look t ds)
 | [], [], h, t => trivial
 | c :: cs, d :: ds, h, t => by
  obtain ⟨h1, h2, h3⟩ := h
  obtain ⟨a, b⟩ := c; obtain ⟨a', b'⟩ := d
  simp only at h1 h2; subst h1
  rw [look_cons, look_cons]
  by_cases e : a = t
  . rw [if_pos e, if_pos e]; exact h2
  . rw [if_neg e, if_neg e]; exact MemWk.get h3 t
 | [], _ :: _, h, t => h.elim
 | _ :: _, [], h, t => h.elim

theorem RepV.wkX {w : World} {β : Nat -> Option Place} {U : Nat -> Prop} {base : Nat} {v : Value} {x y : V} (h : RepV w β U base v x) (hw : WkX x y) : RepV w β U base v y := by
 rcases hw with hw | ⟨vs, vs', rfl, rfl, hw⟩
 . exact h.wk hw
 . cases h with
   | tup us _ hl h =>
    obtain ⟨h1, h2⟩ := WkVs_get hw
    refine .tup us vs' (by omega) fun j u x hu hx => ?_
    have hj : j < vs.length := by have := (List.getElem?_eq_some_iff.1 hx).1; omega
    exact (h j u _ hu (List.getElem?_eq_getElem hj)).wk (h2 j _ x (List.getElem?_eq_getElem hj) hx)

structure StWk (s s' : St) : Prop where
 n : s.n = s'.n
 env : EnvWk s.env s'.env
 mem : MemWk s.mem s'.mem
theorem SP.wk {sp : SP} {s : St} {l : Ob} {x : sp.T} (h : sp.get s = some (l, x)) (ho : ObOk (sp.len x) l) : StWk s (sp.put x) := ⟨(SP.get_put h ho).1, (SP.get_put h ho).2.1, (SP.get_put h ho).2.2⟩

theorem SimB.stWk {w0 : World} {U0 : Nat -> Prop} {X : Nat -> Nat -> Prop} {β0 β : Nat -> Option Place} {U : Nat -> Prop} {s s' : St} {a : Act} {w : World} (h : SimB w0 U0 X β0 β U s a w) (hw : StWk s s') : SimB w0 U0 X β0 β U s' a w := by
 have h1 : SimB w0 U0 X β0 β U { s with env := s'.env } a w := { h with
  env := fun t => by
   rcases hw.env.get t with ⟨e1, e2⟩ | ⟨x, y, e1, e2, e3⟩
   . have := h.env t
     unfold St.get at this ⊢
     rw [e2]; exact .bad _
   . have := h.env t
     unfold St.get at this ⊢
     rw [e1] at this; rw [e2]
     exact this.wkX e3 }
 exact h1.blkWk hw.n.symm rfl (fun k => hw.mem.get k)
theorem Sim.stWk {w0 : World} {U0 : Nat -> Prop} {X : Nat -> Nat -> Prop} {β0 : Nat -> Option Place} {s s' : St} {a : Act} {w : World} (h : Sim w0 U0 X β0 s a w) (hw : StWk s s') : Sim w0 U0 X β0 s' a w := by
 obtain ⟨β, U, hb⟩ := h
 exact ⟨β, U, hb.stWk hw⟩
end Go.Proofs.YtaeeadldamflcaaGreatDoor.Abs
namespace Go.Proofs.YtaeeadldamflcaaGreatDoor.Abs
open Go Go.RowKit
set_option linter.unusedVariables false
set_option linter.unusedSimpArgs false

abbrev Kn := List (Nat × Bool)
abbrev Log := List (List Nat × List Nat)

def unKn (d : Nat) : Kn -> Kn
 | [] => []
 | (t, b) :: r => match Nat.beq t d with | true => unKn d r | false => (t, b) :: unKn d r
def knPut (kn : Kn) (dst : Option Nat) (b : Option Bool) : Kn :=
 match dst with
 | none => kn
 | some d => match b with | some b => (d, b) :: unKn d kn | none => unKn d kn
def known (kn : Kn) : Operand -> Option Bool
 | .tmp t => look t kn
 | .const (.bool b) => some b
 | _ => none

def KnOk (kn : Kn) (s : St) : Prop := ∀ t b, look t kn = some b -> s.get t = vb b

def ownKeys : List C -> List Nat
 | [] => []
 | .own k _ _ :: r => k :: ownKeys r
 | .dp k _ _ _ :: r => k :: ownKeys r
 | _ :: r => ownKeys r
def V.own1 : V -> List Nat
 | .one c => ownKeys [c]
 | .agg cs => ownKeys cs
 | .tup _ => []
def V.owns : V -> List Nat
 | .tup vs => vs.flatMap V.own1
 | v => v.own1
def newNames (old : List Nat) : Nat -> List Nat -> List (Nat × Nat)
 | _, [] => []
 | j, k :: r => match old.contains k with
  | true => newNames old j r
  | false => (k, j) :: newNames (k :: old) (j + 1) r
def ownsOf (m : Nat -> Option Blk) : List V -> List Nat
 | [] => []
 | .one (.ptr k _) :: r => match m k with
  | some (.cells cs) => ownKeys cs ++ ownsOf m r
  | some (.bx _ (some q)) => q.1 :: ownsOf m r
  | _ => ownsOf m r
 | .one (.dp k _ _ _) :: r => k :: ownsOf m r
 | .one (.dpr k _ _ _ _) :: r => k :: ownsOf m r
 | v :: r => v.own1 ++ ownsOf m r
def ownsOfS (m : Nat -> Option Blk) : List V -> List Nat
 | [] => []
 | .one (.ptr k _) :: r => match m k with
  | some (.cells cs) => (cs.flatMap fun c => match c with | .own k _ _ => [k] | .sub k _ _ _ _ => [k] | _ => []) ++ ownsOfS m r
  | _ => ownsOfS m r
 | _ :: r => ownsOfS m r
def capsOf : List V -> List Nat
 | [] => []
 | .one (.clp _ ks) :: r => ks.map (·.1) ++ capsOf r
 | _ :: r => capsOf r
def ksPtr (args : List V) : List (Nat × Nat) := ksOf 0 args ++ newNames ((ksOf 0 args).map (·.1)) 1000200 (capsOf args)
def pickM (mode : Nat) : List Nat -> List V -> List V
 | m :: ms, v :: vs => match Nat.beq m mode with
  | true => v :: pickM mode ms vs
  | false => pickM mode ms vs
 | _, _ => []
def stayKeys : List V -> List Nat
 | [] => []
 | .one (.own k _ _) :: r => k :: stayKeys r
 | .one (.pre k _ _ _) :: r => k :: stayKeys r
 | .one (.dp k _ _ _) :: r => k :: stayKeys r
 | .one (.dpr k _ _ _ _) :: r => k :: stayKeys r
 | _ :: r => stayKeys r
def ksAll (m : Nat -> Option Blk) (args : List V) (ms : List Nat) : List (Nat × Nat) := ksPtr args ++ newNames [] 1000100 (ownsOf m (pickM 1 ms args) ++ ownsOfS m (pickM 3 ms args)) ++ newNames (ownsOf m (pickM 1 ms args) ++ ownsOfS m (pickM 3 ms args)) 1500100 (stayKeys (pickM 2 ms args))
def bxLinks (m : Nat -> Option Blk) : List (Nat × Nat) -> List Nat
 | [] => []
 | p :: r => match m p.1 with
  | some (.bx _ (some q)) => q.1 :: bxLinks m r
  | _ => bxLinks m r
def withBx (m : Nat -> Option Blk) (ks : List (Nat × Nat)) : List (Nat × Nat) := match bxLinks m ks with
 | [] => ks
 | k :: r => ks ++ newNames (ks.map (·.1)) 1000300 (k :: r)
def ksFor (own : List Nat) (m : Nat -> Option Blk) (args : List V) : List (Nat × Nat) := withBx m (match own with | [] => ksPtr args | m1 :: ms => ksAll m args (m1 :: ms))
def rowB : Option Blk -> Bool
 | some (.row _ _ _ _ _ _) => true
 | some (.rowT _ _ _ _ _ _) => true
 | some (.deep _ _ _ _ _ _) => true
 | _ => false
def lockK (ks : List (Nat × Nat)) (m : Nat -> Option Blk) : List Nat -> Bool
 | [] => false
 | k :: r => match look k ks with
  | some _ => lockK ks m r
  | none => match rowB (m k) with
   | true => true
   | false => lockK ks m r
def lockOf (ks : List (Nat × Nat)) (m : Nat -> Option Blk) (vals : List V) : Bool := lockK ks m (vals.flatMap V.keysA ++ ks.flatMap fun p => cellKeys (m p.1))

variable (P : Program) (cod : TypeId -> Nat) (own : FuncId -> List Nat) (call : FuncId -> List V -> Mem -> Tr (V × Mem)) {ρ : Type}

def execCall0 (o : Oper) (kn : Kn) (s : St) (K : Kn -> List Nat -> List Nat -> St -> Tr ρ) (f : FuncId) (caps : List V) (args : List Operand) : Tr ρ :=
 match viewMem s.blk (sigIn s.blk (ksFor (own f) s.blk (args.map s.eval ++ caps))) (lockOf (ksFor (own f) s.blk (args.map s.eval ++ caps)) s.blk (args.map s.eval ++ caps)) (ksFor (own f) s.blk (args.map s.eval ++ caps)) with
 | none => .fail 11
 | some m1 => match canEnter P f && okKs (ksFor (own f) s.blk (args.map s.eval ++ caps)) && decide ((args.length + caps.length) <= 900) with
  | true => (call f ((args.map s.eval ++ caps).map (viewV s.blk (sigIn s.blk (ksFor (own f) s.blk (args.map s.eval ++ caps))) (lockOf (ksFor (own f) s.blk (args.map s.eval ++ caps)) s.blk (args.map s.eval ++ caps)))) m1).bind fun rm =>
   match callOut s (ksFor (own f) s.blk (args.map s.eval ++ caps)) (lockOf (ksFor (own f) s.blk (args.map s.eval ++ caps)) s.blk (args.map s.eval ++ caps)) o.dst rm.1 rm.2 with
   | some E => K (knPut kn o.dst none) (callRK (ksFor (own f) s.blk (args.map s.eval ++ caps)) s.blk (args.map s.eval ++ caps)) (E.mem.map (·.1)) (s.out o.dst E)
   | none => .fail 12
  | false => .fail 13

def dpKeys : List V -> List Nat
 | [] => []
 | .one (.dp k _ _ _) :: r => k :: dpKeys r
 | .one (.dpr k _ _ _ _) :: r => k :: dpKeys r
 | _ :: r => dpKeys r
def tidyFst (s : St) : List Nat -> List (Nat × Blk)
 | [] => []
 | k :: r => match tidyL s k with
  | [] => tidyFst s r
  | p :: l => p :: l
def execCall (o : Oper) (kn : Kn) (s : St) (K : Kn -> List Nat -> List Nat -> St -> Tr ρ) (f : FuncId) (caps : List V) (args : List Operand) : Tr ρ :=
 match own f with
 | [] => execCall0 P own call o kn s K f caps args
 | m1 :: ms => match tidyFst s (dpKeys (pickM 1 (m1 :: ms) (args.map s.eval) ++ pickM 2 (m1 :: ms) (args.map s.eval))) with
  | [] => execCall0 P own call o kn s K f caps args
  | p :: l => execCall0 P own call o kn (s.upd (p :: l)) (fun kn' R W s' => K kn' R (W ++ (p :: l).map (·.1)) s') f caps args

def execOp (o : Oper) (kn : Kn) (s : St) (K : Kn -> List Nat -> List Nat -> St -> Tr ρ) : Tr ρ :=
 match o.op with
 | .pick c a b => match known kn c with
  | some t => match t with
   | true => K (knPut kn o.dst (known kn a)) [] [] (s.put o.dst (s.eval a))
   | false => K (knPut kn o.dst (known kn b)) [] [] (s.put o.dst (s.eval b))
  | none => match s.eval c with
   | .one (.d (.b t)) => .ite t (K (knPut kn o.dst (known kn a)) [] [] (s.put o.dst (s.eval a))) (K (knPut kn o.dst (known kn b)) [] [] (s.put o.dst (s.eval b)))
   | _ => .fail 1
 | .assign x => K (knPut kn o.dst (known kn x)) [] [] (s.put o.dst (s.eval x))
 | .move x => K (knPut kn o.dst (known kn x)) [] [] (s.put o.dst (s.eval x))
 | .call { callee := .value fo, args, .. } => match cloOf (s.eval fo) with
  | some (f, caps) => execCall P own call o kn s K f caps args.toList
  | none => .fail 2
 | .lookup t x i ok => .fail 3
 | .mapEntry t x i => .fail 3
 | op => match effS P o.dst op s.eval s.blk with
  | some T => T.bind fun E => K (knPut kn o.dst none) (effKeys o.dst op s.eval) (E.mem.map (·.1)) (s.out o.dst E)
  | none => match effD P cod o.dst op s.eval s.blk with
  | some T => T.bind fun E => K (knPut kn o.dst none) (effKeys o.dst op s.eval) (E.mem.map (·.1)) (s.out o.dst E)
  | none => match effJ P o.dst op s.eval s.blk with
  | some T => T.bind fun E => K (knPut kn o.dst none) (effKeys o.dst op s.eval) (E.mem.map (·.1)) (s.out o.dst E)
  | none => match effZ P cod o.dst op s.eval s.blk with
  | some T => T.bind fun E => K (knPut kn o.dst none) (effKeys o.dst op s.eval) (E.mem.map (·.1)) (s.out o.dst E)
  | none => match effX P cod o.dst op s.eval s.blk with
  | some T => T.bind fun E => K (knPut kn o.dst none) (effKeys o.dst op s.eval) (E.mem.map (·.1)) (s.out o.dst E)
  | none => match effPX P cod o.dst op s.eval s.blk with
  | some T => T.bind fun E => K (knPut kn o.dst none) (effKeys o.dst op s.eval) (E.mem.map (·.1)) (s.out o.dst E)
  | none => match eff P o.dst op s.eval s.blk with
   | some E => K (knPut kn o.dst none) (effKeys o.dst op s.eval) (E.out.mem.map (·.1)) (s.out o.dst E.out)
   | none => match effP P cod o.dst op s.eval s.blk with
    | some T => T.bind fun E => K (knPut kn o.dst none) (effKeys o.dst op s.eval) (E.mem.map (·.1)) (s.out o.dst E)
    | none => .fail 3

def execOps (ops : Array Oper) : List Oper -> Kn -> Log -> St -> (Kn -> Log -> St -> Tr ρ) -> Tr ρ
 | [], kn, log, s, K => K kn log s
 | o :: rest, kn, log, s, K =>
  match dstOk s o.dst with
  | false => .fail 4
  | true => match o.guard with
   | none => execOp P cod own call o kn s fun kn' R W s' => execOps ops rest kn' (log ++ [(R, W)]) s' K
   | some (j, want) => match (ops[j]?).bind (·.dst) with
    | none => .fail 5
    | some t => match look t kn with
     | some b => match b == want with
      | true => execOp P cod own call o kn s fun kn' R W s' => execOps ops rest kn' (log ++ [(R, W)]) s' K
      | false => execOps ops rest (knPut kn o.dst none) (log ++ [([], [])]) (s.put o.dst (.one .un)) K
     | none => match s.get t with
      | .one .un => execOps ops rest (knPut kn o.dst none) (log ++ [([], [])]) (s.put o.dst (.one .un)) K
      | .one (.d (.b c)) => match want with
       | true => .ite c (execOp P cod own call o ((t, true) :: kn) s fun kn' R W s' => execOps ops rest kn' (log ++ [(R, W)]) s' K)
        (execOps ops rest (knPut ((t, false) :: kn) o.dst none) (log ++ [([], [])]) (s.put o.dst (.one .un)) K)
       | false => .ite c (execOps ops rest (knPut ((t, true) :: kn) o.dst none) (log ++ [([], [])]) (s.put o.dst (.one .un)) K)
        (execOp P cod own call o ((t, false) :: kn) s fun kn' R W s' => execOps ops rest kn' (log ++ [(R, W)]) s' K)
      | _ => .fail 6

def lid : Code -> Nat
 | .region id _ _ => id
 | .seq a _ => lid a
 | .block _ b => lid b
 | .loop b => lid b
 | .cond _ a _ => lid a
 | .scope b => lid b
 | _ => 0

def tidyP (mem : List (Nat × BP)) : List (Nat × Nat) -> St -> St
 | [], s => s
 | q :: r, s => match look q.2 mem with
  | some (.deep _ _ _) => tidyP mem r (s.upd (tidyL s q.1))
  | _ => tidyP mem r s
def normGet (ks : List (Nat × Nat)) (sp : SP) (s : St) : Option (Ob × sp.T) :=
 match (tidyP sp.mem ks s).norm false (sp.env.map (·.1)) ks with
 | some s1 => sp.get s1
 | none => none
def ghostC (t : Nat) (e : TypeId) (c : Nat) (s : St) : St := match s.blk ((t - 1000000) / 64), s.blk (t - 40000), Nat.blt t 1040000 with
 | some (.cells cs), none, true => match cs[(t - 1000000) % 64]? with
  | some .nil => { n := s.n, env := s.env, mem := ((t - 1000000) / 64, .cells (cs.set ((t - 1000000) % 64) (.own (t - 40000) 0 0))) :: (t - 40000, .rowT 0 e c true true []) :: s.mem }
  | _ => s
 | _, _, _ => s
def ghostSt : List (Nat × TypeId × Nat) -> St -> St
 | [], s => s
 | (t, e, c) :: r, s => match Nat.blt t 1000000 with
  | true => match s.get t, s.blk t with
   | .one .nil, none => ghostSt r { n := s.n, env := (t, .one (.own t 0 0)) :: s.env, mem := (t, .rowT 0 e c true true []) :: s.mem }
   | _, _ => ghostSt r s
  | false => ghostSt r (ghostC t e c s)
structure EX where
 e : Option Nat
 ks : List (Nat × Nat)
 sp : SP
def EX.exit (x : EX) : Exit := match x.e with | some id => .exit id | none => .ret
def EX.hits (x : EX) (e : Exit) : Bool :=
 match x.e with
 | some id => match e with | .exit id' => Nat.beq id id' | _ => false
 | none => match e with | .ret => true | _ => false
structure LS where
 id : Nat
 ks : List (Nat × Nat)
 sp : SP
 es : List EX
 gs : List (Nat × TypeId × Nat)
def ExT : List EX -> Type
 | [] => Empty
 | [x] => x.sp.T
 | x :: y :: r => x.sp.T ⊕ ExT (y :: r)
def exInj : (es : List EX) -> Exit -> St -> Option (Tr (ExT es))
 | [], _, _ => none
 | [x], e, s => match x.hits e with
  | true => match normGet x.ks x.sp s with
   | some (g, y) => some (grdOb (x.sp.len y) g (.ret y))
   | none => some (.stuck 997 s)
  | false => none
 | x :: y :: r, e, s => match x.hits e with
  | true => match normGet x.ks x.sp s with
   | some (g, y) => some (grdOb (x.sp.len y) g (.ret (.inl y)))
   | none => some (.stuck 997 s)
  | false => match exInj (y :: r) e s with
   | some T => some (T.map .inr)
   | none => none
def exOut : (es : List EX) -> ExT es -> Tr (Exit × St)
 | [], o => nomatch o
 | [x], o => .ret (x.exit, x.sp.put o)
 | x :: y :: r, o => .sum o (fun a => .ret (x.exit, x.sp.put a)) (fun b => exOut (y :: r) b)
def loopO {A B : Type} (tag : Nat) (f : A -> Option (A ⊕ B)) : Nat -> A -> Option B
 | 0, _ => none
 | n + 1, a => match f a with
  | none => none
  | some (.inl a') => loopO tag f n a'
  | some (.inr b) => some b
def loopK (L : LS) (e : Exit) (s : St) : Tr (L.sp.T ⊕ ExT L.es) :=
 match (match e with | .normal => true | _ => false) with
 | true => match normGet L.ks L.sp (ghostSt L.gs s) with
  | some (g, y) => grdOb (L.sp.len y) g (.ret (.inl y))
  | none => .stuck 996 s
 | false => match exInj L.es e s with
  | some T => T.map .inr
  | none => .stuck (match e with | .exit id => 2000 + id | .ret => 1999 | _ => 1998) s
def findL (id : Nat) : List LS -> Option LS
 | [] => none
 | L :: r => match Nat.beq L.id id with | true => some L | false => findL id r

def jid : Code -> Nat
 | .region id _ _ => id
 | .block id _ => 20000 + id
 | .cond _ a b => 40000 + (match lid a with | 0 => lid b | n + 1 => n + 1)
 | .seq a _ => 60000 + lid a
 | _ => 80000
def joinK (fi j : Nat) (L : LS) (e : Exit) (s : St) : Tr (ExT L.es) :=
 match (match e with | .normal => some (Exit.exit 9998) | .exit id => (match Nat.beq id 9998 with | true => none | false => some (.exit id)) | e => some e) with
 | none => .fail 15
 | some e' => match exInj L.es e' s with
  | some T => T
  | none => .stuck (1000000000 + (fi * 100000 + j) * 10000 + (match e' with | .exit id => id | _ => 9999)) s
def unJ : Exit -> Exit
 | .exit id => match Nat.beq id 9998 with | true => .normal | false => .exit id
 | e => e
def bDsts : Code -> List Nat
 | .region _ ops _ => ops.toList.filterMap fun o => o.dst
 | .seq a b => bDsts a ++ bDsts b
 | .cond _ a b => bDsts a ++ bDsts b
 | .block _ b => bDsts b
 | .loop b => bDsts b
 | _ => []
def dedup : List Nat -> List Nat -> List Nat
 | [], acc => acc.reverse
 | k :: r, acc => match acc.contains k with | true => dedup r acc | false => dedup r (k :: acc)
def trimR (body : Code) (s : St) : Option St := s.norm false (List.range s.n) (((dedup (s.mem.map (·.1)) []).filter fun k => !(bDsts body).contains k).map fun k => (k, k))
def iterT {ρ : Type} : Nat -> ((Kn -> St -> Tr ρ) -> Kn -> St -> Tr ρ) -> Kn -> St -> Tr ρ
 | 0, _, _, _ => .fail 14
 | n + 1, F, kn, s => F (iterT n F) kn s

variable (Λ : List LS) (fi : Nat)

def exec : Code -> (ρ : Type) -> Kn -> St -> (Exit -> Kn -> St -> Tr ρ) -> Tr ρ
 | .skip, _, kn, s, K => K .normal kn s
 | .region _ ops draw, _, kn, s, K => match draw with
  | false => execOps P cod own call ops ops.toList kn [] s fun kn' _ s' => K .normal kn' s'
  | true => match P.follows .mixedOrders with
   | true => execOps P cod own call ops ops.toList kn [] s fun kn' log s' => match okOrder ops log with
    | true => K .normal kn' s'
    | false => .fail 7
   | false => .fail 7
 | .seq a b, ρ, kn, s, K => match findL (100000 + jid a) Λ with
  | none => exec a ρ kn s fun e kn' s' => match e with
   | .normal => exec b ρ kn' s' K
   | e => K e kn' s'
  | some L => .opt (exec a (ExT L.es) kn s fun e _ s' => joinK fi (jid a) L e s').eval fun o =>
    (exOut L.es o).bind fun es => match unJ es.1 with
     | .normal => exec b ρ [] es.2 K
     | e => K e [] es.2
 | .cond c a b, ρ, kn, s, K => match known kn c with
  | some t => match t with
   | true => exec a ρ kn s K
   | false => exec b ρ kn s K
  | none => match s.eval c with
   | .one (.d (.b t)) => match c with
    | .tmp j => .ite t (exec a ρ ((j, true) :: kn) s K) (exec b ρ ((j, false) :: kn) s K)
    | _ => .ite t (exec a ρ kn s K) (exec b ρ kn s K)
   | _ => .fail 8
 | .block id body, ρ, kn, s, K => exec body ρ kn s fun e kn' s' => match e with
  | .exit id' => match Nat.beq id' id with
   | true => K .normal kn' s'
   | false => K (.exit id') kn' s'
  | e => K e kn' s'
 | .loop body, ρ, kn, s, K => match findL (lid body) Λ with
  | none => .stuck (10000 * (fi + 1) + lid body) s
  | some L => match L.sp.n with
   | 0 => iterT 70 (fun again kn s => exec body ρ kn s fun e kn' s' => match e with
    | .normal => (match trimR body s' with | some s2 => again [] s2 | none => .fail 16)
    | e => K e kn' s') kn s
   | _ + 1 => match normGet L.ks L.sp (ghostSt L.gs s) with
    | none => .stuck (10000 * (fi + 1) + 5000 + lid body) s
    | some (g, x) => grdOb (L.sp.len x) g (.opt (loopO (10000 * fi + L.id) (fun x => (exec body (L.sp.T ⊕ ExT L.es) [] (L.sp.put x) fun e _ s' => loopK L e s').eval) 18446744073709551616 x) fun o =>
      (exOut L.es o).bind fun es => K es.1 [] es.2)
 | .exit id, _, kn, s, K => K (.exit id) kn s
 | .ret, _, kn, s, K => K .ret kn s
 | _, _, _, _, _ => .fail 9

def V.ptr1 : V -> List Nat
 | .one (.ptr k _) => [k]
 | .agg cs => cs.flatMap fun c => match c with | .ptr k _ => [k] | _ => []
 | _ => []
def V.ptrs : V -> List Nat
 | .tup vs => vs.flatMap V.ptr1
 | v => v.ptr1
def inKs (mem : Mem) (k : Nat) : List Nat := match look k mem with
 | some (.cells cs) => cs.flatMap fun c => match c with | .own k _ _ => [k] | .ptr k _ => [k] | _ => []
 | some (.bx _ (some q)) => [q.1]
 | _ => []
def endKs (m mem : Mem) (v : V) : List (Nat × Nat) := m.map (fun p => (p.1, p.1)) ++ newNames (m.map (·.1)) 2000000 (v.owns ++ (v.ptrs ++ (v.ptrs ++ m.map (·.1)).flatMap (inKs mem)))

structure FS (P : Program) where
 f : FuncId
 ap : List VP1
 rp : SP
 fn : VPsT ap Unit -> Option rp.T
 ok : ∀ x r, fn x = some r -> ACall P f (putVs (fun _ => 0) ap x).1 [] fun r' m' => r' = (rp.put r).get 0 /\ m' = (rp.put r).mem
structure PF (P : Program) where
 f : FuncId
 own : List Nat
 tr : List V -> Mem -> Option (Tr (V × Mem))
 ok : ∀ ys m T r m', tr ys m = some T -> T.eval = some (r, m') -> ∃ ys' m2, WkVs ys ys' /\ WkM m m2 /\ ACall P f ys' m2 fun r' m'' => r' = r /\ m'' = m'
def findF {P : Program} (f : FuncId) (ys : List V) (m : Mem) : List (PF P) -> Option (Tr (V × Mem))
 | [] => none
 | F :: r => match Nat.beq F.f f with
  | true => match F.tr ys m with
   | some T => some T
   | none => findF f ys m r
  | false => findF f ys m r
def ownF {P : Program} : List (PF P) -> FuncId -> List Nat
 | [], _ => []
 | F :: r, f => match Nat.beq F.f f with
  | true => match F.own with
   | [] => ownF r f
   | m :: ms => m :: ms
  | false => ownF r f

variable (Γ : List (PF P)) (Λs : List (FuncId × LS))
def loopsOf (f : FuncId) : List (FuncId × LS) -> List LS
 | [] => []
 | (g, L) :: r => match Nat.beq g f with | true => L :: loopsOf f r | false => loopsOf f r

def tidyAll : List Nat -> St -> St
 | [], s => s
 | k :: r, s => match tidyL s k with
  | [] => tidyAll r s
  | p :: l => tidyAll r (s.upd (p :: l))
def tidyE (rs : List ResultVar) (m : Mem) (s : St) : St := match resA P rs s with
 | some v => tidyAll (m.map (·.1) ++ v.owns) s
 | none => s
def execEnd0 (rs : List ResultVar) (m : Mem) (e : Exit) (s : St) : Tr (V × Mem) :=
 match (match e with | .normal | .ret => true | _ => false) with
 | true => match resA P rs s with
  | some v => match St.norm true (trimSt { n := 1, env := [(0, v)], mem := s.mem }) [0] (endKs m s.mem ((trimSt { n := 1, env := [(0, v)], mem := s.mem }).get 0)) with
   | some s1 => match s1.env with
    | [(_, r)] => .ret (r, s1.mem)
    | _ => .fail 20
   | none => .fail 21
  | none => .fail 22
 | false => .fail 23
def execEnd (rs : List ResultVar) (m : Mem) (e : Exit) (s : St) : Tr (V × Mem) := execEnd0 P rs m e (tidyE P rs m s)

def execBody (fn : Func) (f : FuncId) (ys : List V) (m : Mem) : Tr (V × Mem) :=
 match fn.body with
 | some c => match decide (fn.ntmps <= 900) && decide (ys.length <= fn.ntmps) with
  | true => exec P cod own call (loopsOf f Λs) f c (V × Mem) [] ⟨fn.ntmps, argsEnv 0 ys, m⟩ fun e _ s => execEnd P fn.results.toList m e s
  | false => .fail 24
 | none => .fail 25

def execSpec (F : FS P) (ys : List V) (m : Mem) : Option (Tr (V × Mem)) :=
 match m with
 | [] => match getVs F.ap ys with
  | some ([], g) => some (.opt (F.fn (g Unit ())) fun r => .ret ((F.rp.put r).get 0, (F.rp.put r).mem))
  | _ => none
 | _ => none

def execFn : Nat -> FuncId -> List V -> Mem -> Tr (V × Mem)
 | 0, _, _, _ => .fail 26
 | n + 1, f, ys, m => match findF f ys m Γ with
  | some T => T
  | none => match P.funcs[f]? with
   | some fn => execBody P cod (ownF Γ) (execFn n) Λs fn f ys m
   | none => .fail 27

def frzC (m : Mem) : C -> C
 | .own k ver len => match look k m with
  | some (.rowT ver' _ c _ fr xs) => if ver = ver' then stC fr c xs else .bad
  | _ => .bad
 | .sub _ _ _ _ _ => .bad
 | .ptr _ _ => .bad
 | .pr _ _ _ _ _ => .bad
 | .asl _ _ _ => .bad
 | .clp _ _ => .bad
 | .mp _ => .bad
 | .pre _ _ _ _ => .bad
 | .dp k ver _ _ => match look k m with
  | some (.deep ver' _ _ c hole xs) => if ver = ver' then (match deepData (fun k => look k m) (fun _ => none) k c hole xs with | some ys => stC true c ys | none => .bad) else .bad
  | _ => .bad
 | .dsub _ _ _ _ _ => .bad
 | .dpr _ _ _ _ _ => .bad
 | c => c
def frzV1 (m : Mem) : V -> V
 | .one c => .one (frzC m c)
 | .agg cs => .agg (cs.map (frzC m))
 | .tup _ => .one .bad
def frzV (m : Mem) : V -> V
 | .tup vs => .tup (vs.map (frzV1 m))
 | v => frzV1 m v

def fnTr (n : Nat) (f : FuncId) (ap : List VP1) (rp : SP) (x : VPsT ap Unit) : Tr rp.T :=
 match P.funcs[f]? with
 | some fn => (execBody P cod (ownF Γ) (execFn P cod Γ Λs n) Λs fn f (putVs (fun _ => 0) ap x).1 []).bind fun rm => match rp.get ⟨1, [(0, frzV rm.2 rm.1)], []⟩ with
  | some (g, y) => grdOb (rp.len y) g (.ret y)
  | none => .stuck 994 ⟨1, [(0, frzV rm.2 rm.1)], rm.2⟩
 | none => .fail 28

def gsTr (n : Nat) (f : FuncId) (ap rp : SP) (x : ap.T) : Tr rp.T :=
 match P.funcs[f]? with
 | some fn => match fn.body with
  | some c => match Nat.beq fn.ntmps ap.n && decide (fn.ntmps <= 900) with
   | true => (exec P cod (ownF Γ) (execFn P cod Γ Λs n) (loopsOf f Λs) f c (V × Mem) [] (ap.put x) fun e _ s => execEnd P fn.results.toList (ap.put x).mem e s).bind fun rm =>
    match normGet (rm.2.map fun p => (p.1, p.1)) rp ⟨1, [(0, rm.1)], rm.2⟩ with
    | some (g, y) => grdOb (rp.len y) g (.ret y)
    | none => .stuck 993 ⟨1, [(0, rm.1)], rm.2⟩
   | false => .fail 24
  | none => .fail 25
 | none => .fail 28
def entryGet (ap : SP) (ys : List V) (m : Mem) : Option (Ob × ap.T) :=
 match decide (ys.length <= ap.n) with
 | true => normGet (m.map fun p => (p.1, p.1)) ap ⟨ap.n, argsEnv 0 ys, m⟩
 | false => none
def gsSpec (ap rp : SP) (fn : ap.T -> Option rp.T) (ys : List V) (m : Mem) : Option (Tr (V × Mem)) :=
 match entryGet ap ys m with
 | some (g, x) => some (grdOb (ap.len x) g (.opt (fn x) fun r => .ret ((rp.put r).get 0, (rp.put r).mem)))
 | none => none
end Go.Proofs.YtaeeadldamflcaaGreatDoor.Abs
namespace Go.Proofs.YtaeeadldamflcaaGreatDoor.Abs
open Go Go.RowKit
set_option linter.unusedVariables false
set_option linter.unusedSimpArgs false

variable {P : Program} {cod : TypeId -> Nat} {own : FuncId -> List Nat} {call : FuncId -> List V -> Mem -> Tr (V × Mem)} {ρ : Type}

theorem trimSt_n (s : St) : (trimSt s).n = s.n := by
 unfold trimSt
 split
 . split
   . split <;> rfl
   . rfl
 . rfl
def CallOk (P : Program) (call : FuncId -> List V -> Mem -> Tr (V × Mem)) : Prop :=
 ∀ f xs m r m', (call f xs m).eval = some (r, m') -> ∃ ys m2, WkVs xs ys /\ WkM m m2 /\ ACall P f ys m2 fun r' m'' => r' = r /\ m'' = m'

theorem look_unKn {d t : Nat} : ∀ {kn : Kn} {b : Bool}, look t (unKn d kn) = some b -> look t kn = some b /\ t ≠ d
 | [], b, h => by cases h
 | (j, c) :: r, b, h => by
  unfold unKn at h
  split at h
  . rename_i e
    have e : j = d := Nat.eq_of_beq_eq_true e
    obtain ⟨h1, h2⟩ := look_unKn h
    refine ⟨?_, h2⟩
    rw [look_cons, if_neg (by rw [e]; exact fun q => h2 q.symm)]; exact h1
  . rename_i e
    have e : j ≠ d := Nat.ne_of_beq_eq_false e
    rw [look_cons] at h ⊢
    split at h
    . rename_i q; rw [if_pos q]; exact ⟨h, by rw [<- q]; exact e⟩
    . rename_i q; rw [if_neg q]; exact look_unKn h

theorem KnOk.put {kn : Kn} {s s' : St} {dst : Option Nat} {v : V} {b : Option Bool} (h : KnOk kn s) (hs : ∀ t, s'.get t = (s.put dst v).get t) (hb : ∀ c, b = some c -> v = vb c) : KnOk (knPut kn dst b) s' := by
 intro t c ht
 rw [hs]
 cases dst with
 | none => exact h t c ht
 | some d =>
  rw [St.get_put]
  unfold knPut at ht
  cases b with
  | none =>
   simp only at ht
   obtain ⟨h1, h2⟩ := look_unKn ht
   rw [if_neg (fun e => h2 e.symm)]; exact h t c h1
  | some b =>
   simp only at ht
   rw [look_cons] at ht
   split at ht
   . rename_i e; rw [if_pos e]; cases ht; exact hb _ rfl
   . rename_i e
     obtain ⟨h1, h2⟩ := look_unKn ht
     rw [if_neg e]; exact h t c h1

theorem known_spec {kn : Kn} {s : St} (h : KnOk kn s) {x : Operand} {b : Bool} (hx : known kn x = some b) : s.eval x = vb b := by
 unfold known at hx
 split at hx
 . exact h _ _ hx
 . cases hx; rfl
 . cases hx

theorem KnOk.cons {kn : Kn} {s : St} (h : KnOk kn s) {t : Nat} {b : Bool} (ht : s.get t = vb b) : KnOk ((t, b) :: kn) s := by
 intro t' b' h'
 rw [look_cons] at h'
 split at h'
 . rename_i e; subst e; cases h'; exact ht
 . exact h t' b' h'
theorem KnOk.nil {s : St} : KnOk [] s := fun t b h => by cases h

theorem get_out (s : St) (dst : Option Nat) (E : Out) (t : Nat) : (s.out dst E).get t = (s.put dst E.val).get t := by
 cases dst <;> rfl

def OpOk (P : Program) (ops : Array Oper) (o : Oper) (s : St) (R W : List Nat) (s' : St) : Prop := ∃ E : Out, Loc P ops o s R E /\ W = E.mem.map (·.1) /\ s' = s.out o.dst E

theorem opOk_v {ops : Array Oper} {o : Oper} {s : St} {v : V} (hg : gcond ops s.get o = some true) (he : effQ P o.op s.eval = some v) {R : List Nat} (hR : effKeys o.dst o.op s.eval = R) : OpOk P ops o s R [] (s.put o.dst v) := by
 subst hR
 refine ⟨⟨v, []⟩, ?_, rfl, (put_out ..).symm⟩
 exact loc_ef (E := ⟨v, none⟩) hg (by unfold eff; rw [he])

theorem execCall0_spec (hcall : CallOk P call) {ops : Array Oper} {o : Oper} {kn : Kn} {s : St} {K : Kn -> List Nat -> List Nat -> St -> Tr ρ} {f : FuncId} {caps : List V} {args : List Operand} {r : ρ}
   (hi : callInfo o s = some (f, caps, args)) (hg : gcond ops s.get o = some true) (hkn : KnOk kn s)
   (h : (execCall0 P own call o kn s K f caps args).eval = some r) : ∃ kn' ks lock ys m2 r0 m0 E, KnOk kn' (s.out o.dst E) /\ (K kn' (callRK ks s.blk (args.map s.eval ++ caps)) (E.mem.map (·.1)) (s.out o.dst E)).eval = some r /\ CallTo P o s ks lock f caps args ys m2 r0 m0 E := by
 unfold execCall0 at h
 split at h
 . cases h
 rename_i m1 hm1
 split at h
 case h_2 => cases h
 rename_i hc
 simp only [Bool.and_eq_true, decide_eq_true_eq] at hc
 obtain ⟨⟨hen, hok⟩, hfew⟩ := hc
 rw [Tr.eval_bind] at h
 obtain ⟨⟨r0, m0⟩, h1, h2⟩ := Option.bind_eq_some_iff.1 h
 simp only at h2
 split at h2
 case h_2 => cases h2
 rename_i E hE
 obtain ⟨ys, m2, hw, hwm, hac⟩ := hcall _ _ _ _ _ h1
 have hlen : ys.length = args.length + caps.length := by
   have : ∀ (a b : List V), WkVs a b -> a.length = b.length := by
    intro a
    induction a with
    | nil => intro b hb; cases b; rfl; exact hb.elim
    | cons x a ih => intro b hb; cases b; exact hb.elim; simp [ih _ hb.2]
   rw [<- this _ _ hw]; simp
 have hc : CallTo P o s (ksFor (own f) s.blk (args.map s.eval ++ caps)) (lockOf (ksFor (own f) s.blk (args.map s.eval ++ caps)) s.blk (args.map s.eval ++ caps)) f caps args ys m2 r0 m0 E := ⟨callInfo_spec hi, hen, hok, hw, ⟨m1, hm1, hwm⟩, by omega, hac, hE⟩
 exact ⟨_, _, _, _, _, _, _, _, hkn.put (v := E.val) (fun t => get_out s o.dst E t) (fun c hc => by cases hc), h2, hc⟩
theorem tidyFst_spec {s : St} : ∀ {l : List Nat} {p : Nat × Blk} {r : List (Nat × Blk)}, tidyFst s l = p :: r -> ∃ k, tidyL s k = p :: r
 | [], _, _, h => by cases h
 | k :: l, p, r, h => by
  unfold tidyFst at h
  split at h
  . exact tidyFst_spec h
  . rename_i p' r' e; cases h; exact ⟨k, e⟩
theorem tidyL_congr {s s' : St} {k : Nat} {p : Nat × Blk} {r : List (Nat × Blk)} (h : tidyL s k = p :: r) (hb : ∀ q ∈ (p :: r).map (·.1), s'.blk q = s.blk q) : tidyL s' k = p :: r := by
 have h0 := h
 unfold tidyL at h
 split at h
 case h_2 => cases h
 rename_i ver e ei c i k' v' xs hk
 split at h
 case h_2 => cases h
 rename_i v'' e2 c2 ap fr ys hk'
 split at h
 case isFalse => cases h
 split at h
 case h_2 => cases h
 cases h
 have b1 := hb k (by simp)
 have b2 := hb k' (by simp)
 rw [<- h0]
 unfold tidyL
 rw [b1, hk]
 simp only [b2, hk']
theorem agree_upd {ops : Array Oper} {o : Oper} {s s' : St} {R W : List Nat} {tm : List (Nat × Blk)} (hp : PlainO o) (h : Agree ops o s s' R (W ++ tm.map (·.1))) : Agree ops o (s.upd tm) (s'.upd tm) R W := by
 refine ⟨h.1, h.2.1, fun k hk => .inl ?_⟩
 show look k (tm ++ s'.mem) = look k (tm ++ s.mem)
 rw [look_append, look_append]
 cases look k tm with
 | some b => rfl
 | none =>
  refine h.blk hp ?_
  rcases hk with hk | hk | hk
  . exact .inl hk
  . exact .inr (.inl (List.mem_append_left _ hk))
  . exact .inr (.inr hk)
theorem execCall_sound (hcall : CallOk P call) {ops : Array Oper} {o : Oper} {kn : Kn} {s : St} {K : Kn -> List Nat -> List Nat -> St -> Tr ρ} {f : FuncId} {caps : List V} {args : List Operand} {r : ρ}
   (hi : callInfo o s = some (f, caps, args)) (hg : gcond ops s.get o = some true) (hkn : KnOk kn s)
   (h : (execCall P own call o kn s K f caps args).eval = some r) : ∃ kn' R W s', KnOk kn' s' /\ (K kn' R W s').eval = some r /\ OpOk P ops o s R W s' := by
 have plain : (execCall0 P own call o kn s K f caps args).eval = some r -> ∃ kn' R W s', KnOk kn' s' /\ (K kn' R W s').eval = some r /\ OpOk P ops o s R W s' := fun h => by
   obtain ⟨kn', ks, lock, ys, m2, r0, m0, E, h1, h2, hc⟩ := execCall0_spec hcall hi hg hkn h
   refine ⟨_, _, _, _, h1, h2, E, ?_, rfl, rfl⟩
   exact .plain (plain_callI hi) fun s' ha => .call _ _ _ f caps args ys m2 r0 m0 E (by rw [agree_gcond ha, hg]) (agree_callK ha hc)
 unfold execCall at h
 split at h
 . exact plain h
 . split at h
   . exact plain h
   . rename_i p l hl
     obtain ⟨k, hk⟩ := tidyFst_spec hl
     have hi2 : callInfo o (s.upd (p :: l)) = some (f, caps, args) := hi
     obtain ⟨kn', ks, lock, ys, m2, r0, m0, E, h1, h2, hc⟩ := execCall0_spec (s := s.upd (p :: l)) hcall hi2 hg hkn h
     refine ⟨_, _, _, _, h1, h2, ⟨E.val, E.mem ++ (p :: l)⟩, ?_, by rw [List.map_append], St.out_tm _ _ _ _⟩
     refine .plain (plain_callI hi) fun s' ha => .tcall _ (p :: l) _ _ f caps args ys m2 r0 m0 E (by rw [agree_gcond ha, hg]) (fun w0 U0 X β0 a w hs => ?_) (agree_callK (agree_upd (plain_callI hi) (by rw [List.map_append] at ha; exact ha)) hc)
     have hk' : tidyL s' k = p :: l := tidyL_congr hk fun q hq => ha.blk (plain_callI hi) (.inr (.inl (by rw [List.map_append]; exact List.mem_append_right _ hq)))
     obtain ⟨β, U, hb⟩ := hs
     have := hb.tidy k
     rw [hk'] at this
     exact this

theorem pick_eff {o : Oper} {s : St} {c a b : Operand} {t : Bool} (ho : o.op = .pick c a b) (hc : s.eval c = vb t) : effQ P o.op s.eval = some (s.eval (if t then a else b)) := by
 rw [ho]
 simp only [effQ, hc]
 cases t <;> rfl

theorem execOp_sound (hcall : CallOk P call) {ops : Array Oper} {o : Oper} {kn : Kn} {s : St} {K : Kn -> List Nat -> List Nat -> St -> Tr ρ} {r : ρ} (hg : gcond ops s.get o = some true) (hkn : KnOk kn s)
   (h : (execOp P cod own call o kn s K).eval = some r) : ∃ kn' R W s', KnOk kn' s' /\ (K kn' R W s').eval = some r /\ OpOk P ops o s R W s' := by
 have pk : ∀ {c a b : Operand} {t : Bool} {kn : Kn}, KnOk kn s -> o.op = .pick c a b -> s.eval c = vb t -> (K (knPut kn o.dst (known kn (if t then a else b))) [] [] (s.put o.dst (s.eval (if t then a else b)))).eval = some r ->
     ∃ kn' R W s', KnOk kn' s' /\ (K kn' R W s').eval = some r /\ OpOk P ops o s R W s' := fun hk ho hc h =>
   ⟨_, _, _, _, hk.put (fun _ => rfl) (fun c hc => known_spec hk hc), h, opOk_v hg (pick_eff ho hc) (by rw [ho]; rfl)⟩
 unfold execOp at h
 split at h
 . rename_i c a b ho
   split at h
   . rename_i t hk
     have hc := known_spec hkn hk
     split at h
     . exact pk hkn ho hc h
     . exact pk hkn ho hc h
   . split at h
     . rename_i t hc
       rcases Tr.eval_ite h with ⟨rfl, h⟩ | ⟨rfl, h⟩
       . exact pk hkn ho hc h
       . exact pk hkn ho hc h
     . cases h
 . rename_i x ho
   exact ⟨_, _, _, _, hkn.put (fun _ => rfl) (fun c hc => known_spec hkn hc), h, opOk_v hg (by rw [ho]; rfl) (by rw [ho]; rfl)⟩
 . rename_i x ho
   exact ⟨_, _, _, _, hkn.put (fun _ => rfl) (fun c hc => known_spec hkn hc), h, opOk_v hg (by rw [ho]; rfl) (by rw [ho]; rfl)⟩
 . rename_i fo args ats ho
   split at h
   . rename_i f caps hf
     refine execCall_sound hcall (f := f) (caps := caps) (args := args.toList) ?_ hg hkn h
     unfold callInfo
     rw [ho]; simp only [hf]
   . cases h
 . cases h
 . cases h
 . rename_i n1 n2 n3 n4 n5 n6
   have hp : PlainO o := plain_of (fun t x i e => n5 t x i false e) (fun t x i e => n6 t x i e)
   split at h
   . rename_i T hT
     rw [Tr.eval_bind] at h
     obtain ⟨E, h1, h2⟩ := Option.bind_eq_some_iff.1 h
     refine ⟨_, _, _, _, hkn.put (v := E.val) (fun t => get_out s o.dst E t) (fun c hc => by cases hc), h2, E, .plain hp fun s' ha => .sem _ E (by rw [agree_gcond ha, hg]) fun hd => ?_, rfl, rfl⟩
     exact effS_sem (ρ := s.eval) (m := s.blk) (fun x hx => (agree_eval ha x hx).symm) (fun k hk => ha.blk hp (.inl hk)) hT h1
   split at h
   . rename_i T hT
     rw [Tr.eval_bind] at h
     obtain ⟨E, h1, h2⟩ := Option.bind_eq_some_iff.1 h
     refine ⟨_, _, _, _, hkn.put (v := E.val) (fun t => get_out s o.dst E t) (fun c hc => by cases hc), h2, E, .plain hp fun s' ha => .sem _ E (by rw [agree_gcond ha, hg]) fun hd => ?_, rfl, rfl⟩
     exact effD_sem (ρ := s.eval) (m := s.blk) (fun x hx => (agree_eval ha x hx).symm) (fun k hk => ha.blk hp (.inl hk)) hd hT h1
   split at h
   . rename_i T hT
     rw [Tr.eval_bind] at h
     obtain ⟨E, h1, h2⟩ := Option.bind_eq_some_iff.1 h
     refine ⟨_, _, _, _, hkn.put (v := E.val) (fun t => get_out s o.dst E t) (fun c hc => by cases hc), h2, E, .plain hp fun s' ha => .sem _ E (by rw [agree_gcond ha, hg]) fun hd => ?_, rfl, rfl⟩
     exact effJ_sem (ρ := s.eval) (m := s.blk) (fun x hx => (agree_eval ha x hx).symm) (fun k hk => ha.blk hp (.inl hk)) hd hT h1
   . split at h
     . rename_i T hT
       rw [Tr.eval_bind] at h
       obtain ⟨E, h1, h2⟩ := Option.bind_eq_some_iff.1 h
       refine ⟨_, _, _, _, hkn.put (v := E.val) (fun t => get_out s o.dst E t) (fun c hc => by cases hc), h2, E, .plain hp fun s' ha => .sem _ E (by rw [agree_gcond ha, hg]) fun hd => ?_, rfl, rfl⟩
       exact effZ_sem (ρ := s.eval) (m := s.blk) (fun x hx => (agree_eval ha x hx).symm) (fun k hk => ha.blk hp (.inl hk)) hd hT h1
     . split at h
       . rename_i T hT
         rw [Tr.eval_bind] at h
         obtain ⟨E, h1, h2⟩ := Option.bind_eq_some_iff.1 h
         refine ⟨_, _, _, _, hkn.put (v := E.val) (fun t => get_out s o.dst E t) (fun c hc => by cases hc), h2, E, .plain hp fun s' ha => .sem _ E (by rw [agree_gcond ha, hg]) fun hd => ?_, rfl, rfl⟩
         obtain ⟨E0, he, hw⟩ := effX_out hT h1
         exact semOf hd (by rw [agree_eff hp ha rfl]; exact he) hw
       . split at h
         . rename_i T hT
           rw [Tr.eval_bind] at h
           obtain ⟨E, h1, h2⟩ := Option.bind_eq_some_iff.1 h
           refine ⟨_, _, _, _, hkn.put (v := E.val) (fun t => get_out s o.dst E t) (fun c hc => by cases hc), h2, E, .plain hp fun s' ha => .sem _ E (by rw [agree_gcond ha, hg]) fun hd => ?_, rfl, rfl⟩
           exact effP_sem (ρ := s.eval) (m := s.blk) (fun x hx => (agree_eval ha x hx).symm) (fun k hk => ha.blk hp (.inl hk)) hd (effPX_P hT) h1
         split at h
         . rename_i E he
           exact ⟨_, _, _, _, hkn.put (v := E.val) (fun t => get_out s o.dst E.out t) (fun c hc => by cases hc), h, E.out, loc_ef hg he, rfl, rfl⟩
         . split at h
           . rename_i T hT
             rw [Tr.eval_bind] at h
             obtain ⟨E, h1, h2⟩ := Option.bind_eq_some_iff.1 h
             refine ⟨_, _, _, _, hkn.put (v := E.val) (fun t => get_out s o.dst E t) (fun c hc => by cases hc), h2, E, .plain hp fun s' ha => .sem _ E (by rw [agree_gcond ha, hg]) fun hd => ?_, rfl, rfl⟩
             exact effP_sem (ρ := s.eval) (m := s.blk) (fun x hx => (agree_eval ha x hx).symm) (fun k hk => ha.blk hp (.inl hk)) hd hT h1
           . cases h

theorem execOps_sound (hcall : CallOk P call) {ops : Array Oper} : ∀ (rest : List Oper) {kn : Kn} {log : Log} {s : St} {K : Kn -> Log -> St -> Tr ρ} {r : ρ}, KnOk kn s -> (execOps P cod own call ops rest kn log s K).eval = some r ->
  ∃ kn' log' s', KnOk kn' s' /\ (K kn' log' s').eval = some r /\ ∀ (fin : Log -> Prop) (Kp : St -> Prop), fin log' -> Kp s' -> ARun P ops fin rest log s Kp
 | [], kn, log, s, K, r, hkn, h => ⟨kn, log, s, hkn, h, fun fin Kp h1 h2 => ⟨h1, h2⟩⟩
 | o :: rest, kn, log, s, K, r, hkn, h => by
  have run : ∀ {kn : Kn}, dstOk s o.dst = true -> KnOk kn s -> gcond ops s.get o = some true -> (execOp P cod own call o kn s fun kn' R W s' => execOps P cod own call ops rest kn' (log ++ [(R, W)]) s' K).eval = some r ->
      ∃ kn' log' s', KnOk kn' s' /\ (K kn' log' s').eval = some r /\ ∀ (fin : Log -> Prop) (Kp : St -> Prop), fin log' -> Kp s' -> ARun P ops fin (o :: rest) log s Kp := by
    intro kn hd hkn hg h
    obtain ⟨kn1, R, W, s1, hk1, h1, E, hl, hW, hs1⟩ := execOp_sound hcall hg hkn h
    obtain ⟨kn2, log2, s2, hk2, h2, hrun⟩ := execOps_sound hcall rest hk1 h1
    refine ⟨kn2, log2, s2, hk2, h2, fun fin Kp h3 h4 => ⟨dstOk_spec hd, R, E, hl, ?_⟩⟩
    rw [<- hs1, <- hW]
    exact hrun fin Kp h3 h4
  have skip : ∀ {kn : Kn}, dstOk s o.dst = true -> KnOk kn s -> gcond ops s.get o = some false -> (execOps P cod own call ops rest (knPut kn o.dst none) (log ++ [([], [])]) (s.put o.dst (.one .un)) K).eval = some r ->
      ∃ kn' log' s', KnOk kn' s' /\ (K kn' log' s').eval = some r /\ ∀ (fin : Log -> Prop) (Kp : St -> Prop), fin log' -> Kp s' -> ARun P ops fin (o :: rest) log s Kp := by
    intro kn hd hkn hg h
    obtain ⟨kn2, log2, s2, hk2, h2, hrun⟩ := execOps_sound hcall rest (hkn.put (fun _ => rfl) (fun c hc => by cases hc)) h
    refine ⟨kn2, log2, s2, hk2, h2, fun fin Kp h3 h4 => ⟨dstOk_spec hd, [], ⟨mkgd false (.one .un), []⟩, loc_no hg, ?_⟩⟩
    rw [put_out]
    exact hrun fin Kp h3 h4
  unfold execOps at h
  split at h
  . cases h
  rename_i hd
  split at h
  . rename_i hgd
    exact run hd hkn (by unfold gcond; rw [hgd]) h
  rename_i j want hgd
  split at h
  . cases h
  rename_i t ht
  have gc : ∀ (v : V) (b : Option Bool), s.get t = v -> yl v want = b -> gcond ops s.get o = b := by
    intro v b h1 h2
    unfold gcond
    rw [hgd]; simp only [ht, h1, h2]
  split at h
  . rename_i b hb
    have hv := hkn _ _ hb
    have hg := gc _ _ hv rfl
    rw [yl_b] at hg
    split at h
    . rename_i e; exact run hd hkn (by rw [hg, e]) h
    . rename_i e; exact skip hd hkn (by rw [hg, e]) h
  . split at h
    . rename_i hv
      exact skip hd hkn (gc _ _ hv rfl) h
    . rename_i c hv
      have hg := gc _ _ hv rfl
      rw [show yl (V.one (C.d (D.b c))) want = some (c == want) from rfl] at hg
      split at h
      . rcases Tr.eval_ite h with ⟨rfl, h⟩ | ⟨rfl, h⟩
        . exact run hd (hkn.cons hv) (by rw [hg]; rfl) h
        . exact skip hd (hkn.cons hv) (by rw [hg]; rfl) h
      . rcases Tr.eval_ite h with ⟨rfl, h⟩ | ⟨rfl, h⟩
        . exact skip hd (hkn.cons hv) (by rw [hg]; rfl) h
        . exact run hd (hkn.cons hv) (by rw [hg]; rfl) h
    . cases h

def Fwd (s s' : St) : Prop := ∀ (w0 : World) (U0 : Nat -> Prop) (X : Nat -> Nat -> Prop) (β0 : Nat -> Option Place) (a : Act) (w : World), Sim w0 U0 X β0 s a w -> Sim w0 U0 X β0 s' a w
theorem tidyP_fwd (mem : List (Nat × BP)) : ∀ (ks : List (Nat × Nat)) (s : St), Fwd s (tidyP mem ks s)
 | [], s => fun _ _ _ _ _ _ h => h
 | q :: r, s => by
  unfold tidyP
  split
  . intro w0 U0 X β0 a w hs
    obtain ⟨β, U, hb⟩ := hs
    exact tidyP_fwd mem r _ _ _ _ _ _ _ (hb.tidy q.1)
  . exact tidyP_fwd mem r s
theorem tidyP_n (mem : List (Nat × BP)) : ∀ (ks : List (Nat × Nat)) (s : St), (tidyP mem ks s).n = s.n
 | [], s => rfl
 | q :: r, s => by
  unfold tidyP
  split
  . rw [tidyP_n mem r]; rfl
  . exact tidyP_n mem r s
theorem normGet_fwd {ks : List (Nat × Nat)} {sp : SP} {s : St} {l : Ob} {x : sp.T} (h : normGet ks sp s = some (l, x)) (ho : ObOk (sp.len x) l) : Fwd s (sp.put x) := by
 unfold normGet at h
 split at h
 . rename_i s1 hn
   intro w0 U0 X β0 a w hs
   exact ((tidyP_fwd sp.mem ks s _ _ _ _ _ _ hs).norm hn).stWk (SP.wk h ho)
 . cases h
theorem SimB.ghost {w0 : World} {U0 : Nat -> Prop} {X : Nat -> Nat -> Prop} {β0 β : Nat -> Option Place} {U : Nat -> Prop} {s : St} {a : Act} {w : World} (h : SimB w0 U0 X β0 β U s a w) {t : Nat} {e : TypeId} {c : Nat} (ht : s.get t = .one .nil) (hk : s.blk t = none) (hk0 : t < 1000000) :
   Sim w0 U0 X β0 { n := s.n, env := (t, .one (.own t 0 0)) :: s.env, mem := (t, .rowT 0 e c true true []) :: s.mem } a w := by
 have hv : a.tmps.getD t undef = .slice none 0 0 := by
   have := h.env t; rw [ht] at this; exact this.toC
 obtain ⟨h1, h2⟩ := h.newKey (w' := w) (p := .row (.slice none 0 0) 0) (blk := .rowT 0 e c true true []) hk0 hk rfl rfl rfl (Nat.le_refl _) (fun _ _ => rfl) (fun b hb => by simp [Place.has, Value.ownBlock] at hb) ⟨rfl, fun r hr => by simp at hr, .inl ⟨rfl, rfl⟩⟩
 refine ⟨_, _, { h1 with env := fun t' => ?_ }⟩
 show RepV w _ U w0.heap.size _ ((look t' ((t, V.one (.own t 0 0)) :: s.env)).getD (.one .bad))
 rw [look_cons]
 by_cases q : t = t'
 . subst q
   rw [if_pos rfl, hv]
   exact .one _ _ ⟨none, 0, .slice none 0 0, 0, rfl, Nat.le_refl _, fun _ => ⟨rfl, rfl⟩, fun x hx => by (cases hx), upd_self _ _ _, Nat.le_refl _, fun _ => rfl⟩
 . rw [if_neg q]; exact h1.env t'
theorem SimB.ghostCell {w0 : World} {U0 : Nat -> Prop} {X : Nat -> Nat -> Prop} {β0 β : Nat -> Option Place} {U : Nat -> Prop} {s : St} {a : Act} {w : World} (h : SimB w0 U0 X β0 β U s a w) {k q i : Nat} {e : TypeId} {c : Nat} {cs : List C} (hk : s.blk k = some (.cells cs)) (hi : cs[i]? = some .nil) (hq : s.blk q = none) (hq0 : q < 1000000) :
  Sim w0 U0 X β0 { n := s.n, env := s.env, mem := (k, .cells (cs.set i (.own q 0 0))) :: (q, .rowT 0 e c true true []) :: s.mem } a w := by
 obtain ⟨h1, h2⟩ := h.newKey (w' := w) (p := .row (.slice none 0 0) 0) (blk := .rowT 0 e c true true []) hq0 hq rfl rfl rfl (Nat.le_refl _) (fun _ _ => rfl) (fun b hb => by simp [Place.has, Value.ownBlock] at hb) ⟨rfl, fun r hr => by simp at hr, .inl ⟨rfl, rfl⟩⟩
 have hkq : q ≠ k := fun e => by subst e; rw [hq] at hk; cases hk
 have hk1 : (s.set q (.rowT 0 e c true true [])).blk k = some (.cells cs) := by rw [St.blk_set, if_neg hkq]; exact hk
 obtain ⟨p, hp, hr⟩ := h1.mem k _ hk1
 cases p with
 | row => exact hr.elim
 | deep => exact hr.elim
 | cells b o =>
  have hnew : RepB w (upd (upd β q (.row (.slice none 0 0) 0)) k (.cells b o)) U w0.heap.size (.cells b o) (.cells (cs.set i (.own q 0 0))) := by
   refine ⟨by rw [List.length_set]; exact hr.1, fun j c' hj => ?_⟩
   have hupd : ∀ k' p', upd β q (.row (.slice none 0 0) 0) k' = some p' -> upd (upd β q (.row (.slice none 0 0) 0)) k (.cells b o) k' = some p' := by
     intro k' p' hk'
     by_cases e : k = k'
     . subst e; rw [upd_self]; rw [hp] at hk'; exact hk'
     . rw [upd_ne _ e]; exact hk'
   by_cases e : i = j
   . subst e
     obtain ⟨v, q1, q2, q3, q4⟩ := hr.2 i _ hi
     have hlt := (List.getElem?_eq_some_iff.1 hi).1
     rw [List.getElem?_set_self hlt] at hj
     cases hj
     refine ⟨v, q1, q2, q3, ?_⟩
     have hv : v = .slice none 0 0 := q4
     subst hv
     exact ⟨none, 0, .slice none 0 0, 0, rfl, Nat.le_refl _, fun _ => ⟨rfl, rfl⟩, fun x hx => by (cases hx), hupd _ _ (upd_self _ _ _), Nat.le_refl _, fun _ => rfl⟩
   . rw [List.getElem?_set_ne e] at hj
     obtain ⟨v, q1, q2, q3, q4⟩ := hr.2 j _ hj
     exact ⟨v, q1, q2, q3, q4.map (fun _ h => h) (fun _ _ => rfl) (Evo.sub hupd)⟩
  refine ⟨_, U, h1.repl (w' := w) (p' := .cells b o) (blk' := .cells (cs.set i (.own q 0 0))) hp hk1 rfl rfl rfl (Nat.le_refl _) (fun _ _ _ => rfl) (fun _ _ _ _ => ⟨rfl, rfl⟩) (fun _ _ _ => .inl rfl) (.inl rfl) (fun _ hb => .inl hb) (fun _ _ hc => .inl ?_) hnew⟩
  obtain ⟨q1, q2, q3⟩ := hc
  exact ⟨q1, q2, by rw [List.length_set] at q3; exact q3⟩
theorem ghost_fwd : ∀ (gs : List (Nat × TypeId × Nat)) (s : St), Fwd s (ghostSt gs s)
 | [], s => fun _ _ _ _ _ _ h => h
 | (t, e, c) :: r, s => by
  unfold ghostSt
  split
  . rename_i h3
    split
    . rename_i h1 h2
      intro w0 U0 X β0 a w hs
      obtain ⟨β, U, hb⟩ := hs
      exact ghost_fwd r _ _ _ _ _ _ _ (hb.ghost h1 h2 (by simpa using h3))
    . exact ghost_fwd r s
  . rename_i h3
    intro w0 U0 X β0 a w hs
    refine ghost_fwd r _ _ _ _ _ _ _ ?_
    obtain ⟨β, U, hb⟩ := hs
    have hge : 1000000 <= t := by
      rcases Nat.lt_or_ge t 1000000 with q | q
      . have q' : Nat.blt t 1000000 = true := by simpa using q
        rw [q'] at h3; cases h3
      . exact q
    unfold ghostC
    split
    . rename_i cs h1 h2 h4
      have hlt : t < 1040000 := by simpa using h4
      split
      . rename_i h5; exact hb.ghostCell h1 h5 h2 (by omega)
      . exact ⟨β, U, hb⟩
    . exact ⟨β, U, hb⟩
theorem Fwd.trans {s1 s2 s3 : St} (h : Fwd s1 s2) (k : Fwd s2 s3) : Fwd s1 s3 := fun w0 U0 X β0 a w hs => k _ _ _ _ _ _ (h _ _ _ _ _ _ hs)
theorem awp_loopF {ι : Type} (I : ι -> St) (p : ι -> Prop) (μ : ι -> Nat) {c : Code} {Q : Exit -> St -> Prop} {s : St} (h0 : ∃ x, p x /\ Fwd s (I x))
  (hround : ∀ x, p x -> AWp P c (thenA (fun s1 => ∃ x', p x' /\ μ x' < μ x /\ Fwd s1 (I x')) Q) (I x)) : AWp P (.loop c) Q s := by
 intro w0 U0 X β0 a w hs
 obtain ⟨x0, hp0, hx0⟩ := h0
 refine wp_loop_ix (fun x a' w' => p x /\ Sim w0 U0 X β0 (I x) a' w') μ (fun x a w hI => ?_) (x0 := x0) ⟨hp0, hx0 _ _ _ _ _ _ hs⟩
 refine wp_mono (hround x hI.1 w0 U0 X β0 a w hI.2) ?_
 rintro e a' w' ⟨s', h1, h2⟩
 cases e with
 | normal =>
  obtain ⟨x', q1, q2, q3⟩ := h1
  exact ⟨x', q2, q1, q3 _ _ _ _ _ _ h2⟩
 | _ => exact ⟨s', h1, h2⟩
theorem awp_fwd {c : Code} {s s1 s2 : St} {e : Exit} (h : AWp P c (fun e1 s' => e1 = e /\ s' = s1) s) (hf : Fwd s1 s2) : AWp P c (fun e1 s' => e1 = e /\ s' = s2) s := by
 intro w0 U0 X β0 a w hs
 refine wp_mono (h w0 U0 X β0 a w hs) ?_
 rintro e1 a' w' ⟨s', ⟨rfl, rfl⟩, h2⟩
 exact ⟨s2, ⟨rfl, rfl⟩, hf _ _ _ _ _ _ h2⟩

theorem hits_exit {x : EX} {e : Exit} (h : x.hits e = true) : x.exit = e := by
 obtain ⟨xe, ks, sp⟩ := x
 cases xe with
 | some id =>
  cases e with
  | exit id' =>
   have h' : Nat.beq id id' = true := h
   rw [Nat.eq_of_beq_eq_true h']; rfl
  | _ => cases h
 | none =>
  cases e with
  | ret => rfl
  | _ => cases h
theorem exInj_out : ∀ (es : List EX) {e : Exit} {s : St} {T : Tr (ExT es)} {o : ExT es}, exInj es e s = some T -> T.eval = some o -> ∃ s2, (exOut es o).eval = some (e, s2) /\ Fwd s s2
 | [], e, s, T, o, h, ht => by cases h
 | [x], e, s, T, o, h, ht => by
  unfold exInj at h
  split at h
  . rename_i hh
    split at h
    . rename_i g y hg
      cases h
      obtain ⟨h1, h2⟩ := eval_grdOb ht
      cases h2
      exact ⟨x.sp.put o, by unfold exOut; rw [hits_exit hh]; rfl, normGet_fwd hg h1⟩
    . cases h; cases ht
  . cases h
 | x :: y :: r, e, s, T, o, h, ht => by
  unfold exInj at h
  split at h
  . rename_i hh
    split at h
    . rename_i g z hg
      cases h
      obtain ⟨h1, h2⟩ := eval_grdOb ht
      cases h2
      exact ⟨x.sp.put z, by show (Tr.ret (x.exit, x.sp.put z)).eval = _; rw [hits_exit hh]; rfl, normGet_fwd hg h1⟩
    . cases h; cases ht
  . split at h
    . rename_i T' hT
      cases h
      have ht' : T'.eval.map Sum.inr = some o := (Tr.eval_map (Sum.inr : ExT (y :: r) -> x.sp.T ⊕ ExT (y :: r)) T').symm.trans ht
      obtain ⟨b, hb, rfl⟩ := Option.map_eq_some_iff.1 ht'
      obtain ⟨s2, h1, h2⟩ := exInj_out (y :: r) hT hb
      exact ⟨s2, h1, h2⟩
    . cases h

theorem loop_sound {L : LS} {body : Code} {F : L.sp.T -> Option (L.sp.T ⊕ ExT L.es)}
  (hbody : ∀ x r, F x = some r -> ∃ e s', (loopK L e s').eval = some r /\ AWp P body (fun e1 s1 => e1 = e /\ s1 = s') (L.sp.put x)) {n tag : Nat} {x : L.sp.T} {o : ExT L.es} (h : loopO tag F n x = some o) {e : Exit} {s2 : St} (ho : (exOut L.es o).eval = some (e, s2))
  {s : St} (hs : Fwd s (L.sp.put x)) : AWp P (.loop body) (fun e1 s1 => e1 = e /\ s1 = s2) s := by
 refine awp_loopF (ι := Nat × L.sp.T) (fun z => L.sp.put z.2) (fun z => loopO tag F z.1 z.2 = some o) (fun z => z.1) ⟨(n, x), h, hs⟩ ?_
 rintro ⟨m, y⟩ hp
 simp only at hp ⊢
 cases m with
 | zero => cases hp
 | succ m =>
  unfold loopO at hp
  split at hp
  . cases hp
  . rename_i y' hy
    obtain ⟨e1, s1, h1, h2⟩ := hbody y _ hy
    unfold loopK at h1
    split at h1
    . rename_i he
      split at h1
      . rename_i g z hg
        obtain ⟨q1, q2⟩ := eval_grdOb h1
        cases q2
        refine awp_mono h2 ?_
        rintro e3 s3 ⟨rfl, rfl⟩
        cases e3 with
        | normal => exact ⟨(m, y'), hp, Nat.lt_succ_self m, (ghost_fwd L.gs _).trans (normGet_fwd hg q1)⟩
        | _ => cases he
      . cases h1
    . split at h1
      . rename_i T hT
        rw [Tr.eval_map] at h1
        obtain ⟨b, hb, hb2⟩ := Option.map_eq_some_iff.1 h1
        cases hb2
      . cases h1
  . rename_i b hy
    cases hp
    obtain ⟨e1, s1, h1, h2⟩ := hbody y _ hy
    unfold loopK at h1
    split at h1
    . split at h1
      . rename_i g z hg
        obtain ⟨q1, q2⟩ := eval_grdOb h1
        cases q2
      . cases h1
    . rename_i he
      split at h1
      . rename_i T hT
        rw [Tr.eval_map] at h1
        obtain ⟨b', hb, hb2⟩ := Option.map_eq_some_iff.1 h1
        cases hb2
        obtain ⟨s3, q1, q2⟩ := exInj_out L.es hT hb
        rw [ho] at q1
        cases q1
        have h3 := awp_fwd h2 q2
        refine awp_mono h3 ?_
        rintro e4 s4 ⟨rfl, rfl⟩
        cases e4 with
        | normal => cases he
        | _ => exact ⟨rfl, rfl⟩
      . cases h1

theorem iter_sound {Λ : List LS} {fi : Nat} {body : Code} {ρ : Type} {K : Exit -> Kn -> St -> Tr ρ} {r : ρ}
  (hb : ∀ {kn : Kn} {s : St} {K : Exit -> Kn -> St -> Tr ρ} {r : ρ}, KnOk kn s -> (exec P cod own call Λ fi body ρ kn s K).eval = some r -> ∃ e kn' s', KnOk kn' s' /\ (K e kn' s').eval = some r /\ AWp P body (fun e1 s1 => e1 = e /\ s1 = s') s) :
  ∀ (n : Nat) {kn : Kn} {s : St}, KnOk kn s -> (iterT n (fun again kn s => exec P cod own call Λ fi body ρ kn s fun e kn' s' => match e with
    | .normal => (match trimR body s' with | some s2 => again [] s2 | none => .fail 16)
    | e => K e kn' s') kn s).eval = some r ->
   ∃ e kn' s', KnOk kn' s' /\ (K e kn' s').eval = some r /\ ∀ (w0 : World) (U0 : Nat -> Prop) (X : Nat -> Nat -> Prop) (β0 : Nat -> Option Place) (a : Act) (w : World), Sim w0 U0 X β0 s a w -> Code.rounds P body (fun e1 a' w' => ∃ s1, (e1 = e /\ s1 = s') /\ Sim w0 U0 X β0 s1 a' w') n a w
 | 0, kn, s, hkn, h => by cases h
 | n + 1, kn, s, hkn, h => by
  obtain ⟨e1, kn1, s1, h1, h2, h3⟩ := hb hkn h
  cases e1 with
  | normal =>
   simp only at h2
   split at h2
   case h_2 => cases h2
   rename_i s3 hs3
   obtain ⟨e, kn', s', q1, q2, q3⟩ := iter_sound hb n KnOk.nil h2
   refine ⟨e, kn', s', q1, q2, fun w0 U0 X β0 a w hs => ?_⟩
   refine wp_mono (h3 w0 U0 X β0 a w hs) ?_
   rintro e2 a2 w2 ⟨s2, ⟨rfl, rfl⟩, hs2⟩
   exact q3 w0 U0 X β0 a2 w2 (hs2.norm hs3)
  | _ =>
   refine ⟨_, kn1, s1, h1, h2, fun w0 U0 X β0 a w hs => ?_⟩
   refine wp_mono (h3 w0 U0 X β0 a w hs) ?_
   rintro e2 a2 w2 ⟨s2, ⟨rfl, rfl⟩, hs2⟩
   exact ⟨_, ⟨rfl, rfl⟩, hs2⟩

theorem joinK_out {fi j : Nat} {L : LS} {e : Exit} {s : St} {o : ExT L.es} (h : (joinK fi j L e s).eval = some o) : ∃ e' s2, (exOut L.es o).eval = some (e', s2) /\ unJ e' = e /\ Fwd s s2 := by
 unfold joinK at h
 split at h
 . cases h
 rename_i e' he
 split at h
 . rename_i T hT
   obtain ⟨s2, h1, h2⟩ := exInj_out L.es hT h
   refine ⟨e', s2, h1, ?_, h2⟩
   cases e with
   | normal => cases he; rfl
   | exit id =>
    simp only at he
    split at he
    . cases he
    . rename_i hb
      cases he
      show (match Nat.beq id 9998 with | true => Exit.normal | false => .exit id) = _
      rw [hb]
   | _ => cases he; rfl
 . cases h

theorem exec_sound (hcall : CallOk P call) {Λ : List LS} {fi : Nat} : ∀ (c : Code) {ρ : Type} {kn : Kn} {s : St} {K : Exit -> Kn -> St -> Tr ρ} {r : ρ}, KnOk kn s -> (exec P cod own call Λ fi c ρ kn s K).eval = some r ->
  ∃ e kn' s', KnOk kn' s' /\ (K e kn' s').eval = some r /\ AWp P c (fun e1 s1 => e1 = e /\ s1 = s') s
 | .skip, ρ, kn, s, K, r, hkn, h => ⟨.normal, kn, s, hkn, h, awp_skip ⟨rfl, rfl⟩⟩
 | .region id ops draw, ρ, kn, s, K, r, hkn, h => by
  unfold exec at h
  split at h
  . obtain ⟨kn', log', s', h1, h2, h3⟩ := execOps_sound hcall _ hkn h
    refine ⟨.normal, kn', s', h1, h2, ?_⟩
    have := awp_region (P := P) (id := id) (l := ops.toList) (Q := fun e1 s1 => e1 = Exit.normal /\ s1 = s') (s := s) (by
      rw [show ops.toList.toArray = ops by simp]
      exact h3 _ _ trivial ⟨rfl, rfl⟩)
    rwa [show ops.toList.toArray = ops by simp] at this
  . split at h
    . rename_i hf
      obtain ⟨kn', log', s', h1, h2, h3⟩ := execOps_sound hcall _ hkn h
      split at h2
      . rename_i ho
        refine ⟨.normal, kn', s', h1, h2, ?_⟩
        have := awp_region_any (P := P) (id := id) (l := ops.toList) (Q := fun e1 s1 => e1 = Exit.normal /\ s1 = s') (s := s) hf (by
          rw [show ops.toList.toArray = ops by simp]
          exact h3 _ _ ho ⟨rfl, rfl⟩)
        rwa [show ops.toList.toArray = ops by simp] at this
      . cases h2
    . cases h
 | .seq a b, ρ, kn, s, K, r, hkn, h => by
  unfold exec at h
  have fin : ∀ {e kn1 s1}, KnOk kn1 s1 -> (match e with | Exit.normal => exec P cod own call Λ fi b ρ kn1 s1 K | e => K e kn1 s1).eval = some r -> AWp P a (fun e1 s2 => e1 = e /\ s2 = s1) s ->
      ∃ e kn' s', KnOk kn' s' /\ (K e kn' s').eval = some r /\ AWp P (.seq a b) (fun e1 s1 => e1 = e /\ s1 = s') s := by
    intro e kn1 s1 h1 h2 h3
    cases e with
    | normal =>
      obtain ⟨e2, kn2, s2, q1, q2, q3⟩ := exec_sound hcall b h1 h2
      refine ⟨e2, kn2, s2, q1, q2, awp_seq (awp_mono h3 ?_)⟩
      rintro e s ⟨rfl, rfl⟩
      exact q3
    | _ =>
      refine ⟨_, kn1, s1, h1, h2, awp_seq (awp_mono h3 ?_)⟩
      rintro e s ⟨rfl, rfl⟩
      exact ⟨rfl, rfl⟩
  split at h
  . obtain ⟨e, kn1, s1, h1, h2, h3⟩ := exec_sound hcall a hkn h
    exact fin h1 h2 h3
  . rename_i L hL
    obtain ⟨o, h1, h2⟩ := Option.bind_eq_some_iff.1 h
    simp only at h2
    rw [Tr.eval_bind] at h2
    obtain ⟨⟨e, s2⟩, h3, h4⟩ := Option.bind_eq_some_iff.1 h2
    obtain ⟨e1, kn1, s1, q1, q2, q3⟩ := exec_sound hcall a hkn h1
    obtain ⟨e', s3, p1, p2, p3⟩ := joinK_out q2
    rw [h3] at p1
    cases p1
    exact fin (e := e1) KnOk.nil (by rw [<- p2]; exact h4) (awp_fwd q3 p3)
 | .cond c a b, ρ, kn, s, K, r, hkn, h => by
  unfold exec at h
  have ha : ∀ {kn : Kn}, KnOk kn s -> s.eval c = vb true -> (exec P cod own call Λ fi a ρ kn s K).eval = some r -> ∃ e kn' s', KnOk kn' s' /\ (K e kn' s').eval = some r /\ AWp P (.cond c a b) (fun e1 s1 => e1 = e /\ s1 = s') s := by
    intro kn hk hc h
    obtain ⟨e, kn1, s1, h1, h2, h3⟩ := exec_sound hcall a hk h
    exact ⟨e, kn1, s1, h1, h2, awp_cond hc (fun _ => h3) (fun e => by cases e)⟩
  have hb : ∀ {kn : Kn}, KnOk kn s -> s.eval c = vb false -> (exec P cod own call Λ fi b ρ kn s K).eval = some r -> ∃ e kn' s', KnOk kn' s' /\ (K e kn' s').eval = some r /\ AWp P (.cond c a b) (fun e1 s1 => e1 = e /\ s1 = s') s := by
    intro kn hk hc h
    obtain ⟨e, kn1, s1, h1, h2, h3⟩ := exec_sound hcall b hk h
    exact ⟨e, kn1, s1, h1, h2, awp_cond hc (fun e => by cases e) (fun _ => h3)⟩
  split at h
  . rename_i t hk
    have hc := known_spec hkn hk
    split at h
    . exact ha hkn hc h
    . exact hb hkn hc h
  . split at h
    . rename_i t hc
      split at h
      . rename_i j
        rcases Tr.eval_ite h with ⟨rfl, h⟩ | ⟨rfl, h⟩
        . exact ha (hkn.cons hc) hc h
        . exact hb (hkn.cons hc) hc h
      . rcases Tr.eval_ite h with ⟨rfl, h⟩ | ⟨rfl, h⟩
        . exact ha hkn hc h
        . exact hb hkn hc h
    . cases h
 | .block id body, ρ, kn, s, K, r, hkn, h => by
  unfold exec at h
  obtain ⟨e, kn1, s1, h1, h2, h3⟩ := exec_sound hcall body hkn h
  cases e with
  | exit id' =>
    simp only at h2
    split at h2
    . rename_i e
      obtain rfl : id' = id := Nat.eq_of_beq_eq_true e
      refine ⟨.normal, kn1, s1, h1, h2, awp_block (awp_mono h3 ?_)⟩
      rintro e s ⟨rfl, rfl⟩
      exact block_exit ⟨rfl, rfl⟩
    . rename_i e
      have e : id' ≠ id := Nat.ne_of_beq_eq_false e
      refine ⟨_, kn1, s1, h1, h2, awp_block (awp_mono h3 ?_)⟩
      rintro e s ⟨rfl, rfl⟩
      exact block_other (by simpa using e) ⟨rfl, rfl⟩
  | _ =>
    refine ⟨_, kn1, s1, h1, h2, awp_block (awp_mono h3 ?_)⟩
    rintro e s ⟨rfl, rfl⟩
    exact ⟨rfl, rfl⟩
 | .loop body, ρ, kn, s, K, r, hkn, h => by
  unfold exec at h
  split at h
  . cases h
  rename_i L hL
  split at h
  . obtain ⟨e, kn', s', h1, h2, h3⟩ := iter_sound (fun hk he => exec_sound hcall body hk he) 70 hkn h
    exact ⟨e, kn', s', h1, h2, fun w0 U0 X β0 a w hs => wp_loop_rounds 70 (h3 w0 U0 X β0 a w hs)⟩
  split at h
  . cases h
  rename_i g x hg
  obtain ⟨q1, h⟩ := eval_grdOb h
  obtain ⟨o, h1, h2⟩ := Option.bind_eq_some_iff.1 h
  simp only at h2
  rw [Tr.eval_bind] at h2
  obtain ⟨⟨e, s2⟩, h3, h4⟩ := Option.bind_eq_some_iff.1 h2
  refine ⟨e, [], s2, KnOk.nil, h4, loop_sound (L := L) (fun x r hr => ?_) h1 h3 ((ghost_fwd L.gs _).trans (normGet_fwd hg q1))⟩
  obtain ⟨e, kn', s', a1, a2, a3⟩ := exec_sound hcall body (KnOk.nil) hr
  exact ⟨e, s', a2, a3⟩
 | .exit id, ρ, kn, s, K, r, hkn, h => ⟨.exit id, kn, s, hkn, h, awp_exit ⟨rfl, rfl⟩⟩
 | .ret, ρ, kn, s, K, r, hkn, h => ⟨.ret, kn, s, hkn, h, awp_ret ⟨rfl, rfl⟩⟩
 | .rangeFunc .., ρ, kn, s, K, r, hkn, h => by cases h
 | .scope .., ρ, kn, s, K, r, hkn, h => by cases h
 | .label .., ρ, kn, s, K, r, hkn, h => by cases h
 | .goto .., ρ, kn, s, K, r, hkn, h => by cases h
 | .refuse .., ρ, kn, s, K, r, hkn, h => by cases h

theorem tidyAll_fwd : ∀ (l : List Nat) (s : St), Fwd s (tidyAll l s)
 | [], s => fun _ _ _ _ _ _ h => h
 | k :: r, s => by
  unfold tidyAll
  split
  . exact tidyAll_fwd r s
  . rename_i p l hl
    intro w0 U0 X β0 a w hs
    obtain ⟨β, U, hb⟩ := hs
    have := hb.tidy k
    rw [hl] at this
    exact tidyAll_fwd r _ _ _ _ _ _ _ this
theorem tidyE_fwd {rs : List ResultVar} {m : Mem} (s : St) : Fwd s (tidyE P rs m s) := by
 unfold tidyE
 split
 . exact tidyAll_fwd _ s
 . exact fun _ _ _ _ _ _ h => h
theorem awp_fwdT {c : Code} {e : Exit} {s s1 s2 : St} (hf : Fwd s1 s2) (h : AWp P c (fun e' s' => e' = e /\ s' = s1) s) : AWp P c (fun e' s' => e' = e /\ s' = s2) s :=
 fun w0 U0 X β0 a w hs => wp_mono (h w0 U0 X β0 a w hs) fun e' a' w' h1 => by
  obtain ⟨s', ⟨h1, h2⟩, h3⟩ := h1
  subst h2
  exact ⟨s2, ⟨h1, rfl⟩, hf _ _ _ _ _ _ h3⟩
theorem execBody_sound (hcall : CallOk P call) {Λs : List (FuncId × LS)} {f : FuncId} {fn : Func} (hf : P.funcs[f]? = some fn)
   {ys : List V} {m : Mem} {r : V} {m' : Mem} (h : (execBody P cod own call Λs fn f ys m).eval = some (r, m')) : ACall P f ys m fun r' m'' => r' = r /\ m'' = m' := by
 unfold execBody at h
 split at h
 case h_2 => cases h
 rename_i c hb
 split at h
 case h_2 => cases h
 rename_i hn
 simp only [Bool.and_eq_true, decide_eq_true_eq] at hn
 obtain ⟨e, kn', s0', h1, h2, h3⟩ := exec_sound hcall c KnOk.nil h
 unfold execEnd at h2
 have h3 := awp_fwdT (tidyE_fwd (P := P) (rs := fn.results.toList) (m := m) s0') h3
 generalize tidyE P fn.results.toList m s0' = s' at h2 h3
 unfold execEnd0 at h2
 split at h2
 case h_2 => cases h2
 rename_i he
 split at h2
 case h_2 => cases h2
 rename_i v hv
 split at h2
 case h_2 => cases h2
 rename_i s1 hs1
 split at h2
 case h_2 => cases h2
 rename_i q1 r1 hs2
 cases h2
 refine acall_enter (endKs m s'.mem ((trimSt { n := 1, env := [(0, v)], mem := s'.mem }).get 0)) hf hb rfl rfl hn.1 hn.2 (awp_mono h3 ?_)
 rintro e1 s2 ⟨rfl, rfl⟩
 refine ⟨?_, r, s1.mem, ?_, rfl, rfl⟩
 . cases e1 <;> first | exact .inl rfl | exact .inr rfl | cases he
 . simp only [hv]
   have hs3 := hs1
   unfold St.norm at hs3
   split at hs3
   . cases hs3
     simp only [List.map_cons, List.map_nil] at hs2 ⊢
     cases hs2
     rw [hs1, trimSt_n]; rfl
   . cases hs3

theorem WkVs_rfl : ∀ (l : List V), WkVs l l
 | [] => trivial
 | x :: r => ⟨by cases x; exact .inl rfl; exact WkCs_rfl _; exact rfl, WkVs_rfl r⟩

theorem findF_sound {f : FuncId} {ys : List V} {m : Mem} : ∀ {Γ : List (PF P)} {T : Tr (V × Mem)} {r : V} {m' : Mem}, findF f ys m Γ = some T -> T.eval = some (r, m') -> ∃ ys' m2, WkVs ys ys' /\ WkM m m2 /\ ACall P f ys' m2 fun r' m'' => r' = r /\ m'' = m'
 | [], T, r, m', h, hT => by cases h
 | F :: Γ, T, r, m', h, hT => by
  unfold findF at h
  split at h
  . rename_i e
    split at h
    . rename_i T' hF
      cases h
      have := F.ok ys m _ r m' hF hT
      rw [Nat.eq_of_beq_eq_true e] at this
      exact this
    . exact findF_sound h hT
  . exact findF_sound h hT
theorem execFn_sound {Γ : List (PF P)} {Λs : List (FuncId × LS)} : ∀ n, CallOk P (execFn P cod Γ Λs n)
 | 0 => fun f xs m r m' h => by cases h
 | n + 1 => fun f xs m r m' h => by
  unfold execFn at h
  split at h
  . rename_i T hT
    exact findF_sound hT h
  . split at h
    . rename_i fn hf
      exact ⟨xs, m, WkVs_rfl _, WkM_rfl _, execBody_sound (execFn_sound n) hf h⟩
    . cases h

theorem SimB.monoX {w0 : World} {U0 : Nat -> Prop} {X X' : Nat -> Nat -> Prop} {β0 β : Nat -> Option Place} {U : Nat -> Prop} {s : St} {a : Act} {w : World} (h : SimB w0 U0 X β0 β U s a w) (hX : ∀ b j, X b j -> X' b j) : SimB w0 U0 X' β0 β U s a w :=
 { h with
  chg := ⟨h.chg.os, h.chg.tape, h.chg.output, h.chg.size, fun b hb => by
   rcases h.chg.block b hb with e | ⟨c, c', e, f, e1, e2, e3, e4⟩ | e
   . exact .inl e
   . exact .inr (.inl ⟨c, c', e, f, e1, e2, e3, fun j hj => e4 j (fun q => hj (hX b j q))⟩)
   . exact .inr (.inr fun j => hX b j (e j))⟩
  may := fun k p blk b j h1 h2 h3 h4 => hX b j (h.may k p blk b j h1 h2 h3 h4) }

theorem SimB.freeze {w0 : World} {U0 : Nat -> Prop} {β0 β : Nat -> Option Place} {U : Nat -> Prop} {s : St} {a : Act} {w : World} (h : SimB w0 U0 (fun _ _ => False) β0 β U s a w) (hβ : ∀ k, β0 k = none) :
  Sim w0 U0 (fun _ _ => False) β0 ⟨s.n, s.env.map fun p => (p.1, frzV s.mem p.2), []⟩ a w := by
 let U' : Nat -> Prop := fun b => U b \/ ∃ k p, β k = some p /\ p.nocells = true /\ p.has b
 have hU : ∀ b, U b -> U' b := fun b hb => .inl hb
 have hnew : ∀ k p b, β k = some p -> p.nocells = true -> p.has b -> w0.heap.size <= b := by
  intro k p b hk hn hb
  obtain ⟨blk, hblk⟩ := Option.isSome_iff_exists.1 (h.dom k _ hk)
  rcases Nat.lt_or_ge b w0.heap.size with hlt | hge
  . refine (h.may k _ blk b 0 hk hblk ?_ hlt).elim
    cases p with
    | cells => cases hn
    | row => cases blk <;> exact hb
    | deep => cases blk <;> exact hb
  . exact hge
 have hC : ∀ (v : Value) (c : C), RepC w β U w0.heap.size v c -> RepC w (fun _ => none) U' w0.heap.size v (frzC s.mem c) := by
  intro v c hc
  cases c with
  | mp k => exact trivial
  | own k ver len =>
    simp only [frzC]
    split
    . rename_i ver' e c' ap fr xs hb
      split
      . rename_i hv
        subst hv
        obtain ⟨ao, cap, v0, ver0, rfl, hlc, hn0, hs0, hk, hv1, hv2⟩ := hc
        have hb' : (s.blk k).map Blk.std = some (.row ver e (esz c') ap fr (xs.map (enc c'))) := by
          show (look k s.mem).map Blk.std = _; rw [hb]; rfl
        obtain ⟨q1, q2, q3⟩ := h.placeStd hb' hk
        subst q1
        obtain rfl := hv2 rfl
        have main : ∀ UU : Nat -> Prop, (∀ g cap', (Value.slice ao len cap : Value) = .slice (some ⟨g, 0, none⟩) (xs.map (enc c')).length cap' -> UU g) -> (∀ b, (U b /\ (fr = true -> w0.heap.size <= b)) -> UU b) -> RepI w UU (.slice ao len cap) (.st c' xs) := by
          intro UU hg hsub
          refine RepI.toSt ?_
          rcases q3 with ⟨e1, e2⟩ | ⟨g, cap', cur, fz, e1, hgh, h3, h4, h5, h6, h7, h8⟩
          . cases e1; rw [e2]; exact .nil _ _ _ (fun _ => rfl)
          . have hgg := hg g cap' e1
            cases e1
            have := rows_view (w := w) (UU := UU) (g := g) (off := 0) (len := (xs.map (enc c')).length) (cap := cap) (sz := esz c') (rows := xs.map (enc c')) hgg q2 (by omega) (by omega) (fun i j r d hi hj => by
              obtain ⟨u, k1, k2, k3⟩ := h8 i j r d hi hj
              exact ⟨u, by simp only [World.cell?, hgh]; simpa using k1, k3.mono hsub (fun _ _ => rfl)⟩)
            rw [List.drop_zero, List.take_length, Nat.zero_mul] at this
            exact this
        have hown : ∀ g cap', (Value.slice ao len cap : Value) = .slice (some ⟨g, 0, none⟩) (xs.map (enc c')).length cap' -> (Value.slice ao len cap).ownBlock = some g := by
          intro g cap' e1; rw [e1]; rfl
        cases fr with
        | true => exact main (fun b => U' b /\ w0.heap.size <= b) (fun g cap' e1 => ⟨.inr ⟨k, _, hk, rfl, hown g cap' e1⟩, hnew k _ g hk rfl (hown g cap' e1)⟩) (fun b hb => ⟨.inl hb.1, hb.2 rfl⟩)
        | false => exact main U' (fun g cap' e1 => .inr ⟨k, _, hk, rfl, hown g cap' e1⟩) (fun b hb => .inl hb.1)
      . trivial
    . trivial
  | dsub => trivial
  | dpr => trivial
  | dp k ver len room =>
    simp only [frzC]
    split
    . rename_i ver' e ei c' hole xs hb
      split
      . rename_i hv
        subst hv
        split
        . rename_i ys hy
          obtain ⟨ao, cap, v0, ver0, us, rfl, hlr, hlc, hn0, _, hk, hv1, hv2⟩ := hc
          obtain ⟨p, hp, hr⟩ := h.mem k _ hb
          rw [hk] at hp; cases hp
          have h0 := hr.1
          subst h0
          rw [hv2 rfl]
          show RepI w (fun b => U' b /\ w0.heap.size <= b) v0 (.st c' ys)
          refine deep_view hr (UU := fun b => U' b /\ w0.heap.size <= b) (fun b hb' => ⟨.inr ⟨k, _, hk, rfl, hb'⟩, hnew k _ b hk rfl hb'⟩) ?_ ?_
          . unfold deepData at hy
            split at hy
            . cases hy; exact .inl ⟨rfl, rfl⟩
            . rename_i i k' v'
              split at hy
              . rename_i v'' e2 c2 ap fr zs hkk hs2 hb2
                obtain rfl := Nat.eq_of_beq_eq_true hkk
                split at hy
                . rename_i hc2
                  subst hc2
                  split at hy
                  . rename_i hvv
                    cases hy
                    obtain rfl := Nat.eq_of_beq_eq_true hvv
                    refine .inr ⟨i, hkey k, v', zs, rfl, rfl, fun v1 hk1 => ?_⟩
                    have hb' : (s.blk (hkey k)).map Blk.std = some (.row v' e2 (esz (dIn c')) ap fr (zs.map (enc (dIn c')))) := by
                      rw [show s.blk (hkey k) = _ from hb2]; rfl
                    obtain ⟨q1, q2, q3⟩ := h.placeStd hb' hk1
                    rcases q3 with ⟨rfl, e3⟩ | ⟨g, cap2, cur, fz, rfl, hg, z1, z2, z3, z4, z5, z6⟩
                    . have : zs = [] := by simpa using e3
                      subst this
                      exact RepI.toSt (.nil _ _ _ (fun _ => rfl))
                    . rw [List.length_map]
                      refine rowT_view ⟨.inr ⟨hkey k, _, hk1, rfl, rfl⟩, hnew _ _ g hk1 rfl rfl⟩ hg (by simpa using z1) fun i j y d hi hj => ?_
                      obtain ⟨u, w1, _, w3⟩ := z6 i j (enc _ y) d (by rw [List.getElem?_map, hi]; rfl) hj
                      refine ⟨u, w1, ?_⟩
                      have hfl : d.flat = true := List.all_eq_true.1 (flatT_all _ y (flat_dIn hr.2.1)) d (List.mem_of_getElem? hj)
                      exact flat_any w3 hfl
                  . cases hy
                . cases hy
              . cases hy
            . cases hy
          . intro i k' ver' hh v1 ver1 hk1
            subst hh
            unfold deepData at hy
            simp only at hy
            split at hy
            . rename_i v'' e2 c2 ap fr zs hkk hs2 hb2
              obtain rfl := Nat.eq_of_beq_eq_true hkk
              split at hy
              . split at hy
                . rename_i hvv
                  obtain rfl := Nat.eq_of_beq_eq_true hvv
                  obtain ⟨p, hp, hr2⟩ := h.mem (hkey k) _ hb2
                  rw [hk1] at hp; cases hp
                  exact hr2.1.symm
                . cases hy
              . cases hy
            . cases hy
        . trivial
      . trivial
    . trivial
  | sub => trivial
  | ptr => trivial
  | pr => trivial
  | asl => trivial
  | clp => trivial
  | pre => trivial
  | nn x => exact ⟨RepI.mono hc.1 hU (fun _ _ => rfl), hc.2⟩
  | d x => exact RepI.mono hc hU (fun _ _ => rfl)
  | f x => exact RepI.mono (U := fun b => U b /\ w0.heap.size <= b) hc (fun b hb => ⟨hU b hb.1, hb.2⟩) (fun _ _ => rfl)
  | nil => exact hc
  | pv cells =>
    obtain ⟨b, o, vals, h1, h2, h3⟩ := hc
    exact ⟨b, o, vals, h1, hU b h2, fun j d hj => ⟨(h3 j d hj).1, ((h3 j d hj).2).mono hU (fun _ _ => rfl)⟩⟩
  | clo f caps => obtain ⟨us, h1, h2, h3⟩ := hc; exact ⟨us, h1, h2, fun j u d hu hd => (h3 j u d hu hd).mono hU (fun _ _ => rfl)⟩
  | un => exact hc
  | ne => exact hc
  | bad => trivial
 have hV1 : ∀ (v : Value) (x : V), RepV w β U w0.heap.size v x -> RepV w (fun _ => none) U' w0.heap.size v (frzV1 s.mem x) := by
  intro v x hx
  cases hx with
  | one v c hc => exact .one _ _ (hC v c hc)
  | agg vs cs hl h1 hr =>
    refine .agg vs _ (by simpa using hl) h1 fun j u c hu hc => ?_
    rw [List.getElem?_map, Option.map_eq_some_iff] at hc
    obtain ⟨c0, hc0, rfl⟩ := hc
    exact hC _ _ (hr j u c0 hu hc0)
  | tup vs xs hl hr => exact .bad _
 have hV : ∀ (v : Value) (x : V), RepV w β U w0.heap.size v x -> RepV w (fun _ => none) U' w0.heap.size v (frzV s.mem x) := by
  intro v x hx
  cases hx with
  | one v c hc => exact hV1 v (.one c) (.one v c hc)
  | agg vs cs hl h1 hr => exact hV1 _ (.agg cs) (.agg vs cs hl h1 hr)
  | tup vs xs hl hr =>
    refine .tup vs _ (by simpa using hl) fun j u x hu hx => ?_
    rw [List.getElem?_map, Option.map_eq_some_iff] at hx
    obtain ⟨x0, hx0, rfl⟩ := hx
    exact hV1 _ _ (hr j u x0 hu hx0)
 refine ⟨fun _ => none, U', ?_⟩
 exact {
  n := h.n, small := h.small, args := h.args, ver0 := h.ver0, defers := h.defers, glob := h.glob.map hU (fun _ _ => rfl)
  hist := fun k p hp => by rw [hβ k] at hp; cases hp
  env := fun t => by
    have he := h.env t
    unfold St.get at he ⊢
    have : ∀ l : List (Nat × V), look t (l.map fun p => (p.1, frzV s.mem p.2)) = (look t l).map (frzV s.mem) := by
      intro l
      induction l with
      | nil => rfl
      | cons p l ih =>
        obtain ⟨j, v⟩ := p
        rw [List.map_cons, look_cons, look_cons]
        split
        . rfl
        . exact ih
    rw [this]
    cases hl : look t s.env with
    | none => exact .bad _
    | some x => rw [hl] at he; exact hV _ _ he
  mem := fun k blk hk => by cases hk
  dom := fun k p hp => by cases hp
  apart := fun k p b hp => by cases hp
  inj := fun k k' p p' b1 b2 b j hne hp => by cases hp
  stab := fun b hb => by
    rcases hb with hb | ⟨k, p, hk, hn, hv⟩
    . exact h.stab b hb
    . exact (h.apart k _ b hk hv).2
  old := fun b hb => .inl (h.old b hb)
  new := fun b hlt hb => by
    rcases hb with hb | ⟨k, p, hk, hn, hv⟩
    . exact h.new b hlt hb
    . have := hnew k p b hk hn hv; omega
  chg := h.chg
  may := fun k p blk b j hp => by cases hp }

theorem fnTr_sound {Γ : List (PF P)} {Λs : List (FuncId × LS)} {n : Nat} {f : FuncId} {ap : List VP1} {rp : SP} {x : VPsT ap Unit} {r : rp.T} (h : (fnTr P cod Γ Λs n f ap rp x).eval = some r) :
  ACall P f (putVs (fun _ => 0) ap x).1 [] fun r' m' => r' = (rp.put r).get 0 /\ m' = (rp.put r).mem := by
 unfold fnTr at h
 split at h
 case h_2 => cases h
 rename_i fn hf
 rw [Tr.eval_bind] at h
 obtain ⟨⟨r0, m0⟩, h1, h2⟩ := Option.bind_eq_some_iff.1 h
 simp only at h2
 split at h2
 case h_2 => cases h2
 rename_i g y hg
 obtain ⟨q1, q2⟩ := eval_grdOb h2
 cases q2
 have hc := execBody_sound (execFn_sound (cod := cod) (Γ := Γ) (Λs := Λs) n) hf h1
 have hw := SP.wk hg q1
 intro w U0 X β0 us hs
 have hβ : ∀ k, β0 k = none := by
  intro k
  cases hk : β0 k with
  | none => rfl
  | some p => have := hs.dom k p hk; cases this
 have hs0 : SimB w U0 (fun _ _ => False) β0 β0 U0 ⟨(putVs (fun _ => 0) ap x).1.length, argsEnv 0 (putVs (fun _ => 0) ap x).1, []⟩ ⟨us, []⟩ w :=
  { hs with chg := Chg.refl _ _ _, may := fun k p blk b j hp => by rw [hβ k] at hp; cases hp }
 refine (hc w U0 _ β0 us hs0).mono ?_
 rintro e w' ⟨v, r', m', rfl, ⟨rfl, rfl⟩, hsim⟩
 refine ⟨v, _, _, rfl, ⟨rfl, rfl⟩, ?_⟩
 obtain ⟨β1, U1, hb1⟩ := hsim
 have h3 := (hb1.freeze hβ).stWk hw
 obtain ⟨β, U, h4'⟩ := h3
 have h4 := h4'.monoX (X' := X) (fun _ _ e => e.elim)
 have hn : (rp.put r).n = 1 := hw.n.symm
 refine ⟨β, U, { h4 with n := by rw [h4.n, hn], small := by simp, env := fun t => ?_ }⟩
 have := h4.env t
 cases t with
 | zero => exact this
 | succ t =>
  have e : (#[v] : Array Value).getD (t + 1) undef = undef := by simp
  rw [e]
  show RepV _ _ _ _ undef ((look (t + 1) [(0, (rp.put r).get 0)]).getD (.one .bad))
  simp [look]
  exact .bad _

def FS.pf {P : Program} (F : FS P) : PF P := ⟨F.f, [], execSpec P F, fun ys m T r m' hT h => by
 unfold execSpec at hT
 split at hT
 . split at hT
   . rename_i g hg
     cases hT
     obtain ⟨y, h1, h2⟩ := Option.bind_eq_some_iff.1 h
     cases h2
     obtain ⟨_, hw⟩ := getVs_put (len := fun _ => 0) hg (fun q hq => by cases hq) Unit ()
     exact ⟨_, [], hw, trivial, F.ok _ _ h1⟩
   . cases hT
 . cases hT⟩

theorem acall_mono {P : Program} {f : FuncId} {args : List V} {m : List (Nat × Blk)} {K K' : V -> List (Nat × Blk) -> Prop} (h : ACall P f args m K)
  (hk : ∀ r m', K r m' -> ∃ r2 m2, K' r2 m2 /\ Fwd ⟨1, [(0, r)], m'⟩ ⟨1, [(0, r2)], m2⟩) : ACall P f args m K' := by
 intro w U0 X β0 us hs
 refine (h w U0 X β0 us hs).mono ?_
 rintro e w' ⟨v, r, m', rfl, hK, hsim⟩
 obtain ⟨r2, m2, h1, h2⟩ := hk r m' hK
 exact ⟨v, r2, m2, rfl, h1, h2 _ _ _ _ _ _ hsim⟩

theorem normGet_one {ks : List (Nat × Nat)} {sp : SP} {r : V} {m : Mem} {l : Ob} {y : sp.T} (h : normGet ks sp ⟨1, [(0, r)], m⟩ = some (l, y)) (ho : ObOk (sp.len y) l) : Fwd ⟨1, [(0, r)], m⟩ ⟨1, [(0, (sp.put y).get 0)], (sp.put y).mem⟩ := by
 have hf := normGet_fwd h ho
 have hn : (sp.put y).n = 1 := by
  unfold normGet at h
  split at h
  . rename_i s1 hs1
    have hw := SP.wk h ho
    rw [<- hw.n]
    unfold St.norm at hs1
    split at hs1
    . cases hs1; exact tidyP_n _ _ _
    . cases hs1
  . cases h
 intro w0 U0 X β0 a w hs
 have hs0 := hs
 obtain ⟨β1, U1, h1⟩ := hs0
 obtain ⟨β, U, h4⟩ := hf w0 U0 X β0 a w hs
 refine ⟨β, U, { h4 with n := by rw [h4.n, hn], small := by simp, env := fun t => ?_ }⟩
 have := h4.env t
 show RepV w β U w0.heap.size (a.tmps.getD t undef) ((look t [(0, (sp.put y).get 0)]).getD (.one .bad))
 cases t with
 | zero => exact this
 | succ t => simp [look]; exact .bad _

theorem gs_sound {Γ : List (PF P)} {Λs : List (FuncId × LS)} {n : Nat} {f : FuncId} {ap rp : SP} {x : ap.T} {r : rp.T} (h : (gsTr P cod Γ Λs n f ap rp x).eval = some r)
  {ys : List V} {m : Mem} {g : Ob} (he : entryGet ap ys m = some (g, x)) (hg : ObOk (ap.len x) g) : ACall P f ys m fun r' m' => r' = (rp.put r).get 0 /\ m' = (rp.put r).mem := by
 unfold entryGet at he
 split at he
 case h_2 => cases he
 rename_i hle
 simp only [decide_eq_true_eq] at hle
 unfold gsTr at h
 split at h
 case h_2 => cases h
 rename_i fn hf
 split at h
 case h_2 => cases h
 rename_i c hb
 split at h
 case h_2 => cases h
 rename_i hn
 simp only [Bool.and_eq_true, decide_eq_true_eq] at hn
 obtain ⟨hn1, hn2⟩ := hn
 have hn1 := Nat.eq_of_beq_eq_true hn1
 rw [Tr.eval_bind] at h
 obtain ⟨⟨r0, m0⟩, h1, h2⟩ := Option.bind_eq_some_iff.1 h
 simp only at h2
 split at h2
 case h_2 => cases h2
 rename_i g2 y hy
 obtain ⟨q1, q2⟩ := eval_grdOb h2
 cases q2
 obtain ⟨e, kn', s0', h3, h4, h5⟩ := exec_sound (execFn_sound (cod := cod) (Γ := Γ) (Λs := Λs) n) c KnOk.nil h1
 unfold execEnd at h4
 have h5 := awp_fwdT (tidyE_fwd (P := P) (rs := fn.results.toList) (m := (ap.put x).mem) s0') h5
 generalize tidyE P fn.results.toList (ap.put x).mem s0' = s' at h4 h5
 unfold execEnd0 at h4
 split at h4
 case h_2 => cases h4
 rename_i he'
 split at h4
 case h_2 => cases h4
 rename_i v hv
 split at h4
 case h_2 => cases h4
 rename_i s1 hs1
 split at h4
 case h_2 => cases h4
 rename_i z1 z2 hs2
 cases h4
 have hfw : Fwd ⟨ap.n, argsEnv 0 ys, m⟩ (ap.put x) := normGet_fwd he hg
 have hac : ACall P f ys m fun r' m'' => r' = r0 /\ m'' = s1.mem := by
  refine acall_enter (endKs (ap.put x).mem s'.mem ((trimSt { n := 1, env := [(0, v)], mem := s'.mem }).get 0)) hf hb hn1 rfl (by omega) hle ?_
  have hA : AWp P c (fun e1 s1 => e1 = e /\ s1 = s') ⟨ap.n, argsEnv 0 ys, m⟩ := fun w0 U0 X β0 a w hs => h5 w0 U0 X β0 a w (hfw _ _ _ _ _ _ hs)
  refine awp_mono hA ?_
  rintro e1 s2 ⟨rfl, rfl⟩
  refine ⟨?_, r0, s1.mem, ?_, rfl, rfl⟩
  . cases e1 <;> first | exact .inl rfl | exact .inr rfl | cases he'
  . simp only [hv]
    have hs3 := hs1
    unfold St.norm at hs3
    split at hs3
    . cases hs3
      simp only [List.map_cons, List.map_nil] at hs2 ⊢
      cases hs2
      rw [hs1, trimSt_n]; rfl
    . cases hs3
 refine acall_mono hac ?_
 rintro r' m' ⟨rfl, rfl⟩
 exact ⟨_, _, ⟨rfl, rfl⟩, normGet_one hy q1⟩

structure GS (P : Program) where
 f : FuncId
 ms : List Nat
 ap : SP
 rp : SP
 fn : ap.T -> Option rp.T
 ok : ∀ x r, fn x = some r -> ∀ ys m g, entryGet ap ys m = some (g, x) -> ObOk (ap.len x) g -> ACall P f ys m fun r' m' => r' = (rp.put r).get 0 /\ m' = (rp.put r).mem
def GS.pf {P : Program} (G : GS P) : PF P := ⟨G.f, G.ms, gsSpec G.ap G.rp G.fn, fun ys m T r m' hT h => by
 unfold gsSpec at hT
 split at hT
 . rename_i g x hg
   cases hT
   obtain ⟨h1, h2⟩ := eval_grdOb h
   obtain ⟨y, h3, h4⟩ := Option.bind_eq_some_iff.1 h2
   cases h4
   exact ⟨ys, m, WkVs_rfl _, WkM_rfl _, G.ok x y h3 ys m g hg h1⟩
 . cases hT⟩

theorem SimB.ghostEnd {w0 : World} {U0 : Nat -> Prop} {X : Nat -> Nat -> Prop} {β0 β : Nat -> Option Place} {U : Nat -> Prop} {a : Act} {w : World} (h : SimB w0 U0 X β0 β U ⟨1, [(0, .one .nil)], []⟩ a w) (e : TypeId) (c : Nat) (fr : Bool) :
  Sim w0 U0 X β0 ⟨1, [(0, .one (.own 2000000 0 0))], [(2000000, .rowT 0 e c (noSp e) fr [])]⟩ a w := by
 have hv : a.tmps.getD 0 undef = .slice none 0 0 := (h.env 0).toC
 have hno : ∀ k, β k = none := fun k => by
  cases hb : β k with
  | none => rfl
  | some p => have := h.dom k p hb; cases this
 refine ⟨upd β 2000000 (.row (.slice none 0 0) 0), U, ?_⟩
 have hget : ∀ k p, upd β 2000000 (.row (.slice none 0 0) 0) k = some p -> k = 2000000 /\ p = .row (.slice none 0 0) 0 := by
  intro k p hp
  by_cases e : 2000000 = k
  . subst e; rw [upd_self] at hp; exact ⟨rfl, by simpa using hp.symm⟩
  . rw [upd_ne β e, hno] at hp; cases hp
 have hblk : ∀ k b, look k [(2000000, Blk.rowT 0 e c (noSp e) fr [])] = some b -> k = 2000000 /\ b = .rowT 0 e c (noSp e) fr [] := by
  intro k b hb
  rw [look_cons] at hb
  split at hb
  . rename_i q; exact ⟨q.symm, by simpa using hb.symm⟩
  . cases hb
 exact {
  n := h.n, small := h.small, args := h.args, ver0 := h.ver0, defers := h.defers, glob := h.glob
  hist := fun k p hp hb => by
    obtain ⟨b, hb⟩ := Option.isSome_iff_exists.1 hb
    obtain ⟨rfl, _⟩ := hblk k b hb
    rw [h.args 2000000 (by omega)] at hp; cases hp
  env := fun t => by
    show RepV w _ U w0.heap.size (a.tmps.getD t undef) ((look t [(0, V.one (.own 2000000 0 0))]).getD (.one .bad))
    cases t with
    | zero =>
     rw [hv]
     exact .one _ _ ⟨none, 0, .slice none 0 0, 0, rfl, Nat.le_refl _, fun _ => ⟨rfl, rfl⟩, fun x hx => by (cases hx), upd_self _ _ _, Nat.le_refl _, fun _ => rfl⟩
    | succ t => simp [look]; exact .bad _
  mem := fun k b hb => by
    obtain ⟨rfl, rfl⟩ := hblk k b hb
    exact ⟨_, upd_self _ _ _, rfl, fun r hr => by simp at hr, .inl ⟨rfl, rfl⟩⟩
  dom := fun k p hp => by
    obtain ⟨rfl, _⟩ := hget k p hp
    rfl
  apart := fun k p b hp hb => by
    obtain ⟨rfl, rfl⟩ := hget k p hp
    simp [Place.has, Value.ownBlock] at hb
  inj := fun k1 k2 p1 p2 b1 b2 b j hne hp1 hp2 => by
    obtain ⟨rfl, _⟩ := hget k1 p1 hp1
    obtain ⟨rfl, _⟩ := hget k2 p2 hp2
    exact absurd rfl hne
  stab := h.stab, old := h.old, new := h.new, chg := h.chg
  may := fun k p blk b j hp hb hc => by
    obtain ⟨rfl, rfl⟩ := hget k p hp
    have := covers_block hc
    simp [Place.has, Value.ownBlock] at this }

def cloneRes (e c b : Nat) (xs : List (τ c)) : Tr (V × Mem) :=
 .grd (decide ((0 + xs.length) * b <= 140737488355328 /\ 0 + xs.length <= maxLen)) (.ret (.one (.own 2000000 0 xs.length), [(2000000, .rowT 0 e c (noSp e) (flatT c) xs)]))
def cloneTr (e c b : Nat) (ys : List V) (m : Mem) : Option (Tr (V × Mem)) :=
 match ys, m with
 | [.one (.d (.st k xs))], [] => match castSt c k xs with
  | some xs => some (cloneRes e c b xs)
  | none => none
 | [.one .nil], [] => some (.ret (.one (.own 2000000 0 0), [(2000000, .rowT 0 e c (noSp e) (flatT c) [])]))
 | _, _ => none
def bodyTr (P : Program) (cod : TypeId -> Nat) (f : FuncId) (ys : List V) : Tr (V × Mem) :=
 match P.funcs[f]? with
 | some fn => execBody P cod (fun _ => []) (fun _ _ _ => .fail 0) [] fn f ys []
 | none => .fail 0
theorem bodyTr_sound {P : Program} {cod : TypeId -> Nat} {f : FuncId} {ys : List V} {r : V} {m : Mem} (h : (bodyTr P cod f ys).eval = some (r, m)) : ACall P f ys [] fun r' m' => r' = r /\ m' = m := by
 unfold bodyTr at h
 split at h
 . rename_i fn hf
   exact execBody_sound (fun f xs m r m' h => by cases h) hf h
 . cases h

theorem cloneTr_cases {e c b : Nat} {ys : List V} {m : Mem} {T : Tr (V × Mem)} (h : cloneTr e c b ys m = some T) :
   (∃ xs : List (τ c), ys = [.one (.d (.st c xs))] /\ m = [] /\ T = cloneRes e c b xs) \/ (ys = [.one .nil] /\ m = [] /\ T = .ret (.one (.own 2000000 0 0), [(2000000, .rowT 0 e c (noSp e) (flatT c) [])])) := by
 unfold cloneTr at h
 split at h
 . rename_i k xs
   split at h
   . rename_i xs' hc
     cases h
     refine .inl ⟨xs', ?_, rfl, rfl⟩
     rw [castSt_eq hc]
   . cases h
 . cases h; exact .inr ⟨rfl, rfl, rfl⟩
 . cases h

def clonePF (P : Program) (cod : TypeId -> Nat) (f e c b : Nat) (h1 : ∀ xs : List (τ c), (bodyTr P cod f [.one (.nn (.st c xs))]).eval = (cloneRes e c b xs).eval) (h2 : (bodyTr P cod f [.one .nil]).eval = some (.one .nil, [])) : PF P := ⟨f, [], cloneTr e c b, fun ys m T r m' hT h => by
 have hnil : ACall P f [.one .nil] [] fun r' m'' => r' = .one (.own 2000000 0 0) /\ m'' = [(2000000, .rowT 0 e c (noSp e) (flatT c) [])] := by
   refine acall_mono (bodyTr_sound (cod := cod) (r := .one .nil) (m := []) h2) ?_
   rintro r' m' ⟨rfl, rfl⟩
   refine ⟨_, _, ⟨rfl, rfl⟩, ?_⟩
   rintro w0 U0 X β0 a w ⟨β, U, hs⟩
   exact hs.ghostEnd e c (flatT c)
 have hnn : ∀ (xs : List (τ c)) (r : V) (m' : Mem), (cloneRes e c b xs).eval = some (r, m') -> ACall P f [.one (.nn (.st c xs))] [] fun r' m'' => r' = r /\ m'' = m' := fun xs r m' h =>
   bodyTr_sound (cod := cod) (by rw [h1]; exact h)
 rcases cloneTr_cases hT with ⟨xs, rfl, rfl, rfl⟩ | ⟨rfl, rfl, rfl⟩
 . refine ⟨[.one (.d (.st c xs))], [], WkVs_rfl _, trivial, ?_⟩
   intro w U0 X β0 us hs
   have hv := (hs.env 0).toC
   have hst : RepI w U0 (us.getD 0 undef) (.st c xs) := hv
   have hun := RepI.unst hst
   -- what a value says is enough
   have up : ∀ {c' : C}, RepC w β0 U0 w.heap.size (us.getD 0 undef) c' -> SimB w U0 X β0 β0 U0 ⟨1, argsEnv 0 [.one c'], []⟩ ⟨us, []⟩ w := fun {c'} hc' => { hs with
    env := fun t => by
     show RepV w β0 U0 w.heap.size (us.getD t undef) ((look t [(0, V.one c')]).getD (.one .bad))
     cases t with
     | zero => exact .one _ _ hc'
     | succ t => simp [look]; exact .bad _ }
   have hsome : ∀ ad l cc, us.getD 0 undef = .slice (some ad) l cc -> Calls P f us w fun e' w' => ∃ v r' m'', e' = .returned v /\ (r' = r /\ m'' = m') /\ Sim w U0 X β0 ⟨1, [(0, r')], m''⟩ ⟨#[v], []⟩ w' :=
    fun ad l cc he => hnn xs r m' h w U0 X β0 us (up (c' := .nn (.st c xs)) ⟨hst, ad, l, cc, he⟩)
   generalize hu : us.getD 0 undef = u at hun hsome up
   have hlen : xs.length = (xs.map (enc c)).length := by simp
   generalize xs.map (enc c) = rows at hun hlen
   cases hun with
   | nil ao cap _ hn =>
    have hx0 : xs = [] := List.eq_nil_of_length_eq_zero (by simpa using hlen)
    subst hx0
    cases ao with
    | some ad => exact hsome ad 0 cap rfl
    | none =>
     have hc0 := hn rfl
     subst hc0
     obtain ⟨_, h3⟩ := Tr.eval_grd h
     cases h3
     exact hnil w U0 X β0 us (up (c' := .nil) rfl)
   | sl b' o cap _ _ vals => exact hsome _ _ _ rfl
 . cases h
   exact ⟨[.one .nil], [], WkVs_rfl _, trivial, hnil⟩⟩

end Go.Proofs.YtaeeadldamflcaaGreatDoor.Abs
namespace Go.Proofs.YtaeeadldamflcaaGreatDoor.X
def cod : Go.TypeId -> Nat
 | 32 => 20
 | 37 => 6
 | 50 => 10
 | 53 => 19
 | 54 => 16
 | 55 => 16
 | 59 => 17
 | 71 => 5
 | 84 => 2
 | 123 => 2
 | 125 => 0
 | 156 => 4
 | _ => 99
end Go.Proofs.YtaeeadldamflcaaGreatDoor.X
