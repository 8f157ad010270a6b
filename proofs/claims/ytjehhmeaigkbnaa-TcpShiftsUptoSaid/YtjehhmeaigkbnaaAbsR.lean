/- An abstract walk: a state said anew (what is forgotten, other names of blocks). For whatever program. -/
import Derived.Test.YtjehhmeaigkbnaaAbsH
namespace Go.Proofs.Ytjehhmeaigkbnaa.Abs
open Go Go.RowKit
set_option linter.unusedVariables false

def St.upd (s : St) (l : List (Nat × Blk)) : St := { s with mem := l ++ s.mem }
/-- What an operation leaves: a value, and blocks. -/
structure Out where
  val : V
  mem : List (Nat × Blk)
def St.out (s : St) (dst : Option Nat) (E : Out) : St := (s.upd E.mem).put dst E.val
def Eff.out (E : Eff) : Out := ⟨E.val, E.mem.toList⟩
theorem St.app_out (s : St) (dst : Option Nat) (E : Eff) : s.app dst E = s.out dst E.out := by
  obtain ⟨v, m⟩ := E
  cases m <;> rfl

theorem look_append {α : Type} (t : Nat) : ∀ (l r : List (Nat × α)), look t (l ++ r) = (look t l).or (look t r)
  | [], r => by simp [look]
  | (j, v) :: l, r => by
    simp only [List.cons_append, look]
    split
    · rfl
    · exact look_append t l r

abbrev Ren := Nat → Option (Nat × Nat × Nat)

def renKs (σ : Ren) : List (Nat × Nat) → Option (List (Nat × Nat))
  | [] => some []
  | (k, o) :: r => match σ k, renKs σ r with
    | some (k', _, _), some l => some ((k', o) :: l)
    | _, _ => none
def C.ren (σ : Ren) : C → C
  | .clp g ks => match renKs σ ks with | some l => .clp g l | none => .bad
  | .own k ver len => match σ k with | some (k', cv, nv) => if ver = cv then .own k' nv len else .bad | none => .bad
  | .sub k ver sz off len => match σ k with | some (k', cv, nv) => if ver = cv then .sub k' nv sz off len else .bad | none => .bad
  | .ptr k off => match σ k with | some (k', _, _) => .ptr k' off | none => .bad
  | .pr k ver sz i off => match σ k with | some (k', cv, nv) => if ver = cv then .pr k' nv sz i off else .bad | none => .bad
  | .asl k off len => match σ k with | some (k', _, _) => .asl k' off len | none => .bad
  | .pre k ver sz len => match σ k with | some (k', cv, nv) => if ver = cv then .pre k' nv sz len else .bad | none => .bad
  | c => c
def V.ren1 (σ : Ren) : V → V
  | .one c => .one (c.ren σ)
  | .agg cs => .agg (cs.map (C.ren σ))
  | .tup _ => .one .bad
def V.ren (σ : Ren) : V → V
  | .tup vs => .tup (vs.map (V.ren1 σ))
  | .one c => .one (c.ren σ)
  | .agg cs => .agg (cs.map (C.ren σ))
def Blk.ren (σ : Ren) (nv : Nat) : Blk → Blk
  | .cells cs => .cells (cs.map (C.ren σ))
  | .row _ e sz ap fr rows => .row nv e sz ap fr rows
  | .rowT _ e c ap fr xs => .rowT nv e c ap fr xs
def Blk.ver : Blk → Nat
  | .cells _ => 0
  | .row ver _ _ _ _ _ => ver
  | .rowT ver _ _ _ _ _ => ver
def Blk.isRow : Blk → Bool
  | .cells _ => false
  | _ => true
def Place.renum (nv : Nat) : Place → Place
  | .cells b o => .cells b o
  | .row v _ => .row v nv

/-- Version of a block behind a renaming: what was handed in keeps its own. -/
def newVer (kp : Bool) (k : Nat) (b : Blk) : Nat := if 1000000 ≤ k ∧ k < 2000000 then (match kp with | true => b.ver | false => 1) else 0
def St.sig (kp : Bool) (s : St) (ks : List (Nat × Nat)) : Ren := fun k => match look k ks, s.blk k with
  | some k', some b => some (k', b.ver, newVer kp k b)
  | _, _ => none
def normMem (kp : Bool) (s : St) (σ : Ren) : List (Nat × Nat) → Option (List (Nat × Blk))
  | [] => some []
  | (k, k') :: r => match s.blk k, normMem kp s σ r with
    | some b, some m => some ((k', b.ren σ (newVer kp k b)) :: m)
    | _, _ => none
/-- Names that may be given: each once; what was handed in keeps its own. -/
def okNames : List (Nat × Nat) → Bool
  | [] => true
  | (k, k') :: r => r.all (fun p => p.1 != k && p.2 != k') && (k == k' || (decide (k < 1000000 ∨ 2000000 ≤ k) && decide (k' < 1000000 ∨ 2000000 ≤ k'))) && okNames r
def St.norm (kp : Bool) (s : St) (ts : List Nat) (ks : List (Nat × Nat)) : Option St :=
  match okNames ks, normMem kp s (s.sig kp ks) ks with
  | true, some m => some { n := s.n, env := ts.map fun t => (t, (s.get t).ren (s.sig kp ks)), mem := m }
  | _, _ => none

section
variable {w : World} {β β' : Nat → Option Place} {U : Nat → Prop} {base : Nat} {σ : Ren}

/-- The renaming fits the places. -/
def Fits (β β' : Nat → Option Place) (σ : Ren) : Prop := ∀ k k' cv nv, σ k = some (k', cv, nv) → (∃ b o, β k = some (.cells b o) ∧ β' k' = some (.cells b o)) ∨ ∃ v, β k = some (.row v cv) ∧ β' k' = some (.row v nv)

theorem renKs_get (hf : Fits β β' σ) : ∀ (ks l : List (Nat × Nat)), renKs σ ks = some l → l.length = ks.length ∧ ∀ (j : Nat) (p : Nat × Nat), l[j]? = some p → ∃ q, ks[j]? = some q ∧ ∀ b o, β q.1 = some (.cells b o) → β' p.1 = some (.cells b o) ∧ p.2 = q.2
  | [], l, h => by cases h; exact ⟨rfl, fun j p hj => by simp at hj⟩
  | (k, o) :: r, l, h => by
    unfold renKs at h
    split at h
    · rename_i k' cv nv l' hs hr
      cases h
      obtain ⟨i1, i2⟩ := renKs_get hf r l' hr
      refine ⟨by simp [i1], fun j p hj => ?_⟩
      cases j with
      | zero =>
        simp at hj; subst hj
        refine ⟨(k, o), rfl, fun b o' hb => ⟨?_, rfl⟩⟩
        rcases hf k k' cv nv hs with ⟨b', o'', e1, e2⟩ | ⟨v1, e1, e2⟩
        · rw [hb] at e1; cases e1; exact e2
        · rw [hb] at e1; cases e1
      | succ j => simpa using i2 j p (by simpa using hj)
    · cases h

theorem RepC.ren {v : Value} {c : C} (h : RepC w β U base v c) (hf : Fits β β' σ) : RepC w β' U base v (c.ren σ) := by
  cases c with
  | d x => exact h
  | f x => exact h
  | nil => exact h
  | own k ver len =>
    simp only [C.ren]
    split
    · rename_i k' cv nv hs
      split
      · rename_i hv
        subst hv
        obtain ⟨a, cap, v0, ver0, h1, h2, h3, h4, h5, h6, h7⟩ := h
        rcases hf k k' ver nv hs with ⟨b, o, e1, _⟩ | ⟨v1, e1, e2⟩
        · rw [h5] at e1; cases e1
        · rw [h5] at e1; cases e1
          exact ⟨a, cap, v0, nv, h1, h2, h3, h4, e2, Nat.le_refl _, fun _ => h7 rfl⟩
      · trivial
    · trivial
  | sub k ver sz off len =>
    simp only [C.ren]
    split
    · rename_i k' cv nv hs
      split
      · rename_i hv
        subst hv
        obtain ⟨a, cap, v0, ver0, h1, h2, h3, h5, h6, h7⟩ := h
        rcases hf k k' ver nv hs with ⟨b, o, e1, _⟩ | ⟨v1, e1, e2⟩
        · rw [h5] at e1; cases e1
        · rw [h5] at e1; cases e1
          exact ⟨a, cap, v0, nv, h1, h2, h3, e2, Nat.le_refl _, fun _ => h7 rfl⟩
      · trivial
    · trivial
  | ptr k off =>
    simp only [C.ren]
    split
    · rename_i k' cv nv hs
      obtain ⟨b, o, h1, h2⟩ := h
      rcases hf k k' cv nv hs with ⟨b', o', e1, e2⟩ | ⟨v1, e1, e2⟩
      · rw [h1] at e1; cases e1
        exact ⟨b, o, e2, h2⟩
      · rw [h1] at e1; cases e1
    · trivial
  | pr k ver sz i off =>
    simp only [C.ren]
    split
    · rename_i k' cv nv hs
      split
      · rename_i hv
        subst hv
        obtain ⟨a, v0, ver0, h1, h5, h6, h7⟩ := h
        rcases hf k k' ver nv hs with ⟨b, o, e1, _⟩ | ⟨v1, e1, e2⟩
        · rw [h5] at e1; cases e1
        · rw [h5] at e1; cases e1
          exact ⟨a, v0, nv, h1, e2, Nat.le_refl _, fun _ => h7 rfl⟩
      · trivial
    · trivial
  | asl k off len =>
    simp only [C.ren]
    split
    · rename_i k' cv nv hs
      obtain ⟨b, o, h1, h2⟩ := h
      rcases hf k k' cv nv hs with ⟨b', o', e1, e2⟩ | ⟨v1, e1, e2⟩
      · rw [h1] at e1; cases e1
        exact ⟨b, o, e2, h2⟩
      · rw [h1] at e1; cases e1
    · trivial
  | pre k ver sz len =>
    simp only [C.ren]
    split
    · rename_i k' cv nv hs
      split
      · rename_i hv
        subst hv
        obtain ⟨a, cap, v0, ver0, h1, h2, h3, h5, h6, h7⟩ := h
        rcases hf k k' ver nv hs with ⟨b, o, e1, _⟩ | ⟨v1, e1, e2⟩
        · rw [h5] at e1; cases e1
        · rw [h5] at e1; cases e1
          exact ⟨a, cap, v0, nv, h1, h2, h3, e2, Nat.le_refl _, fun _ => h7 rfl⟩
      · trivial
    · trivial
  | nn x => exact h
  | pv cells => exact h
  | clo f caps => exact h
  | clp f ks =>
    simp only [C.ren]
    split
    · rename_i l hs
      obtain ⟨vs, h1, h2, h3⟩ := h
      obtain ⟨i1, i2⟩ := renKs_get hf ks l hs
      refine ⟨vs, h1, h2.trans i1.symm, fun j u p hu hp => ?_⟩
      obtain ⟨q, hq, i3⟩ := i2 j p hp
      obtain ⟨b, o, e1, e2⟩ := h3 j u q hu hq
      obtain ⟨i4, i5⟩ := i3 b o e1
      exact ⟨b, o, i4, by rw [i5]; exact e2⟩
    · trivial
  | un => exact h
  | bad => trivial

theorem RepCs.renMap {us : List Value} {cs : List C} (hl : us.length = cs.length) (h : ∀ (j : Nat) (u : Value) (c : C), us[j]? = some u → cs[j]? = some c → RepC w β U base u c) (hf : Fits β β' σ) :
    ∀ (j : Nat) (u : Value) (c : C), us[j]? = some u → (cs.map (C.ren σ))[j]? = some c → RepC w β' U base u c := by
  intro j u c hu hc
  rw [List.getElem?_map, Option.map_eq_some_iff] at hc
  obtain ⟨c0, hc0, rfl⟩ := hc
  exact (h j u c0 hu hc0).ren hf

theorem RepV.ren1 {v : Value} {x : V} (h : RepV w β U base v x) (hf : Fits β β' σ) : RepV w β' U base v (x.ren1 σ) := by
  cases h with
  | one v c h => exact .one _ _ (h.ren hf)
  | agg vs cs hl h1 h => exact .agg _ _ (by simpa using hl) h1 (RepCs.renMap hl h hf)
  | tup vs xs hl h => exact .bad _

theorem RepV.ren {v : Value} {x : V} (h : RepV w β U base v x) (hf : Fits β β' σ) : RepV w β' U base v (x.ren σ) := by
  cases h with
  | one v c h => exact .one _ _ (h.ren hf)
  | agg vs cs hl h1 h => exact .agg _ _ (by simpa using hl) h1 (RepCs.renMap hl h hf)
  | tup vs xs hl h =>
    refine .tup _ _ (by simpa using hl) fun j u x hu hx => ?_
    rw [List.getElem?_map, Option.map_eq_some_iff] at hx
    obtain ⟨x0, hx0, rfl⟩ := hx
    exact (h j u x0 hu hx0).ren1 hf

theorem RepB.ren {p : Place} {blk : Blk} {nv : Nat} (h : RepB w β U base p blk) (hf : Fits β β' σ) : RepB w β' U base (p.renum nv) (blk.ren σ nv) := by
  cases p with
  | cells b o =>
    cases blk with
    | cells cs =>
      refine ⟨by simpa using h.1, fun j c hj => ?_⟩
      rw [List.getElem?_map, Option.map_eq_some_iff] at hj
      obtain ⟨c0, hc0, rfl⟩ := hj
      obtain ⟨v, h1, h2, h3, h4⟩ := h.2 j c0 hc0
      exact ⟨v, h1, h2, h3, h4.ren hf⟩
    | row => exact h.elim
    | rowT => exact h.elim
  | row v ver0 =>
    cases blk with
    | cells => exact h.elim
    | row ver e sz ap fr rows => exact ⟨rfl, h.2.1, h.2.2⟩
    | rowT ver e c ap fr xs => exact ⟨rfl, h.2.1, h.2.2⟩

theorem covers_ren {p : Place} {blk : Blk} {nv : Nat} {b j : Nat} : (p.renum nv).covers (blk.ren σ nv) b j ↔ p.covers blk b j := by
  cases p <;> cases blk <;> simp [Place.renum, Blk.ren, Place.covers]

theorem block_ren {p : Place} {nv : Nat} : (p.renum nv).block = p.block := by cases p <;> rfl

theorem normMem_get {kp : Bool} {s : St} : ∀ (ks : List (Nat × Nat)) (m : List (Nat × Blk)), normMem kp s σ ks = some m → ∀ k' blk', look k' m = some blk' → ∃ k blk, (k, k') ∈ ks ∧ s.blk k = some blk ∧ blk' = blk.ren σ (newVer kp k blk)
  | [], m, h, k', blk', hk => by simp [normMem] at h; subst h; simp [look] at hk
  | (k0, k0') :: r, m, h, k', blk', hk => by
    unfold normMem at h
    split at h
    · rename_i b m' hb hm
      obtain rfl := Option.some.inj h
      rw [look_cons] at hk
      split at hk
      · rename_i e
        subst e
        exact ⟨k0, b, by simp, hb, (Option.some.inj hk).symm⟩
      · obtain ⟨k, blk, h1, h2, h3⟩ := normMem_get r m' hm k' blk' hk
        exact ⟨k, blk, by simp [h1], h2, h3⟩
    · cases h

theorem normMem_has {kp : Bool} {s : St} : ∀ (ks : List (Nat × Nat)) (m : List (Nat × Blk)), normMem kp s σ ks = some m → ∀ k k', (k, k') ∈ ks → (s.blk k).isSome = true ∧ (look k' m).isSome = true
  | [], m, h, k, k', hk => by simp at hk
  | (k0, k0') :: r, m, h, k, k', hk => by
    unfold normMem at h
    split at h
    · rename_i b m' hb hm
      obtain rfl := Option.some.inj h
      rw [look_cons]
      rcases List.mem_cons.1 hk with e | e
      · cases e; exact ⟨by rw [hb]; rfl, by rw [if_pos rfl]; rfl⟩
      · obtain ⟨h1, h2⟩ := normMem_has r m' hm k k' e
        refine ⟨h1, ?_⟩
        split
        · rfl
        · exact h2
    · cases h

theorem look_mem {α : Type} {t : Nat} : ∀ {l : List (Nat × α)} {x : α}, look t l = some x → (t, x) ∈ l
  | [], x, h => by simp [look] at h
  | (j, v) :: r, x, h => by
    rw [look_cons] at h
    split at h
    · rename_i e; subst e; cases h; simp
    · simp [look_mem h]

theorem okNames_spec : ∀ {ks : List (Nat × Nat)}, okNames ks = true → (∀ k k1 k2, (k, k1) ∈ ks → (k, k2) ∈ ks → k1 = k2) ∧ (∀ k1 k2 k', (k1, k') ∈ ks → (k2, k') ∈ ks → k1 = k2) ∧ (∀ k k', (k, k') ∈ ks → look k ks = some k') ∧
    ∀ k k', (k, k') ∈ ks → k = k' ∨ ((k < 1000000 ∨ 2000000 ≤ k) ∧ (k' < 1000000 ∨ 2000000 ≤ k'))
  | [], _ => ⟨fun _ _ _ h => by simp at h, fun _ _ _ h => by simp at h, fun _ _ h => by simp at h, fun _ _ h => by simp at h⟩
  | (k0, k0') :: r, h => by
    simp only [okNames, Bool.and_eq_true, List.all_eq_true, bne_iff_ne, ne_eq, Bool.or_eq_true, beq_iff_eq, decide_eq_true_eq] at h
    obtain ⟨⟨h1, h2⟩, h3⟩ := h
    obtain ⟨i1, i2, i3, i4⟩ := okNames_spec h3
    refine ⟨fun k k1 k2 a b => ?_, fun k1 k2 k' a b => ?_, fun k k' a => ?_, fun k k' a => ?_⟩
    · rcases List.mem_cons.1 a with e | e <;> rcases List.mem_cons.1 b with e' | e'
      · cases e; cases e'; rfl
      · cases e; exact absurd rfl (h1 _ e').1
      · cases e'; exact absurd rfl (h1 _ e).1
      · exact i1 k k1 k2 e e'
    · rcases List.mem_cons.1 a with e | e <;> rcases List.mem_cons.1 b with e' | e'
      · cases e; cases e'; rfl
      · cases e; exact absurd rfl (h1 _ e').2
      · cases e'; exact absurd rfl (h1 _ e).2
      · exact i2 k1 k2 k' e e'
    · rw [look_cons]
      rcases List.mem_cons.1 a with e | e
      · cases e; rw [if_pos rfl]
      · rw [if_neg (fun q => by subst q; exact absurd rfl (h1 _ e).1)]
        exact i3 k k' e
    · rcases List.mem_cons.1 a with e | e
      · cases e; exact h2
      · exact i4 k k' e
end

theorem Sim.norm {kp : Bool} {w0 : World} {U0 : Nat → Prop} {X : Nat → Nat → Prop} {β0 : Nat → Option Place} {s s' : St} {a : Act} {w : World} (h : Sim w0 U0 X β0 s a w) {ts : List Nat} {ks : List (Nat × Nat)} (hn : s.norm kp ts ks = some s') : Sim w0 U0 X β0 s' a w := by
  obtain ⟨β, U, h⟩ := h
  unfold St.norm at hn
  split at hn
  case h_2 => cases hn
  rename_i m hok hm
  obtain rfl := Option.some.inj hn
  obtain ⟨i1, i2, i3, i4⟩ := okNames_spec hok
  let β' : Nat → Option Place := fun k' => match ks.find? (fun p => p.2 == k') with
    | some (k, _) => match β k, s.blk k with
      | some p, some b => some (p.renum (newVer kp k b))
      | _, _ => none
    | none => none
  have hfind : ∀ k k', (k, k') ∈ ks → ks.find? (fun p => p.2 == k') = some (k, k') := by
    intro k k' hk
    cases hf : ks.find? (fun p => p.2 == k') with
    | none => have := List.find?_eq_none.1 hf (k, k') hk; simp at this
    | some q =>
      obtain ⟨q1, q2⟩ := q
      have h1 := List.mem_of_find?_eq_some hf
      have h2 : q2 = k' := by simpa using List.find?_some hf
      subst h2
      rw [i2 k q1 q2 hk h1]
  have hβ' : ∀ k k' p b, (k, k') ∈ ks → β k = some p → s.blk k = some b → β' k' = some (p.renum (newVer kp k b)) := by
    intro k k' p b hk hp hb
    simp only [β', hfind k k' hk, hp, hb]
  have hβi : ∀ k' p', β' k' = some p' → ∃ k p b, (k, k') ∈ ks ∧ β k = some p ∧ s.blk k = some b ∧ p' = p.renum (newVer kp k b) := by
    intro k' p' hp
    simp only [β'] at hp
    split at hp
    · rename_i k q hf
      have h1 := List.mem_of_find?_eq_some hf
      have h2 : q = k' := by simpa using List.find?_some hf
      subst h2
      split at hp
      · rename_i p b e1 e2
        exact ⟨k, p, b, h1, e1, e2, (Option.some.inj hp).symm⟩
      · cases hp
    · cases hp
  have hver : ∀ k p b, β k = some p → s.blk k = some b → (∃ x y, p = .cells x y) ∨ ∃ v, p = .row v b.ver := by
    intro k p b hp hb
    obtain ⟨p', hp', hr⟩ := h.mem k b hb
    rw [hp] at hp'; cases hp'
    cases p with
    | cells x y => exact .inl ⟨x, y, rfl⟩
    | row v ver0 =>
      cases b with
      | cells => exact hr.elim
      | row ver e sz ap fr rows => obtain ⟨rfl, _⟩ := hr; exact .inr ⟨v, rfl⟩
      | rowT ver e c ap fr xs => obtain ⟨rfl, _⟩ := hr; exact .inr ⟨v, rfl⟩
  have hfits : Fits β β' (s.sig kp ks) := by
    intro k k' cv nv hs
    unfold St.sig at hs
    split at hs
    · rename_i k1 b e1 e2
      simp only [Option.some.injEq, Prod.mk.injEq] at hs
      obtain ⟨rfl, rfl, rfl⟩ := hs
      obtain ⟨p, hp, _⟩ := h.mem k b e2
      have hb' := hβ' k k1 p b (look_mem e1) hp e2
      rcases hver k p b hp e2 with ⟨x, y, rfl⟩ | ⟨v, rfl⟩
      · exact .inl ⟨x, y, hp, hb'⟩
      · exact .inr ⟨v, hp, hb'⟩
    · cases hs
  have hblk : ∀ k' blk', look k' m = some blk' → ∃ k blk, (k, k') ∈ ks ∧ s.blk k = some blk ∧ blk' = blk.ren (s.sig kp ks) (newVer kp k blk) := normMem_get ks m hm
  refine ⟨β', U, ?_⟩
  exact {
    n := h.n, small := h.small, args := h.args, ver0 := h.ver0, defers := h.defers, apart := fun k p b hp hb => by
      obtain ⟨k0, p0, b0, h1, h2, h3, rfl⟩ := hβi k p hp
      exact h.apart k0 p0 b h2 (by rw [block_ren] at hb; exact hb)
    env := fun t => by
      show RepV w β' U w0.heap.size (a.tmps.getD t undef) ((look t (ts.map fun t => (t, (s.get t).ren (s.sig kp ks)))).getD (.one .bad))
      cases hl : look t (ts.map fun t => (t, (s.get t).ren (s.sig kp ks))) with
      | none => exact .bad _
      | some x =>
        have := look_mem hl
        rw [List.mem_map] at this
        obtain ⟨t', _, e⟩ := this
        cases e
        exact (h.env t).ren hfits
    mem := fun k' blk' hk' => by
      obtain ⟨k, blk, h1, h2, rfl⟩ := hblk k' blk' hk'
      obtain ⟨p, hp, hr⟩ := h.mem k blk h2
      exact ⟨_, hβ' k k' p blk h1 hp h2, hr.ren hfits⟩
    dom := fun k' p' hp => by
      obtain ⟨k, p, b, h1, _⟩ := hβi k' p' hp
      exact (normMem_has ks m hm k k' h1).2
    inj := fun k1 k2 p1 p2 b1 b2 b j hne hp1 hp2 hb1 hb2 hc1 hc2 => by
      obtain ⟨q1, x1, y1, m1, z1, u1, rfl⟩ := hβi k1 p1 hp1
      obtain ⟨q2, x2, y2, m2, z2, u2, rfl⟩ := hβi k2 p2 hp2
      obtain ⟨q1', y1', n1, u1', rfl⟩ := hblk k1 b1 hb1
      obtain ⟨q2', y2', n2, u2', rfl⟩ := hblk k2 b2 hb2
      obtain rfl := i2 q1 q1' k1 m1 n1
      obtain rfl := i2 q2 q2' k2 m2 n2
      rw [u1] at u1'; cases u1'
      rw [u2] at u2'; cases u2'
      have hq : q1 ≠ q2 := fun e => by subst e; exact hne (i1 q1 k1 k2 m1 m2)
      exact h.inj q1 q2 x1 x2 y1 y2 b j hq z1 z2 u1 u2 (covers_ren.1 hc1) (covers_ren.1 hc2)
    stab := h.stab, old := h.old, new := h.new, chg := h.chg
    may := fun k p blk b j hp hb hc hlt => by
      obtain ⟨q1, x1, y1, m1, z1, u1, rfl⟩ := hβi k p hp
      obtain ⟨q1', y1', n1, u1', rfl⟩ := hblk k blk hb
      obtain rfl := i2 q1 q1' k m1 n1
      rw [u1] at u1'; cases u1'
      exact h.may q1 x1 y1 b j z1 u1 (covers_ren.1 hc) hlt
    hist := fun k p hp hb => by
      obtain ⟨blk', hblk'⟩ := Option.isSome_iff_exists.1 hb
      obtain ⟨q, y, hq, hy, rfl⟩ := hblk k blk' hblk'
      have hk : 1000000 ≤ k ∧ k < 2000000 := by
        by_cases e : k < 1000000 ∨ 2000000 ≤ k
        · rw [h.args k e] at hp; cases hp
        · omega
      have hqk : q = k := by
        rcases i4 q k hq with e | ⟨_, e⟩
        · exact e
        · omega
      subst hqk
      obtain ⟨p1, hp1, _⟩ := h.mem q y hy
      have hb1 := hβ' q q p1 y hq hp1 hy
      cases kp with
      | true =>
        have hnv : newVer true q y = y.ver := by unfold newVer; rw [if_pos hk]
        have hsame : p1.renum (newVer true q y) = p1 := by
          rw [hnv]
          rcases hver q p1 y hp1 hy with ⟨x, z, rfl⟩ | ⟨v, rfl⟩ <;> rfl
        rw [hsame] at hb1
        rcases h.hist q p hp (by rw [hy]; rfl) with e | ⟨v0, ver0, v1, ver1, e1, e2, e3⟩
        · left; rw [hb1]; rw [hp1] at e; exact e
        · right; rw [hp1] at e2; exact ⟨v0, ver0, v1, ver1, e1, by rw [hb1]; exact e2, e3⟩
      | false =>
        have hnv : newVer false q y = 1 := by unfold newVer; rw [if_pos hk]
        rw [hnv] at hb1
        rcases h.hist q p hp (by rw [hy]; rfl) with e | ⟨v0, ver0, v1, ver1, e1, e2, e3⟩
        · rw [hp1] at e
          have e2 := Option.some.inj e
          rw [e2] at hb1
          cases p with
          | cells x z => left; exact hb1
          | row v ver =>
            have := h.ver0 q v ver hp
            exact .inr ⟨v, ver, v, 1, rfl, hb1, by omega⟩
        · rw [hp1] at e2
          rw [Option.some.inj e2] at hb1
          subst e1
          have := h.ver0 q v0 ver0 hp
          exact .inr ⟨v0, ver0, v1, 1, rfl, hb1, by omega⟩ }

end Go.Proofs.Ytjehhmeaigkbnaa.Abs
