/- prefix: trees of nets, in plain words: what is put in, removed and found; how a tree is laid out as nodes, and read again. Conditions: none. -/
import Derived.Test.YthnijeclidpooaaAbsG
namespace Go.Proofs.Ythnijeclidpooaa.Abs
open Go Go.RowKit
set_option linter.unusedVariables false
set_option linter.unusedSimpArgs false
def TT.size : TT → Nat
  | .nil => 0
  | .node l r _ _ => 1 + l.size + r.size
def TT.dep : TT → Nat
  | .nil => 0
  | .node l r _ _ => 1 + max l.dep r.dep
end Go.Proofs.Ythnijeclidpooaa.Abs
namespace Go.Proofs.Ythnijeclidpooaa.X
open Go Go.RowKit Go.Proofs.Ythnijeclidpooaa.Abs
def bareT : TT → Bool
  | .node .nil .nil false _ => true
  | _ => false
def prune (t : TT) : TT := if bareT t then .nil else t
def putL (v : Int) : List Bool → TT → TT
  | [], t => .node t.left t.right true v
  | true :: bs, t => .node t.left (putL v bs t.right) t.on t.val
  | false :: bs, t => .node (putL v bs t.left) t.right t.on t.val
def remL : List Bool → TT → TT × Bool
  | _, .nil => (.nil, false)
  | [], .node l r s _ => (prune (.node l r false 0), s)
  | true :: bs, .node l r s v => (prune (.node l (remL bs r).1 s v), (remL bs r).2)
  | false :: bs, .node l r s v => (prune (.node (remL bs l).1 r s v), (remL bs l).2)
def getL : List Bool → TT → Option Int
  | _, .nil => none
  | [], .node _ _ s v => if s then some v else none
  | true :: bs, .node _ r _ _ => getL bs r
  | false :: bs, .node l _ _ _ => getL bs l
/-- A tree without bare nodes. -/
def Can : TT → Prop
  | .nil => True
  | .node l r s v => Can l ∧ Can r ∧ (s = false → v = 0 ∧ ¬ (l = .nil ∧ r = .nil))
theorem getL_nil (bs : List Bool) : getL bs .nil = none := by cases bs <;> rfl
theorem can_some : ∀ {t : TT}, Can t → t ≠ .nil → ∃ bs v, getL bs t = some v
  | .nil, _, h => absurd rfl h
  | .node l r true v, _, _ => ⟨[], v, rfl⟩
  | .node l r false v, ⟨hl, hr, hb⟩, _ => by
    by_cases h1 : l = .nil
    · obtain ⟨bs, x, hx⟩ := can_some hr (fun h2 => (hb rfl).2 ⟨h1, h2⟩)
      exact ⟨true :: bs, x, hx⟩
    · obtain ⟨bs, x, hx⟩ := can_some hl h1
      exact ⟨false :: bs, x, hx⟩
theorem can_ext : ∀ {t u : TT}, Can t → Can u → (∀ bs, getL bs t = getL bs u) → t = u
  | .nil, .nil, _, _, _ => rfl
  | .nil, .node l r s v, _, hu, h => by
    obtain ⟨bs, x, hx⟩ := can_some hu (fun e => by cases e)
    rw [← h bs, getL_nil] at hx; cases hx
  | .node l r s v, .nil, ht, _, h => by
    obtain ⟨bs, x, hx⟩ := can_some ht (fun e => by cases e)
    rw [h bs, getL_nil] at hx; cases hx
  | .node l r s v, .node l' r' s' v', ⟨h1, h2, h3⟩, ⟨k1, k2, k3⟩, h => by
    have e1 : l = l' := can_ext h1 k1 fun bs => h (false :: bs)
    have e2 : r = r' := can_ext h2 k2 fun bs => h (true :: bs)
    have e3 := h []
    subst e1; subst e2
    cases s <;> cases s' <;> simp [getL] at e3
    · rw [(h3 rfl).1, (k3 rfl).1]
    · rw [e3]
theorem getL_put (v : Int) : ∀ (bs cs : List Bool) (t : TT), getL cs (putL v bs t) = if cs = bs then some v else getL cs t
  | [], [], t => by simp [putL, getL]
  | [], true :: cs, t => by cases t <;> simp [putL, getL, TT.right, getL_nil]
  | [], false :: cs, t => by cases t <;> simp [putL, getL, TT.left, getL_nil]
  | true :: bs, [], t => by cases t <;> simp [putL, getL, TT.on, TT.val]
  | false :: bs, [], t => by cases t <;> simp [putL, getL, TT.on, TT.val]
  | true :: bs, true :: cs, t => by
    show getL cs (putL v bs t.right) = _
    rw [getL_put v bs cs]
    cases t <;> simp [TT.right, getL, getL_nil]
  | false :: bs, false :: cs, t => by
    show getL cs (putL v bs t.left) = _
    rw [getL_put v bs cs]
    cases t <;> simp [TT.left, getL, getL_nil]
  | true :: bs, false :: cs, t => by cases t <;> simp [putL, getL, TT.left, getL_nil]
  | false :: bs, true :: cs, t => by cases t <;> simp [putL, getL, TT.right, getL_nil]
theorem bare_is {t : TT} (h : bareT t = true) : ∃ v, t = .node .nil .nil false v := by
  unfold bareT at h
  split at h
  · exact ⟨_, rfl⟩
  · cases h
theorem getL_prune (t : TT) (cs : List Bool) : getL cs (prune t) = getL cs t := by
  unfold prune
  split
  · rename_i h
    obtain ⟨v, rfl⟩ := bare_is h
    cases cs with
    | nil => rfl
    | cons b cs => cases b <;> simp [getL, getL_nil]
  · rfl
theorem getL_rem : ∀ (bs cs : List Bool) (t : TT), getL cs (remL bs t).1 = if cs = bs then none else getL cs t
  | bs, cs, .nil => by cases bs <;> simp [remL, getL_nil]
  | [], cs, .node l r s v => by
    show getL cs (prune _) = _
    rw [getL_prune]
    cases cs with
    | nil => simp [getL]
    | cons b cs => cases b <;> simp [getL]
  | true :: bs, cs, .node l r s v => by
    show getL cs (prune _) = _
    rw [getL_prune]
    cases cs with
    | nil => simp [getL]
    | cons b cs => cases b <;> simp [getL, getL_rem bs]
  | false :: bs, cs, .node l r s v => by
    show getL cs (prune _) = _
    rw [getL_prune]
    cases cs with
    | nil => simp [getL]
    | cons b cs => cases b <;> simp [getL, getL_rem bs]
theorem rem_had : ∀ (bs : List Bool) (t : TT), (remL bs t).2 = (getL bs t).isSome
  | bs, .nil => by cases bs <;> rfl
  | [], .node l r s v => by cases s <;> rfl
  | true :: bs, .node l r s v => rem_had bs r
  | false :: bs, .node l r s v => rem_had bs l
theorem put_ne (v : Int) : ∀ (bs : List Bool) (t : TT), putL v bs t ≠ .nil
  | [], t => by simp [putL]
  | true :: bs, t => by simp [putL]
  | false :: bs, t => by simp [putL]
theorem can_left {t : TT} (h : Can t) : Can t.left := by cases t with | nil => trivial | node => exact h.1
theorem can_right {t : TT} (h : Can t) : Can t.right := by cases t with | nil => trivial | node => exact h.2.1
theorem off_val {t : TT} (h : Can t) (ho : t.on = false) : t.val = 0 := by cases t with | nil => rfl | node => exact (h.2.2 ho).1
theorem can_put (v : Int) : ∀ (bs : List Bool) {t : TT}, Can t → Can (putL v bs t)
  | [], t, h => ⟨can_left h, can_right h, fun e => by cases e⟩
  | true :: bs, t, h => ⟨can_left h, can_put v bs (can_right h), fun e => ⟨off_val h e, fun q => put_ne v bs _ q.2⟩⟩
  | false :: bs, t, h => ⟨can_put v bs (can_left h), can_right h, fun e => ⟨off_val h e, fun q => put_ne v bs _ q.1⟩⟩
theorem can_prune {l r : TT} {s : Bool} {v : Int} (hl : Can l) (hr : Can r) (h : s = false → v = 0) : Can (prune (.node l r s v)) := by
  unfold prune
  split
  · trivial
  · rename_i hb
    refine ⟨hl, hr, fun e => ⟨h e, fun q => hb ?_⟩⟩
    obtain ⟨rfl, rfl⟩ := q
    subst e; rfl
theorem can_rem : ∀ (bs : List Bool) {t : TT}, Can t → Can (remL bs t).1
  | bs, .nil, h => by cases bs <;> trivial
  | [], .node l r s v, h => can_prune h.1 h.2.1 fun _ => rfl
  | true :: bs, .node l r s v, h => can_prune h.1 (can_rem bs h.2.1) fun e => (h.2.2 e).1
  | false :: bs, .node l r s v, h => can_prune (can_rem bs h.1) h.2.1 fun e => (h.2.2 e).1
theorem dep_put (v : Int) : ∀ (bs : List Bool) (t : TT), (putL v bs t).dep ≤ max t.dep (bs.length + 1)
  | [], t => by cases t <;> simp [putL, TT.dep, TT.left, TT.right] <;> omega
  | true :: bs, t => by
    have := dep_put v bs t.right
    cases t <;> simp [putL, TT.dep, TT.left, TT.right] at this ⊢ <;> omega
  | false :: bs, t => by
    have := dep_put v bs t.left
    cases t <;> simp [putL, TT.dep, TT.left, TT.right] at this ⊢ <;> omega
theorem dep_prune (t : TT) : (prune t).dep ≤ t.dep := by
  unfold prune
  split
  · exact Nat.zero_le _
  · exact Nat.le_refl _
theorem dep_rem : ∀ (bs : List Bool) (t : TT), (remL bs t).1.dep ≤ t.dep
  | bs, .nil => by cases bs <;> exact Nat.le_refl _
  | [], .node l r s v => Nat.le_trans (dep_prune _) (Nat.le_refl _)
  | true :: bs, .node l r s v => by
    have := dep_rem bs r
    refine Nat.le_trans (dep_prune _) ?_
    simp only [TT.dep]; omega
  | false :: bs, .node l r s v => by
    have := dep_rem bs l
    refine Nat.le_trans (dep_prune _) ?_
    simp only [TT.dep]; omega
/-! ### Laid out as nodes -/
def num (t : TT) (n : Nat) : Int := if t.isNil then 0 else (n : Int)
def flatL : Nat → TT → List TNode
  | _, .nil => []
  | b, .node l r s v => ⟨num l (b + 1), num r (b + 1 + l.size), s, v⟩ :: (flatL (b + 1) l ++ flatL (b + 1 + l.size) r)
theorem flatL_len : ∀ (b : Nat) (t : TT), (flatL b t).length = t.size
  | _, .nil => rfl
  | b, .node l r s v => by simp [flatL, flatL_len, TT.size]; omega
theorem size_pos {t : TT} (h : t ≠ .nil) : 0 < t.size := by cases t with | nil => exact absurd rfl h | node => simp [TT.size]; omega
/-- A node's child, behind node i: the child, and the last node that it takes. -/
def kid (grow : Nat → Option (TT × Nat)) (deepest : Bool) (len : Nat) (n : Int) (i : Nat) : Option (TT × Nat) :=
  if n = 0 then some (.nil, i)
  else if n ≠ ((i + 1 : Nat) : Int) ∨ len ≤ i + 1 ∨ deepest = true then none
  else grow (i + 1)
/-- The tree of the nodes from i on: 'm' may its depth yet grow. -/
def growT (ns : List TNode) : Nat → Nat → Option (TT × Nat)
  | m, i => match ns[i]? with
    | none => none
    | some x => match m with
      | 0 => (kid (fun _ => none) true ns.length x.next0 i).bind fun p => (kid (fun _ => none) true ns.length x.next1 p.2).map fun q => (.node p.1 q.1 x.set x.value, q.2)
      | m + 1 => (kid (growT ns m) false ns.length x.next0 i).bind fun p => (kid (growT ns m) false ns.length x.next1 p.2).map fun q => (.node p.1 q.1 x.set x.value, q.2)
/-- Nodes stand in a list from place i on. -/
def At (ns : List TNode) (i : Nat) (xs : List TNode) : Prop := ∀ k x, xs[k]? = some x → ns[i + k]? = some x
theorem At.cons {ns : List TNode} {i : Nat} {x : TNode} {r : List TNode} : At ns i (x :: r) ↔ ns[i]? = some x ∧ At ns (i + 1) r := by
  constructor
  · intro h
    refine ⟨h 0 x rfl, fun k y hy => ?_⟩
    have := h (k + 1) y (by simpa using hy)
    rw [show i + 1 + k = i + (k + 1) by omega]; exact this
  · rintro ⟨h1, h2⟩ k y hy
    cases k with
    | zero => simp at hy; subst hy; exact h1
    | succ k =>
      have := h2 k y (by simpa using hy)
      rw [show i + (k + 1) = i + 1 + k by omega]; exact this
theorem At.app {ns : List TNode} : ∀ {i : Nat} {a b : List TNode}, At ns i (a ++ b) ↔ At ns i a ∧ At ns (i + a.length) b
  | i, [], b => ⟨fun h => ⟨fun k x hx => by simp at hx, h⟩, fun h => h.2⟩
  | i, x :: a, b => by
    rw [List.cons_append, At.cons, At.cons, At.app, List.length_cons, show i + (a.length + 1) = i + 1 + a.length by omega]
    constructor
    · rintro ⟨h1, h2, h3⟩; exact ⟨⟨h1, h2⟩, h3⟩
    · rintro ⟨⟨h1, h2⟩, h3⟩; exact ⟨h1, h2, h3⟩
theorem At.flat {ns : List TNode} {i : Nat} {l r : TT} {s : Bool} {v : Int} : At ns i (flatL i (.node l r s v)) ↔ ns[i]? = some ⟨num l (i + 1), num r (i + 1 + l.size), s, v⟩ ∧ At ns (i + 1) (flatL (i + 1) l) ∧ At ns (i + 1 + l.size) (flatL (i + 1 + l.size) r) := by
  rw [flatL, At.cons, At.app, flatL_len]
theorem At.lt {ns : List TNode} {i : Nat} {t : TT} (h : At ns i (flatL i t)) (hne : t ≠ .nil) : i < ns.length := by
  cases t with
  | nil => exact absurd rfl hne
  | node l r s v => exact (List.getElem?_eq_some_iff.1 (At.flat.1 h).1).1
theorem kid_of {ns : List TNode} {g : Nat → Option (TT × Nat)} {d : Bool} {l : TT} {i : Nat} (h : At ns (i + 1) (flatL (i + 1) l)) (hg : l ≠ .nil → d = false ∧ g (i + 1) = some (l, i + l.size)) :
    kid g d ns.length (num l (i + 1)) i = some (l, i + l.size) := by
  unfold kid
  cases l with
  | nil => rfl
  | node a b s v =>
    obtain ⟨h1, h2⟩ := hg (fun e => by cases e)
    have := h.lt (fun e => by cases e)
    rw [if_neg (by simp [num, TT.isNil]; omega), if_neg (by simp [num, TT.isNil, h1]; omega), h2]
theorem kid_is {ns : List TNode} {g : Nat → Option (TT × Nat)} {d : Bool} {n : Int} {l : TT} {i j : Nat} (h : kid g d ns.length n i = some (l, j))
    (hg : ∀ l j, d = false → g (i + 1) = some (l, j) → l ≠ .nil ∧ j + 1 = i + 1 + l.size ∧ At ns (i + 1) (flatL (i + 1) l)) :
    n = num l (i + 1) ∧ j = i + l.size ∧ At ns (i + 1) (flatL (i + 1) l) ∧ (l = .nil ∨ d = false ∧ g (i + 1) = some (l, j)) := by
  unfold kid at h
  split at h
  · rename_i h0
    cases h
    exact ⟨h0, rfl, fun k x hx => by simp [flatL] at hx, .inl rfl⟩
  · split at h
    · cases h
    · rename_i h0 h1
      have hd : d = false := by cases d <;> simp at h1 ⊢
      obtain ⟨k1, k2, k3⟩ := hg l j hd h
      have hn : l.isNil = false := by cases l with | nil => exact absurd rfl k1 | node => rfl
      refine ⟨?_, by omega, k3, .inr ⟨hd, h⟩⟩
      unfold num
      rw [hn]
      simp only [Bool.false_eq_true, if_false]
      omega
/-- What is laid out is read. -/
theorem grow_flat {ns : List TNode} : ∀ (m : Nat) {t : TT} {i : Nat}, t ≠ .nil → t.dep ≤ m + 1 → At ns i (flatL i t) → growT ns m i = some (t, i + t.size - 1)
  | m, .nil, i, h, _, _ => absurd rfl h
  | 0, .node l r s v, i, _, hd, ha => by
    obtain ⟨h1, h2, h3⟩ := At.flat.1 ha
    have hl : l = .nil := by cases l with | nil => rfl | node => simp [TT.dep] at hd; omega
    have hr : r = .nil := by cases r with | nil => rfl | node => simp [TT.dep] at hd; omega
    subst hl; subst hr
    unfold growT
    rw [h1]
    rfl
  | m + 1, .node l r s v, i, _, hd, ha => by
    obtain ⟨h1, h2, h3⟩ := At.flat.1 ha
    simp only [TT.dep] at hd
    unfold growT
    rw [h1]
    dsimp only
    rw [kid_of h2 (fun hne => ⟨rfl, by rw [grow_flat m hne (by omega) h2]; have := size_pos hne; congr 2; omega⟩)]
    dsimp only [Option.bind_some]
    rw [show i + 1 + l.size = i + l.size + 1 by omega] at h3 ⊢
    rw [kid_of h3 (fun hne => ⟨rfl, by rw [grow_flat m hne (by omega) h3]; have := size_pos hne; congr 2; omega⟩)]
    simp only [Option.map_some, TT.size]
    congr 2
    omega
/-- What is read was laid out. -/
theorem grow_is {ns : List TNode} : ∀ (m : Nat) {t : TT} {i j : Nat}, growT ns m i = some (t, j) → t ≠ .nil ∧ j + 1 = i + t.size ∧ At ns i (flatL i t) ∧ t.dep ≤ m + 1 := by
  intro m
  induction m with
  | zero =>
    intro t i j h
    unfold growT at h
    cases hx : ns[i]? with
    | none => rw [hx] at h; cases h
    | some x =>
      rw [hx] at h
      dsimp only at h
      cases hk : kid (fun _ => none) true ns.length x.next0 i with
      | none => rw [hk] at h; cases h
      | some p =>
        rw [hk] at h
        dsimp only [Option.bind_some] at h
        cases hq : kid (fun _ => none) true ns.length x.next1 p.2 with
        | none => rw [hq] at h; cases h
        | some q =>
          rw [hq] at h
          cases h
          obtain ⟨a1, a2, a3, a4⟩ := kid_is (l := p.1) (j := p.2) hk (fun l j e => by cases e)
          obtain ⟨b1, b2, b3, b4⟩ := kid_is (l := q.1) (j := q.2) hq (fun l j e => by cases e)
          have e1 : p.1 = .nil := a4.elim id (fun e => by cases e.1)
          have e2 : q.1 = .nil := b4.elim id (fun e => by cases e.1)
          rw [e1] at a1 a2 ⊢; rw [e2] at b1 b2 ⊢
          simp only [TT.size, Nat.add_zero] at a2 b2
          refine ⟨fun e => (by cases e), (by simp [TT.size]; omega), At.flat.2 ⟨?_, fun k x hx => by simp [flatL] at hx, fun k x hx => by simp [flatL] at hx⟩, (by simp [TT.dep])⟩
          rw [hx]
          show some x = some ⟨0, 0, x.set, x.value⟩
          have q1 : x.next0 = 0 := a1
          have q2 : x.next1 = 0 := b1
          cases x
          simp at q1 q2
          rw [q1, q2]
  | succ m ih =>
    intro t i j h
    unfold growT at h
    cases hx : ns[i]? with
    | none => rw [hx] at h; cases h
    | some x =>
      rw [hx] at h
      dsimp only at h
      cases hk : kid (growT ns m) false ns.length x.next0 i with
      | none => rw [hk] at h; cases h
      | some p =>
        rw [hk] at h
        dsimp only [Option.bind_some] at h
        cases hq : kid (growT ns m) false ns.length x.next1 p.2 with
        | none => rw [hq] at h; cases h
        | some q =>
          rw [hq] at h
          cases h
          obtain ⟨a1, a2, a3, a4⟩ := kid_is (l := p.1) (j := p.2) hk (fun l j _ e => ⟨(ih e).1, (ih e).2.1, (ih e).2.2.1⟩)
          obtain ⟨b1, b2, b3, b4⟩ := kid_is (l := q.1) (j := q.2) hq (fun l j _ e => ⟨(ih e).1, (ih e).2.1, (ih e).2.2.1⟩)
          have d1 : p.1.dep ≤ m + 1 := a4.elim (fun e => by rw [e]; exact Nat.zero_le _) (fun e => (ih e.2).2.2.2)
          have d2 : q.1.dep ≤ m + 1 := b4.elim (fun e => by rw [e]; exact Nat.zero_le _) (fun e => (ih e.2).2.2.2)
          rw [a2, show i + p.1.size + 1 = i + 1 + p.1.size by omega] at b1 b3
          refine ⟨fun e => (by cases e), (by simp [TT.size]; omega), At.flat.2 ⟨?_, a3, b3⟩, (by simp [TT.dep]; omega)⟩
          rw [hx, ← a1, ← b1]
theorem at_whole {ns xs : List TNode} (h : At ns 0 xs) (hl : xs.length = ns.length) : ns = xs := by
  apply List.ext_getElem?
  intro k
  by_cases hk : k < xs.length
  · have := h k xs[k] (List.getElem?_eq_getElem hk)
    rw [Nat.zero_add] at this
    rw [this, List.getElem?_eq_getElem hk]
  · rw [List.getElem?_eq_none (by omega), List.getElem?_eq_none (by omega)]
theorem at_self (xs : List TNode) : At xs 0 xs := fun k x hx => by rw [Nat.zero_add]; exact hx
end Go.Proofs.Ythnijeclidpooaa.X
