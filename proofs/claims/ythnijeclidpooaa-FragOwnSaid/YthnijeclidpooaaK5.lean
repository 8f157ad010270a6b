/- Texts towards the law FragOwn, put together (part 5): an abstract walk and its proof, functions of the program as trees, and plain laws. Conditions: none. -/
import Derived.LoopN
import Derived.Test.YthnijeclidpooaaProg
import Derived.KernelRfl
import Derived.Shelf.Spec.SlicesInsertGrow
import Derived.WalkKit
import Derived.Handy
import Derived.BigQuiet
import Derived.Deep.QuietTactic
import Derived.RegionTactic
import Derived.Outline
import Derived.Shelf.Strings.Builder1
import Derived.Ground.Names2Prog
import Derived.Shelf.Slices.Clone
import Derived.Ground.SlgnProg
import Derived.Shelf.SlicesE.Clone
import Derived.Test.YthnijeclidpooaaK4
namespace Go.Proofs.Ythnijeclidpooaa.Abs
open Go Go.RowKit
set_option linter.unusedVariables false
set_option linter.unusedSimpArgs false
abbrev Mem := List (Nat × Blk)

inductive PD where
 | i (k : IntKind)
 | b
 | s
 | st (c : Nat)
def PdsT : List PD -> Type -> Type
 | [], R => R
 | .i _ :: ps, R => Int × PdsT ps R
 | .b :: ps, R => Bool × PdsT ps R
 | .s :: ps, R => List UInt8 × PdsT ps R
 | .st c :: ps, R => List (τ c) × PdsT ps R
def putDs : (ps : List PD) -> {R : Type} -> PdsT ps R -> List D × R
 | [], _, r => ([], r)
 | .i k :: ps, _, (n, x) => (.i k n :: (putDs ps x).1, (putDs ps x).2)
 | .b :: ps, _, (n, x) => (.b n :: (putDs ps x).1, (putDs ps x).2)
 | .s :: ps, _, (n, x) => (.s n :: (putDs ps x).1, (putDs ps x).2)
 | .st c :: ps, _, (n, x) => (.st c n :: (putDs ps x).1, (putDs ps x).2)
def castSt (c k : Nat) (xs : List (τ k)) : Option (List (τ c)) := if h : k = c then some (h ▸ xs) else none
theorem castSt_eq {c k : Nat} {xs : List (τ k)} {ys : List (τ c)} (h : castSt c k xs = some ys) : D.st k xs = D.st c ys := by
 unfold castSt at h
 split at h
 . rename_i e; subst e; cases h; rfl
 . cases h
def getDs : (ps : List PD) -> List D -> Option (∀ R : Type, R -> PdsT ps R)
 | [], [] => some fun _ r => r
 | .i k :: ps, d :: ds => match d, getDs ps ds with
  | .i k' n, some g => if k = k' then some fun R r => (n, g R r) else none
  | _, _ => none
 | .b :: ps, d :: ds => match d, getDs ps ds with
  | .b n, some g => some fun R r => (n, g R r)
  | _, _ => none
 | .s :: ps, d :: ds => match d, getDs ps ds with
  | .s n, some g => some fun R r => (n, g R r)
  | _, _ => none
 | .st c :: ps, d :: ds => match d, getDs ps ds with
  | .st k xs, some g => match castSt c k xs with
   | some ys => some fun R r => (ys, g R r)
   | none => none
  | _, _ => none
 | _, _ => none
theorem getDs_put : ∀ {ps : List PD} {ds : List D} {g : ∀ R : Type, R -> PdsT ps R}, getDs ps ds = some g -> ∀ (R : Type) (r : R), putDs ps (g R r) = (ds, r)
 | [], [], g, h, R, r => by cases h; rfl
 | [], _ :: _, g, h, R, r => by cases h
 | .i k :: ps, [], g, h, R, r => by cases h
 | .b :: ps, [], g, h, R, r => by cases h
 | .s :: ps, [], g, h, R, r => by cases h
 | .st c :: ps, [], g, h, R, r => by cases h
 | .i k :: ps, d :: ds, g, h, R, r => by
  unfold getDs at h
  split at h
  . rename_i k' n g' hg
    split at h
    . rename_i e; subst e; cases h
      simp only [putDs, getDs_put hg R r]
    . cases h
  . cases h
 | .b :: ps, d :: ds, g, h, R, r => by
  unfold getDs at h
  split at h
  . rename_i n g' hg
    cases h
    simp only [putDs, getDs_put hg R r]
  . cases h
 | .s :: ps, d :: ds, g, h, R, r => by
  unfold getDs at h
  split at h
  . rename_i n g' hg
    cases h
    simp only [putDs, getDs_put hg R r]
  . cases h
 | .st c :: ps, d :: ds, g, h, R, r => by
  unfold getDs at h
  split at h
  . rename_i k xs g' hg
    split at h
    . rename_i ys hy
      cases h
      simp only [putDs, getDs_put hg R r, castSt_eq hy]
    . cases h
  . cases h

inductive Pt where
 | i (k : IntKind)
 | kn (k : IntKind) (n : Nat)
 | b
 | s
 | st (c : Nat) (fr : Bool)
 | nil
 | un
 | ne
 | bad
 | own (k : Nat)
 | pre (k sz : Nat)
 | sub (k sz : Nat)
 | pr (k sz off : Nat)
 | mp (k : Nat)
 | ptr (k off : Nat)
 | clo (f : FuncId) (ps : List PD)
 | clp (f : FuncId) (ks : List (Nat × Nat))
 | tr
 | dp (k : Nat)
 | dpr (k sz off : Nat)
def Pt.T : Pt -> Type -> Type
 | .i _, R => Int × R
 | .b, R => Bool × R
 | .s, R => List UInt8 × R
 | .st c _, R => List (τ c) × R
 | .clo _ ps, R => PdsT ps R
 | .pre _ _, R => Nat × R
 | .sub _ _, R => Nat × (Nat × R)
 | .pr _ _ _, R => Nat × R
 | .kn _ _, R => R
 | .tr, R => TT × R
 | .dp _, R => Nat × R
 | .dpr _ _ _, R => Nat × R
 | .nil, R | .un, R | .ne, R | .bad, R | .own _, R | .ptr _ _, R | .clp _ _, R | .mp _, R => R
def stC (fr : Bool) (c : Nat) (xs : List (τ c)) : C := match fr with | true => .f (.st c xs) | false => .d (.st c xs)
def vk (k : Nat) : Nat := match Nat.ble 1000000 k && Nat.blt k 1500000 with | true => 1 | false => 0
def Pt.put (len : Nat -> Nat) : (p : Pt) -> {R : Type} -> p.T R -> C × R
 | .i k, _, (n, r) => (.d (.i k n), r)
 | .kn k n, _, r => (.d (.i k (n : Int)), r)
 | .b, _, (x, r) => (.d (.b x), r)
 | .s, _, (l, r) => (.d (.s l), r)
 | .st c fr, _, (xs, r) => (stC fr c xs, r)
 | .nil, _, r => (.nil, r)
 | .un, _, r => (.un, r)
 | .ne, _, r => (.ne, r)
 | .bad, _, r => (.bad, r)
 | .own k, _, r => (.own k (vk k) (len k), r)
 | .pre k sz, _, (n, r) => (.pre k (vk k) sz n, r)
 | .sub k sz, _, (o, n, r) => (.sub k (vk k) sz o n, r)
 | .pr k sz off, _, (n, r) => (.pr k (vk k) sz n off, r)
 | .mp k, _, r => (.mp k, r)
 | .ptr k o, _, r => (.ptr k o, r)
 | .clo f ps, _, x => (.clo f (putDs ps x).1, (putDs ps x).2)
 | .clp f ks, _, r => (.clp f ks, r)
 | .tr, _, (t, r) => (.d (.tr t), r)
 | .dp k, _, (n, r) => (.dp k (vk k) (len k) n, r)
 | .dpr k sz off, _, (n, r) => (.dpr k (vk k) sz n off, r)
def getSt (c : Nat) (fr : Bool) : C -> Option (List (τ c))
 | .d (.st k xs) => match fr with | true => none | false => castSt c k xs
 | .f (.st k xs) => castSt c k xs
 | .nil => some []
 | _ => none
theorem getSt_wk {c : Nat} {fr : Bool} {x : C} {xs : List (τ c)} (h : getSt c fr x = some xs) : WkC x (stC fr c xs) := by
 cases x with
 | d d =>
  cases d with
  | st k ys =>
   cases fr with
   | true => cases h
   | false => exact .inl (by rw [castSt_eq (show castSt c k ys = some xs from h)]; rfl)
  | _ => cases h
 | f d =>
  cases d with
  | st k ys =>
   have := castSt_eq (show castSt c k ys = some xs from h)
   cases fr with
   | true => exact .inl (by rw [this]; rfl)
   | false => exact .inr (.inr (.inr (.inl ⟨_, rfl, by rw [this]; rfl⟩)))
  | _ => cases h
 | nil =>
  have : xs = [] := by cases h; rfl
  subst this
  cases fr with
  | true => exact .inr (.inr (.inl ⟨rfl, .inr (.inr ⟨c, rfl⟩)⟩))
  | false => exact .inr (.inr (.inl ⟨rfl, .inr (.inl ⟨c, rfl⟩)⟩))
 | _ => cases h
abbrev Ob := List (Nat × Nat)
def Pt.get : (p : Pt) -> C -> Option (Ob × ∀ R : Type, R -> p.T R)
 | .i k, c => match c with
  | .d (.i k' n) => if k = k' then some ([], fun _ r => (n, r)) else none
  | _ => none
 | .kn k n, c => match c with
  | .d (.i k' m) => if k = k' /\ m = (n : Int) then some ([], fun _ r => r) else none
  | _ => none
 | .b, c => match c with
  | .d (.b x) => some ([], fun _ r => (x, r))
  | _ => none
 | .s, c => match c with
  | .d (.s l) => some ([], fun _ r => (l, r))
  | _ => none
 | .st q fr, c => match getSt q fr c with
  | some xs => some ([], fun _ r => (xs, r))
  | none => none
 | .nil, c => match c with
  | .nil => some ([], fun _ r => r)
  | _ => none
 | .un, c => match c with
  | .un => some ([], fun _ r => r)
  | _ => none
 | .ne, c => match c with
  | .ne => some ([], fun _ r => r)
  | _ => none
 | .bad, _ => some ([], fun _ r => r)
 | .own k, c => match c with
  | .own k' ver len => if k = k' /\ ver = vk k then some ([(k, len)], fun _ r => r) else none
  | _ => none
 | .pre k sz, c => match c with
  | .pre k' ver sz' len => if k = k' /\ ver = vk k /\ sz = sz' then some ([], fun _ r => (len, r)) else none
  | _ => none
 | .sub k sz, c => match c with
  | .sub k' ver sz' o len => if k = k' /\ ver = vk k /\ sz = sz' then some ([], fun _ r => (o, len, r)) else none
  | .own k' ver len => if k = k' /\ ver = vk k then some ([], fun _ r => (0, len, r)) else none
  | _ => none
 | .pr k sz off, c => match c with
  | .pr k' ver sz' ix off' => if k = k' /\ ver = vk k /\ sz = sz' /\ off = off' then some ([], fun _ r => (ix, r)) else none
  | _ => none
 | .mp k, c => match c with
  | .mp k' => if k = k' then some ([], fun _ r => r) else none
  | _ => none
 | .ptr k o, c => match c with
  | .ptr k' o' => if k = k' /\ o = o' then some ([], fun _ r => r) else none
  | _ => none
 | .clo f ps, c => match c with
  | .clo f' ds => if f = f' then match getDs ps ds with
   | some g => some ([], g)
   | none => none
   else none
  | _ => none
 | .clp f ks, c => match c with
  | .clp f' ks' => if f = f' /\ ks = ks' then some ([], fun _ r => r) else none
  | _ => none
 | .tr, c => match c with
  | .d (.tr t) => some ([], fun _ r => (t, r))
  | _ => none
 | .dp k, c => match c with
  | .dp k' ver len room => if k = k' /\ ver = vk k then some ([(k, len)], fun _ r => (room, r)) else none
  | _ => none
 | .dpr k sz off, c => match c with
  | .dpr k' ver sz' ix off' => if k = k' /\ ver = vk k /\ sz = sz' /\ off = off' then some ([], fun _ r => (ix, r)) else none
  | _ => none
def ObOk (len : Nat -> Nat) (l : Ob) : Prop := ∀ q ∈ l, q.2 = len q.1
theorem Pt.get_put {len : Nat -> Nat} {p : Pt} {c : C} {l : Ob} {g : ∀ R : Type, R -> p.T R} (h : p.get c = some (l, g)) (ho : ObOk len l) (R : Type) (r : R) : (p.put len (g R r)).2 = r /\ WkC c (p.put len (g R r)).1 := by
 cases p with
 | i k =>
  simp only [Pt.get] at h
  split at h
  . split at h
    . rename_i e; subst e; cases h; exact ⟨rfl, .inl rfl⟩
    . cases h
  . cases h
 | kn k n =>
  simp only [Pt.get] at h
  split at h
  . split at h
    . rename_i e; obtain ⟨rfl, rfl⟩ := e; cases h; exact ⟨rfl, .inl rfl⟩
    . cases h
  . cases h
 | b => simp only [Pt.get] at h; split at h; (cases h; exact ⟨rfl, .inl rfl⟩); cases h
 | s => simp only [Pt.get] at h; split at h; (cases h; exact ⟨rfl, .inl rfl⟩); cases h
 | tr => simp only [Pt.get] at h; split at h; (cases h; exact ⟨rfl, .inl rfl⟩); cases h
 | st q fr =>
  simp only [Pt.get] at h
  split at h
  . rename_i xs hx; cases h; exact ⟨rfl, getSt_wk hx⟩
  . cases h
 | nil => simp only [Pt.get] at h; split at h; (cases h; exact ⟨rfl, .inl rfl⟩); cases h
 | un => simp only [Pt.get] at h; split at h; (cases h; exact ⟨rfl, .inl rfl⟩); cases h
 | ne => simp only [Pt.get] at h; split at h; (cases h; exact ⟨rfl, .inl rfl⟩); cases h
 | bad => simp only [Pt.get] at h; cases h; exact ⟨rfl, .inr (.inl rfl)⟩
 | own k =>
  simp only [Pt.get] at h
  split at h
  . split at h
    . rename_i k' ver n e
      obtain ⟨rfl, rfl⟩ := e
      cases h
      refine ⟨rfl, .inl ?_⟩
      have := ho (k, n) (by simp)
      simp only at this
      rw [this]; rfl
    . cases h
  . cases h
 | dp k =>
  simp only [Pt.get] at h
  split at h
  . split at h
    . rename_i k' ver n room e
      obtain ⟨rfl, rfl⟩ := e
      cases h
      refine ⟨rfl, .inl ?_⟩
      have := ho (k, n) (by simp)
      simp only at this
      rw [this]; rfl
    . cases h
  . cases h
 | dpr k sz off =>
  simp only [Pt.get] at h
  split at h
  . split at h
    . rename_i e; obtain ⟨rfl, rfl, rfl, rfl⟩ := e; cases h; exact ⟨rfl, .inl rfl⟩
    . cases h
  . cases h
 | pre k sz =>
  simp only [Pt.get] at h
  split at h
  . split at h
    . rename_i e; obtain ⟨rfl, rfl, rfl⟩ := e; cases h; exact ⟨rfl, .inl rfl⟩
    . cases h
  . cases h
 | sub k sz =>
  simp only [Pt.get] at h
  split at h
  . split at h
    . rename_i e; obtain ⟨rfl, rfl, rfl⟩ := e; cases h; exact ⟨rfl, .inl rfl⟩
    . cases h
  . split at h
    . rename_i e; obtain ⟨rfl, rfl⟩ := e; cases h; exact ⟨rfl, .inr (.inr (.inr (.inr ⟨_, _, _, sz, rfl, rfl⟩)))⟩
    . cases h
  . cases h
 | pr k sz off =>
  simp only [Pt.get] at h
  split at h
  . split at h
    . rename_i e; obtain ⟨rfl, rfl, rfl, rfl⟩ := e; cases h; exact ⟨rfl, .inl rfl⟩
    . cases h
  . cases h
 | mp k =>
  simp only [Pt.get] at h
  split at h
  . split at h
    . rename_i e; subst e; cases h; exact ⟨rfl, .inl rfl⟩
    . cases h
  . cases h
 | ptr k o =>
  simp only [Pt.get] at h
  split at h
  . split at h
    . rename_i e; obtain ⟨rfl, rfl⟩ := e; cases h; exact ⟨rfl, .inl rfl⟩
    . cases h
  . cases h
 | clp f ks =>
  simp only [Pt.get] at h
  split at h
  . split at h
    . rename_i e; obtain ⟨rfl, rfl⟩ := e; cases h; exact ⟨rfl, .inl rfl⟩
    . cases h
  . cases h
 | clo f ps =>
  simp only [Pt.get] at h
  split at h
  . split at h
    . rename_i e; subst e
      split at h
      . rename_i g' hg; cases h
        have := getDs_put hg R r
        refine ⟨by simp only [Pt.put]; rw [this], .inl ?_⟩
        simp only [Pt.put]; rw [this]
      . cases h
    . cases h
  . cases h

def PtsT : List Pt -> Type -> Type
 | [], R => R
 | p :: ps, R => p.T (PtsT ps R)
def putPts (len : Nat -> Nat) : (ps : List Pt) -> {R : Type} -> PtsT ps R -> List C × R
 | [], _, r => ([], r)
 | p :: ps, _, x => ((p.put len x).1 :: (putPts len ps (p.put len x).2).1, (putPts len ps (p.put len x).2).2)
def getPts : (ps : List Pt) -> List C -> Option (Ob × ∀ R : Type, R -> PtsT ps R)
 | [], [] => some ([], fun _ r => r)
 | p :: ps, c :: cs => match p.get c, getPts ps cs with
  | some (l1, g1), some (l2, g2) => some (l1 ++ l2, fun R r => g1 _ (g2 R r))
  | _, _ => none
 | _, _ => none
theorem ObOk.left {len : Nat -> Nat} {l1 l2 : Ob} (h : ObOk len (l1 ++ l2)) : ObOk len l1 := fun q hq => h q (List.mem_append_left _ hq)
theorem ObOk.right {len : Nat -> Nat} {l1 l2 : Ob} (h : ObOk len (l1 ++ l2)) : ObOk len l2 := fun q hq => h q (List.mem_append_right _ hq)
theorem getPts_put {len : Nat -> Nat} : ∀ {ps : List Pt} {cs : List C} {l : Ob} {g : ∀ R : Type, R -> PtsT ps R}, getPts ps cs = some (l, g) -> ObOk len l -> ∀ (R : Type) (r : R), (putPts len ps (g R r)).2 = r /\ WkCs cs (putPts len ps (g R r)).1
 | [], [], l, g, h, ho, R, r => by cases h; exact ⟨rfl, trivial⟩
 | [], _ :: _, l, g, h, ho, R, r => by cases h
 | _ :: _, [], l, g, h, ho, R, r => by cases h
 | p :: ps, c :: cs, l, g, h, ho, R, r => by
  unfold getPts at h
  split at h
  . rename_i l1 g1 l2 g2 h1 h2
    cases h
    obtain ⟨a1, a2⟩ := Pt.get_put h1 ho.left _ (g2 R r)
    obtain ⟨b1, b2⟩ := getPts_put h2 ho.right R r
    simp only [putPts]
    rw [a1]
    exact ⟨b1, a2, b2⟩
  . cases h
def skipPts : (ps : List Pt) -> {R : Type} -> PtsT ps R -> R := fun ps _ x => (putPts (fun _ => 0) ps x).2

inductive VP1 where
 | one (p : Pt)
 | agg (ps : List Pt)
inductive VP where
 | v (x : VP1)
 | tup (xs : List VP1)
def VP1.T : VP1 -> Type -> Type
 | .one p, R => p.T R
 | .agg ps, R => PtsT ps R
def VP1.put (len : Nat -> Nat) : (p : VP1) -> {R : Type} -> p.T R -> V × R
 | .one p, _, x => (.one (p.put len x).1, (p.put len x).2)
 | .agg ps, _, x => (.agg (putPts len ps x).1, (putPts len ps x).2)
def VP1.get : (p : VP1) -> V -> Option (Ob × ∀ R : Type, R -> p.T R)
 | .one p, v => match v with
  | .one c => p.get c
  | _ => none
 | .agg ps, v => match v with
  | .agg cs => getPts ps cs
  | _ => none
theorem VP1.get_put {len : Nat -> Nat} {p : VP1} {u : V} {l : Ob} {g : ∀ R : Type, R -> p.T R} (h : p.get u = some (l, g)) (ho : ObOk len l) (R : Type) (r : R) : (p.put len (g R r)).2 = r /\ WkV u (p.put len (g R r)).1 := by
 cases p with
 | one p =>
  cases u with
  | one c =>
   have h' : p.get c = some (l, g) := h
   have := Pt.get_put (len := len) h' ho R r
   exact ⟨this.1, this.2⟩
  | agg => cases h
  | tup => cases h
 | agg ps =>
  cases u with
  | agg cs =>
   have h' : getPts ps cs = some (l, g) := h
   have := getPts_put (len := len) h' ho R r
   exact ⟨this.1, this.2⟩
  | one => cases h
  | tup => cases h
def VPsT : List VP1 -> Type -> Type
 | [], R => R
 | p :: ps, R => p.T (VPsT ps R)
def putVs (len : Nat -> Nat) : (ps : List VP1) -> {R : Type} -> VPsT ps R -> List V × R
 | [], _, r => ([], r)
 | p :: ps, _, x => ((p.put len x).1 :: (putVs len ps (p.put len x).2).1, (putVs len ps (p.put len x).2).2)
def getVs : (ps : List VP1) -> List V -> Option (Ob × ∀ R : Type, R -> VPsT ps R)
 | [], [] => some ([], fun _ r => r)
 | p :: ps, c :: cs => match p.get c, getVs ps cs with
  | some (l1, g1), some (l2, g2) => some (l1 ++ l2, fun R r => g1 _ (g2 R r))
  | _, _ => none
 | _, _ => none
theorem getVs_put {len : Nat -> Nat} : ∀ {ps : List VP1} {cs : List V} {l : Ob} {g : ∀ R : Type, R -> VPsT ps R}, getVs ps cs = some (l, g) -> ObOk len l -> ∀ (R : Type) (r : R), (putVs len ps (g R r)).2 = r /\ WkVs cs (putVs len ps (g R r)).1
 | [], [], l, g, h, ho, R, r => by cases h; exact ⟨rfl, trivial⟩
 | [], _ :: _, l, g, h, ho, R, r => by cases h
 | _ :: _, [], l, g, h, ho, R, r => by cases h
 | p :: ps, c :: cs, l, g, h, ho, R, r => by
  unfold getVs at h
  split at h
  . rename_i l1 g1 l2 g2 h1 h2
    cases h
    obtain ⟨a1, a2⟩ := VP1.get_put h1 ho.left _ (g2 R r)
    obtain ⟨b1, b2⟩ := getVs_put h2 ho.right R r
    simp only [putVs]
    rw [a1]
    exact ⟨b1, a2, b2⟩
  . cases h
def WkX (x y : V) : Prop := WkV x y \/ ∃ vs vs', x = .tup vs /\ y = .tup vs' /\ WkVs vs vs'
def VP.T : VP -> Type -> Type
 | .v p, R => p.T R
 | .tup ps, R => VPsT ps R
def VP.put (len : Nat -> Nat) : (p : VP) -> {R : Type} -> p.T R -> V × R
 | .v p, _, x => p.put len x
 | .tup ps, _, x => (.tup (putVs len ps x).1, (putVs len ps x).2)
def VP.get : (p : VP) -> V -> Option (Ob × ∀ R : Type, R -> p.T R)
 | .v p, u => p.get u
 | .tup ps, u => match u with
  | .tup vs => getVs ps vs
  | _ => none
theorem VP.get_put {len : Nat -> Nat} {p : VP} {u : V} {l : Ob} {g : ∀ R : Type, R -> p.T R} (h : p.get u = some (l, g)) (ho : ObOk len l) (R : Type) (r : R) : (p.put len (g R r)).2 = r /\ WkX u (p.put len (g R r)).1 := by
 cases p with
 | v p =>
  have h' : p.get u = some (l, g) := h
  have := VP1.get_put (len := len) h' ho R r
  exact ⟨this.1, .inl this.2⟩
 | tup ps =>
  cases u with
  | tup us =>
   have h' : getVs ps us = some (l, g) := h
   have := getVs_put (len := len) h' ho R r
   exact ⟨this.1, .inr ⟨_, _, rfl, rfl, this.2⟩⟩
  | one => cases h
  | agg => cases h

def EnvT : List (Nat × VP) -> Type -> Type
 | [], R => R
 | p :: ps, R => p.2.T (EnvT ps R)
def putEnv (len : Nat -> Nat) : (ps : List (Nat × VP)) -> {R : Type} -> EnvT ps R -> List (Nat × V) × R
 | [], _, r => ([], r)
 | p :: ps, _, x => ((p.1, (p.2.put len x).1) :: (putEnv len ps (p.2.put len x).2).1, (putEnv len ps (p.2.put len x).2).2)
def getEnv : (ps : List (Nat × VP)) -> List (Nat × V) -> Option (Ob × ∀ R : Type, R -> EnvT ps R)
 | [], [] => some ([], fun _ r => r)
 | p :: ps, c :: cs => match Nat.beq p.1 c.1, p.2.get c.2, getEnv ps cs with
  | true, some (l1, g1), some (l2, g2) => some (l1 ++ l2, fun R r => g1 _ (g2 R r))
  | _, _, _ => none
 | _, _ => none
def EnvWk : List (Nat × V) -> List (Nat × V) -> Prop
 | [], [] => True
 | c :: cs, d :: ds => c.1 = d.1 /\ WkX c.2 d.2 /\ EnvWk cs ds
 | _, _ => False
theorem getEnv_put {len : Nat -> Nat} : ∀ {ps : List (Nat × VP)} {cs : List (Nat × V)} {l : Ob} {g : ∀ R : Type, R -> EnvT ps R}, getEnv ps cs = some (l, g) -> ObOk len l -> ∀ (R : Type) (r : R), (putEnv len ps (g R r)).2 = r /\ EnvWk cs (putEnv len ps (g R r)).1
 | [], [], l, g, h, ho, R, r => by cases h; exact ⟨rfl, trivial⟩
 | [], _ :: _, l, g, h, ho, R, r => by cases h
 | _ :: _, [], l, g, h, ho, R, r => by cases h
 | p :: ps, c :: cs, l, g, h, ho, R, r => by
  unfold getEnv at h
  split at h
  . rename_i l1 g1 l2 g2 h0 h1 h2
    cases h
    obtain ⟨a1, a2⟩ := VP.get_put h1 ho.left _ (g2 R r)
    obtain ⟨b1, b2⟩ := getEnv_put h2 ho.right R r
    simp only [putEnv]
    rw [a1]
    exact ⟨b1, (Nat.eq_of_beq_eq_true h0).symm, a2, b2⟩
  . cases h
inductive BP where
 | cells (ps : List Pt)
 | row (e : TypeId) (c : Nat) (ap fr : Bool)
 | map (kt : Nat)
 | junk (e : TypeId) (sz : Nat)
 | bx (T : TypeId) (q : Nat)
 | buf (e : TypeId)
 | deep (e ei : TypeId) (c : Nat)
 | deepH (e ei : TypeId) (c q : Nat)
 | jk (e : TypeId) (sz : Nat)
 | jd (e ei : TypeId) (sz ic szi : Nat)
 | jdH (e ei : TypeId) (sz ic szi q : Nat)
 | jo (e ei : TypeId) (sz ic szi : Nat)
def BP.T : BP -> Type -> Type
 | .bx _ _, R => R
 | .buf _, R => List UInt8 × R
 | .deep _ _ c, R => List (τ c) × R
 | .deepH _ _ c _, R => Nat × (List (τ c) × R)
 | .jk _ _, R => Nat × (Nat × R)
 | .jd _ _ _ _ _, R => List (Nat × Nat) × R
 | .jdH _ _ _ _ _ _, R => Nat × (List (Nat × Nat) × R)
 | .jo _ _ _ _ _, R => Nat × R
 | .junk _ _, R => Nat × R
 | .map kt, R => List (τ kt × Int) × R
 | .cells ps, R => PtsT ps R
 | .row _ c _ _, R => List (τ c) × R
def BP.put (len : Nat -> Nat) (k : Nat) : (p : BP) -> {R : Type} -> p.T R -> Blk × R
 | .cells ps, _, x => (.cells (putPts len ps x).1, (putPts len ps x).2)
 | .row e c ap fr, _, (xs, r) => (.rowT (vk k) e c ap fr xs, r)
 | .map kt, _, (es, r) => (.mp kt es, r)
 | .junk e sz, _, (n, r) => (.junk (vk k) e sz (len k) n, r)
 | .bx T q, _, r => (.bx T (some (q, vk q)), r)
 | .buf e, _, (xs, r) => (.buf (vk k) e xs, r)
 | .deep e ei c, _, (xs, r) => (.deep (vk k) e ei c none xs, r)
 | .deepH e ei c q, _, (i, xs, r) => (.deep (vk k) e ei c (some (i, some (q, vk q))) xs, r)
 | .jk e sz, _, (l, n, r) => (.junk (vk k) e sz l n, r)
 | .jd e ei sz ic szi, _, (ls, r) => (.jd (vk k) e ei sz ic szi none none ls, r)
 | .jdH e ei sz ic szi q, _, (i, ls, r) => (.jd (vk k) e ei sz ic szi none (some (i, some (q, vk q))) ls, r)
 | .jo e ei sz ic szi, _, (n, r) => (.jd (vk k) e ei sz ic szi (some (len k, n)) none [], r)
def getJd (k : Nat) (e ei sz ic szi : Nat) : Blk -> Option (List (Nat × Nat))
 | .jd ver e' ei' sz' ic' szi' none none ls => match decide (ver = vk k /\ e = e' /\ ei = ei' /\ sz = sz' /\ ic = ic' /\ szi = szi') with | true => some ls | false => none
 | _ => none
theorem getJd_eq {k e ei sz ic szi : Nat} {b : Blk} {ls : List (Nat × Nat)} (h : getJd k e ei sz ic szi b = some ls) : b = .jd (vk k) e ei sz ic szi none none ls := by
 unfold getJd at h
 split at h
 . split at h
   . rename_i q; obtain ⟨rfl, rfl, rfl, rfl, rfl, rfl⟩ := of_decide_eq_true q; cases h; rfl
   . cases h
 . cases h
def getJh (k : Nat) (e ei sz ic szi q : Nat) : Blk -> Option (Nat × List (Nat × Nat))
 | .jd ver e' ei' sz' ic' szi' none (some (i, some (q', v))) ls => match decide (ver = vk k /\ e = e' /\ ei = ei' /\ sz = sz' /\ ic = ic' /\ szi = szi' /\ q = q' /\ v = vk q) with | true => some (i, ls) | false => none
 | _ => none
theorem getJh_eq {k e ei sz ic szi q : Nat} {b : Blk} {i : Nat} {ls : List (Nat × Nat)} (h : getJh k e ei sz ic szi q b = some (i, ls)) : b = .jd (vk k) e ei sz ic szi none (some (i, some (q, vk q))) ls := by
 unfold getJh at h
 split at h
 . split at h
   . rename_i z; obtain ⟨rfl, rfl, rfl, rfl, rfl, rfl, rfl, rfl⟩ := of_decide_eq_true z; cases h; rfl
   . cases h
 . cases h
def getJo (k : Nat) (e ei sz ic szi : Nat) : Blk -> Option (Nat × Nat)
 | .jd ver e' ei' sz' ic' szi' (some (l, n)) none [] => match decide (ver = vk k /\ e = e' /\ ei = ei' /\ sz = sz' /\ ic = ic' /\ szi = szi') with | true => some (l, n) | false => none
 | _ => none
theorem getJo_eq {k e ei sz ic szi : Nat} {b : Blk} {l n : Nat} (h : getJo k e ei sz ic szi b = some (l, n)) : b = .jd (vk k) e ei sz ic szi (some (l, n)) none [] := by
 unfold getJo at h
 split at h
 . split at h
   . rename_i q; obtain ⟨rfl, rfl, rfl, rfl, rfl, rfl⟩ := of_decide_eq_true q; cases h; rfl
   . cases h
 . cases h
def getDp (k : Nat) (e ei : TypeId) (c : Nat) : Blk -> Option (List (τ c))
 | .deep ver e' ei' c' none xs => if ver = vk k /\ e = e' /\ ei = ei' then castSt c c' xs else none
 | _ => none
theorem getDp_eq {k : Nat} {e ei : TypeId} {c : Nat} {b : Blk} {ys : List (τ c)} (h : getDp k e ei c b = some ys) : b = .deep (vk k) e ei c none ys := by
 unfold getDp at h
 split at h
 . rename_i ver e' ei' c' xs
   split at h
   . rename_i q
     obtain ⟨rfl, rfl, rfl⟩ := q
     unfold castSt at h
     split at h
     . rename_i q; subst q; cases h; rfl
     . cases h
   . cases h
 . cases h
def getDh (k : Nat) (e ei : TypeId) (c q : Nat) : Blk -> Option (Nat × List (τ c))
 | .deep ver e' ei' c' (some (i, some (q', v))) xs => if ver = vk k /\ e = e' /\ ei = ei' /\ q = q' /\ v = vk q then (castSt c c' xs).map fun ys => (i, ys) else none
 | _ => none
theorem getDh_eq {k : Nat} {e ei : TypeId} {c q : Nat} {b : Blk} {i : Nat} {ys : List (τ c)} (h : getDh k e ei c q b = some (i, ys)) : b = .deep (vk k) e ei c (some (i, some (q, vk q))) ys := by
 unfold getDh at h
 split at h
 . rename_i ver e' ei' c' i' q' v xs
   split at h
   . rename_i z
     obtain ⟨rfl, rfl, rfl, rfl, rfl⟩ := z
     unfold castSt at h
     split at h
     . rename_i z; subst z; cases h; rfl
     . cases h
   . cases h
 . cases h
def getBf (k : Nat) (e : TypeId) : Blk -> Option (List UInt8)
 | .buf ver e' xs => if ver = vk k /\ e = e' then some xs else none
 | _ => none
theorem getBf_eq {k : Nat} {e : TypeId} {b : Blk} {xs : List UInt8} (h : getBf k e b = some xs) : b = .buf (vk k) e xs := by
 unfold getBf at h
 split at h
 . split at h
   . rename_i q; obtain ⟨rfl, rfl⟩ := q; cases h; rfl
   . cases h
 . cases h
def isBx (T : TypeId) (q : Nat) : Blk -> Bool
 | .bx T' (some (q', v)) => decide (T = T' /\ q = q' /\ v = vk q)
 | _ => false
theorem isBx_eq {T : TypeId} {q : Nat} {b : Blk} (h : isBx T q b = true) : b = .bx T (some (q, vk q)) := by
 unfold isBx at h
 split at h
 . obtain ⟨rfl, rfl, rfl⟩ := of_decide_eq_true h; rfl
 . cases h
def getJk (k : Nat) (e : TypeId) (sz : Nat) : Blk -> Option (Nat × Nat)
 | .junk ver e' sz' l n => if ver = vk k /\ e = e' /\ sz = sz' then some (l, n) else none
 | _ => none
theorem getJk_eq {k : Nat} {e : TypeId} {sz : Nat} {b : Blk} {l n : Nat} (h : getJk k e sz b = some (l, n)) : b = .junk (vk k) e sz l n := by
 cases b with
 | junk ver e' sz' l' n' =>
  have h' : (if ver = vk k /\ e = e' /\ sz = sz' then some (l', n') else none) = some (l, n) := h
  split at h'
  . rename_i q; obtain ⟨rfl, rfl, rfl⟩ := q; cases h'; rfl
  . cases h'
 | cells => exact absurd (show (none : Option (Nat × Nat)) = some (l, n) from h) (by simp)
 | row => exact absurd (show (none : Option (Nat × Nat)) = some (l, n) from h) (by simp)
 | bx => exact absurd (show (none : Option (Nat × Nat)) = some (l, n) from h) (by simp)
 | buf => exact absurd (show (none : Option (Nat × Nat)) = some (l, n) from h) (by simp)
 | deep => exact absurd (show (none : Option (Nat × Nat)) = some (l, n) from h) (by simp)
 | jd => exact absurd (show (none : Option (Nat × Nat)) = some (l, n) from h) (by simp)
 | rowT => exact absurd (show (none : Option (Nat × Nat)) = some (l, n) from h) (by simp)
 | mp => exact absurd (show (none : Option (Nat × Nat)) = some (l, n) from h) (by simp)
def getMp (kt : Nat) : Blk -> Option (List (τ kt × Int))
 | .mp kt' es => if h : kt' = kt then some (h ▸ es) else none
 | _ => none
theorem getMp_eq {kt : Nat} {b : Blk} {es : List (τ kt × Int)} (h : getMp kt b = some es) : b = .mp kt es := by
 cases b with
 | mp kt' es' =>
  have h' : (if h : kt' = kt then some (h ▸ es') else none) = some es := h
  split at h'
  . rename_i e; subst e; cases h'; rfl
  . cases h'
 | cells => exact absurd (show (none : Option (List (τ kt × Int))) = some es from h) (by simp)
 | row => exact absurd (show (none : Option (List (τ kt × Int))) = some es from h) (by simp)
 | bx => exact absurd (show (none : Option (List (τ kt × Int))) = some es from h) (by simp)
 | buf => exact absurd (show (none : Option (List (τ kt × Int))) = some es from h) (by simp)
 | deep => exact absurd (show (none : Option (List (τ kt × Int))) = some es from h) (by simp)
 | jd => exact absurd (show (none : Option (List (τ kt × Int))) = some es from h) (by simp)
 | rowT => exact absurd (show (none : Option (List (τ kt × Int))) = some es from h) (by simp)
 | junk => exact absurd (show (none : Option (List (τ kt × Int))) = some es from h) (by simp)
def getRow (k : Nat) (e : TypeId) (c : Nat) (ap fr : Bool) : Blk -> Option (List (τ c))
 | .rowT ver e' c' ap' fr' xs => if ver = vk k /\ e = e' /\ ap = ap' /\ fr = fr' then castSt c c' xs else none
 | _ => none
theorem getRow_wk {k : Nat} {e : TypeId} {c : Nat} {ap fr : Bool} {b : Blk} {ys : List (τ c)} (h : getRow k e c ap fr b = some ys) : b = .rowT (vk k) e c ap fr ys := by
 cases b with
 | rowT ver e' c' ap' fr' xs =>
  have h' : (if ver = vk k /\ e = e' /\ ap = ap' /\ fr = fr' then castSt c c' xs else none) = some ys := h
  by_cases e1 : ver = vk k /\ e = e' /\ ap = ap' /\ fr = fr'
  . rw [if_pos e1] at h'
    obtain ⟨rfl, rfl, rfl, rfl⟩ := e1
    unfold castSt at h'
    split at h'
    . rename_i e; subst e; cases h'; rfl
    . cases h'
  . rw [if_neg e1] at h'; cases h'
 | cells => exact absurd (show (none : Option (List (τ c))) = some ys from h) (by simp)
 | mp => exact absurd (show (none : Option (List (τ c))) = some ys from h) (by simp)
 | row => exact absurd (show (none : Option (List (τ c))) = some ys from h) (by simp)
 | bx => exact absurd (show (none : Option (List (τ c))) = some ys from h) (by simp)
 | buf => exact absurd (show (none : Option (List (τ c))) = some ys from h) (by simp)
 | deep => exact absurd (show (none : Option (List (τ c))) = some ys from h) (by simp)
 | jd => exact absurd (show (none : Option (List (τ c))) = some ys from h) (by simp)
 | junk => exact absurd (show (none : Option (List (τ c))) = some ys from h) (by simp)
def BP.get (k : Nat) : (p : BP) -> Blk -> Option (Ob × ∀ R : Type, R -> p.T R)
 | .cells ps, b => match b with
  | .cells cs => getPts ps cs
  | _ => none
 | .row e c ap fr, b => match getRow k e c ap fr b with
  | some ys => some ([], fun _ r => (ys, r))
  | none => none
 | .map kt, b => match getMp kt b with
  | some es => some ([], fun _ r => (es, r))
  | none => none
 | .junk e sz, b => match getJk k e sz b with
  | some (l, n) => some ([(k, l)], fun _ r => (n, r))
  | none => none
 | .bx T q, b => match isBx T q b with
  | true => some ([], fun _ r => r)
  | false => none
 | .buf e, b => match getBf k e b with
  | some xs => some ([], fun _ r => (xs, r))
  | none => none
 | .deep e ei c, b => match getDp k e ei c b with
  | some xs => some ([], fun _ r => (xs, r))
  | none => none
 | .deepH e ei c q, b => match getDh k e ei c q b with
  | some (i, xs) => some ([], fun _ r => (i, xs, r))
  | none => none
 | .jk e sz, b => match getJk k e sz b with
  | some (l, n) => some ([], fun _ r => (l, n, r))
  | none => none
 | .jd e ei sz ic szi, b => match getJd k e ei sz ic szi b with
  | some ls => some ([], fun _ r => (ls, r))
  | none => none
 | .jdH e ei sz ic szi q, b => match getJh k e ei sz ic szi q b with
  | some (i, ls) => some ([], fun _ r => (i, ls, r))
  | none => none
 | .jo e ei sz ic szi, b => match getJo k e ei sz ic szi b with
  | some (l, n) => some ([(k, l)], fun _ r => (n, r))
  | none => none
theorem WkB.blk {b b' : Blk} (h : WkB b b') : BlkWk b b' := by
 refine ⟨?_, fun p x j => WkB_covers h, fun w β U base p hr => hr.wk h⟩
 cases b with
 | cells cs => cases b' with
  | cells => rfl
  | mp => cases h
  | row => cases h
  | rowT => cases h
  | junk => cases h
  | bx => cases h
  | buf => cases h
  | deep => cases h
  | jd => cases h
 | jd => cases h; rfl
 | deep => cases h; rfl
 | mp => cases h; rfl
 | bx => cases h; rfl
 | buf => cases h; rfl
 | junk => cases h; rfl
 | row => cases h; rfl
 | rowT => cases h; rfl
theorem BP.get_put {len : Nat -> Nat} {k : Nat} {p : BP} {b : Blk} {l : Ob} {g : ∀ R : Type, R -> p.T R} (h : p.get k b = some (l, g)) (ho : ObOk len l) (R : Type) (r : R) : (p.put len k (g R r)).2 = r /\ BlkWk b (p.put len k (g R r)).1 := by
 cases p with
 | cells ps =>
  cases b with
  | cells cs =>
   have h' : getPts ps cs = some (l, g) := h
   have := getPts_put (len := len) h' ho R r
   exact ⟨this.1, WkB.blk (show WkB (.cells _) (.cells _) from this.2)⟩
  | mp => cases h
  | row => cases h
  | rowT => cases h
  | junk => cases h
  | bx => cases h
  | buf => cases h
  | deep => cases h
  | jd => cases h
 | deep e ei c =>
  cases hr : getDp k e ei c b with
  | none =>
   have h' : (match getDp k e ei c b with | some xs => some (([] : Ob), fun (R : Type) (r : R) => ((xs, r) : List (τ c) × R)) | none => none) = some (l, g) := h
   rw [hr] at h'
   exact absurd h' (by simp)
  | some xs =>
   have h' : (match getDp k e ei c b with | some xs => some (([] : Ob), fun (R : Type) (r : R) => ((xs, r) : List (τ c) × R)) | none => none) = some (l, g) := h
   rw [hr] at h'
   have h3 : g = fun R r => (xs, r) := (congrArg Prod.snd (Option.some.inj h')).symm
   subst h3
   refine ⟨rfl, ?_⟩
   rw [getDp_eq hr]
   exact BlkWk.rfl _
 | deepH e ei c q =>
  cases hr : getDh k e ei c q b with
  | none =>
   have h' : (match getDh k e ei c q b with | some (i, xs) => some (([] : Ob), fun (R : Type) (r : R) => ((i, xs, r) : Nat × (List (τ c) × R))) | none => none) = some (l, g) := h
   rw [hr] at h'
   exact absurd h' (by simp)
  | some z =>
   obtain ⟨i, xs⟩ := z
   have h' : (match getDh k e ei c q b with | some (i, xs) => some (([] : Ob), fun (R : Type) (r : R) => ((i, xs, r) : Nat × (List (τ c) × R))) | none => none) = some (l, g) := h
   rw [hr] at h'
   have h3 : g = fun R r => (i, xs, r) := (congrArg Prod.snd (Option.some.inj h')).symm
   subst h3
   refine ⟨rfl, ?_⟩
   rw [getDh_eq hr]
   exact BlkWk.rfl _
 | jk e sz =>
  cases hr : getJk k e sz b with
  | none =>
   have h' : (match getJk k e sz b with | some (l, n) => some (([] : Ob), fun (R : Type) (r : R) => ((l, n, r) : Nat × (Nat × R))) | none => none) = some (l, g) := h
   rw [hr] at h'
   exact absurd h' (by simp)
  | some z =>
   obtain ⟨i, n⟩ := z
   have h' : (match getJk k e sz b with | some (l, n) => some (([] : Ob), fun (R : Type) (r : R) => ((l, n, r) : Nat × (Nat × R))) | none => none) = some (l, g) := h
   rw [hr] at h'
   have h3 : g = fun R r => (i, n, r) := (congrArg Prod.snd (Option.some.inj h')).symm
   subst h3
   refine ⟨rfl, ?_⟩
   rw [getJk_eq hr]
   exact BlkWk.rfl _
 | jd e ei sz ic szi =>
  cases hr : getJd k e ei sz ic szi b with
  | none =>
   have h' : (match getJd k e ei sz ic szi b with | some ls => some (([] : Ob), fun (R : Type) (r : R) => ((ls, r) : List (Nat × Nat) × R)) | none => none) = some (l, g) := h
   rw [hr] at h'
   exact absurd h' (by simp)
  | some ls =>
   have h' : (match getJd k e ei sz ic szi b with | some ls => some (([] : Ob), fun (R : Type) (r : R) => ((ls, r) : List (Nat × Nat) × R)) | none => none) = some (l, g) := h
   rw [hr] at h'
   have h3 : g = fun R r => (ls, r) := (congrArg Prod.snd (Option.some.inj h')).symm
   subst h3
   refine ⟨rfl, ?_⟩
   rw [getJd_eq hr]
   exact BlkWk.rfl _
 | jdH e ei sz ic szi q =>
  cases hr : getJh k e ei sz ic szi q b with
  | none =>
   have h' : (match getJh k e ei sz ic szi q b with | some (i, ls) => some (([] : Ob), fun (R : Type) (r : R) => ((i, ls, r) : Nat × (List (Nat × Nat) × R))) | none => none) = some (l, g) := h
   rw [hr] at h'
   exact absurd h' (by simp)
  | some z =>
   obtain ⟨i, ls⟩ := z
   have h' : (match getJh k e ei sz ic szi q b with | some (i, ls) => some (([] : Ob), fun (R : Type) (r : R) => ((i, ls, r) : Nat × (List (Nat × Nat) × R))) | none => none) = some (l, g) := h
   rw [hr] at h'
   have h3 : g = fun R r => (i, ls, r) := (congrArg Prod.snd (Option.some.inj h')).symm
   subst h3
   refine ⟨rfl, ?_⟩
   rw [getJh_eq hr]
   exact BlkWk.rfl _
 | jo e ei sz ic szi =>
  cases hr : getJo k e ei sz ic szi b with
  | none =>
   have h' : (match getJo k e ei sz ic szi b with | some (l, n) => some (([(k, l)] : Ob), fun (R : Type) (r : R) => ((n, r) : Nat × R)) | none => none) = some (l, g) := h
   rw [hr] at h'
   exact absurd h' (by simp)
  | some q =>
   obtain ⟨l0, n0⟩ := q
   have h' : (match getJo k e ei sz ic szi b with | some (l, n) => some (([(k, l)] : Ob), fun (R : Type) (r : R) => ((n, r) : Nat × R)) | none => none) = some (l, g) := h
   rw [hr] at h'
   have h1 : [(k, l0)] = l := congrArg Prod.fst (Option.some.inj h')
   have h3 : g = fun R r => (n0, r) := (congrArg Prod.snd (Option.some.inj h')).symm
   subst h1; subst h3
   refine ⟨rfl, ?_⟩
   have h4 : l0 = len k := ho (k, l0) (by simp)
   rw [getJo_eq hr, h4]
   exact BlkWk.rfl _
 | bx T q =>
  cases hr : isBx T q b with
  | false =>
   have h' : (match isBx T q b with | true => some (([] : Ob), fun (R : Type) (r : R) => r) | false => none) = some (l, g) := h
   rw [hr] at h'
   exact absurd h' (by simp)
  | true =>
   have h' : (match isBx T q b with | true => some (([] : Ob), fun (R : Type) (r : R) => r) | false => none) = some (l, g) := h
   rw [hr] at h'
   have h3 : g = fun R r => r := (congrArg Prod.snd (Option.some.inj h')).symm
   subst h3
   refine ⟨rfl, ?_⟩
   rw [isBx_eq hr]
   exact BlkWk.rfl _
 | buf e =>
  cases hr : getBf k e b with
  | none =>
   have h' : (match getBf k e b with | some xs => some (([] : Ob), fun (R : Type) (r : R) => ((xs, r) : List UInt8 × R)) | none => none) = some (l, g) := h
   rw [hr] at h'
   exact absurd h' (by simp)
  | some xs =>
   have h' : (match getBf k e b with | some xs => some (([] : Ob), fun (R : Type) (r : R) => ((xs, r) : List UInt8 × R)) | none => none) = some (l, g) := h
   rw [hr] at h'
   have h3 : g = fun R r => (xs, r) := (congrArg Prod.snd (Option.some.inj h')).symm
   subst h3
   refine ⟨rfl, ?_⟩
   rw [getBf_eq hr]
   exact BlkWk.rfl _
 | junk e sz =>
  cases hr : getJk k e sz b with
  | none =>
   have h' : (match getJk k e sz b with | some (l, n) => some (([(k, l)] : Ob), fun (R : Type) (r : R) => ((n, r) : Nat × R)) | none => none) = some (l, g) := h
   rw [hr] at h'
   exact absurd h' (by simp)
  | some q =>
   obtain ⟨l0, n0⟩ := q
   have h' : (match getJk k e sz b with | some (l, n) => some (([(k, l)] : Ob), fun (R : Type) (r : R) => ((n, r) : Nat × R)) | none => none) = some (l, g) := h
   rw [hr] at h'
   have h1 : [(k, l0)] = l := congrArg Prod.fst (Option.some.inj h')
   have h2 := congrArg Prod.snd (Option.some.inj h')
   have h3 : g = fun R r => (n0, r) := h2.symm
   subst h1; subst h3
   refine ⟨rfl, ?_⟩
   have h4 : l0 = len k := ho (k, l0) (by simp)
   rw [getJk_eq hr, h4]
   exact BlkWk.rfl _
 | map kt =>
  cases hr : getMp kt b with
  | none =>
   have h' : (match getMp kt b with | some es => some (([] : Ob), fun (R : Type) (r : R) => ((es, r) : List (τ kt × Int) × R)) | none => none) = some (l, g) := h
   rw [hr] at h'
   exact absurd h' (by simp)
  | some es =>
   have h' : (match getMp kt b with | some es => some (([] : Ob), fun (R : Type) (r : R) => ((es, r) : List (τ kt × Int) × R)) | none => none) = some (l, g) := h
   rw [hr] at h'
   have h2 := congrArg Prod.snd (Option.some.inj h')
   have h3 : g = fun R r => (es, r) := h2.symm
   subst h3
   refine ⟨rfl, ?_⟩
   rw [getMp_eq hr]
   exact BlkWk.rfl _
 | row e c ap fr =>
  cases hr : getRow k e c ap fr b with
  | none =>
   have h' : (match getRow k e c ap fr b with | some ys => some (([] : Ob), fun (R : Type) (r : R) => ((ys, r) : List (τ c) × R)) | none => none) = some (l, g) := h
   rw [hr] at h'
   exact absurd h' (by simp)
  | some ys =>
   have h' : (match getRow k e c ap fr b with | some ys => some (([] : Ob), fun (R : Type) (r : R) => ((ys, r) : List (τ c) × R)) | none => none) = some (l, g) := h
   rw [hr] at h'
   have h2 := congrArg Prod.snd (Option.some.inj h')
   have h3 : g = fun R r => (ys, r) := h2.symm
   subst h3
   refine ⟨rfl, ?_⟩
   rw [getRow_wk hr]
   exact BlkWk.rfl _
def MemT : List (Nat × BP) -> Type -> Type
 | [], R => R
 | p :: ps, R => p.2.T (MemT ps R)
def putMem (len : Nat -> Nat) : (ps : List (Nat × BP)) -> {R : Type} -> MemT ps R -> List (Nat × Blk) × R
 | [], _, r => ([], r)
 | p :: ps, _, x => ((p.1, (p.2.put len p.1 x).1) :: (putMem len ps (p.2.put len p.1 x).2).1, (putMem len ps (p.2.put len p.1 x).2).2)
def getMem : (ps : List (Nat × BP)) -> List (Nat × Blk) -> Option (Ob × ∀ R : Type, R -> MemT ps R)
 | [], [] => some ([], fun _ r => r)
 | p :: ps, c :: cs => match Nat.beq p.1 c.1, p.2.get p.1 c.2, getMem ps cs with
  | true, some (l1, g1), some (l2, g2) => some (l1 ++ l2, fun R r => g1 _ (g2 R r))
  | _, _, _ => none
 | _, _ => none
def MemWk : List (Nat × Blk) -> List (Nat × Blk) -> Prop
 | [], [] => True
 | c :: cs, d :: ds => c.1 = d.1 /\ BlkWk c.2 d.2 /\ MemWk cs ds
 | _, _ => False
theorem getMem_put {len : Nat -> Nat} : ∀ {ps : List (Nat × BP)} {cs : List (Nat × Blk)} {l : Ob} {g : ∀ R : Type, R -> MemT ps R}, getMem ps cs = some (l, g) -> ObOk len l -> ∀ (R : Type) (r : R), (putMem len ps (g R r)).2 = r /\ MemWk cs (putMem len ps (g R r)).1
 | [], [], l, g, h, ho, R, r => by cases h; exact ⟨rfl, trivial⟩
 | [], _ :: _, l, g, h, ho, R, r => by cases h
 | _ :: _, [], l, g, h, ho, R, r => by cases h
 | p :: ps, c :: cs, l, g, h, ho, R, r => by
  unfold getMem at h
  split at h
  . rename_i l1 g1 l2 g2 h0 h1 h2
    cases h
    obtain ⟨a1, a2⟩ := BP.get_put h1 ho.left _ (g2 R r)
    obtain ⟨b1, b2⟩ := getMem_put h2 ho.right R r
    simp only [putMem]
    rw [a1]
    exact ⟨b1, (Nat.eq_of_beq_eq_true h0).symm, a2, b2⟩
  . cases h
def memLen : (ps : List (Nat × BP)) -> {R : Type} -> MemT ps R -> Nat -> Nat
 | [], _, _, _ => 0
 | (q, .row e c ap fr) :: ps, _, (xs, x), k => match Nat.beq q k with | true => xs.length | false => memLen ps x k
 | (q, .cells cs) :: ps, _, x, k => memLen ps (skipPts cs x) k
 | (q, .map kt) :: ps, _, (es, x), k => memLen ps x k
 | (q, .junk e sz) :: ps, _, (n, x), k => match Nat.beq q k with | true => n | false => memLen ps x k
 | (q, .bx _ _) :: ps, _, x, k => memLen ps x k
 | (q, .buf _) :: ps, _, (_, x), k => memLen ps x k
 | (q, .deep _ _ _) :: ps, _, (xs, x), k => match Nat.beq q k with | true => xs.length | false => memLen ps x k
 | (q, .deepH _ _ _ _) :: ps, _, (_, xs, x), k => match Nat.beq q k with | true => xs.length | false => memLen ps x k
 | (q, .jk _ _) :: ps, _, (l, _, x), k => match Nat.beq q k with | true => l | false => memLen ps x k
 | (q, .jd _ _ _ _ _) :: ps, _, (ls, x), k => match Nat.beq q k with | true => ls.length | false => memLen ps x k
 | (q, .jdH _ _ _ _ _ _) :: ps, _, (_, ls, x), k => match Nat.beq q k with | true => ls.length | false => memLen ps x k
 | (q, .jo _ _ _ _ _) :: ps, _, (n, x), k => match Nat.beq q k with | true => n | false => memLen ps x k

structure SP where
 n : Nat
 env : List (Nat × VP)
 mem : List (Nat × BP)
def SP.T (sp : SP) : Type := EnvT sp.env (MemT sp.mem Unit)
def SP.len (sp : SP) (x : sp.T) : Nat -> Nat := memLen sp.mem (putEnv (fun _ => 0) sp.env x).2
def SP.put (sp : SP) (x : sp.T) : St :=
 ⟨sp.n, (putEnv (sp.len x) sp.env x).1, (putMem (sp.len x) sp.mem (putEnv (sp.len x) sp.env x).2).1⟩
def SP.get (sp : SP) (s : St) : Option (Ob × sp.T) :=
 match Nat.beq s.n sp.n, getEnv sp.env s.env, getMem sp.mem s.mem with
 | true, some (l1, g1), some (l2, g2) => some (l1 ++ l2, g1 _ (g2 Unit ()))
 | _, _, _ => none
def grdOb {α : Type} (len : Nat -> Nat) : Ob -> Tr α -> Tr α
 | [], T => T
 | (k, n) :: r, T => .grd (decide (n = len k)) (grdOb len r T)
theorem eval_grdOb {α : Type} {len : Nat -> Nat} : ∀ {l : Ob} {T : Tr α} {a : α}, (grdOb len l T).eval = some a -> ObOk len l /\ T.eval = some a
 | [], T, a, h => ⟨fun q hq => (by cases hq), h⟩
 | (k, n) :: r, T, a, h => by
  obtain ⟨h1, h2⟩ := Tr.eval_grd h
  obtain ⟨h3, h4⟩ := eval_grdOb h2
  refine ⟨fun q hq => ?_, h4⟩
  rcases List.mem_cons.1 hq with rfl | hq
  . simpa using h1
  . exact h3 q hq

theorem SP.get_put {sp : SP} {s : St} {l : Ob} {x : sp.T} (h : sp.get s = some (l, x)) (hob0 : ObOk (sp.len x) l) : s.n = (sp.put x).n /\ EnvWk s.env (sp.put x).env /\ MemWk s.mem (sp.put x).mem := by
 unfold SP.get at h
 split at h
 . rename_i l1 g1 l2 g2 h0 h1 h2
   have ho := congrArg Prod.fst (Option.some.inj h)
   have hx := congrArg Prod.snd (Option.some.inj h)
   simp only at ho hx
   subst hx
   subst ho
   have skip0 : ∀ (len : Nat -> Nat), ObOk len l1 -> (putEnv len sp.env (g1 _ (g2 Unit ()))).2 = g2 Unit () := fun len hl => (getEnv_put h1 hl _ _).1
   have skip : ∀ (len : Nat -> Nat), (putEnv len sp.env (g1 _ (g2 Unit ()))).2 = g2 Unit () := by
    intro len
    have e : ∀ len len' : Nat -> Nat, (putEnv len sp.env (g1 _ (g2 Unit ()))).2 = (putEnv len' sp.env (g1 _ (g2 Unit ()))).2 := by
     intro len len'
     have ePt : ∀ (p : Pt) {R : Type} (x : p.T R), (p.put len x).2 = (p.put len' x).2 := by
      intro p R x; cases p <;> rfl
     have ePts : ∀ (ps : List Pt) {R : Type} (x : PtsT ps R), (putPts len ps x).2 = (putPts len' ps x).2 := by
      intro ps
      induction ps with
      | nil => intro R x; rfl
      | cons p ps ih => intro R x; simp only [putPts]; rw [ePt p x]; exact ih _
     have eV1 : ∀ (p : VP1) {R : Type} (x : p.T R), (p.put len x).2 = (p.put len' x).2 := by
      intro p R x
      cases p with
      | one p => exact ePt p x
      | agg ps => exact ePts ps x
     have eVs : ∀ (ps : List VP1) {R : Type} (x : VPsT ps R), (putVs len ps x).2 = (putVs len' ps x).2 := by
      intro ps
      induction ps with
      | nil => intro R x; rfl
      | cons p ps ih => intro R x; simp only [putVs]; rw [eV1 p x]; exact ih _
     have eV : ∀ (p : VP) {R : Type} (x : p.T R), (p.put len x).2 = (p.put len' x).2 := by
      intro p R x
      cases p with
      | v p => exact eV1 p x
      | tup ps => exact eVs ps x
     have eE : ∀ (ps : List (Nat × VP)) {R : Type} (x : EnvT ps R), (putEnv len ps x).2 = (putEnv len' ps x).2 := by
      intro ps
      induction ps with
      | nil => intro R x; rfl
      | cons p ps ih => intro R x; simp only [putEnv]; rw [eV p.2 x]; exact ih _
     exact eE _ _
    rw [e len (sp.len (g1 _ (g2 Unit ())))]
    exact skip0 _ (fun q hq => hob0 q (List.mem_append_left _ hq))
   have hob : ∀ q ∈ l1 ++ l2, q.2 = sp.len (g1 _ (g2 Unit ())) q.1 := hob0
   refine ⟨Nat.eq_of_beq_eq_true h0, (getEnv_put h1 (fun q hq => hob q (List.mem_append_left _ hq)) _ _).2, ?_⟩
   unfold SP.put
   simp only
   rw [skip]
   exact (getMem_put h2 (fun q hq => hob q (List.mem_append_right _ hq)) _ _).2
 . cases h

theorem EnvWk.get : ∀ {cs ds : List (Nat × V)}, EnvWk cs ds -> ∀ t, (look t cs = none /\ look t ds = none) \/ ∃ x y, look t cs = some x /\ look t ds = some y /\ WkX x y
 | [], [], h, t => .inl ⟨rfl, rfl⟩
 | c :: cs, d :: ds, h, t => by
  obtain ⟨h1, h2, h3⟩ := h
  obtain ⟨a, b⟩ := c; obtain ⟨a', b'⟩ := d
  simp only at h1 h2; subst h1
  rw [look_cons, look_cons]
  by_cases e : a = t
  . rw [if_pos e, if_pos e]; exact .inr ⟨_, _, rfl, rfl, h2⟩
  . rw [if_neg e, if_neg e]; exact EnvWk.get h3 t
 | [], _ :: _, h, t => h.elim
 | _ :: _, [], h, t => h.elim
theorem MemWk.get : ∀ {cs ds : List (Nat × Blk)}, MemWk cs ds -> ∀ t, OptWk (look t cs) (look t ds)
 | [], [], h, t => trivial
 | c :: cs, d :: ds, h, t => by
  obtain ⟨h1, h2, h3⟩ := h
  obtain ⟨a, b⟩ := c; obtain ⟨a', b'⟩ := d
  simp only at h1 h2; subst h1
  rw [look_cons, look_cons]
  by_cases e : a = t
  . rw [if_pos e, if_pos e]; exact h2
  . rw [if_neg e, if_neg e]; exact MemWk.get h3 t
 | [], _ :: _, h, t => h.elim
 | _ :: _, [], h, t => h.elim

theorem RepV.wkX {w : World} {β : Nat -> Option Place} {U : Nat -> Prop} {base : Nat} {v : Value} {x y : V} (h : RepV w β U base v x) (hw : WkX x y) : RepV w β U base v y := by
 rcases hw with hw | ⟨vs, vs', rfl, rfl, hw⟩
 . exact h.wk hw
 . cases h with
   | tup us _ hl h =>
    obtain ⟨h1, h2⟩ := WkVs_get hw
    refine .tup us vs' (by omega) fun j u x hu hx => ?_
    have hj : j < vs.length := by have := (List.getElem?_eq_some_iff.1 hx).1; omega
    exact (h j u _ hu (List.getElem?_eq_getElem hj)).wk (h2 j _ x (List.getElem?_eq_getElem hj) hx)

structure StWk (s s' : St) : Prop where
 n : s.n = s'.n
 env : EnvWk s.env s'.env
 mem : MemWk s.mem s'.mem
theorem SP.wk {sp : SP} {s : St} {l : Ob} {x : sp.T} (h : sp.get s = some (l, x)) (ho : ObOk (sp.len x) l) : StWk s (sp.put x) := ⟨(SP.get_put h ho).1, (SP.get_put h ho).2.1, (SP.get_put h ho).2.2⟩

theorem SimB.stWk {w0 : World} {U0 : Nat -> Prop} {X : Nat -> Nat -> Prop} {β0 β : Nat -> Option Place} {U : Nat -> Prop} {s s' : St} {a : Act} {w : World} (h : SimB w0 U0 X β0 β U s a w) (hw : StWk s s') : SimB w0 U0 X β0 β U s' a w := by
 have h1 : SimB w0 U0 X β0 β U { s with env := s'.env } a w := { h with
  env := fun t => by
   rcases hw.env.get t with ⟨e1, e2⟩ | ⟨x, y, e1, e2, e3⟩
   . have := h.env t
     unfold St.get at this ⊢
     rw [e2]; exact .bad _
   . have := h.env t
     unfold St.get at this ⊢
     rw [e1] at this; rw [e2]
     exact this.wkX e3 }
 exact h1.blkWk hw.n.symm rfl (fun k => hw.mem.get k)
theorem Sim.stWk {w0 : World} {U0 : Nat -> Prop} {X : Nat -> Nat -> Prop} {β0 : Nat -> Option Place} {s s' : St} {a : Act} {w : World} (h : Sim w0 U0 X β0 s a w) (hw : StWk s s') : Sim w0 U0 X β0 s' a w := by
 obtain ⟨β, U, hb⟩ := h
 exact ⟨β, U, hb.stWk hw⟩
end Go.Proofs.Ythnijeclidpooaa.Abs
namespace Go.Proofs.Ythnijeclidpooaa.Abs
open Go Go.RowKit
set_option linter.unusedVariables false
set_option linter.unusedSimpArgs false

abbrev Kn := List (Nat × Bool)
abbrev Log := List (List Nat × List Nat)

def unKn (d : Nat) : Kn -> Kn
 | [] => []
 | (t, b) :: r => match Nat.beq t d with | true => unKn d r | false => (t, b) :: unKn d r
def knPut (kn : Kn) (dst : Option Nat) (b : Option Bool) : Kn :=
 match dst with
 | none => kn
 | some d => match b with | some b => (d, b) :: unKn d kn | none => unKn d kn
def known (kn : Kn) : Operand -> Option Bool
 | .tmp t => look t kn
 | .const (.bool b) => some b
 | _ => none

def KnOk (kn : Kn) (s : St) : Prop := ∀ t b, look t kn = some b -> s.get t = vb b

def ownKeys : List C -> List Nat
 | [] => []
 | .own k _ _ :: r => k :: ownKeys r
 | .dp k _ _ _ :: r => k :: ownKeys r
 | _ :: r => ownKeys r
def V.own1 : V -> List Nat
 | .one c => ownKeys [c]
 | .agg cs => ownKeys cs
 | .tup _ => []
def V.owns : V -> List Nat
 | .tup vs => vs.flatMap V.own1
 | v => v.own1
def newNames (old : List Nat) : Nat -> List Nat -> List (Nat × Nat)
 | _, [] => []
 | j, k :: r => match old.contains k with
  | true => newNames old j r
  | false => (k, j) :: newNames (k :: old) (j + 1) r
def ownsOf (m : Nat -> Option Blk) : List V -> List Nat
 | [] => []
 | .one (.ptr k _) :: r => match m k with
  | some (.cells cs) => ownKeys cs ++ ownsOf m r
  | some (.bx _ (some q)) => q.1 :: ownsOf m r
  | _ => ownsOf m r
 | .one (.dp k _ _ _) :: r => k :: ownsOf m r
 | .one (.dpr k _ _ _ _) :: r => k :: ownsOf m r
 | v :: r => v.own1 ++ ownsOf m r
def ownsOfS (m : Nat -> Option Blk) : List V -> List Nat
 | [] => []
 | .one (.ptr k _) :: r => match m k with
  | some (.cells cs) => (cs.flatMap fun c => match c with | .own k _ _ => [k] | .sub k _ _ _ _ => [k] | _ => []) ++ ownsOfS m r
  | _ => ownsOfS m r
 | _ :: r => ownsOfS m r
def capsOf : List V -> List Nat
 | [] => []
 | .one (.clp _ ks) :: r => ks.map (·.1) ++ capsOf r
 | _ :: r => capsOf r
def ksPtr (args : List V) : List (Nat × Nat) := ksOf 0 args ++ newNames ((ksOf 0 args).map (·.1)) 1000200 (capsOf args)
def pickM (mode : Nat) : List Nat -> List V -> List V
 | m :: ms, v :: vs => match Nat.beq m mode with
  | true => v :: pickM mode ms vs
  | false => pickM mode ms vs
 | _, _ => []
def stayKeys : List V -> List Nat
 | [] => []
 | .one (.own k _ _) :: r => k :: stayKeys r
 | .one (.pre k _ _ _) :: r => k :: stayKeys r
 | .one (.dp k _ _ _) :: r => k :: stayKeys r
 | .one (.dpr k _ _ _ _) :: r => k :: stayKeys r
 | _ :: r => stayKeys r
def ksAll (m : Nat -> Option Blk) (args : List V) (ms : List Nat) : List (Nat × Nat) := ksPtr args ++ newNames [] 1000100 (ownsOf m (pickM 1 ms args) ++ ownsOfS m (pickM 3 ms args)) ++ newNames (ownsOf m (pickM 1 ms args) ++ ownsOfS m (pickM 3 ms args)) 1500100 (stayKeys (pickM 2 ms args))
def bxLinks (m : Nat -> Option Blk) : List (Nat × Nat) -> List Nat
 | [] => []
 | p :: r => match m p.1 with
  | some (.bx _ (some q)) => q.1 :: bxLinks m r
  | _ => bxLinks m r
def withBx (m : Nat -> Option Blk) (ks : List (Nat × Nat)) : List (Nat × Nat) := match bxLinks m ks with
 | [] => ks
 | k :: r => ks ++ newNames (ks.map (·.1)) 1000300 (k :: r)
def ksFor (own : List Nat) (m : Nat -> Option Blk) (args : List V) : List (Nat × Nat) := withBx m (match own with | [] => ksPtr args | m1 :: ms => ksAll m args (m1 :: ms))
def rowB : Option Blk -> Bool
 | some (.row _ _ _ _ _ _) => true
 | some (.rowT _ _ _ _ _ _) => true
 | some (.deep _ _ _ _ _ _) => true
 | _ => false
def lockK (ks : List (Nat × Nat)) (m : Nat -> Option Blk) : List Nat -> Bool
 | [] => false
 | k :: r => match look k ks with
  | some _ => lockK ks m r
  | none => match rowB (m k) with
   | true => true
   | false => lockK ks m r
def lockOf (ks : List (Nat × Nat)) (m : Nat -> Option Blk) (vals : List V) : Bool := lockK ks m (vals.flatMap V.keysA ++ ks.flatMap fun p => cellKeys (m p.1))

variable (P : Program) (cod : TypeId -> Nat) (own : FuncId -> List Nat) (call : FuncId -> List V -> Mem -> Tr (V × Mem)) {ρ : Type}

def execCall0 (o : Oper) (kn : Kn) (s : St) (K : Kn -> List Nat -> List Nat -> St -> Tr ρ) (f : FuncId) (caps : List V) (args : List Operand) : Tr ρ :=
 match viewMem s.blk (sigIn s.blk (ksFor (own f) s.blk (args.map s.eval ++ caps))) (lockOf (ksFor (own f) s.blk (args.map s.eval ++ caps)) s.blk (args.map s.eval ++ caps)) (ksFor (own f) s.blk (args.map s.eval ++ caps)) with
 | none => .fail 11
 | some m1 => match canEnter P f && okKs (ksFor (own f) s.blk (args.map s.eval ++ caps)) && decide ((args.length + caps.length) <= 900) with
  | true => (call f ((args.map s.eval ++ caps).map (viewV s.blk (sigIn s.blk (ksFor (own f) s.blk (args.map s.eval ++ caps))) (lockOf (ksFor (own f) s.blk (args.map s.eval ++ caps)) s.blk (args.map s.eval ++ caps)))) m1).bind fun rm =>
   match callOut s (ksFor (own f) s.blk (args.map s.eval ++ caps)) (lockOf (ksFor (own f) s.blk (args.map s.eval ++ caps)) s.blk (args.map s.eval ++ caps)) o.dst rm.1 rm.2 with
   | some E => K (knPut kn o.dst none) (callRK (ksFor (own f) s.blk (args.map s.eval ++ caps)) s.blk (args.map s.eval ++ caps)) (E.mem.map (·.1)) (s.out o.dst E)
   | none => .fail 12
  | false => .fail 13

def dpKeys : List V -> List Nat
 | [] => []
 | .one (.dp k _ _ _) :: r => k :: dpKeys r
 | .one (.dpr k _ _ _ _) :: r => k :: dpKeys r
 | _ :: r => dpKeys r
def tidyFst (s : St) : List Nat -> List (Nat × Blk)
 | [] => []
 | k :: r => match tidyL s k with
  | [] => tidyFst s r
  | p :: l => p :: l
def execCall (o : Oper) (kn : Kn) (s : St) (K : Kn -> List Nat -> List Nat -> St -> Tr ρ) (f : FuncId) (caps : List V) (args : List Operand) : Tr ρ :=
 match own f with
 | [] => execCall0 P own call o kn s K f caps args
 | m1 :: ms => match tidyFst s (dpKeys (pickM 1 (m1 :: ms) (args.map s.eval) ++ pickM 2 (m1 :: ms) (args.map s.eval))) with
  | [] => execCall0 P own call o kn s K f caps args
  | p :: l => execCall0 P own call o kn (s.upd (p :: l)) (fun kn' R W s' => K kn' R (W ++ (p :: l).map (·.1)) s') f caps args

def execOp (o : Oper) (kn : Kn) (s : St) (K : Kn -> List Nat -> List Nat -> St -> Tr ρ) : Tr ρ :=
 match o.op with
 | .pick c a b => match known kn c with
  | some t => match t with
   | true => K (knPut kn o.dst (known kn a)) [] [] (s.put o.dst (s.eval a))
   | false => K (knPut kn o.dst (known kn b)) [] [] (s.put o.dst (s.eval b))
  | none => match s.eval c with
   | .one (.d (.b t)) => .ite t (K (knPut kn o.dst (known kn a)) [] [] (s.put o.dst (s.eval a))) (K (knPut kn o.dst (known kn b)) [] [] (s.put o.dst (s.eval b)))
   | _ => .fail 1
 | .assign x => K (knPut kn o.dst (known kn x)) [] [] (s.put o.dst (s.eval x))
 | .move x => K (knPut kn o.dst (known kn x)) [] [] (s.put o.dst (s.eval x))
 | .call { callee := .value fo, args, .. } => match cloOf (s.eval fo) with
  | some (f, caps) => execCall P own call o kn s K f caps args.toList
  | none => .fail 2
 | .lookup t x i ok => .fail 3
 | .mapEntry t x i => .fail 3
 | op => match effS P o.dst op s.eval s.blk with
  | some T => T.bind fun E => K (knPut kn o.dst none) (effKeys o.dst op s.eval) (E.mem.map (·.1)) (s.out o.dst E)
  | none => match effD P cod o.dst op s.eval s.blk with
  | some T => T.bind fun E => K (knPut kn o.dst none) (effKeys o.dst op s.eval) (E.mem.map (·.1)) (s.out o.dst E)
  | none => match effJ P o.dst op s.eval s.blk with
  | some T => T.bind fun E => K (knPut kn o.dst none) (effKeys o.dst op s.eval) (E.mem.map (·.1)) (s.out o.dst E)
  | none => match effZ P cod o.dst op s.eval s.blk with
  | some T => T.bind fun E => K (knPut kn o.dst none) (effKeys o.dst op s.eval) (E.mem.map (·.1)) (s.out o.dst E)
  | none => match effX P cod o.dst op s.eval s.blk with
  | some T => T.bind fun E => K (knPut kn o.dst none) (effKeys o.dst op s.eval) (E.mem.map (·.1)) (s.out o.dst E)
  | none => match effPX P cod o.dst op s.eval s.blk with
  | some T => T.bind fun E => K (knPut kn o.dst none) (effKeys o.dst op s.eval) (E.mem.map (·.1)) (s.out o.dst E)
  | none => match eff P o.dst op s.eval s.blk with
   | some E => K (knPut kn o.dst none) (effKeys o.dst op s.eval) (E.out.mem.map (·.1)) (s.out o.dst E.out)
   | none => match effP P cod o.dst op s.eval s.blk with
    | some T => T.bind fun E => K (knPut kn o.dst none) (effKeys o.dst op s.eval) (E.mem.map (·.1)) (s.out o.dst E)
    | none => .fail 3

def execOps (ops : Array Oper) : List Oper -> Kn -> Log -> St -> (Kn -> Log -> St -> Tr ρ) -> Tr ρ
 | [], kn, log, s, K => K kn log s
 | o :: rest, kn, log, s, K =>
  match dstOk s o.dst with
  | false => .fail 4
  | true => match o.guard with
   | none => execOp P cod own call o kn s fun kn' R W s' => execOps ops rest kn' (log ++ [(R, W)]) s' K
   | some (j, want) => match (ops[j]?).bind (·.dst) with
    | none => .fail 5
    | some t => match look t kn with
     | some b => match b == want with
      | true => execOp P cod own call o kn s fun kn' R W s' => execOps ops rest kn' (log ++ [(R, W)]) s' K
      | false => execOps ops rest (knPut kn o.dst none) (log ++ [([], [])]) (s.put o.dst (.one .un)) K
     | none => match s.get t with
      | .one .un => execOps ops rest (knPut kn o.dst none) (log ++ [([], [])]) (s.put o.dst (.one .un)) K
      | .one (.d (.b c)) => match want with
       | true => .ite c (execOp P cod own call o ((t, true) :: kn) s fun kn' R W s' => execOps ops rest kn' (log ++ [(R, W)]) s' K)
        (execOps ops rest (knPut ((t, false) :: kn) o.dst none) (log ++ [([], [])]) (s.put o.dst (.one .un)) K)
       | false => .ite c (execOps ops rest (knPut ((t, true) :: kn) o.dst none) (log ++ [([], [])]) (s.put o.dst (.one .un)) K)
        (execOp P cod own call o ((t, false) :: kn) s fun kn' R W s' => execOps ops rest kn' (log ++ [(R, W)]) s' K)
      | _ => .fail 6

def lid : Code -> Nat
 | .region id _ _ => id
 | .seq a _ => lid a
 | .block _ b => lid b
 | .loop b => lid b
 | .cond _ a _ => lid a
 | .scope b => lid b
 | _ => 0

def tidyP (mem : List (Nat × BP)) : List (Nat × Nat) -> St -> St
 | [], s => s
 | q :: r, s => match look q.2 mem with
  | some (.deep _ _ _) => tidyP mem r (s.upd (tidyL s q.1))
  | some (.jd _ _ _ _ _) => tidyP mem r (s.upd (tidyL s q.1))
  | _ => tidyP mem r s
def normGet (ks : List (Nat × Nat)) (sp : SP) (s : St) : Option (Ob × sp.T) :=
 match (tidyP sp.mem ks s).norm false (sp.env.map (·.1)) ks with
 | some s1 => sp.get s1
 | none => none
def ghostC (t : Nat) (e : TypeId) (c : Nat) (s : St) : St := match s.blk ((t - 1000000) / 64), s.blk (t - 40000), Nat.blt t 1040000 with
 | some (.cells cs), none, true => match cs[(t - 1000000) % 64]? with
  | some .nil => { n := s.n, env := s.env, mem := ((t - 1000000) / 64, .cells (cs.set ((t - 1000000) % 64) (.own (t - 40000) 0 0))) :: (t - 40000, .rowT 0 e c true true []) :: s.mem }
  | _ => s
 | _, _, _ => s
def ghostSt : List (Nat × TypeId × Nat) -> St -> St
 | [], s => s
 | (t, e, c) :: r, s => match Nat.blt t 1000000 with
  | true => match s.get t, s.blk t with
   | .one .nil, none => match look e dps, dOk c with
    | some ei, true => ghostSt r { n := s.n, env := (t, .one (.dp t 0 0 0)) :: s.env, mem := (t, .deep 0 e ei c none []) :: s.mem }
    | _, _ => ghostSt r { n := s.n, env := (t, .one (.own t 0 0)) :: s.env, mem := (t, .rowT 0 e c true true []) :: s.mem }
   | _, _ => ghostSt r s
  | false => ghostSt r (ghostC t e c s)
structure EX where
 e : Option Nat
 ks : List (Nat × Nat)
 sp : SP
def EX.exit (x : EX) : Exit := match x.e with | some id => .exit id | none => .ret
def EX.hits (x : EX) (e : Exit) : Bool :=
 match x.e with
 | some id => match e with | .exit id' => Nat.beq id id' | _ => false
 | none => match e with | .ret => true | _ => false
structure LS where
 id : Nat
 ks : List (Nat × Nat)
 sp : SP
 es : List EX
 gs : List (Nat × TypeId × Nat)
def ExT : List EX -> Type
 | [] => Empty
 | [x] => x.sp.T
 | x :: y :: r => x.sp.T ⊕ ExT (y :: r)
def exInj : (es : List EX) -> Exit -> St -> Option (Tr (ExT es))
 | [], _, _ => none
 | [x], e, s => match x.hits e with
  | true => match normGet x.ks x.sp s with
   | some (g, y) => some (grdOb (x.sp.len y) g (.ret y))
   | none => some (.stuck 997 s)
  | false => none
 | x :: y :: r, e, s => match x.hits e with
  | true => match normGet x.ks x.sp s with
   | some (g, y) => some (grdOb (x.sp.len y) g (.ret (.inl y)))
   | none => some (.stuck 997 s)
  | false => match exInj (y :: r) e s with
   | some T => some (T.map .inr)
   | none => none
def exOut : (es : List EX) -> ExT es -> Tr (Exit × St)
 | [], o => nomatch o
 | [x], o => .ret (x.exit, x.sp.put o)
 | x :: y :: r, o => .sum o (fun a => .ret (x.exit, x.sp.put a)) (fun b => exOut (y :: r) b)
def loopO {A B : Type} (tag : Nat) (f : A -> Option (A ⊕ B)) : Nat -> A -> Option B
 | 0, _ => none
 | n + 1, a => match f a with
  | none => none
  | some (.inl a') => loopO tag f n a'
  | some (.inr b) => some b
def loopK (L : LS) (e : Exit) (s : St) : Tr (L.sp.T ⊕ ExT L.es) :=
 match (match e with | .normal => true | _ => false) with
 | true => match normGet L.ks L.sp (ghostSt L.gs s) with
  | some (g, y) => grdOb (L.sp.len y) g (.ret (.inl y))
  | none => .stuck 996 s
 | false => match exInj L.es e s with
  | some T => T.map .inr
  | none => .stuck (match e with | .exit id => 2000 + id | .ret => 1999 | _ => 1998) s
def findL (id : Nat) : List LS -> Option LS
 | [] => none
 | L :: r => match Nat.beq L.id id with | true => some L | false => findL id r

def jid : Code -> Nat
 | .region id _ _ => id
 | .block id _ => 20000 + id
 | .cond _ a b => 40000 + (match lid a with | 0 => lid b | n + 1 => n + 1)
 | .seq a _ => 60000 + lid a
 | _ => 80000
def joinK (fi j : Nat) (L : LS) (e : Exit) (s : St) : Tr (ExT L.es) :=
 match (match e with | .normal => some (Exit.exit 9998) | .exit id => (match Nat.beq id 9998 with | true => none | false => some (.exit id)) | e => some e) with
 | none => .fail 15
 | some e' => match exInj L.es e' s with
  | some T => T
  | none => .stuck (1000000000 + (fi * 100000 + j) * 10000 + (match e' with | .exit id => id | _ => 9999)) s
def unJ : Exit -> Exit
 | .exit id => match Nat.beq id 9998 with | true => .normal | false => .exit id
 | e => e
def bDsts : Code -> List Nat
 | .region _ ops _ => ops.toList.filterMap fun o => o.dst
 | .seq a b => bDsts a ++ bDsts b
 | .cond _ a b => bDsts a ++ bDsts b
 | .block _ b => bDsts b
 | .loop b => bDsts b
 | _ => []
def dedup : List Nat -> List Nat -> List Nat
 | [], acc => acc.reverse
 | k :: r, acc => match acc.contains k with | true => dedup r acc | false => dedup r (k :: acc)
def trimR (body : Code) (s : St) : Option St := s.norm false (List.range s.n) (((dedup (s.mem.map (·.1)) []).filter fun k => !(bDsts body).contains k).map fun k => (k, k))
def iterT {ρ : Type} : Nat -> ((Kn -> St -> Tr ρ) -> Kn -> St -> Tr ρ) -> Kn -> St -> Tr ρ
 | 0, _, _, _ => .fail 14
 | n + 1, F, kn, s => F (iterT n F) kn s

variable (Λ : List LS) (fi : Nat)

def exec : Code -> (ρ : Type) -> Kn -> St -> (Exit -> Kn -> St -> Tr ρ) -> Tr ρ
 | .skip, _, kn, s, K => K .normal kn s
 | .region _ ops draw, _, kn, s, K => match draw with
  | false => execOps P cod own call ops ops.toList kn [] s fun kn' _ s' => K .normal kn' s'
  | true => match P.follows .mixedOrders with
   | true => execOps P cod own call ops ops.toList kn [] s fun kn' log s' => match okOrder ops log with
    | true => K .normal kn' s'
    | false => .fail 7
   | false => .fail 7
 | .seq a b, ρ, kn, s, K => match findL (100000 + jid a) Λ with
  | none => exec a ρ kn s fun e kn' s' => match e with
   | .normal => exec b ρ kn' s' K
   | e => K e kn' s'
  | some L => .opt (exec a (ExT L.es) kn s fun e _ s' => joinK fi (jid a) L e s').eval fun o =>
    (exOut L.es o).bind fun es => match unJ es.1 with
     | .normal => exec b ρ [] es.2 K
     | e => K e [] es.2
 | .cond c a b, ρ, kn, s, K => match known kn c with
  | some t => match t with
   | true => exec a ρ kn s K
   | false => exec b ρ kn s K
  | none => match s.eval c with
   | .one (.d (.b t)) => match c with
    | .tmp j => .ite t (exec a ρ ((j, true) :: kn) s K) (exec b ρ ((j, false) :: kn) s K)
    | _ => .ite t (exec a ρ kn s K) (exec b ρ kn s K)
   | _ => .fail 8
 | .block id body, ρ, kn, s, K => exec body ρ kn s fun e kn' s' => match e with
  | .exit id' => match Nat.beq id' id with
   | true => K .normal kn' s'
   | false => K (.exit id') kn' s'
  | e => K e kn' s'
 | .loop body, ρ, kn, s, K => match findL (lid body) Λ with
  | none => .stuck (10000 * (fi + 1) + lid body) s
  | some L => match L.sp.n with
   | 0 => iterT 70 (fun again kn s => exec body ρ kn s fun e kn' s' => match e with
    | .normal => (match trimR body s' with | some s2 => again [] s2 | none => .fail 16)
    | e => K e kn' s') kn s
   | _ + 1 => match normGet L.ks L.sp (ghostSt L.gs s) with
    | none => .stuck (10000 * (fi + 1) + 5000 + lid body) s
    | some (g, x) => grdOb (L.sp.len x) g (.opt (loopO (10000 * fi + L.id) (fun x => (exec body (L.sp.T ⊕ ExT L.es) [] (L.sp.put x) fun e _ s' => loopK L e s').eval) 18446744073709551616 x) fun o =>
      (exOut L.es o).bind fun es => K es.1 [] es.2)
 | .exit id, _, kn, s, K => K (.exit id) kn s
 | .ret, _, kn, s, K => K .ret kn s
 | _, _, _, _, _ => .fail 9

def V.ptr1 : V -> List Nat
 | .one (.ptr k _) => [k]
 | .agg cs => cs.flatMap fun c => match c with | .ptr k _ => [k] | _ => []
 | _ => []
def V.ptrs : V -> List Nat
 | .tup vs => vs.flatMap V.ptr1
 | v => v.ptr1
def inKs (mem : Mem) (k : Nat) : List Nat := match look k mem with
 | some (.cells cs) => cs.flatMap fun c => match c with | .own k _ _ => [k] | .ptr k _ => [k] | _ => []
 | some (.bx _ (some q)) => [q.1]
 | _ => []
def endKs (m mem : Mem) (v : V) : List (Nat × Nat) := m.map (fun p => (p.1, p.1)) ++ newNames (m.map (·.1)) 2000000 (v.owns ++ (v.ptrs ++ (v.ptrs ++ m.map (·.1)).flatMap (inKs mem)))

structure FS (P : Program) where
 f : FuncId
 ap : List VP1
 rp : SP
 fn : VPsT ap Unit -> Option rp.T
 ok : ∀ x r, fn x = some r -> ACall P f (putVs (fun _ => 0) ap x).1 [] fun r' m' => r' = (rp.put r).get 0 /\ m' = (rp.put r).mem
structure PF (P : Program) where
 f : FuncId
 own : List Nat
 tr : List V -> Mem -> Option (Tr (V × Mem))
 ok : ∀ ys m T r m', tr ys m = some T -> T.eval = some (r, m') -> ∃ ys' m2, WkVs ys ys' /\ WkM m m2 /\ ACall P f ys' m2 fun r' m'' => r' = r /\ m'' = m'
def findF {P : Program} (f : FuncId) (ys : List V) (m : Mem) : List (PF P) -> Option (Tr (V × Mem))
 | [] => none
 | F :: r => match Nat.beq F.f f with
  | true => match F.tr ys m with
   | some T => some T
   | none => findF f ys m r
  | false => findF f ys m r
def ownF {P : Program} : List (PF P) -> FuncId -> List Nat
 | [], _ => []
 | F :: r, f => match Nat.beq F.f f with
  | true => match F.own with
   | [] => ownF r f
   | m :: ms => m :: ms
  | false => ownF r f

variable (Γ : List (PF P)) (Λs : List (FuncId × LS))
def loopsOf (f : FuncId) : List (FuncId × LS) -> List LS
 | [] => []
 | (g, L) :: r => match Nat.beq g f with | true => L :: loopsOf f r | false => loopsOf f r

def tidyAll : List Nat -> St -> St
 | [], s => s
 | k :: r, s => match tidyL s k with
  | [] => tidyAll r s
  | p :: l => tidyAll r (s.upd (p :: l))
def tidyE (rs : List ResultVar) (m : Mem) (s : St) : St := match resA P rs s with
 | some v => tidyAll (m.map (·.1) ++ v.owns) s
 | none => s
def execEnd0 (rs : List ResultVar) (m : Mem) (e : Exit) (s : St) : Tr (V × Mem) :=
 match (match e with | .normal | .ret => true | _ => false) with
 | true => match resA P rs s with
  | some v => match St.norm true (trimSt { n := 1, env := [(0, v)], mem := s.mem }) [0] (endKs m s.mem ((trimSt { n := 1, env := [(0, v)], mem := s.mem }).get 0)) with
   | some s1 => match s1.env with
    | [(_, r)] => .ret (r, s1.mem)
    | _ => .fail 20
   | none => .fail 21
  | none => .fail 22
 | false => .fail 23
def execEnd (rs : List ResultVar) (m : Mem) (e : Exit) (s : St) : Tr (V × Mem) := execEnd0 P rs m e (tidyE P rs m s)

def execBody (fn : Func) (f : FuncId) (ys : List V) (m : Mem) : Tr (V × Mem) :=
 match fn.body with
 | some c => match decide (fn.ntmps <= 900) && decide (ys.length <= fn.ntmps) with
  | true => exec P cod own call (loopsOf f Λs) f c (V × Mem) [] ⟨fn.ntmps, argsEnv 0 ys, m⟩ fun e _ s => execEnd P fn.results.toList m e s
  | false => .fail 24
 | none => .fail 25

def execSpec (F : FS P) (ys : List V) (m : Mem) : Option (Tr (V × Mem)) :=
 match m with
 | [] => match getVs F.ap ys with
  | some ([], g) => some (.opt (F.fn (g Unit ())) fun r => .ret ((F.rp.put r).get 0, (F.rp.put r).mem))
  | _ => none
 | _ => none

def execFn : Nat -> FuncId -> List V -> Mem -> Tr (V × Mem)
 | 0, _, _, _ => .fail 26
 | n + 1, f, ys, m => match findF f ys m Γ with
  | some T => T
  | none => match P.funcs[f]? with
   | some fn => execBody P cod (ownF Γ) (execFn n) Λs fn f ys m
   | none => .fail 27

def frzC (m : Mem) : C -> C
 | .own k ver len => match look k m with
  | some (.rowT ver' _ c _ fr xs) => if ver = ver' then stC fr c xs else .bad
  | _ => .bad
 | .sub _ _ _ _ _ => .bad
 | .ptr _ _ => .bad
 | .pr _ _ _ _ _ => .bad
 | .asl _ _ _ => .bad
 | .clp _ _ => .bad
 | .mp _ => .bad
 | .pre _ _ _ _ => .bad
 | .dp k ver _ _ => match look k m with
  | some (.deep ver' _ _ c hole xs) => if ver = ver' then (match deepData (fun k => look k m) (fun _ => none) k c hole xs with | some ys => stC true c ys | none => .bad) else .bad
  | _ => .bad
 | .dsub _ _ _ _ _ => .bad
 | .dpr _ _ _ _ _ => .bad
 | c => c
def frzV1 (m : Mem) : V -> V
 | .one c => .one (frzC m c)
 | .agg cs => .agg (cs.map (frzC m))
 | .tup _ => .one .bad
def frzV (m : Mem) : V -> V
 | .tup vs => .tup (vs.map (frzV1 m))
 | v => frzV1 m v

def fnTr (n : Nat) (f : FuncId) (ap : List VP1) (rp : SP) (x : VPsT ap Unit) : Tr rp.T :=
 match P.funcs[f]? with
 | some fn => (execBody P cod (ownF Γ) (execFn P cod Γ Λs n) Λs fn f (putVs (fun _ => 0) ap x).1 []).bind fun rm => match rp.get ⟨1, [(0, frzV rm.2 rm.1)], []⟩ with
  | some (g, y) => grdOb (rp.len y) g (.ret y)
  | none => .stuck 994 ⟨1, [(0, frzV rm.2 rm.1)], rm.2⟩
 | none => .fail 28

def gsTr (n : Nat) (f : FuncId) (ap rp : SP) (x : ap.T) : Tr rp.T :=
 match P.funcs[f]? with
 | some fn => match fn.body with
  | some c => match Nat.beq fn.ntmps ap.n && decide (fn.ntmps <= 900) with
   | true => (exec P cod (ownF Γ) (execFn P cod Γ Λs n) (loopsOf f Λs) f c (V × Mem) [] (ap.put x) fun e _ s => execEnd P fn.results.toList (ap.put x).mem e s).bind fun rm =>
    match normGet (rm.2.map fun p => (p.1, p.1)) rp ⟨1, [(0, rm.1)], rm.2⟩ with
    | some (g, y) => grdOb (rp.len y) g (.ret y)
    | none => .stuck 993 ⟨1, [(0, rm.1)], rm.2⟩
   | false => .fail 24
  | none => .fail 25
 | none => .fail 28
def entryGet (ap : SP) (ys : List V) (m : Mem) : Option (Ob × ap.T) :=
 match decide (ys.length <= ap.n) with
 | true => normGet (m.map fun p => (p.1, p.1)) ap ⟨ap.n, argsEnv 0 ys, m⟩
 | false => none
def gsSpec (ap rp : SP) (fn : ap.T -> Option rp.T) (ys : List V) (m : Mem) : Option (Tr (V × Mem)) :=
 match entryGet ap ys m with
 | some (g, x) => some (grdOb (ap.len x) g (.opt (fn x) fun r => .ret ((rp.put r).get 0, (rp.put r).mem)))
 | none => none
end Go.Proofs.Ythnijeclidpooaa.Abs
namespace Go.Proofs.Ythnijeclidpooaa.Abs
open Go Go.RowKit
set_option linter.unusedVariables false
set_option linter.unusedSimpArgs false

variable {P : Program} {cod : TypeId -> Nat} {own : FuncId -> List Nat} {call : FuncId -> List V -> Mem -> Tr (V × Mem)} {ρ : Type}

theorem trimSt_n (s : St) : (trimSt s).n = s.n := by
 unfold trimSt
 split
 . split
   . split <;> rfl
   . rfl
 . rfl
def CallOk (P : Program) (call : FuncId -> List V -> Mem -> Tr (V × Mem)) : Prop :=
 ∀ f xs m r m', (call f xs m).eval = some (r, m') -> ∃ ys m2, WkVs xs ys /\ WkM m m2 /\ ACall P f ys m2 fun r' m'' => r' = r /\ m'' = m'

theorem look_unKn {d t : Nat} : ∀ {kn : Kn} {b : Bool}, look t (unKn d kn) = some b -> look t kn = some b /\ t ≠ d
 | [], b, h => by cases h
 | (j, c) :: r, b, h => by
  unfold unKn at h
  split at h
  . rename_i e
    have e : j = d := Nat.eq_of_beq_eq_true e
    obtain ⟨h1, h2⟩ := look_unKn h
    refine ⟨?_, h2⟩
    rw [look_cons, if_neg (by rw [e]; exact fun q => h2 q.symm)]; exact h1
  . rename_i e
    have e : j ≠ d := Nat.ne_of_beq_eq_false e
    rw [look_cons] at h ⊢
    split at h
    . rename_i q; rw [if_pos q]; exact ⟨h, by rw [<- q]; exact e⟩
    . rename_i q; rw [if_neg q]; exact look_unKn h

theorem KnOk.put {kn : Kn} {s s' : St} {dst : Option Nat} {v : V} {b : Option Bool} (h : KnOk kn s) (hs : ∀ t, s'.get t = (s.put dst v).get t) (hb : ∀ c, b = some c -> v = vb c) : KnOk (knPut kn dst b) s' := by
 intro t c ht
 rw [hs]
 cases dst with
 | none => exact h t c ht
 | some d =>
  rw [St.get_put]
  unfold knPut at ht
  cases b with
  | none =>
   simp only at ht
   obtain ⟨h1, h2⟩ := look_unKn ht
   rw [if_neg (fun e => h2 e.symm)]; exact h t c h1
  | some b =>
   simp only at ht
   rw [look_cons] at ht
   split at ht
   . rename_i e; rw [if_pos e]; cases ht; exact hb _ rfl
   . rename_i e
     obtain ⟨h1, h2⟩ := look_unKn ht
     rw [if_neg e]; exact h t c h1

theorem known_spec {kn : Kn} {s : St} (h : KnOk kn s) {x : Operand} {b : Bool} (hx : known kn x = some b) : s.eval x = vb b := by
 unfold known at hx
 split at hx
 . exact h _ _ hx
 . cases hx; rfl
 . cases hx

theorem KnOk.cons {kn : Kn} {s : St} (h : KnOk kn s) {t : Nat} {b : Bool} (ht : s.get t = vb b) : KnOk ((t, b) :: kn) s := by
 intro t' b' h'
 rw [look_cons] at h'
 split at h'
 . rename_i e; subst e; cases h'; exact ht
 . exact h t' b' h'
theorem KnOk.nil {s : St} : KnOk [] s := fun t b h => by cases h

theorem get_out (s : St) (dst : Option Nat) (E : Out) (t : Nat) : (s.out dst E).get t = (s.put dst E.val).get t := by
 cases dst <;> rfl

def OpOk (P : Program) (ops : Array Oper) (o : Oper) (s : St) (R W : List Nat) (s' : St) : Prop := ∃ E : Out, Loc P ops o s R E /\ W = E.mem.map (·.1) /\ s' = s.out o.dst E

theorem opOk_v {ops : Array Oper} {o : Oper} {s : St} {v : V} (hg : gcond ops s.get o = some true) (he : effQ P o.op s.eval = some v) {R : List Nat} (hR : effKeys o.dst o.op s.eval = R) : OpOk P ops o s R [] (s.put o.dst v) := by
 subst hR
 refine ⟨⟨v, []⟩, ?_, rfl, (put_out ..).symm⟩
 exact loc_ef (E := ⟨v, none⟩) hg (by unfold eff; rw [he])

theorem execCall0_spec (hcall : CallOk P call) {ops : Array Oper} {o : Oper} {kn : Kn} {s : St} {K : Kn -> List Nat -> List Nat -> St -> Tr ρ} {f : FuncId} {caps : List V} {args : List Operand} {r : ρ}
   (hi : callInfo o s = some (f, caps, args)) (hg : gcond ops s.get o = some true) (hkn : KnOk kn s)
   (h : (execCall0 P own call o kn s K f caps args).eval = some r) : ∃ kn' ks lock ys m2 r0 m0 E, KnOk kn' (s.out o.dst E) /\ (K kn' (callRK ks s.blk (args.map s.eval ++ caps)) (E.mem.map (·.1)) (s.out o.dst E)).eval = some r /\ CallTo P o s ks lock f caps args ys m2 r0 m0 E := by
 unfold execCall0 at h
 split at h
 . cases h
 rename_i m1 hm1
 split at h
 case h_2 => cases h
 rename_i hc
 simp only [Bool.and_eq_true, decide_eq_true_eq] at hc
 obtain ⟨⟨hen, hok⟩, hfew⟩ := hc
 rw [Tr.eval_bind] at h
 obtain ⟨⟨r0, m0⟩, h1, h2⟩ := Option.bind_eq_some_iff.1 h
 simp only at h2
 split at h2
 case h_2 => cases h2
 rename_i E hE
 obtain ⟨ys, m2, hw, hwm, hac⟩ := hcall _ _ _ _ _ h1
 have hlen : ys.length = args.length + caps.length := by
   have : ∀ (a b : List V), WkVs a b -> a.length = b.length := by
    intro a
    induction a with
    | nil => intro b hb; cases b; rfl; exact hb.elim
    | cons x a ih => intro b hb; cases b; exact hb.elim; simp [ih _ hb.2]
   rw [<- this _ _ hw]; simp
 have hc : CallTo P o s (ksFor (own f) s.blk (args.map s.eval ++ caps)) (lockOf (ksFor (own f) s.blk (args.map s.eval ++ caps)) s.blk (args.map s.eval ++ caps)) f caps args ys m2 r0 m0 E := ⟨callInfo_spec hi, hen, hok, hw, ⟨m1, hm1, hwm⟩, by omega, hac, hE⟩
 exact ⟨_, _, _, _, _, _, _, _, hkn.put (v := E.val) (fun t => get_out s o.dst E t) (fun c hc => by cases hc), h2, hc⟩
theorem tidyFst_spec {s : St} : ∀ {l : List Nat} {p : Nat × Blk} {r : List (Nat × Blk)}, tidyFst s l = p :: r -> ∃ k, tidyL s k = p :: r
 | [], _, _, h => by cases h
 | k :: l, p, r, h => by
  unfold tidyFst at h
  split at h
  . exact tidyFst_spec h
  . rename_i p' r' e; cases h; exact ⟨k, e⟩
theorem tidyL_congr {s s' : St} {k : Nat} {p : Nat × Blk} {r : List (Nat × Blk)} (h : tidyL s k = p :: r) (hb : ∀ q ∈ (p :: r).map (·.1), s'.blk q = s.blk q) : tidyL s' k = p :: r := by
 have h0 := h
 unfold tidyL at h
 split at h
 . rename_i ver e ei c i k' v' xs hk
   split at h
   case h_2 => cases h
   rename_i v'' e2 c2 ap fr ys hk'
   split at h
   case isFalse => cases h
   split at h
   case h_2 => cases h
   cases h
   have b1 := hb k (by simp)
   have b2 := hb k' (by simp)
   rw [<- h0]
   unfold tidyL
   rw [b1, hk]
   simp only [b2, hk']
 . rename_i ver e ei sz ic szi i k' v' ls hk
   split at h
   case h_2 => cases h
   rename_i v'' e2 s2 n N hk'
   split at h
   case h_2 => cases h
   cases h
   have b1 := hb k (by simp)
   have b2 := hb k' (by simp)
   rw [<- h0]
   unfold tidyL
   rw [b1, hk]
   simp only [b2, hk']
 . cases h
theorem agree_upd {ops : Array Oper} {o : Oper} {s s' : St} {R W : List Nat} {tm : List (Nat × Blk)} (hp : PlainO o) (h : Agree ops o s s' R (W ++ tm.map (·.1))) : Agree ops o (s.upd tm) (s'.upd tm) R W := by
 refine ⟨h.1, h.2.1, fun k hk => .inl ?_⟩
 show look k (tm ++ s'.mem) = look k (tm ++ s.mem)
 rw [look_append, look_append]
 cases look k tm with
 | some b => rfl
 | none =>
  refine h.blk hp ?_
  rcases hk with hk | hk | hk
  . exact .inl hk
  . exact .inr (.inl (List.mem_append_left _ hk))
  . exact .inr (.inr hk)
theorem execCall_sound (hcall : CallOk P call) {ops : Array Oper} {o : Oper} {kn : Kn} {s : St} {K : Kn -> List Nat -> List Nat -> St -> Tr ρ} {f : FuncId} {caps : List V} {args : List Operand} {r : ρ}
   (hi : callInfo o s = some (f, caps, args)) (hg : gcond ops s.get o = some true) (hkn : KnOk kn s)
   (h : (execCall P own call o kn s K f caps args).eval = some r) : ∃ kn' R W s', KnOk kn' s' /\ (K kn' R W s').eval = some r /\ OpOk P ops o s R W s' := by
 have plain : (execCall0 P own call o kn s K f caps args).eval = some r -> ∃ kn' R W s', KnOk kn' s' /\ (K kn' R W s').eval = some r /\ OpOk P ops o s R W s' := fun h => by
   obtain ⟨kn', ks, lock, ys, m2, r0, m0, E, h1, h2, hc⟩ := execCall0_spec hcall hi hg hkn h
   refine ⟨_, _, _, _, h1, h2, E, ?_, rfl, rfl⟩
   exact .plain (plain_callI hi) fun s' ha => .call _ _ _ f caps args ys m2 r0 m0 E (by rw [agree_gcond ha, hg]) (agree_callK ha hc)
 unfold execCall at h
 split at h
 . exact plain h
 . split at h
   . exact plain h
   . rename_i p l hl
     obtain ⟨k, hk⟩ := tidyFst_spec hl
     have hi2 : callInfo o (s.upd (p :: l)) = some (f, caps, args) := hi
     obtain ⟨kn', ks, lock, ys, m2, r0, m0, E, h1, h2, hc⟩ := execCall0_spec (s := s.upd (p :: l)) hcall hi2 hg hkn h
     refine ⟨_, _, _, _, h1, h2, ⟨E.val, E.mem ++ (p :: l)⟩, ?_, by rw [List.map_append], St.out_tm _ _ _ _⟩
     refine .plain (plain_callI hi) fun s' ha => .tcall _ (p :: l) _ _ f caps args ys m2 r0 m0 E (by rw [agree_gcond ha, hg]) (fun w0 U0 X β0 a w hs => ?_) (agree_callK (agree_upd (plain_callI hi) (by rw [List.map_append] at ha; exact ha)) hc)
     have hk' : tidyL s' k = p :: l := tidyL_congr hk fun q hq => ha.blk (plain_callI hi) (.inr (.inl (by rw [List.map_append]; exact List.mem_append_right _ hq)))
     obtain ⟨β, U, hb⟩ := hs
     have := hb.tidy k
     rw [hk'] at this
     exact this

theorem pick_eff {o : Oper} {s : St} {c a b : Operand} {t : Bool} (ho : o.op = .pick c a b) (hc : s.eval c = vb t) : effQ P o.op s.eval = some (s.eval (if t then a else b)) := by
 rw [ho]
 simp only [effQ, hc]
 cases t <;> rfl

theorem execOp_sound (hcall : CallOk P call) {ops : Array Oper} {o : Oper} {kn : Kn} {s : St} {K : Kn -> List Nat -> List Nat -> St -> Tr ρ} {r : ρ} (hg : gcond ops s.get o = some true) (hkn : KnOk kn s)
   (h : (execOp P cod own call o kn s K).eval = some r) : ∃ kn' R W s', KnOk kn' s' /\ (K kn' R W s').eval = some r /\ OpOk P ops o s R W s' := by
 have pk : ∀ {c a b : Operand} {t : Bool} {kn : Kn}, KnOk kn s -> o.op = .pick c a b -> s.eval c = vb t -> (K (knPut kn o.dst (known kn (if t then a else b))) [] [] (s.put o.dst (s.eval (if t then a else b)))).eval = some r ->
     ∃ kn' R W s', KnOk kn' s' /\ (K kn' R W s').eval = some r /\ OpOk P ops o s R W s' := fun hk ho hc h =>
   ⟨_, _, _, _, hk.put (fun _ => rfl) (fun c hc => known_spec hk hc), h, opOk_v hg (pick_eff ho hc) (by rw [ho]; rfl)⟩
 unfold execOp at h
 split at h
 . rename_i c a b ho
   split at h
   . rename_i t hk
     have hc := known_spec hkn hk
     split at h
     . exact pk hkn ho hc h
     . exact pk hkn ho hc h
   . split at h
     . rename_i t hc
       rcases Tr.eval_ite h with ⟨rfl, h⟩ | ⟨rfl, h⟩
       . exact pk hkn ho hc h
       . exact pk hkn ho hc h
     . cases h
 . rename_i x ho
   exact ⟨_, _, _, _, hkn.put (fun _ => rfl) (fun c hc => known_spec hkn hc), h, opOk_v hg (by rw [ho]; rfl) (by rw [ho]; rfl)⟩
 . rename_i x ho
   exact ⟨_, _, _, _, hkn.put (fun _ => rfl) (fun c hc => known_spec hkn hc), h, opOk_v hg (by rw [ho]; rfl) (by rw [ho]; rfl)⟩
 . rename_i fo args ats ho
   split at h
   . rename_i f caps hf
     refine execCall_sound hcall (f := f) (caps := caps) (args := args.toList) ?_ hg hkn h
     unfold callInfo
     rw [ho]; simp only [hf]
   . cases h
 . cases h
 . cases h
 . rename_i n1 n2 n3 n4 n5 n6
   have hp : PlainO o := plain_of (fun t x i e => n5 t x i false e) (fun t x i e => n6 t x i e)
   split at h
   . rename_i T hT
     rw [Tr.eval_bind] at h
     obtain ⟨E, h1, h2⟩ := Option.bind_eq_some_iff.1 h
     refine ⟨_, _, _, _, hkn.put (v := E.val) (fun t => get_out s o.dst E t) (fun c hc => by cases hc), h2, E, .plain hp fun s' ha => .sem _ E (by rw [agree_gcond ha, hg]) fun hd => ?_, rfl, rfl⟩
     exact effS_sem (ρ := s.eval) (m := s.blk) (fun x hx => (agree_eval ha x hx).symm) (fun k hk => ha.blk hp (.inl hk)) hT h1
   split at h
   . rename_i T hT
     rw [Tr.eval_bind] at h
     obtain ⟨E, h1, h2⟩ := Option.bind_eq_some_iff.1 h
     refine ⟨_, _, _, _, hkn.put (v := E.val) (fun t => get_out s o.dst E t) (fun c hc => by cases hc), h2, E, .plain hp fun s' ha => .sem _ E (by rw [agree_gcond ha, hg]) fun hd => ?_, rfl, rfl⟩
     exact effD_sem (ρ := s.eval) (m := s.blk) (fun x hx => (agree_eval ha x hx).symm) (fun k hk => ha.blk hp (.inl hk)) hd hT h1
   split at h
   . rename_i T hT
     rw [Tr.eval_bind] at h
     obtain ⟨E, h1, h2⟩ := Option.bind_eq_some_iff.1 h
     refine ⟨_, _, _, _, hkn.put (v := E.val) (fun t => get_out s o.dst E t) (fun c hc => by cases hc), h2, E, .plain hp fun s' ha => .sem _ E (by rw [agree_gcond ha, hg]) fun hd => ?_, rfl, rfl⟩
     exact effJ_sem (ρ := s.eval) (m := s.blk) (fun x hx => (agree_eval ha x hx).symm) (fun k hk => ha.blk hp (.inl hk)) hd hT h1
   . split at h
     . rename_i T hT
       rw [Tr.eval_bind] at h
       obtain ⟨E, h1, h2⟩ := Option.bind_eq_some_iff.1 h
       refine ⟨_, _, _, _, hkn.put (v := E.val) (fun t => get_out s o.dst E t) (fun c hc => by cases hc), h2, E, .plain hp fun s' ha => .sem _ E (by rw [agree_gcond ha, hg]) fun hd => ?_, rfl, rfl⟩
       exact effZ_sem (ρ := s.eval) (m := s.blk) (fun x hx => (agree_eval ha x hx).symm) (fun k hk => ha.blk hp (.inl hk)) hd hT h1
     . split at h
       . rename_i T hT
         rw [Tr.eval_bind] at h
         obtain ⟨E, h1, h2⟩ := Option.bind_eq_some_iff.1 h
         refine ⟨_, _, _, _, hkn.put (v := E.val) (fun t => get_out s o.dst E t) (fun c hc => by cases hc), h2, E, .plain hp fun s' ha => .sem _ E (by rw [agree_gcond ha, hg]) fun hd => ?_, rfl, rfl⟩
         obtain ⟨E0, he, hw⟩ := effX_out hT h1
         exact semOf hd (by rw [agree_eff hp ha rfl]; exact he) hw
       . split at h
         . rename_i T hT
           rw [Tr.eval_bind] at h
           obtain ⟨E, h1, h2⟩ := Option.bind_eq_some_iff.1 h
           refine ⟨_, _, _, _, hkn.put (v := E.val) (fun t => get_out s o.dst E t) (fun c hc => by cases hc), h2, E, .plain hp fun s' ha => .sem _ E (by rw [agree_gcond ha, hg]) fun hd => ?_, rfl, rfl⟩
           exact effP_sem (ρ := s.eval) (m := s.blk) (fun x hx => (agree_eval ha x hx).symm) (fun k hk => ha.blk hp (.inl hk)) hd (effPX_P hT) h1
         split at h
         . rename_i E he
           exact ⟨_, _, _, _, hkn.put (v := E.val) (fun t => get_out s o.dst E.out t) (fun c hc => by cases hc), h, E.out, loc_ef hg he, rfl, rfl⟩
         . split at h
           . rename_i T hT
             rw [Tr.eval_bind] at h
             obtain ⟨E, h1, h2⟩ := Option.bind_eq_some_iff.1 h
             refine ⟨_, _, _, _, hkn.put (v := E.val) (fun t => get_out s o.dst E t) (fun c hc => by cases hc), h2, E, .plain hp fun s' ha => .sem _ E (by rw [agree_gcond ha, hg]) fun hd => ?_, rfl, rfl⟩
             exact effP_sem (ρ := s.eval) (m := s.blk) (fun x hx => (agree_eval ha x hx).symm) (fun k hk => ha.blk hp (.inl hk)) hd hT h1
           . cases h

theorem execOps_sound (hcall : CallOk P call) {ops : Array Oper} : ∀ (rest : List Oper) {kn : Kn} {log : Log} {s : St} {K : Kn -> Log -> St -> Tr ρ} {r : ρ}, KnOk kn s -> (execOps P cod own call ops rest kn log s K).eval = some r ->
  ∃ kn' log' s', KnOk kn' s' /\ (K kn' log' s').eval = some r /\ ∀ (fin : Log -> Prop) (Kp : St -> Prop), fin log' -> Kp s' -> ARun P ops fin rest log s Kp
 | [], kn, log, s, K, r, hkn, h => ⟨kn, log, s, hkn, h, fun fin Kp h1 h2 => ⟨h1, h2⟩⟩
 | o :: rest, kn, log, s, K, r, hkn, h => by
  have run : ∀ {kn : Kn}, dstOk s o.dst = true -> KnOk kn s -> gcond ops s.get o = some true -> (execOp P cod own call o kn s fun kn' R W s' => execOps P cod own call ops rest kn' (log ++ [(R, W)]) s' K).eval = some r ->
      ∃ kn' log' s', KnOk kn' s' /\ (K kn' log' s').eval = some r /\ ∀ (fin : Log -> Prop) (Kp : St -> Prop), fin log' -> Kp s' -> ARun P ops fin (o :: rest) log s Kp := by
    intro kn hd hkn hg h
    obtain ⟨kn1, R, W, s1, hk1, h1, E, hl, hW, hs1⟩ := execOp_sound hcall hg hkn h
    obtain ⟨kn2, log2, s2, hk2, h2, hrun⟩ := execOps_sound hcall rest hk1 h1
    refine ⟨kn2, log2, s2, hk2, h2, fun fin Kp h3 h4 => ⟨dstOk_spec hd, R, E, hl, ?_⟩⟩
    rw [<- hs1, <- hW]
    exact hrun fin Kp h3 h4
  have skip : ∀ {kn : Kn}, dstOk s o.dst = true -> KnOk kn s -> gcond ops s.get o = some false -> (execOps P cod own call ops rest (knPut kn o.dst none) (log ++ [([], [])]) (s.put o.dst (.one .un)) K).eval = some r ->
      ∃ kn' log' s', KnOk kn' s' /\ (K kn' log' s').eval = some r /\ ∀ (fin : Log -> Prop) (Kp : St -> Prop), fin log' -> Kp s' -> ARun P ops fin (o :: rest) log s Kp := by
    intro kn hd hkn hg h
    obtain ⟨kn2, log2, s2, hk2, h2, hrun⟩ := execOps_sound hcall rest (hkn.put (fun _ => rfl) (fun c hc => by cases hc)) h
    refine ⟨kn2, log2, s2, hk2, h2, fun fin Kp h3 h4 => ⟨dstOk_spec hd, [], ⟨mkgd false (.one .un), []⟩, loc_no hg, ?_⟩⟩
    rw [put_out]
    exact hrun fin Kp h3 h4
  unfold execOps at h
  split at h
  . cases h
  rename_i hd
  split at h
  . rename_i hgd
    exact run hd hkn (by unfold gcond; rw [hgd]) h
  rename_i j want hgd
  split at h
  . cases h
  rename_i t ht
  have gc : ∀ (v : V) (b : Option Bool), s.get t = v -> yl v want = b -> gcond ops s.get o = b := by
    intro v b h1 h2
    unfold gcond
    rw [hgd]; simp only [ht, h1, h2]
  split at h
  . rename_i b hb
    have hv := hkn _ _ hb
    have hg := gc _ _ hv rfl
    rw [yl_b] at hg
    split at h
    . rename_i e; exact run hd hkn (by rw [hg, e]) h
    . rename_i e; exact skip hd hkn (by rw [hg, e]) h
  . split at h
    . rename_i hv
      exact skip hd hkn (gc _ _ hv rfl) h
    . rename_i c hv
      have hg := gc _ _ hv rfl
      rw [show yl (V.one (C.d (D.b c))) want = some (c == want) from rfl] at hg
      split at h
      . rcases Tr.eval_ite h with ⟨rfl, h⟩ | ⟨rfl, h⟩
        . exact run hd (hkn.cons hv) (by rw [hg]; rfl) h
        . exact skip hd (hkn.cons hv) (by rw [hg]; rfl) h
      . rcases Tr.eval_ite h with ⟨rfl, h⟩ | ⟨rfl, h⟩
        . exact skip hd (hkn.cons hv) (by rw [hg]; rfl) h
        . exact run hd (hkn.cons hv) (by rw [hg]; rfl) h
    . cases h

def Fwd (s s' : St) : Prop := ∀ (w0 : World) (U0 : Nat -> Prop) (X : Nat -> Nat -> Prop) (β0 : Nat -> Option Place) (a : Act) (w : World), Sim w0 U0 X β0 s a w -> Sim w0 U0 X β0 s' a w
theorem tidyP_fwd (mem : List (Nat × BP)) : ∀ (ks : List (Nat × Nat)) (s : St), Fwd s (tidyP mem ks s)
 | [], s => fun _ _ _ _ _ _ h => h
 | q :: r, s => by
  unfold tidyP
  split
  . intro w0 U0 X β0 a w hs
    obtain ⟨β, U, hb⟩ := hs
    exact tidyP_fwd mem r _ _ _ _ _ _ _ (hb.tidy q.1)
  . intro w0 U0 X β0 a w hs
    obtain ⟨β, U, hb⟩ := hs
    exact tidyP_fwd mem r _ _ _ _ _ _ _ (hb.tidy q.1)
  . exact tidyP_fwd mem r s
theorem tidyP_n (mem : List (Nat × BP)) : ∀ (ks : List (Nat × Nat)) (s : St), (tidyP mem ks s).n = s.n
 | [], s => rfl
 | q :: r, s => by
  unfold tidyP
  split
  . rw [tidyP_n mem r]; rfl
  . rw [tidyP_n mem r]; rfl
  . exact tidyP_n mem r s
theorem normGet_fwd {ks : List (Nat × Nat)} {sp : SP} {s : St} {l : Ob} {x : sp.T} (h : normGet ks sp s = some (l, x)) (ho : ObOk (sp.len x) l) : Fwd s (sp.put x) := by
 unfold normGet at h
 split at h
 . rename_i s1 hn
   intro w0 U0 X β0 a w hs
   exact ((tidyP_fwd sp.mem ks s _ _ _ _ _ _ hs).norm hn).stWk (SP.wk h ho)
 . cases h
theorem SimB.ghost {w0 : World} {U0 : Nat -> Prop} {X : Nat -> Nat -> Prop} {β0 β : Nat -> Option Place} {U : Nat -> Prop} {s : St} {a : Act} {w : World} (h : SimB w0 U0 X β0 β U s a w) {t : Nat} {e : TypeId} {c : Nat} (ht : s.get t = .one .nil) (hk : s.blk t = none) (hk0 : t < 1000000) :
   Sim w0 U0 X β0 { n := s.n, env := (t, .one (.own t 0 0)) :: s.env, mem := (t, .rowT 0 e c true true []) :: s.mem } a w := by
 have hv : a.tmps.getD t undef = .slice none 0 0 := by
   have := h.env t; rw [ht] at this; exact this.toC
 obtain ⟨h1, h2⟩ := h.newKey (w' := w) (p := .row (.slice none 0 0) 0) (blk := .rowT 0 e c true true []) hk0 hk rfl rfl rfl (Nat.le_refl _) (fun _ _ => rfl) (fun b hb => by simp [Place.has, Value.ownBlock] at hb) ⟨rfl, fun r hr => by simp at hr, .inl ⟨rfl, rfl⟩⟩
 refine ⟨_, _, { h1 with env := fun t' => ?_ }⟩
 show RepV w _ U w0.heap.size _ ((look t' ((t, V.one (.own t 0 0)) :: s.env)).getD (.one .bad))
 rw [look_cons]
 by_cases q : t = t'
 . subst q
   rw [if_pos rfl, hv]
   exact .one _ _ ⟨none, 0, .slice none 0 0, 0, rfl, Nat.le_refl _, fun _ => ⟨rfl, rfl⟩, fun x hx => by (cases hx), upd_self _ _ _, Nat.le_refl _, fun _ => rfl⟩
 . rw [if_neg q]; exact h1.env t'
theorem SimB.ghostD {w0 : World} {U0 : Nat -> Prop} {X : Nat -> Nat -> Prop} {β0 β : Nat -> Option Place} {U : Nat -> Prop} {s : St} {a : Act} {w : World} (h : SimB w0 U0 X β0 β U s a w) {t : Nat} {e ei : TypeId} {c : Nat} (ht : s.get t = .one .nil) (hk : s.blk t = none) (hk0 : t < 1000000) (hok : dOk c = true) :
   Sim w0 U0 X β0 { n := s.n, env := (t, .one (.dp t 0 0 0)) :: s.env, mem := (t, .deep 0 e ei c none []) :: s.mem } a w := by
 have hv : a.tmps.getD t undef = .slice none 0 0 := by
   have := h.env t; rw [ht] at this; exact this.toC
 obtain ⟨h1, h2⟩ := h.newKey (w' := w) (p := .deep (.slice none 0 0) 0 []) (blk := .deep 0 e ei c none []) hk0 hk rfl rfl rfl (Nat.le_refl _) (fun _ _ => rfl) (fun b hb => by
   rcases hb with hb | ⟨u, hu, _⟩
   . simp [Value.ownBlock] at hb
   . cases hu) ⟨rfl, hok, rfl, ⟨fun i j u u' b _ hi => (by simp at hi), fun i u b hi => (by simp at hi)⟩, fun i u x hi => (by simp at hi), fun i l hh => (by cases hh), .inl ⟨rfl, rfl⟩⟩
 refine ⟨_, _, { h1 with env := fun t' => ?_ }⟩
 show RepV w _ U w0.heap.size _ ((look t' ((t, V.one (.dp t 0 0 0)) :: s.env)).getD (.one .bad))
 rw [look_cons]
 by_cases q : t = t'
 . subst q
   rw [if_pos rfl, hv]
   exact repDp (us := []) (upd_self _ _ _) (Nat.le_refl _) (Nat.le_refl _) (fun _ => ⟨rfl, rfl⟩) (fun x hx => by cases hx)
 . rw [if_neg q]; exact h1.env t'
theorem SimB.ghostCell {w0 : World} {U0 : Nat -> Prop} {X : Nat -> Nat -> Prop} {β0 β : Nat -> Option Place} {U : Nat -> Prop} {s : St} {a : Act} {w : World} (h : SimB w0 U0 X β0 β U s a w) {k q i : Nat} {e : TypeId} {c : Nat} {cs : List C} (hk : s.blk k = some (.cells cs)) (hi : cs[i]? = some .nil) (hq : s.blk q = none) (hq0 : q < 1000000) :
  Sim w0 U0 X β0 { n := s.n, env := s.env, mem := (k, .cells (cs.set i (.own q 0 0))) :: (q, .rowT 0 e c true true []) :: s.mem } a w := by
 obtain ⟨h1, h2⟩ := h.newKey (w' := w) (p := .row (.slice none 0 0) 0) (blk := .rowT 0 e c true true []) hq0 hq rfl rfl rfl (Nat.le_refl _) (fun _ _ => rfl) (fun b hb => by simp [Place.has, Value.ownBlock] at hb) ⟨rfl, fun r hr => by simp at hr, .inl ⟨rfl, rfl⟩⟩
 have hkq : q ≠ k := fun e => by subst e; rw [hq] at hk; cases hk
 have hk1 : (s.set q (.rowT 0 e c true true [])).blk k = some (.cells cs) := by rw [St.blk_set, if_neg hkq]; exact hk
 obtain ⟨p, hp, hr⟩ := h1.mem k _ hk1
 cases p with
 | row => exact hr.elim
 | deep => exact hr.elim
 | cells b o =>
  have hnew : RepB w (upd (upd β q (.row (.slice none 0 0) 0)) k (.cells b o)) U w0.heap.size (.cells b o) (.cells (cs.set i (.own q 0 0))) := by
   refine ⟨by rw [List.length_set]; exact hr.1, fun j c' hj => ?_⟩
   have hupd : ∀ k' p', upd β q (.row (.slice none 0 0) 0) k' = some p' -> upd (upd β q (.row (.slice none 0 0) 0)) k (.cells b o) k' = some p' := by
     intro k' p' hk'
     by_cases e : k = k'
     . subst e; rw [upd_self]; rw [hp] at hk'; exact hk'
     . rw [upd_ne _ e]; exact hk'
   by_cases e : i = j
   . subst e
     obtain ⟨v, q1, q2, q3, q4⟩ := hr.2 i _ hi
     have hlt := (List.getElem?_eq_some_iff.1 hi).1
     rw [List.getElem?_set_self hlt] at hj
     cases hj
     refine ⟨v, q1, q2, q3, ?_⟩
     have hv : v = .slice none 0 0 := q4
     subst hv
     exact ⟨none, 0, .slice none 0 0, 0, rfl, Nat.le_refl _, fun _ => ⟨rfl, rfl⟩, fun x hx => by (cases hx), hupd _ _ (upd_self _ _ _), Nat.le_refl _, fun _ => rfl⟩
   . rw [List.getElem?_set_ne e] at hj
     obtain ⟨v, q1, q2, q3, q4⟩ := hr.2 j _ hj
     exact ⟨v, q1, q2, q3, q4.map (fun _ h => h) (fun _ _ => rfl) (Evo.sub hupd)⟩
  refine ⟨_, U, h1.repl (w' := w) (p' := .cells b o) (blk' := .cells (cs.set i (.own q 0 0))) hp hk1 rfl rfl rfl (Nat.le_refl _) (fun _ _ _ => rfl) (fun _ _ _ _ => ⟨rfl, rfl⟩) (fun _ _ _ => .inl rfl) (.inl rfl) (fun _ hb => .inl hb) (fun _ _ hc => .inl ?_) hnew⟩
  obtain ⟨q1, q2, q3⟩ := hc
  exact ⟨q1, q2, by rw [List.length_set] at q3; exact q3⟩
theorem ghost_fwd : ∀ (gs : List (Nat × TypeId × Nat)) (s : St), Fwd s (ghostSt gs s)
 | [], s => fun _ _ _ _ _ _ h => h
 | (t, e, c) :: r, s => by
  unfold ghostSt
  split
  . rename_i h3
    split
    . rename_i h1 h2
      intro w0 U0 X β0 a w hs
      obtain ⟨β, U, hb⟩ := hs
      have hk0 : t < 1000000 := by simpa using h3
      split
      . rename_i ei hei hok
        exact ghost_fwd r _ _ _ _ _ _ _ (hb.ghostD h1 h2 hk0 hok)
      . exact ghost_fwd r _ _ _ _ _ _ _ (hb.ghost h1 h2 hk0)
    . exact ghost_fwd r s
  . rename_i h3
    intro w0 U0 X β0 a w hs
    refine ghost_fwd r _ _ _ _ _ _ _ ?_
    obtain ⟨β, U, hb⟩ := hs
    have hge : 1000000 <= t := by
      rcases Nat.lt_or_ge t 1000000 with q | q
      . have q' : Nat.blt t 1000000 = true := by simpa using q
        rw [q'] at h3; cases h3
      . exact q
    unfold ghostC
    split
    . rename_i cs h1 h2 h4
      have hlt : t < 1040000 := by simpa using h4
      split
      . rename_i h5; exact hb.ghostCell h1 h5 h2 (by omega)
      . exact ⟨β, U, hb⟩
    . exact ⟨β, U, hb⟩
theorem Fwd.trans {s1 s2 s3 : St} (h : Fwd s1 s2) (k : Fwd s2 s3) : Fwd s1 s3 := fun w0 U0 X β0 a w hs => k _ _ _ _ _ _ (h _ _ _ _ _ _ hs)
theorem awp_loopF {ι : Type} (I : ι -> St) (p : ι -> Prop) (μ : ι -> Nat) {c : Code} {Q : Exit -> St -> Prop} {s : St} (h0 : ∃ x, p x /\ Fwd s (I x))
  (hround : ∀ x, p x -> AWp P c (thenA (fun s1 => ∃ x', p x' /\ μ x' < μ x /\ Fwd s1 (I x')) Q) (I x)) : AWp P (.loop c) Q s := by
 intro w0 U0 X β0 a w hs
 obtain ⟨x0, hp0, hx0⟩ := h0
 refine wp_loop_ix (fun x a' w' => p x /\ Sim w0 U0 X β0 (I x) a' w') μ (fun x a w hI => ?_) (x0 := x0) ⟨hp0, hx0 _ _ _ _ _ _ hs⟩
 refine wp_mono (hround x hI.1 w0 U0 X β0 a w hI.2) ?_
 rintro e a' w' ⟨s', h1, h2⟩
 cases e with
 | normal =>
  obtain ⟨x', q1, q2, q3⟩ := h1
  exact ⟨x', q2, q1, q3 _ _ _ _ _ _ h2⟩
 | _ => exact ⟨s', h1, h2⟩
theorem awp_fwd {c : Code} {s s1 s2 : St} {e : Exit} (h : AWp P c (fun e1 s' => e1 = e /\ s' = s1) s) (hf : Fwd s1 s2) : AWp P c (fun e1 s' => e1 = e /\ s' = s2) s := by
 intro w0 U0 X β0 a w hs
 refine wp_mono (h w0 U0 X β0 a w hs) ?_
 rintro e1 a' w' ⟨s', ⟨rfl, rfl⟩, h2⟩
 exact ⟨s2, ⟨rfl, rfl⟩, hf _ _ _ _ _ _ h2⟩

theorem hits_exit {x : EX} {e : Exit} (h : x.hits e = true) : x.exit = e := by
 obtain ⟨xe, ks, sp⟩ := x
 cases xe with
 | some id =>
  cases e with
  | exit id' =>
   have h' : Nat.beq id id' = true := h
   rw [Nat.eq_of_beq_eq_true h']; rfl
  | _ => cases h
 | none =>
  cases e with
  | ret => rfl
  | _ => cases h
theorem exInj_out : ∀ (es : List EX) {e : Exit} {s : St} {T : Tr (ExT es)} {o : ExT es}, exInj es e s = some T -> T.eval = some o -> ∃ s2, (exOut es o).eval = some (e, s2) /\ Fwd s s2
 | [], e, s, T, o, h, ht => by cases h
 | [x], e, s, T, o, h, ht => by
  unfold exInj at h
  split at h
  . rename_i hh
    split at h
    . rename_i g y hg
      cases h
      obtain ⟨h1, h2⟩ := eval_grdOb ht
      cases h2
      exact ⟨x.sp.put o, by unfold exOut; rw [hits_exit hh]; rfl, normGet_fwd hg h1⟩
    . cases h; cases ht
  . cases h
 | x :: y :: r, e, s, T, o, h, ht => by
  unfold exInj at h
  split at h
  . rename_i hh
    split at h
    . rename_i g z hg
      cases h
      obtain ⟨h1, h2⟩ := eval_grdOb ht
      cases h2
      exact ⟨x.sp.put z, by show (Tr.ret (x.exit, x.sp.put z)).eval = _; rw [hits_exit hh]; rfl, normGet_fwd hg h1⟩
    . cases h; cases ht
  . split at h
    . rename_i T' hT
      cases h
      have ht' : T'.eval.map Sum.inr = some o := (Tr.eval_map (Sum.inr : ExT (y :: r) -> x.sp.T ⊕ ExT (y :: r)) T').symm.trans ht
      obtain ⟨b, hb, rfl⟩ := Option.map_eq_some_iff.1 ht'
      obtain ⟨s2, h1, h2⟩ := exInj_out (y :: r) hT hb
      exact ⟨s2, h1, h2⟩
    . cases h

theorem loop_sound {L : LS} {body : Code} {F : L.sp.T -> Option (L.sp.T ⊕ ExT L.es)}
  (hbody : ∀ x r, F x = some r -> ∃ e s', (loopK L e s').eval = some r /\ AWp P body (fun e1 s1 => e1 = e /\ s1 = s') (L.sp.put x)) {n tag : Nat} {x : L.sp.T} {o : ExT L.es} (h : loopO tag F n x = some o) {e : Exit} {s2 : St} (ho : (exOut L.es o).eval = some (e, s2))
  {s : St} (hs : Fwd s (L.sp.put x)) : AWp P (.loop body) (fun e1 s1 => e1 = e /\ s1 = s2) s := by
 refine awp_loopF (ι := Nat × L.sp.T) (fun z => L.sp.put z.2) (fun z => loopO tag F z.1 z.2 = some o) (fun z => z.1) ⟨(n, x), h, hs⟩ ?_
 rintro ⟨m, y⟩ hp
 simp only at hp ⊢
 cases m with
 | zero => cases hp
 | succ m =>
  unfold loopO at hp
  split at hp
  . cases hp
  . rename_i y' hy
    obtain ⟨e1, s1, h1, h2⟩ := hbody y _ hy
    unfold loopK at h1
    split at h1
    . rename_i he
      split at h1
      . rename_i g z hg
        obtain ⟨q1, q2⟩ := eval_grdOb h1
        cases q2
        refine awp_mono h2 ?_
        rintro e3 s3 ⟨rfl, rfl⟩
        cases e3 with
        | normal => exact ⟨(m, y'), hp, Nat.lt_succ_self m, (ghost_fwd L.gs _).trans (normGet_fwd hg q1)⟩
        | _ => cases he
      . cases h1
    . split at h1
      . rename_i T hT
        rw [Tr.eval_map] at h1
        obtain ⟨b, hb, hb2⟩ := Option.map_eq_some_iff.1 h1
        cases hb2
      . cases h1
  . rename_i b hy
    cases hp
    obtain ⟨e1, s1, h1, h2⟩ := hbody y _ hy
    unfold loopK at h1
    split at h1
    . split at h1
      . rename_i g z hg
        obtain ⟨q1, q2⟩ := eval_grdOb h1
        cases q2
      . cases h1
    . rename_i he
      split at h1
      . rename_i T hT
        rw [Tr.eval_map] at h1
        obtain ⟨b', hb, hb2⟩ := Option.map_eq_some_iff.1 h1
        cases hb2
        obtain ⟨s3, q1, q2⟩ := exInj_out L.es hT hb
        rw [ho] at q1
        cases q1
        have h3 := awp_fwd h2 q2
        refine awp_mono h3 ?_
        rintro e4 s4 ⟨rfl, rfl⟩
        cases e4 with
        | normal => cases he
        | _ => exact ⟨rfl, rfl⟩
      . cases h1

theorem iter_sound {Λ : List LS} {fi : Nat} {body : Code} {ρ : Type} {K : Exit -> Kn -> St -> Tr ρ} {r : ρ}
  (hb : ∀ {kn : Kn} {s : St} {K : Exit -> Kn -> St -> Tr ρ} {r : ρ}, KnOk kn s -> (exec P cod own call Λ fi body ρ kn s K).eval = some r -> ∃ e kn' s', KnOk kn' s' /\ (K e kn' s').eval = some r /\ AWp P body (fun e1 s1 => e1 = e /\ s1 = s') s) :
  ∀ (n : Nat) {kn : Kn} {s : St}, KnOk kn s -> (iterT n (fun again kn s => exec P cod own call Λ fi body ρ kn s fun e kn' s' => match e with
    | .normal => (match trimR body s' with | some s2 => again [] s2 | none => .fail 16)
    | e => K e kn' s') kn s).eval = some r ->
   ∃ e kn' s', KnOk kn' s' /\ (K e kn' s').eval = some r /\ ∀ (w0 : World) (U0 : Nat -> Prop) (X : Nat -> Nat -> Prop) (β0 : Nat -> Option Place) (a : Act) (w : World), Sim w0 U0 X β0 s a w -> Code.rounds P body (fun e1 a' w' => ∃ s1, (e1 = e /\ s1 = s') /\ Sim w0 U0 X β0 s1 a' w') n a w
 | 0, kn, s, hkn, h => by cases h
 | n + 1, kn, s, hkn, h => by
  obtain ⟨e1, kn1, s1, h1, h2, h3⟩ := hb hkn h
  cases e1 with
  | normal =>
   simp only at h2
   split at h2
   case h_2 => cases h2
   rename_i s3 hs3
   obtain ⟨e, kn', s', q1, q2, q3⟩ := iter_sound hb n KnOk.nil h2
   refine ⟨e, kn', s', q1, q2, fun w0 U0 X β0 a w hs => ?_⟩
   refine wp_mono (h3 w0 U0 X β0 a w hs) ?_
   rintro e2 a2 w2 ⟨s2, ⟨rfl, rfl⟩, hs2⟩
   exact q3 w0 U0 X β0 a2 w2 (hs2.norm hs3)
  | _ =>
   refine ⟨_, kn1, s1, h1, h2, fun w0 U0 X β0 a w hs => ?_⟩
   refine wp_mono (h3 w0 U0 X β0 a w hs) ?_
   rintro e2 a2 w2 ⟨s2, ⟨rfl, rfl⟩, hs2⟩
   exact ⟨_, ⟨rfl, rfl⟩, hs2⟩

theorem joinK_out {fi j : Nat} {L : LS} {e : Exit} {s : St} {o : ExT L.es} (h : (joinK fi j L e s).eval = some o) : ∃ e' s2, (exOut L.es o).eval = some (e', s2) /\ unJ e' = e /\ Fwd s s2 := by
 unfold joinK at h
 split at h
 . cases h
 rename_i e' he
 split at h
 . rename_i T hT
   obtain ⟨s2, h1, h2⟩ := exInj_out L.es hT h
   refine ⟨e', s2, h1, ?_, h2⟩
   cases e with
   | normal => cases he; rfl
   | exit id =>
    simp only at he
    split at he
    . cases he
    . rename_i hb
      cases he
      show (match Nat.beq id 9998 with | true => Exit.normal | false => .exit id) = _
      rw [hb]
   | _ => cases he; rfl
 . cases h

theorem exec_sound (hcall : CallOk P call) {Λ : List LS} {fi : Nat} : ∀ (c : Code) {ρ : Type} {kn : Kn} {s : St} {K : Exit -> Kn -> St -> Tr ρ} {r : ρ}, KnOk kn s -> (exec P cod own call Λ fi c ρ kn s K).eval = some r ->
  ∃ e kn' s', KnOk kn' s' /\ (K e kn' s').eval = some r /\ AWp P c (fun e1 s1 => e1 = e /\ s1 = s') s
 | .skip, ρ, kn, s, K, r, hkn, h => ⟨.normal, kn, s, hkn, h, awp_skip ⟨rfl, rfl⟩⟩
 | .region id ops draw, ρ, kn, s, K, r, hkn, h => by
  unfold exec at h
  split at h
  . obtain ⟨kn', log', s', h1, h2, h3⟩ := execOps_sound hcall _ hkn h
    refine ⟨.normal, kn', s', h1, h2, ?_⟩
    have := awp_region (P := P) (id := id) (l := ops.toList) (Q := fun e1 s1 => e1 = Exit.normal /\ s1 = s') (s := s) (by
      rw [show ops.toList.toArray = ops by simp]
      exact h3 _ _ trivial ⟨rfl, rfl⟩)
    rwa [show ops.toList.toArray = ops by simp] at this
  . split at h
    . rename_i hf
      obtain ⟨kn', log', s', h1, h2, h3⟩ := execOps_sound hcall _ hkn h
      split at h2
      . rename_i ho
        refine ⟨.normal, kn', s', h1, h2, ?_⟩
        have := awp_region_any (P := P) (id := id) (l := ops.toList) (Q := fun e1 s1 => e1 = Exit.normal /\ s1 = s') (s := s) hf (by
          rw [show ops.toList.toArray = ops by simp]
          exact h3 _ _ ho ⟨rfl, rfl⟩)
        rwa [show ops.toList.toArray = ops by simp] at this
      . cases h2
    . cases h
 | .seq a b, ρ, kn, s, K, r, hkn, h => by
  unfold exec at h
  have fin : ∀ {e kn1 s1}, KnOk kn1 s1 -> (match e with | Exit.normal => exec P cod own call Λ fi b ρ kn1 s1 K | e => K e kn1 s1).eval = some r -> AWp P a (fun e1 s2 => e1 = e /\ s2 = s1) s ->
      ∃ e kn' s', KnOk kn' s' /\ (K e kn' s').eval = some r /\ AWp P (.seq a b) (fun e1 s1 => e1 = e /\ s1 = s') s := by
    intro e kn1 s1 h1 h2 h3
    cases e with
    | normal =>
      obtain ⟨e2, kn2, s2, q1, q2, q3⟩ := exec_sound hcall b h1 h2
      refine ⟨e2, kn2, s2, q1, q2, awp_seq (awp_mono h3 ?_)⟩
      rintro e s ⟨rfl, rfl⟩
      exact q3
    | _ =>
      refine ⟨_, kn1, s1, h1, h2, awp_seq (awp_mono h3 ?_)⟩
      rintro e s ⟨rfl, rfl⟩
      exact ⟨rfl, rfl⟩
  split at h
  . obtain ⟨e, kn1, s1, h1, h2, h3⟩ := exec_sound hcall a hkn h
    exact fin h1 h2 h3
  . rename_i L hL
    obtain ⟨o, h1, h2⟩ := Option.bind_eq_some_iff.1 h
    simp only at h2
    rw [Tr.eval_bind] at h2
    obtain ⟨⟨e, s2⟩, h3, h4⟩ := Option.bind_eq_some_iff.1 h2
    obtain ⟨e1, kn1, s1, q1, q2, q3⟩ := exec_sound hcall a hkn h1
    obtain ⟨e', s3, p1, p2, p3⟩ := joinK_out q2
    rw [h3] at p1
    cases p1
    exact fin (e := e1) KnOk.nil (by rw [<- p2]; exact h4) (awp_fwd q3 p3)
 | .cond c a b, ρ, kn, s, K, r, hkn, h => by
  unfold exec at h
  have ha : ∀ {kn : Kn}, KnOk kn s -> s.eval c = vb true -> (exec P cod own call Λ fi a ρ kn s K).eval = some r -> ∃ e kn' s', KnOk kn' s' /\ (K e kn' s').eval = some r /\ AWp P (.cond c a b) (fun e1 s1 => e1 = e /\ s1 = s') s := by
    intro kn hk hc h
    obtain ⟨e, kn1, s1, h1, h2, h3⟩ := exec_sound hcall a hk h
    exact ⟨e, kn1, s1, h1, h2, awp_cond hc (fun _ => h3) (fun e => by cases e)⟩
  have hb : ∀ {kn : Kn}, KnOk kn s -> s.eval c = vb false -> (exec P cod own call Λ fi b ρ kn s K).eval = some r -> ∃ e kn' s', KnOk kn' s' /\ (K e kn' s').eval = some r /\ AWp P (.cond c a b) (fun e1 s1 => e1 = e /\ s1 = s') s := by
    intro kn hk hc h
    obtain ⟨e, kn1, s1, h1, h2, h3⟩ := exec_sound hcall b hk h
    exact ⟨e, kn1, s1, h1, h2, awp_cond hc (fun e => by cases e) (fun _ => h3)⟩
  split at h
  . rename_i t hk
    have hc := known_spec hkn hk
    split at h
    . exact ha hkn hc h
    . exact hb hkn hc h
  . split at h
    . rename_i t hc
      split at h
      . rename_i j
        rcases Tr.eval_ite h with ⟨rfl, h⟩ | ⟨rfl, h⟩
        . exact ha (hkn.cons hc) hc h
        . exact hb (hkn.cons hc) hc h
      . rcases Tr.eval_ite h with ⟨rfl, h⟩ | ⟨rfl, h⟩
        . exact ha hkn hc h
        . exact hb hkn hc h
    . cases h
 | .block id body, ρ, kn, s, K, r, hkn, h => by
  unfold exec at h
  obtain ⟨e, kn1, s1, h1, h2, h3⟩ := exec_sound hcall body hkn h
  cases e with
  | exit id' =>
    simp only at h2
    split at h2
    . rename_i e
      obtain rfl : id' = id := Nat.eq_of_beq_eq_true e
      refine ⟨.normal, kn1, s1, h1, h2, awp_block (awp_mono h3 ?_)⟩
      rintro e s ⟨rfl, rfl⟩
      exact block_exit ⟨rfl, rfl⟩
    . rename_i e
      have e : id' ≠ id := Nat.ne_of_beq_eq_false e
      refine ⟨_, kn1, s1, h1, h2, awp_block (awp_mono h3 ?_)⟩
      rintro e s ⟨rfl, rfl⟩
      exact block_other (by simpa using e) ⟨rfl, rfl⟩
  | _ =>
    refine ⟨_, kn1, s1, h1, h2, awp_block (awp_mono h3 ?_)⟩
    rintro e s ⟨rfl, rfl⟩
    exact ⟨rfl, rfl⟩
 | .loop body, ρ, kn, s, K, r, hkn, h => by
  unfold exec at h
  split at h
  . cases h
  rename_i L hL
  split at h
  . obtain ⟨e, kn', s', h1, h2, h3⟩ := iter_sound (fun hk he => exec_sound hcall body hk he) 70 hkn h
    exact ⟨e, kn', s', h1, h2, fun w0 U0 X β0 a w hs => wp_loop_rounds 70 (h3 w0 U0 X β0 a w hs)⟩
  split at h
  . cases h
  rename_i g x hg
  obtain ⟨q1, h⟩ := eval_grdOb h
  obtain ⟨o, h1, h2⟩ := Option.bind_eq_some_iff.1 h
  simp only at h2
  rw [Tr.eval_bind] at h2
  obtain ⟨⟨e, s2⟩, h3, h4⟩ := Option.bind_eq_some_iff.1 h2
  refine ⟨e, [], s2, KnOk.nil, h4, loop_sound (L := L) (fun x r hr => ?_) h1 h3 ((ghost_fwd L.gs _).trans (normGet_fwd hg q1))⟩
  obtain ⟨e, kn', s', a1, a2, a3⟩ := exec_sound hcall body (KnOk.nil) hr
  exact ⟨e, s', a2, a3⟩
 | .exit id, ρ, kn, s, K, r, hkn, h => ⟨.exit id, kn, s, hkn, h, awp_exit ⟨rfl, rfl⟩⟩
 | .ret, ρ, kn, s, K, r, hkn, h => ⟨.ret, kn, s, hkn, h, awp_ret ⟨rfl, rfl⟩⟩
 | .rangeFunc .., ρ, kn, s, K, r, hkn, h => by cases h
 | .scope .., ρ, kn, s, K, r, hkn, h => by cases h
 | .label .., ρ, kn, s, K, r, hkn, h => by cases h
 | .goto .., ρ, kn, s, K, r, hkn, h => by cases h
 | .refuse .., ρ, kn, s, K, r, hkn, h => by cases h

theorem tidyAll_fwd : ∀ (l : List Nat) (s : St), Fwd s (tidyAll l s)
 | [], s => fun _ _ _ _ _ _ h => h
 | k :: r, s => by
  unfold tidyAll
  split
  . exact tidyAll_fwd r s
  . rename_i p l hl
    intro w0 U0 X β0 a w hs
    obtain ⟨β, U, hb⟩ := hs
    have := hb.tidy k
    rw [hl] at this
    exact tidyAll_fwd r _ _ _ _ _ _ _ this
theorem tidyE_fwd {rs : List ResultVar} {m : Mem} (s : St) : Fwd s (tidyE P rs m s) := by
 unfold tidyE
 split
 . exact tidyAll_fwd _ s
 . exact fun _ _ _ _ _ _ h => h
theorem awp_fwdT {c : Code} {e : Exit} {s s1 s2 : St} (hf : Fwd s1 s2) (h : AWp P c (fun e' s' => e' = e /\ s' = s1) s) : AWp P c (fun e' s' => e' = e /\ s' = s2) s :=
 fun w0 U0 X β0 a w hs => wp_mono (h w0 U0 X β0 a w hs) fun e' a' w' h1 => by
  obtain ⟨s', ⟨h1, h2⟩, h3⟩ := h1
  subst h2
  exact ⟨s2, ⟨h1, rfl⟩, hf _ _ _ _ _ _ h3⟩
theorem execBody_sound (hcall : CallOk P call) {Λs : List (FuncId × LS)} {f : FuncId} {fn : Func} (hf : P.funcs[f]? = some fn)
   {ys : List V} {m : Mem} {r : V} {m' : Mem} (h : (execBody P cod own call Λs fn f ys m).eval = some (r, m')) : ACall P f ys m fun r' m'' => r' = r /\ m'' = m' := by
 unfold execBody at h
 split at h
 case h_2 => cases h
 rename_i c hb
 split at h
 case h_2 => cases h
 rename_i hn
 simp only [Bool.and_eq_true, decide_eq_true_eq] at hn
 obtain ⟨e, kn', s0', h1, h2, h3⟩ := exec_sound hcall c KnOk.nil h
 unfold execEnd at h2
 have h3 := awp_fwdT (tidyE_fwd (P := P) (rs := fn.results.toList) (m := m) s0') h3
 generalize tidyE P fn.results.toList m s0' = s' at h2 h3
 unfold execEnd0 at h2
 split at h2
 case h_2 => cases h2
 rename_i he
 split at h2
 case h_2 => cases h2
 rename_i v hv
 split at h2
 case h_2 => cases h2
 rename_i s1 hs1
 split at h2
 case h_2 => cases h2
 rename_i q1 r1 hs2
 cases h2
 refine acall_enter (endKs m s'.mem ((trimSt { n := 1, env := [(0, v)], mem := s'.mem }).get 0)) hf hb rfl rfl hn.1 hn.2 (awp_mono h3 ?_)
 rintro e1 s2 ⟨rfl, rfl⟩
 refine ⟨?_, r, s1.mem, ?_, rfl, rfl⟩
 . cases e1 <;> first | exact .inl rfl | exact .inr rfl | cases he
 . simp only [hv]
   have hs3 := hs1
   unfold St.norm at hs3
   split at hs3
   . cases hs3
     simp only [List.map_cons, List.map_nil] at hs2 ⊢
     cases hs2
     rw [hs1, trimSt_n]; rfl
   . cases hs3

theorem WkVs_rfl : ∀ (l : List V), WkVs l l
 | [] => trivial
 | x :: r => ⟨by cases x; exact .inl rfl; exact WkCs_rfl _; exact rfl, WkVs_rfl r⟩

theorem findF_sound {f : FuncId} {ys : List V} {m : Mem} : ∀ {Γ : List (PF P)} {T : Tr (V × Mem)} {r : V} {m' : Mem}, findF f ys m Γ = some T -> T.eval = some (r, m') -> ∃ ys' m2, WkVs ys ys' /\ WkM m m2 /\ ACall P f ys' m2 fun r' m'' => r' = r /\ m'' = m'
 | [], T, r, m', h, hT => by cases h
 | F :: Γ, T, r, m', h, hT => by
  unfold findF at h
  split at h
  . rename_i e
    split at h
    . rename_i T' hF
      cases h
      have := F.ok ys m _ r m' hF hT
      rw [Nat.eq_of_beq_eq_true e] at this
      exact this
    . exact findF_sound h hT
  . exact findF_sound h hT
theorem execFn_sound {Γ : List (PF P)} {Λs : List (FuncId × LS)} : ∀ n, CallOk P (execFn P cod Γ Λs n)
 | 0 => fun f xs m r m' h => by cases h
 | n + 1 => fun f xs m r m' h => by
  unfold execFn at h
  split at h
  . rename_i T hT
    exact findF_sound hT h
  . split at h
    . rename_i fn hf
      exact ⟨xs, m, WkVs_rfl _, WkM_rfl _, execBody_sound (execFn_sound n) hf h⟩
    . cases h

theorem SimB.monoX {w0 : World} {U0 : Nat -> Prop} {X X' : Nat -> Nat -> Prop} {β0 β : Nat -> Option Place} {U : Nat -> Prop} {s : St} {a : Act} {w : World} (h : SimB w0 U0 X β0 β U s a w) (hX : ∀ b j, X b j -> X' b j) : SimB w0 U0 X' β0 β U s a w :=
 { h with
  chg := ⟨h.chg.os, h.chg.tape, h.chg.output, h.chg.size, fun b hb => by
   rcases h.chg.block b hb with e | ⟨c, c', e, f, e1, e2, e3, e4⟩ | e
   . exact .inl e
   . exact .inr (.inl ⟨c, c', e, f, e1, e2, e3, fun j hj => e4 j (fun q => hj (hX b j q))⟩)
   . exact .inr (.inr fun j => hX b j (e j))⟩
  may := fun k p blk b j h1 h2 h3 h4 => hX b j (h.may k p blk b j h1 h2 h3 h4) }

theorem SimB.freeze {w0 : World} {U0 : Nat -> Prop} {β0 β : Nat -> Option Place} {U : Nat -> Prop} {s : St} {a : Act} {w : World} (h : SimB w0 U0 (fun _ _ => False) β0 β U s a w) (hβ : ∀ k, β0 k = none) :
  Sim w0 U0 (fun _ _ => False) β0 ⟨s.n, s.env.map fun p => (p.1, frzV s.mem p.2), []⟩ a w := by
 let U' : Nat -> Prop := fun b => U b \/ ∃ k p, β k = some p /\ p.nocells = true /\ p.has b
 have hU : ∀ b, U b -> U' b := fun b hb => .inl hb
 have hnew : ∀ k p b, β k = some p -> p.nocells = true -> p.has b -> w0.heap.size <= b := by
  intro k p b hk hn hb
  obtain ⟨blk, hblk⟩ := Option.isSome_iff_exists.1 (h.dom k _ hk)
  rcases Nat.lt_or_ge b w0.heap.size with hlt | hge
  . refine (h.may k _ blk b 0 hk hblk ?_ hlt).elim
    cases p with
    | cells => cases hn
    | row => cases blk <;> exact hb
    | deep => cases blk <;> exact hb
  . exact hge
 have hC : ∀ (v : Value) (c : C), RepC w β U w0.heap.size v c -> RepC w (fun _ => none) U' w0.heap.size v (frzC s.mem c) := by
  intro v c hc
  cases c with
  | mp k => exact trivial
  | own k ver len =>
    simp only [frzC]
    split
    . rename_i ver' e c' ap fr xs hb
      split
      . rename_i hv
        subst hv
        obtain ⟨ao, cap, v0, ver0, rfl, hlc, hn0, hs0, hk, hv1, hv2⟩ := hc
        have hb' : (s.blk k).map Blk.std = some (.row ver e (esz c') ap fr (xs.map (enc c'))) := by
          show (look k s.mem).map Blk.std = _; rw [hb]; rfl
        obtain ⟨q1, q2, q3⟩ := h.placeStd hb' hk
        subst q1
        obtain rfl := hv2 rfl
        have main : ∀ UU : Nat -> Prop, (∀ g cap', (Value.slice ao len cap : Value) = .slice (some ⟨g, 0, none⟩) (xs.map (enc c')).length cap' -> UU g) -> (∀ b, (U b /\ (fr = true -> w0.heap.size <= b)) -> UU b) -> RepI w UU (.slice ao len cap) (.st c' xs) := by
          intro UU hg hsub
          refine RepI.toSt ?_
          rcases q3 with ⟨e1, e2⟩ | ⟨g, cap', cur, fz, e1, hgh, h3, h4, h5, h6, h7, h8⟩
          . cases e1; rw [e2]; exact .nil _ _ _ (fun _ => rfl)
          . have hgg := hg g cap' e1
            cases e1
            have := rows_view (w := w) (UU := UU) (g := g) (off := 0) (len := (xs.map (enc c')).length) (cap := cap) (sz := esz c') (rows := xs.map (enc c')) hgg q2 (by omega) (by omega) (fun i j r d hi hj => by
              obtain ⟨u, k1, k2, k3⟩ := h8 i j r d hi hj
              exact ⟨u, by simp only [World.cell?, hgh]; simpa using k1, k3.mono hsub (fun _ _ => rfl)⟩)
            rw [List.drop_zero, List.take_length, Nat.zero_mul] at this
            exact this
        have hown : ∀ g cap', (Value.slice ao len cap : Value) = .slice (some ⟨g, 0, none⟩) (xs.map (enc c')).length cap' -> (Value.slice ao len cap).ownBlock = some g := by
          intro g cap' e1; rw [e1]; rfl
        cases fr with
        | true => exact main (fun b => U' b /\ w0.heap.size <= b) (fun g cap' e1 => ⟨.inr ⟨k, _, hk, rfl, hown g cap' e1⟩, hnew k _ g hk rfl (hown g cap' e1)⟩) (fun b hb => ⟨.inl hb.1, hb.2 rfl⟩)
        | false => exact main U' (fun g cap' e1 => .inr ⟨k, _, hk, rfl, hown g cap' e1⟩) (fun b hb => .inl hb.1)
      . trivial
    . trivial
  | dsub => trivial
  | dpr => trivial
  | dp k ver len room =>
    simp only [frzC]
    split
    . rename_i ver' e ei c' hole xs hb
      split
      . rename_i hv
        subst hv
        split
        . rename_i ys hy
          obtain ⟨ao, cap, v0, ver0, us, rfl, hlr, hlc, hn0, _, hk, hv1, hv2⟩ := hc
          obtain ⟨p, hp, hr⟩ := h.mem k _ hb
          rw [hk] at hp; cases hp
          have h0 := hr.1
          subst h0
          rw [hv2 rfl]
          show RepI w (fun b => U' b /\ w0.heap.size <= b) v0 (.st c' ys)
          refine deep_view hr (UU := fun b => U' b /\ w0.heap.size <= b) (fun b hb' => ⟨.inr ⟨k, _, hk, rfl, hb'⟩, hnew k _ b hk rfl hb'⟩) ?_ ?_
          . unfold deepData at hy
            split at hy
            . cases hy; exact .inl ⟨rfl, rfl⟩
            . rename_i i k' v'
              split at hy
              . rename_i v'' e2 c2 ap fr zs hkk hs2 hb2
                obtain rfl := Nat.eq_of_beq_eq_true hkk
                split at hy
                . rename_i hc2
                  subst hc2
                  split at hy
                  . rename_i hvv
                    cases hy
                    obtain rfl := Nat.eq_of_beq_eq_true hvv
                    refine .inr ⟨i, hkey k, v', zs, rfl, rfl, fun v1 hk1 => ?_⟩
                    have hb' : (s.blk (hkey k)).map Blk.std = some (.row v' e2 (esz (dIn c')) ap fr (zs.map (enc (dIn c')))) := by
                      rw [show s.blk (hkey k) = _ from hb2]; rfl
                    obtain ⟨q1, q2, q3⟩ := h.placeStd hb' hk1
                    rcases q3 with ⟨rfl, e3⟩ | ⟨g, cap2, cur, fz, rfl, hg, z1, z2, z3, z4, z5, z6⟩
                    . have : zs = [] := by simpa using e3
                      subst this
                      exact RepI.toSt (.nil _ _ _ (fun _ => rfl))
                    . rw [List.length_map]
                      refine rowT_view ⟨.inr ⟨hkey k, _, hk1, rfl, rfl⟩, hnew _ _ g hk1 rfl rfl⟩ hg (by simpa using z1) fun i j y d hi hj => ?_
                      obtain ⟨u, w1, _, w3⟩ := z6 i j (enc _ y) d (by rw [List.getElem?_map, hi]; rfl) hj
                      refine ⟨u, w1, ?_⟩
                      have hfl : d.flat = true := List.all_eq_true.1 (flatT_all _ y (flat_dIn hr.2.1)) d (List.mem_of_getElem? hj)
                      exact flat_any w3 hfl
                  . cases hy
                . cases hy
              . cases hy
            . cases hy
          . intro i k' ver' hh v1 ver1 hk1
            subst hh
            unfold deepData at hy
            simp only at hy
            split at hy
            . rename_i v'' e2 c2 ap fr zs hkk hs2 hb2
              obtain rfl := Nat.eq_of_beq_eq_true hkk
              split at hy
              . split at hy
                . rename_i hvv
                  obtain rfl := Nat.eq_of_beq_eq_true hvv
                  obtain ⟨p, hp, hr2⟩ := h.mem (hkey k) _ hb2
                  rw [hk1] at hp; cases hp
                  exact hr2.1.symm
                . cases hy
              . cases hy
            . cases hy
        . trivial
      . trivial
    . trivial
  | sub => trivial
  | ptr => trivial
  | pr => trivial
  | asl => trivial
  | clp => trivial
  | pre => trivial
  | nn x => exact ⟨RepI.mono hc.1 hU (fun _ _ => rfl), hc.2⟩
  | d x => exact RepI.mono hc hU (fun _ _ => rfl)
  | f x => exact RepI.mono (U := fun b => U b /\ w0.heap.size <= b) hc (fun b hb => ⟨hU b hb.1, hb.2⟩) (fun _ _ => rfl)
  | nil => exact hc
  | pv cells =>
    obtain ⟨b, o, vals, h1, h2, h3⟩ := hc
    exact ⟨b, o, vals, h1, hU b h2, fun j d hj => ⟨(h3 j d hj).1, ((h3 j d hj).2).mono hU (fun _ _ => rfl)⟩⟩
  | clo f caps => obtain ⟨us, h1, h2, h3⟩ := hc; exact ⟨us, h1, h2, fun j u d hu hd => (h3 j u d hu hd).mono hU (fun _ _ => rfl)⟩
  | un => exact hc
  | ne => exact hc
  | bad => trivial
 have hV1 : ∀ (v : Value) (x : V), RepV w β U w0.heap.size v x -> RepV w (fun _ => none) U' w0.heap.size v (frzV1 s.mem x) := by
  intro v x hx
  cases hx with
  | one v c hc => exact .one _ _ (hC v c hc)
  | agg vs cs hl h1 hr =>
    refine .agg vs _ (by simpa using hl) h1 fun j u c hu hc => ?_
    rw [List.getElem?_map, Option.map_eq_some_iff] at hc
    obtain ⟨c0, hc0, rfl⟩ := hc
    exact hC _ _ (hr j u c0 hu hc0)
  | tup vs xs hl hr => exact .bad _
 have hV : ∀ (v : Value) (x : V), RepV w β U w0.heap.size v x -> RepV w (fun _ => none) U' w0.heap.size v (frzV s.mem x) := by
  intro v x hx
  cases hx with
  | one v c hc => exact hV1 v (.one c) (.one v c hc)
  | agg vs cs hl h1 hr => exact hV1 _ (.agg cs) (.agg vs cs hl h1 hr)
  | tup vs xs hl hr =>
    refine .tup vs _ (by simpa using hl) fun j u x hu hx => ?_
    rw [List.getElem?_map, Option.map_eq_some_iff] at hx
    obtain ⟨x0, hx0, rfl⟩ := hx
    exact hV1 _ _ (hr j u x0 hu hx0)
 refine ⟨fun _ => none, U', ?_⟩
 exact {
  n := h.n, small := h.small, args := h.args, ver0 := h.ver0, defers := h.defers, glob := h.glob.map hU (fun _ _ => rfl)
  hist := fun k p hp => by rw [hβ k] at hp; cases hp
  env := fun t => by
    have he := h.env t
    unfold St.get at he ⊢
    have : ∀ l : List (Nat × V), look t (l.map fun p => (p.1, frzV s.mem p.2)) = (look t l).map (frzV s.mem) := by
      intro l
      induction l with
      | nil => rfl
      | cons p l ih =>
        obtain ⟨j, v⟩ := p
        rw [List.map_cons, look_cons, look_cons]
        split
        . rfl
        . exact ih
    rw [this]
    cases hl : look t s.env with
    | none => exact .bad _
    | some x => rw [hl] at he; exact hV _ _ he
  mem := fun k blk hk => by cases hk
  dom := fun k p hp => by cases hp
  apart := fun k p b hp => by cases hp
  inj := fun k k' p p' b1 b2 b j hne hp => by cases hp
  stab := fun b hb => by
    rcases hb with hb | ⟨k, p, hk, hn, hv⟩
    . exact h.stab b hb
    . exact (h.apart k _ b hk hv).2
  old := fun b hb => .inl (h.old b hb)
  new := fun b hlt hb => by
    rcases hb with hb | ⟨k, p, hk, hn, hv⟩
    . exact h.new b hlt hb
    . have := hnew k p b hk hn hv; omega
  chg := h.chg
  may := fun k p blk b j hp => by cases hp }

theorem fnTr_sound {Γ : List (PF P)} {Λs : List (FuncId × LS)} {n : Nat} {f : FuncId} {ap : List VP1} {rp : SP} {x : VPsT ap Unit} {r : rp.T} (h : (fnTr P cod Γ Λs n f ap rp x).eval = some r) :
  ACall P f (putVs (fun _ => 0) ap x).1 [] fun r' m' => r' = (rp.put r).get 0 /\ m' = (rp.put r).mem := by
 unfold fnTr at h
 split at h
 case h_2 => cases h
 rename_i fn hf
 rw [Tr.eval_bind] at h
 obtain ⟨⟨r0, m0⟩, h1, h2⟩ := Option.bind_eq_some_iff.1 h
 simp only at h2
 split at h2
 case h_2 => cases h2
 rename_i g y hg
 obtain ⟨q1, q2⟩ := eval_grdOb h2
 cases q2
 have hc := execBody_sound (execFn_sound (cod := cod) (Γ := Γ) (Λs := Λs) n) hf h1
 have hw := SP.wk hg q1
 intro w U0 X β0 us hs
 have hβ : ∀ k, β0 k = none := by
  intro k
  cases hk : β0 k with
  | none => rfl
  | some p => have := hs.dom k p hk; cases this
 have hs0 : SimB w U0 (fun _ _ => False) β0 β0 U0 ⟨(putVs (fun _ => 0) ap x).1.length, argsEnv 0 (putVs (fun _ => 0) ap x).1, []⟩ ⟨us, []⟩ w :=
  { hs with chg := Chg.refl _ _ _, may := fun k p blk b j hp => by rw [hβ k] at hp; cases hp }
 refine (hc w U0 _ β0 us hs0).mono ?_
 rintro e w' ⟨v, r', m', rfl, ⟨rfl, rfl⟩, hsim⟩
 refine ⟨v, _, _, rfl, ⟨rfl, rfl⟩, ?_⟩
 obtain ⟨β1, U1, hb1⟩ := hsim
 have h3 := (hb1.freeze hβ).stWk hw
 obtain ⟨β, U, h4'⟩ := h3
 have h4 := h4'.monoX (X' := X) (fun _ _ e => e.elim)
 have hn : (rp.put r).n = 1 := hw.n.symm
 refine ⟨β, U, { h4 with n := by rw [h4.n, hn], small := by simp, env := fun t => ?_ }⟩
 have := h4.env t
 cases t with
 | zero => exact this
 | succ t =>
  have e : (#[v] : Array Value).getD (t + 1) undef = undef := by simp
  rw [e]
  show RepV _ _ _ _ undef ((look (t + 1) [(0, (rp.put r).get 0)]).getD (.one .bad))
  simp [look]
  exact .bad _

def FS.pf {P : Program} (F : FS P) : PF P := ⟨F.f, [], execSpec P F, fun ys m T r m' hT h => by
 unfold execSpec at hT
 split at hT
 . split at hT
   . rename_i g hg
     cases hT
     obtain ⟨y, h1, h2⟩ := Option.bind_eq_some_iff.1 h
     cases h2
     obtain ⟨_, hw⟩ := getVs_put (len := fun _ => 0) hg (fun q hq => by cases hq) Unit ()
     exact ⟨_, [], hw, trivial, F.ok _ _ h1⟩
   . cases hT
 . cases hT⟩

theorem acall_mono {P : Program} {f : FuncId} {args : List V} {m : List (Nat × Blk)} {K K' : V -> List (Nat × Blk) -> Prop} (h : ACall P f args m K)
  (hk : ∀ r m', K r m' -> ∃ r2 m2, K' r2 m2 /\ Fwd ⟨1, [(0, r)], m'⟩ ⟨1, [(0, r2)], m2⟩) : ACall P f args m K' := by
 intro w U0 X β0 us hs
 refine (h w U0 X β0 us hs).mono ?_
 rintro e w' ⟨v, r, m', rfl, hK, hsim⟩
 obtain ⟨r2, m2, h1, h2⟩ := hk r m' hK
 exact ⟨v, r2, m2, rfl, h1, h2 _ _ _ _ _ _ hsim⟩

theorem normGet_one {ks : List (Nat × Nat)} {sp : SP} {r : V} {m : Mem} {l : Ob} {y : sp.T} (h : normGet ks sp ⟨1, [(0, r)], m⟩ = some (l, y)) (ho : ObOk (sp.len y) l) : Fwd ⟨1, [(0, r)], m⟩ ⟨1, [(0, (sp.put y).get 0)], (sp.put y).mem⟩ := by
 have hf := normGet_fwd h ho
 have hn : (sp.put y).n = 1 := by
  unfold normGet at h
  split at h
  . rename_i s1 hs1
    have hw := SP.wk h ho
    rw [<- hw.n]
    unfold St.norm at hs1
    split at hs1
    . cases hs1; exact tidyP_n _ _ _
    . cases hs1
  . cases h
 intro w0 U0 X β0 a w hs
 have hs0 := hs
 obtain ⟨β1, U1, h1⟩ := hs0
 obtain ⟨β, U, h4⟩ := hf w0 U0 X β0 a w hs
 refine ⟨β, U, { h4 with n := by rw [h4.n, hn], small := by simp, env := fun t => ?_ }⟩
 have := h4.env t
 show RepV w β U w0.heap.size (a.tmps.getD t undef) ((look t [(0, (sp.put y).get 0)]).getD (.one .bad))
 cases t with
 | zero => exact this
 | succ t => simp [look]; exact .bad _

theorem gs_sound {Γ : List (PF P)} {Λs : List (FuncId × LS)} {n : Nat} {f : FuncId} {ap rp : SP} {x : ap.T} {r : rp.T} (h : (gsTr P cod Γ Λs n f ap rp x).eval = some r)
  {ys : List V} {m : Mem} {g : Ob} (he : entryGet ap ys m = some (g, x)) (hg : ObOk (ap.len x) g) : ACall P f ys m fun r' m' => r' = (rp.put r).get 0 /\ m' = (rp.put r).mem := by
 unfold entryGet at he
 split at he
 case h_2 => cases he
 rename_i hle
 simp only [decide_eq_true_eq] at hle
 unfold gsTr at h
 split at h
 case h_2 => cases h
 rename_i fn hf
 split at h
 case h_2 => cases h
 rename_i c hb
 split at h
 case h_2 => cases h
 rename_i hn
 simp only [Bool.and_eq_true, decide_eq_true_eq] at hn
 obtain ⟨hn1, hn2⟩ := hn
 have hn1 := Nat.eq_of_beq_eq_true hn1
 rw [Tr.eval_bind] at h
 obtain ⟨⟨r0, m0⟩, h1, h2⟩ := Option.bind_eq_some_iff.1 h
 simp only at h2
 split at h2
 case h_2 => cases h2
 rename_i g2 y hy
 obtain ⟨q1, q2⟩ := eval_grdOb h2
 cases q2
 obtain ⟨e, kn', s0', h3, h4, h5⟩ := exec_sound (execFn_sound (cod := cod) (Γ := Γ) (Λs := Λs) n) c KnOk.nil h1
 unfold execEnd at h4
 have h5 := awp_fwdT (tidyE_fwd (P := P) (rs := fn.results.toList) (m := (ap.put x).mem) s0') h5
 generalize tidyE P fn.results.toList (ap.put x).mem s0' = s' at h4 h5
 unfold execEnd0 at h4
 split at h4
 case h_2 => cases h4
 rename_i he'
 split at h4
 case h_2 => cases h4
 rename_i v hv
 split at h4
 case h_2 => cases h4
 rename_i s1 hs1
 split at h4
 case h_2 => cases h4
 rename_i z1 z2 hs2
 cases h4
 have hfw : Fwd ⟨ap.n, argsEnv 0 ys, m⟩ (ap.put x) := normGet_fwd he hg
 have hac : ACall P f ys m fun r' m'' => r' = r0 /\ m'' = s1.mem := by
  refine acall_enter (endKs (ap.put x).mem s'.mem ((trimSt { n := 1, env := [(0, v)], mem := s'.mem }).get 0)) hf hb hn1 rfl (by omega) hle ?_
  have hA : AWp P c (fun e1 s1 => e1 = e /\ s1 = s') ⟨ap.n, argsEnv 0 ys, m⟩ := fun w0 U0 X β0 a w hs => h5 w0 U0 X β0 a w (hfw _ _ _ _ _ _ hs)
  refine awp_mono hA ?_
  rintro e1 s2 ⟨rfl, rfl⟩
  refine ⟨?_, r0, s1.mem, ?_, rfl, rfl⟩
  . cases e1 <;> first | exact .inl rfl | exact .inr rfl | cases he'
  . simp only [hv]
    have hs3 := hs1
    unfold St.norm at hs3
    split at hs3
    . cases hs3
      simp only [List.map_cons, List.map_nil] at hs2 ⊢
      cases hs2
      rw [hs1, trimSt_n]; rfl
    . cases hs3
 refine acall_mono hac ?_
 rintro r' m' ⟨rfl, rfl⟩
 exact ⟨_, _, ⟨rfl, rfl⟩, normGet_one hy q1⟩

structure GS (P : Program) where
 f : FuncId
 ms : List Nat
 ap : SP
 rp : SP
 fn : ap.T -> Option rp.T
 ok : ∀ x r, fn x = some r -> ∀ ys m g, entryGet ap ys m = some (g, x) -> ObOk (ap.len x) g -> ACall P f ys m fun r' m' => r' = (rp.put r).get 0 /\ m' = (rp.put r).mem
def GS.pf {P : Program} (G : GS P) : PF P := ⟨G.f, G.ms, gsSpec G.ap G.rp G.fn, fun ys m T r m' hT h => by
 unfold gsSpec at hT
 split at hT
 . rename_i g x hg
   cases hT
   obtain ⟨h1, h2⟩ := eval_grdOb h
   obtain ⟨y, h3, h4⟩ := Option.bind_eq_some_iff.1 h2
   cases h4
   exact ⟨ys, m, WkVs_rfl _, WkM_rfl _, G.ok x y h3 ys m g hg h1⟩
 . cases hT⟩

theorem SimB.ghostEnd {w0 : World} {U0 : Nat -> Prop} {X : Nat -> Nat -> Prop} {β0 β : Nat -> Option Place} {U : Nat -> Prop} {a : Act} {w : World} (h : SimB w0 U0 X β0 β U ⟨1, [(0, .one .nil)], []⟩ a w) (e : TypeId) (c : Nat) (fr : Bool) :
  Sim w0 U0 X β0 ⟨1, [(0, .one (.own 2000000 0 0))], [(2000000, .rowT 0 e c (noSp e) fr [])]⟩ a w := by
 have hv : a.tmps.getD 0 undef = .slice none 0 0 := (h.env 0).toC
 have hno : ∀ k, β k = none := fun k => by
  cases hb : β k with
  | none => rfl
  | some p => have := h.dom k p hb; cases this
 refine ⟨upd β 2000000 (.row (.slice none 0 0) 0), U, ?_⟩
 have hget : ∀ k p, upd β 2000000 (.row (.slice none 0 0) 0) k = some p -> k = 2000000 /\ p = .row (.slice none 0 0) 0 := by
  intro k p hp
  by_cases e : 2000000 = k
  . subst e; rw [upd_self] at hp; exact ⟨rfl, by simpa using hp.symm⟩
  . rw [upd_ne β e, hno] at hp; cases hp
 have hblk : ∀ k b, look k [(2000000, Blk.rowT 0 e c (noSp e) fr [])] = some b -> k = 2000000 /\ b = .rowT 0 e c (noSp e) fr [] := by
  intro k b hb
  rw [look_cons] at hb
  split at hb
  . rename_i q; exact ⟨q.symm, by simpa using hb.symm⟩
  . cases hb
 exact {
  n := h.n, small := h.small, args := h.args, ver0 := h.ver0, defers := h.defers, glob := h.glob
  hist := fun k p hp hb => by
    obtain ⟨b, hb⟩ := Option.isSome_iff_exists.1 hb
    obtain ⟨rfl, _⟩ := hblk k b hb
    rw [h.args 2000000 (by omega)] at hp; cases hp
  env := fun t => by
    show RepV w _ U w0.heap.size (a.tmps.getD t undef) ((look t [(0, V.one (.own 2000000 0 0))]).getD (.one .bad))
    cases t with
    | zero =>
     rw [hv]
     exact .one _ _ ⟨none, 0, .slice none 0 0, 0, rfl, Nat.le_refl _, fun _ => ⟨rfl, rfl⟩, fun x hx => by (cases hx), upd_self _ _ _, Nat.le_refl _, fun _ => rfl⟩
    | succ t => simp [look]; exact .bad _
  mem := fun k b hb => by
    obtain ⟨rfl, rfl⟩ := hblk k b hb
    exact ⟨_, upd_self _ _ _, rfl, fun r hr => by simp at hr, .inl ⟨rfl, rfl⟩⟩
  dom := fun k p hp => by
    obtain ⟨rfl, _⟩ := hget k p hp
    rfl
  apart := fun k p b hp hb => by
    obtain ⟨rfl, rfl⟩ := hget k p hp
    simp [Place.has, Value.ownBlock] at hb
  inj := fun k1 k2 p1 p2 b1 b2 b j hne hp1 hp2 => by
    obtain ⟨rfl, _⟩ := hget k1 p1 hp1
    obtain ⟨rfl, _⟩ := hget k2 p2 hp2
    exact absurd rfl hne
  stab := h.stab, old := h.old, new := h.new, chg := h.chg
  may := fun k p blk b j hp hb hc => by
    obtain ⟨rfl, rfl⟩ := hget k p hp
    have := covers_block hc
    simp [Place.has, Value.ownBlock] at this }

def cloneRes (e c b : Nat) (xs : List (τ c)) : Tr (V × Mem) :=
 .grd (decide ((0 + xs.length) * b <= 140737488355328 /\ 0 + xs.length <= maxLen)) (.ret (.one (.own 2000000 0 xs.length), [(2000000, .rowT 0 e c (noSp e) (flatT c) xs)]))
def cloneTr (e c b : Nat) (ys : List V) (m : Mem) : Option (Tr (V × Mem)) :=
 match ys, m with
 | [.one (.d (.st k xs))], [] => match castSt c k xs with
  | some xs => some (cloneRes e c b xs)
  | none => none
 | [.one .nil], [] => some (.ret (.one (.own 2000000 0 0), [(2000000, .rowT 0 e c (noSp e) (flatT c) [])]))
 | _, _ => none
def bodyTr (P : Program) (cod : TypeId -> Nat) (f : FuncId) (ys : List V) : Tr (V × Mem) :=
 match P.funcs[f]? with
 | some fn => execBody P cod (fun _ => []) (fun _ _ _ => .fail 0) [] fn f ys []
 | none => .fail 0
theorem bodyTr_sound {P : Program} {cod : TypeId -> Nat} {f : FuncId} {ys : List V} {r : V} {m : Mem} (h : (bodyTr P cod f ys).eval = some (r, m)) : ACall P f ys [] fun r' m' => r' = r /\ m' = m := by
 unfold bodyTr at h
 split at h
 . rename_i fn hf
   exact execBody_sound (fun f xs m r m' h => by cases h) hf h
 . cases h

theorem cloneTr_cases {e c b : Nat} {ys : List V} {m : Mem} {T : Tr (V × Mem)} (h : cloneTr e c b ys m = some T) :
   (∃ xs : List (τ c), ys = [.one (.d (.st c xs))] /\ m = [] /\ T = cloneRes e c b xs) \/ (ys = [.one .nil] /\ m = [] /\ T = .ret (.one (.own 2000000 0 0), [(2000000, .rowT 0 e c (noSp e) (flatT c) [])])) := by
 unfold cloneTr at h
 split at h
 . rename_i k xs
   split at h
   . rename_i xs' hc
     cases h
     refine .inl ⟨xs', ?_, rfl, rfl⟩
     rw [castSt_eq hc]
   . cases h
 . cases h; exact .inr ⟨rfl, rfl, rfl⟩
 . cases h

def clonePF (P : Program) (cod : TypeId -> Nat) (f e c b : Nat) (h1 : ∀ xs : List (τ c), (bodyTr P cod f [.one (.nn (.st c xs))]).eval = (cloneRes e c b xs).eval) (h2 : (bodyTr P cod f [.one .nil]).eval = some (.one .nil, [])) : PF P := ⟨f, [], cloneTr e c b, fun ys m T r m' hT h => by
 have hnil : ACall P f [.one .nil] [] fun r' m'' => r' = .one (.own 2000000 0 0) /\ m'' = [(2000000, .rowT 0 e c (noSp e) (flatT c) [])] := by
   refine acall_mono (bodyTr_sound (cod := cod) (r := .one .nil) (m := []) h2) ?_
   rintro r' m' ⟨rfl, rfl⟩
   refine ⟨_, _, ⟨rfl, rfl⟩, ?_⟩
   rintro w0 U0 X β0 a w ⟨β, U, hs⟩
   exact hs.ghostEnd e c (flatT c)
 have hnn : ∀ (xs : List (τ c)) (r : V) (m' : Mem), (cloneRes e c b xs).eval = some (r, m') -> ACall P f [.one (.nn (.st c xs))] [] fun r' m'' => r' = r /\ m'' = m' := fun xs r m' h =>
   bodyTr_sound (cod := cod) (by rw [h1]; exact h)
 rcases cloneTr_cases hT with ⟨xs, rfl, rfl, rfl⟩ | ⟨rfl, rfl, rfl⟩
 . refine ⟨[.one (.d (.st c xs))], [], WkVs_rfl _, trivial, ?_⟩
   intro w U0 X β0 us hs
   have hv := (hs.env 0).toC
   have hst : RepI w U0 (us.getD 0 undef) (.st c xs) := hv
   have hun := RepI.unst hst
   -- what a value says is enough
   have up : ∀ {c' : C}, RepC w β0 U0 w.heap.size (us.getD 0 undef) c' -> SimB w U0 X β0 β0 U0 ⟨1, argsEnv 0 [.one c'], []⟩ ⟨us, []⟩ w := fun {c'} hc' => { hs with
    env := fun t => by
     show RepV w β0 U0 w.heap.size (us.getD t undef) ((look t [(0, V.one c')]).getD (.one .bad))
     cases t with
     | zero => exact .one _ _ hc'
     | succ t => simp [look]; exact .bad _ }
   have hsome : ∀ ad l cc, us.getD 0 undef = .slice (some ad) l cc -> Calls P f us w fun e' w' => ∃ v r' m'', e' = .returned v /\ (r' = r /\ m'' = m') /\ Sim w U0 X β0 ⟨1, [(0, r')], m''⟩ ⟨#[v], []⟩ w' :=
    fun ad l cc he => hnn xs r m' h w U0 X β0 us (up (c' := .nn (.st c xs)) ⟨hst, ad, l, cc, he⟩)
   generalize hu : us.getD 0 undef = u at hun hsome up
   have hlen : xs.length = (xs.map (enc c)).length := by simp
   generalize xs.map (enc c) = rows at hun hlen
   cases hun with
   | nil ao cap _ hn =>
    have hx0 : xs = [] := List.eq_nil_of_length_eq_zero (by simpa using hlen)
    subst hx0
    cases ao with
    | some ad => exact hsome ad 0 cap rfl
    | none =>
     have hc0 := hn rfl
     subst hc0
     obtain ⟨_, h3⟩ := Tr.eval_grd h
     cases h3
     exact hnil w U0 X β0 us (up (c' := .nil) rfl)
   | sl b' o cap _ _ vals => exact hsome _ _ _ rfl
 . cases h
   exact ⟨[.one .nil], [], WkVs_rfl _, trivial, hnil⟩⟩

end Go.Proofs.Ythnijeclidpooaa.Abs
namespace Go.Proofs.Ythnijeclidpooaa.X
def cod : Go.TypeId -> Nat
 | 22 => 12
 | 23 => 12
 | 27 => 22
 | 28 => 13
 | 33 => 0
 | 44 => 9
 | 48 => 21
 | 72 => 20
 | 75 => 6
 | 81 => 5
 | 137 => 2
 | _ => 99
end Go.Proofs.Ythnijeclidpooaa.X
namespace Go.Proofs.Ythnijeclidpooaa.X
open Go Go.RowKit Go.Proofs.Ythnijeclidpooaa.Abs
open Go.IntKind renaming wrap -> wW
set_option maxRecDepth 100000
set_option linter.unusedVariables false
def sumFold_L90_1 : LS := ⟨1, [], ⟨12, [(0, .v (.one (.i .u64)))], []⟩, [⟨some 0, [], ⟨12, [(0, .v (.one (.i .u64)))], []⟩⟩], []⟩
def sumFold_step90_1 : (Int × Unit) -> Tr ((Int × Unit) ⊕ (Int × Unit)) :=
 fun (a0, _) =>
 .ite (decide (65535 < a0)) (
 .grd (true) (
 .ret (Sum.inl (wW .u64 (Int.fdiv a0 ((2 : Int) ^ (16 : Nat)) + bits .and .u64 a0 65535), ())))) (
 .ret (Sum.inr (a0, ())))
def sumFold_loop90_1 (x : (Int × Unit)) : Option (Int × Unit) := loopO 900001 (fun x => (sumFold_step90_1 x).eval) 18446744073709551616 x
def sumFold_ap : List VP1 := [.one (.i .u64)]
def sumFold_rp : SP := ⟨1, [(0, .v (.one (.i .u16)))], []⟩
def sumFold_tree : (Int × Unit) -> Tr (Int × Unit) :=
 fun (a0, _) =>
 .opt ((sumFold_loop90_1 (a0, ()))) (fun r0 =>
 .ret (wW .u16 r0.1, ()))
theorem sumFold_eq (x : (Int × Unit)) : fnTr Try.prog cod [] [(90, sumFold_L90_1)] 30 90 sumFold_ap sumFold_rp x = sumFold_tree x := by kernel_rfl
def sumFold_fn (x : (Int × Unit)) : Option (Int × Unit) := (sumFold_tree x).eval
def sumFold : FS Try.prog := ⟨90, sumFold_ap, sumFold_rp, sumFold_fn, fun x r h => fnTr_sound (cod := cod) (Γ := []) (Λs := [(90, sumFold_L90_1)]) (n := 30) ((congrArg Tr.eval (sumFold_eq x)).trans h)⟩
def sumAdd_L86_2 : LS := ⟨2, [], ⟨33, [(1, .v (.one (.s))), (5, .v (.one (.i .u64)))], []⟩, [⟨some 0, [], ⟨33, [(1, .v (.one (.s))), (5, .v (.one (.i .u64)))], []⟩⟩], []⟩
def sumAdd_step86_2 : ((List UInt8) × (Int × Unit)) -> Tr (((List UInt8) × (Int × Unit)) ⊕ ((List UInt8) × (Int × Unit))) :=
 fun (a0, a1, _) =>
 .ite (decide (1 < (↑(a0.length) : Int))) (
 .grd (decide ((0 : Int) <= (0 : Int) /\ 0 < (↑(a0.length) : Int))) (
 .grd (true) (
 .grd (decide ((0 : Int) <= (1 : Int) /\ 1 < (↑(a0.length) : Int))) (
 .grd (decide ((0 : Int) <= (2 : Int) /\ 2 <= (↑(a0.length) : Int) /\ (↑(a0.length) : Int) <= (↑(a0.length) : Int))) (
 .ret (Sum.inl (List.drop (2 : Nat) (List.take (Int.toNat (↑(a0.length) : Int)) a0), (wW .u64 (a1 + bits .or .u64 (wW .u64 (wW .u64 (↑(UInt8.toNat (List.getD a0 (0 : Nat) (0 : UInt8))) : Int) * (2 : Int) ^ (8 : Nat))) (wW .u64 (↑(UInt8.toNat (List.getD a0 (1 : Nat) (0 : UInt8))) : Int))), ())))))))) (
 .ret (Sum.inr (a0, (a1, ()))))
def sumAdd_loop86_2 (x : ((List UInt8) × (Int × Unit))) : Option ((List UInt8) × (Int × Unit)) := loopO 860002 (fun x => (sumAdd_step86_2 x).eval) 18446744073709551616 x
def sumAdd_ap : List VP1 := [.one (.i .u16), .one (.s)]
def sumAdd_rp : SP := ⟨1, [(0, .v (.one (.i .u16)))], []⟩
def sumAdd_tree : (Int × ((List UInt8) × Unit)) -> Tr (Int × Unit) :=
 fun (a0, a1, _) =>
 .opt ((sumAdd_loop86_2 (a1, (wW .u64 a0, ())))) (fun r0 =>
 .ite (!decide (r0.1 = [])) (
 .grd (decide ((0 : Int) <= (0 : Int) /\ 0 < (↑(List.length r0.1) : Int))) (
 .grd (true) (
 .opt ((sumFold_fn (wW .u64 (r0.2.1 + wW .u64 (wW .u64 (↑(UInt8.toNat (List.getD r0.1 (0 : Nat) (0 : UInt8))) : Int) * (2 : Int) ^ (8 : Nat))), ()))) (fun r1 =>
 .ret (r1.1, ()))))) (
 .opt ((sumFold_fn (r0.2.1, ()))) (fun r1 =>
 .ret (r1.1, ()))))
theorem sumAdd_eq (x : (Int × ((List UInt8) × Unit))) : fnTr Try.prog cod [FS.pf sumFold] [(86, sumAdd_L86_2)] 30 86 sumAdd_ap sumAdd_rp x = sumAdd_tree x := by kernel_rfl
def sumAdd_fn (x : (Int × ((List UInt8) × Unit))) : Option (Int × Unit) := (sumAdd_tree x).eval
def sumAdd : FS Try.prog := ⟨86, sumAdd_ap, sumAdd_rp, sumAdd_fn, fun x r h => fnTr_sound (cod := cod) (Γ := [FS.pf sumFold]) (Λs := [(86, sumAdd_L86_2)]) (n := 30) ((congrArg Tr.eval (sumAdd_eq x)).trans h)⟩
def sumOf_ap : List VP1 := [.one (.s)]
def sumOf_rp : SP := ⟨1, [(0, .v (.one (.i .u16)))], []⟩
def sumOf_tree : ((List UInt8) × Unit) -> Tr (Int × Unit) :=
 fun (a0, _) =>
 .opt ((sumAdd_fn (0, (a0, ())))) (fun r0 =>
 .ret (bits BinOp.xor IntKind.u16 (if IntKind.signed IntKind.u16 = true then (-1 : Int) else IntKind.max IntKind.u16) r0.1, ()))
theorem sumOf_eq (x : ((List UInt8) × Unit)) : fnTr Try.prog cod [FS.pf sumFold, FS.pf sumAdd] [] 30 78 sumOf_ap sumOf_rp x = sumOf_tree x := by kernel_rfl
def sumOf_fn (x : ((List UInt8) × Unit)) : Option (Int × Unit) := (sumOf_tree x).eval
def sumOf : FS Try.prog := ⟨78, sumOf_ap, sumOf_rp, sumOf_fn, fun x r h => fnTr_sound (cod := cod) (Γ := [FS.pf sumFold, FS.pf sumAdd]) (Λs := []) (n := 30) ((congrArg Tr.eval (sumOf_eq x)).trans h)⟩
def ipByt_ap : List VP1 := [.one (.i .i64)]
def ipByt_rp : SP := ⟨1, [(0, .v (.one (.b)))], []⟩
def ipByt_tree : (Int × Unit) -> Tr (Bool × Unit) :=
 fun (a0, _) =>
 .ite (decide (0 <= a0)) (
 .ret (decide (a0 <= 255), ())) (
 .ret (false, ()))
theorem ipByt_eq (x : (Int × Unit)) : fnTr Try.prog cod [FS.pf sumFold, FS.pf sumAdd, FS.pf sumOf] [] 30 85 ipByt_ap ipByt_rp x = ipByt_tree x := by kernel_rfl
def ipByt_fn (x : (Int × Unit)) : Option (Bool × Unit) := (ipByt_tree x).eval
def ipByt : FS Try.prog := ⟨85, ipByt_ap, ipByt_rp, ipByt_fn, fun x r h => fnTr_sound (cod := cod) (Γ := [FS.pf sumFold, FS.pf sumAdd, FS.pf sumOf]) (Λs := []) (n := 30) ((congrArg Tr.eval (ipByt_eq x)).trans h)⟩
def ipRefused_ap : List VP1 := [.agg [.i .i64, .i .i64, .b, .b, .i .i64, .i .i64, .i .i64, .i .u32, .i .u32, .s, .s]]
def ipRefused_rp : SP := ⟨1, [(0, .v (.one (.i .i64)))], []⟩
abbrev ty0_ : Type := (Int × (Int × (Bool × (Bool × (Int × (Int × (Int × (Int × (Int × ((List UInt8) × ((List UInt8) × Unit)))))))))))
def ipRefused_tree : ty0_ -> Tr (Int × Unit) :=
 fun (a0, a1, a2, a3, a4, a5, a6, a7, a8, a9, a10, _) =>
 .opt ((ipByt_fn (a0, ()))) (fun r0 =>
 .ite (!r0.1) (
 .ret (1, ())) (
 .opt ((ipByt_fn (a5, ()))) (fun r1 =>
 .ite (!r1.1) (
 .ret (1, ())) (
 .opt ((ipByt_fn (a6, ()))) (fun r2 =>
 .ite (!r2.1) (
 .ret (1, ())) (
 .ite (decide (a1 < 0)) (
 .ret (1, ())) (
 .ite (decide (65535 < a1)) (
 .ret (1, ())) (
 .ite (decide (a4 < 0)) (
 .ret (1, ())) (
 .ite (decide (8191 < a4)) (
 .ret (1, ())) (
 .ite (decide (40 < (↑(a9.length) : Int))) (
 .ret (1, ())) (
 .grd (true) (
 .ite (!decide (Int.tmod (↑(a9.length) : Int) (4 : Int) = (0 : Int))) (
 .ret (1, ())) (
 .ite (a2) (
 .ite (a3) (
 .ret (4, ())) (
 .ite (!decide (a4 = 0)) (
 .ret (4, ())) (
 .ite (decide (wW .i64 ((65515 : Int) - (↑(a9.length) : Int)) < (↑(a10.length) : Int))) (
 .ret (2, ())) (
 .ret (0, ()))))) (
 .ite (decide (wW .i64 ((65515 : Int) - (↑(a9.length) : Int)) < (↑(a10.length) : Int))) (
 .ret (2, ())) (
 .ret (0, ()))))))))))))))))
theorem ipRefused_eq (x : ty0_) : fnTr Try.prog cod [FS.pf sumFold, FS.pf sumAdd, FS.pf sumOf, FS.pf ipByt] [] 30 75 ipRefused_ap ipRefused_rp x = ipRefused_tree x := by kernel_rfl
def ipRefused_fn (x : ty0_) : Option (Int × Unit) := (ipRefused_tree x).eval
def ipRefused : FS Try.prog := ⟨75, ipRefused_ap, ipRefused_rp, ipRefused_fn, fun x r h => fnTr_sound (cod := cod) (Γ := [FS.pf sumFold, FS.pf sumAdd, FS.pf sumOf, FS.pf ipByt]) (Λs := []) (n := 30) ((congrArg Tr.eval (ipRefused_eq x)).trans h)⟩
def ipWord_ap : List VP1 := [.one (.i .i64)]
def ipWord_rp : SP := ⟨1, [(0, .v (.one (.s)))], []⟩
def ipWord_tree : (Int × Unit) -> Tr ((List UInt8) × Unit) :=
 fun (a0, _) =>
 .grd (true) (
 .grd (decide (0 <= wW .u8 (Int.fdiv a0 ((2 : Int) ^ (8 : Nat))) /\ wW .u8 (Int.fdiv a0 ((2 : Int) ^ (8 : Nat))) < 256)) (
 .grd (decide (0 <= wW .u8 a0 /\ wW .u8 a0 < 256)) (
 .ret ([UInt8.ofNat (Int.toNat (wW .u8 (Int.fdiv a0 ((2 : Int) ^ (8 : Nat))))), UInt8.ofNat (Int.toNat (wW .u8 a0))], ()))))
noncomputable def gm0 : List (PF Go.Proofs.Try.prog) := [FS.pf sumFold, FS.pf sumAdd, FS.pf sumOf, FS.pf ipByt, FS.pf ipRefused]
theorem ipWord_eq (x : (Int × Unit)) : fnTr Try.prog cod gm0 [] 30 76 ipWord_ap ipWord_rp x = ipWord_tree x := by kernel_rfl
def ipWord_fn (x : (Int × Unit)) : Option ((List UInt8) × Unit) := (ipWord_tree x).eval
def ipWord : FS Try.prog := ⟨76, ipWord_ap, ipWord_rp, ipWord_fn, fun x r h => fnTr_sound (cod := cod) (Γ := gm0) (Λs := []) (n := 30) ((congrArg Tr.eval (ipWord_eq x)).trans h)⟩
def ipLong_ap : List VP1 := [.one (.i .u32)]
def ipLong_rp : SP := ⟨1, [(0, .v (.one (.s)))], []⟩
def ipLong_tree : (Int × Unit) -> Tr ((List UInt8) × Unit) :=
 fun (a0, _) =>
 .grd (true) (
 .grd (true) (
 .grd (true) (
 .grd (decide (0 <= wW .u8 (Int.fdiv a0 ((2 : Int) ^ (24 : Nat))) /\ wW .u8 (Int.fdiv a0 ((2 : Int) ^ (24 : Nat))) < 256)) (
 .grd (decide (0 <= wW .u8 (Int.fdiv a0 ((2 : Int) ^ (16 : Nat))) /\ wW .u8 (Int.fdiv a0 ((2 : Int) ^ (16 : Nat))) < 256)) (
 .grd (decide (0 <= wW .u8 (Int.fdiv a0 ((2 : Int) ^ (8 : Nat))) /\ wW .u8 (Int.fdiv a0 ((2 : Int) ^ (8 : Nat))) < 256)) (
 .grd (decide (0 <= wW .u8 a0 /\ wW .u8 a0 < 256)) (
 .ret ([UInt8.ofNat (Int.toNat (wW .u8 (Int.fdiv a0 ((2 : Int) ^ (24 : Nat))))), UInt8.ofNat (Int.toNat (wW .u8 (Int.fdiv a0 ((2 : Int) ^ (16 : Nat))))), UInt8.ofNat (Int.toNat (wW .u8 (Int.fdiv a0 ((2 : Int) ^ (8 : Nat))))), UInt8.ofNat (Int.toNat (wW .u8 a0))], ()))))))))
noncomputable def gm1 : List (PF Go.Proofs.Try.prog) := gm0 ++ [FS.pf ipWord]
theorem ipLong_eq (x : (Int × Unit)) : fnTr Try.prog cod gm1 [] 30 77 ipLong_ap ipLong_rp x = ipLong_tree x := by kernel_rfl
def ipLong_fn (x : (Int × Unit)) : Option ((List UInt8) × Unit) := (ipLong_tree x).eval
def ipLong : FS Try.prog := ⟨77, ipLong_ap, ipLong_rp, ipLong_fn, fun x r h => fnTr_sound (cod := cod) (Γ := gm1) (Λs := []) (n := 30) ((congrArg Tr.eval (ipLong_eq x)).trans h)⟩
def ipWrite_ap : List VP1 := [.agg [.i .i64, .i .i64, .b, .b, .i .i64, .i .i64, .i .i64, .i .u32, .i .u32, .s, .s]]
def ipWrite_rp : SP := ⟨1, [(0, .tup [.one (.s), .one (.i .i64)])], []⟩
def ipWrite_tree : ty0_ -> Tr ((List UInt8) × (Int × Unit)) :=
 fun (a0, a1, a2, a3, a4, a5, a6, a7, a8, a9, a10, _) =>
 .opt ((ipRefused_fn (a0, (a1, (a2, (a3, (a4, (a5, (a6, (a7, (a8, (a9, (a10, ()))))))))))))) (fun r0 =>
 .ite (!decide (r0.1 = 0)) (
 .ret ([], (r0.1, ()))) (
 .ite (a2) (
 .ite (a3) (
 .grd (true) (
 .grd (decide (0 <= wW .u8 (bits .or .i64 (64 : Int) (wW .i64 (Int.tdiv (wW .i64 ((20 : Int) + (↑(a9.length) : Int))) (4 : Int)))) /\ wW .u8 (bits .or .i64 (64 : Int) (wW .i64 (Int.tdiv (wW .i64 ((20 : Int) + (↑(a9.length) : Int))) (4 : Int)))) < 256)) (
 .grd (decide (0 <= wW .u8 a0 /\ wW .u8 a0 < 256)) (
 .opt ((ipWord_fn (wW .i64 (wW .i64 ((20 : Int) + (↑(a9.length) : Int)) + (↑(a10.length) : Int)), ()))) (fun r1 =>
 .grd (decide (List.length [UInt8.ofNat (Int.toNat (wW .u8 (bits .or .i64 (64 : Int) (wW .i64 (Int.tdiv (wW .i64 ((20 : Int) + (↑(a9.length) : Int))) (4 : Int)))))), UInt8.ofNat (Int.toNat (wW .u8 a0))] + List.length r1.1 <= (9223372036854775807 : Nat))) (
 .opt ((ipWord_fn (a1, ()))) (fun r2 =>
 .grd (decide (List.length ([UInt8.ofNat (Int.toNat (wW .u8 (bits .or .i64 (64 : Int) (wW .i64 (Int.tdiv (wW .i64 ((20 : Int) + (↑(a9.length) : Int))) (4 : Int)))))), UInt8.ofNat (Int.toNat (wW .u8 a0))] ++ r1.1) + List.length r2.1 <= (9223372036854775807 : Nat))) (
 .opt ((ipWord_fn (bits .or .i64 (bits .or .i64 a4 16384) 8192, ()))) (fun r3 =>
 .grd (decide (List.length ([UInt8.ofNat (Int.toNat (wW .u8 (bits .or .i64 (64 : Int) (wW .i64 (Int.tdiv (wW .i64 ((20 : Int) + (↑(a9.length) : Int))) (4 : Int)))))), UInt8.ofNat (Int.toNat (wW .u8 a0))] ++ r1.1 ++ r2.1) + List.length r3.1 <= (9223372036854775807 : Nat))) (
 .grd (decide (0 <= wW .u8 a5 /\ wW .u8 a5 < 256)) (
 .grd (decide (0 <= wW .u8 a6 /\ wW .u8 a6 < 256)) (
 .grd (decide (List.length ([UInt8.ofNat (Int.toNat (wW .u8 (bits .or .i64 (64 : Int) (wW .i64 (Int.tdiv (wW .i64 ((20 : Int) + (↑(a9.length) : Int))) (4 : Int)))))), UInt8.ofNat (Int.toNat (wW .u8 a0))] ++ r1.1 ++ r2.1 ++ r3.1) + List.length [UInt8.ofNat (Int.toNat (wW .u8 a5)), UInt8.ofNat (Int.toNat (wW .u8 a6))] <= (9223372036854775807 : Nat))) (
 .opt ((ipLong_fn (a7, ()))) (fun r4 =>
 .opt ((ipLong_fn (a8, ()))) (fun r5 =>
 .grd (decide (List.length r4.1 + List.length r5.1 <= (9223372036854775807 : Nat))) (
 .grd (decide (List.length (r4.1 ++ r5.1) + a9.length <= (9223372036854775807 : Nat))) (
 .grd (decide (List.length ([UInt8.ofNat (Int.toNat (wW .u8 (bits .or .i64 (64 : Int) (wW .i64 (Int.tdiv (wW .i64 ((20 : Int) + (↑(a9.length) : Int))) (4 : Int)))))), UInt8.ofNat (Int.toNat (wW .u8 a0))] ++ r1.1 ++ r2.1 ++ r3.1 ++ [UInt8.ofNat (Int.toNat (wW .u8 a5)), UInt8.ofNat (Int.toNat (wW .u8 a6))]) + List.length (r4.1 ++ r5.1 ++ a9) <= (9223372036854775807 : Nat))) (
 .opt ((sumOf_fn ([UInt8.ofNat (Int.toNat (wW .u8 (bits .or .i64 (64 : Int) (wW .i64 (Int.tdiv (wW .i64 ((20 : Int) + (↑(a9.length) : Int))) (4 : Int)))))), UInt8.ofNat (Int.toNat (wW .u8 a0))] ++ r1.1 ++ r2.1 ++ r3.1 ++ [UInt8.ofNat (Int.toNat (wW .u8 a5)), UInt8.ofNat (Int.toNat (wW .u8 a6))] ++ (r4.1 ++ r5.1 ++ a9), ()))) (fun r6 =>
 .opt ((ipWord_fn (wW .i64 r6.1, ()))) (fun r7 =>
 .grd (decide (List.length ([UInt8.ofNat (Int.toNat (wW .u8 (bits .or .i64 (64 : Int) (wW .i64 (Int.tdiv (wW .i64 ((20 : Int) + (↑(a9.length) : Int))) (4 : Int)))))), UInt8.ofNat (Int.toNat (wW .u8 a0))] ++ r1.1 ++ r2.1 ++ r3.1 ++ [UInt8.ofNat (Int.toNat (wW .u8 a5)), UInt8.ofNat (Int.toNat (wW .u8 a6))]) + List.length r7.1 <= (9223372036854775807 : Nat))) (
 .grd (decide (List.length ([UInt8.ofNat (Int.toNat (wW .u8 (bits .or .i64 (64 : Int) (wW .i64 (Int.tdiv (wW .i64 ((20 : Int) + (↑(a9.length) : Int))) (4 : Int)))))), UInt8.ofNat (Int.toNat (wW .u8 a0))] ++ r1.1 ++ r2.1 ++ r3.1 ++ [UInt8.ofNat (Int.toNat (wW .u8 a5)), UInt8.ofNat (Int.toNat (wW .u8 a6))] ++ r7.1) + List.length (r4.1 ++ r5.1 ++ a9) <= (9223372036854775807 : Nat))) (
 .grd (decide (List.length ([UInt8.ofNat (Int.toNat (wW .u8 (bits .or .i64 (64 : Int) (wW .i64 (Int.tdiv (wW .i64 ((20 : Int) + (↑(a9.length) : Int))) (4 : Int)))))), UInt8.ofNat (Int.toNat (wW .u8 a0))] ++ r1.1 ++ r2.1 ++ r3.1 ++ [UInt8.ofNat (Int.toNat (wW .u8 a5)), UInt8.ofNat (Int.toNat (wW .u8 a6))] ++ r7.1 ++ (r4.1 ++ r5.1 ++ a9)) + a10.length <= (9223372036854775807 : Nat))) (
 .ret ([UInt8.ofNat (Int.toNat (wW .u8 (bits .or .i64 (64 : Int) (wW .i64 (Int.tdiv (wW .i64 ((20 : Int) + (↑(a9.length) : Int))) (4 : Int)))))), UInt8.ofNat (Int.toNat (wW .u8 a0))] ++ r1.1 ++ r2.1 ++ r3.1 ++ [UInt8.ofNat (Int.toNat (wW .u8 a5)), UInt8.ofNat (Int.toNat (wW .u8 a6))] ++ r7.1 ++ (r4.1 ++ r5.1 ++ a9) ++ a10, (0, ()))))))))))))))))))))))))) (
 .grd (true) (
 .grd (decide (0 <= wW .u8 (bits .or .i64 (64 : Int) (wW .i64 (Int.tdiv (wW .i64 ((20 : Int) + (↑(a9.length) : Int))) (4 : Int)))) /\ wW .u8 (bits .or .i64 (64 : Int) (wW .i64 (Int.tdiv (wW .i64 ((20 : Int) + (↑(a9.length) : Int))) (4 : Int)))) < 256)) (
 .grd (decide (0 <= wW .u8 a0 /\ wW .u8 a0 < 256)) (
 .opt ((ipWord_fn (wW .i64 (wW .i64 ((20 : Int) + (↑(a9.length) : Int)) + (↑(a10.length) : Int)), ()))) (fun r1 =>
 .grd (decide (List.length [UInt8.ofNat (Int.toNat (wW .u8 (bits .or .i64 (64 : Int) (wW .i64 (Int.tdiv (wW .i64 ((20 : Int) + (↑(a9.length) : Int))) (4 : Int)))))), UInt8.ofNat (Int.toNat (wW .u8 a0))] + List.length r1.1 <= (9223372036854775807 : Nat))) (
 .opt ((ipWord_fn (a1, ()))) (fun r2 =>
 .grd (decide (List.length ([UInt8.ofNat (Int.toNat (wW .u8 (bits .or .i64 (64 : Int) (wW .i64 (Int.tdiv (wW .i64 ((20 : Int) + (↑(a9.length) : Int))) (4 : Int)))))), UInt8.ofNat (Int.toNat (wW .u8 a0))] ++ r1.1) + List.length r2.1 <= (9223372036854775807 : Nat))) (
 .opt ((ipWord_fn (bits .or .i64 a4 16384, ()))) (fun r3 =>
 .grd (decide (List.length ([UInt8.ofNat (Int.toNat (wW .u8 (bits .or .i64 (64 : Int) (wW .i64 (Int.tdiv (wW .i64 ((20 : Int) + (↑(a9.length) : Int))) (4 : Int)))))), UInt8.ofNat (Int.toNat (wW .u8 a0))] ++ r1.1 ++ r2.1) + List.length r3.1 <= (9223372036854775807 : Nat))) (
 .grd (decide (0 <= wW .u8 a5 /\ wW .u8 a5 < 256)) (
 .grd (decide (0 <= wW .u8 a6 /\ wW .u8 a6 < 256)) (
 .grd (decide (List.length ([UInt8.ofNat (Int.toNat (wW .u8 (bits .or .i64 (64 : Int) (wW .i64 (Int.tdiv (wW .i64 ((20 : Int) + (↑(a9.length) : Int))) (4 : Int)))))), UInt8.ofNat (Int.toNat (wW .u8 a0))] ++ r1.1 ++ r2.1 ++ r3.1) + List.length [UInt8.ofNat (Int.toNat (wW .u8 a5)), UInt8.ofNat (Int.toNat (wW .u8 a6))] <= (9223372036854775807 : Nat))) (
 .opt ((ipLong_fn (a7, ()))) (fun r4 =>
 .opt ((ipLong_fn (a8, ()))) (fun r5 =>
 .grd (decide (List.length r4.1 + List.length r5.1 <= (9223372036854775807 : Nat))) (
 .grd (decide (List.length (r4.1 ++ r5.1) + a9.length <= (9223372036854775807 : Nat))) (
 .grd (decide (List.length ([UInt8.ofNat (Int.toNat (wW .u8 (bits .or .i64 (64 : Int) (wW .i64 (Int.tdiv (wW .i64 ((20 : Int) + (↑(a9.length) : Int))) (4 : Int)))))), UInt8.ofNat (Int.toNat (wW .u8 a0))] ++ r1.1 ++ r2.1 ++ r3.1 ++ [UInt8.ofNat (Int.toNat (wW .u8 a5)), UInt8.ofNat (Int.toNat (wW .u8 a6))]) + List.length (r4.1 ++ r5.1 ++ a9) <= (9223372036854775807 : Nat))) (
 .opt ((sumOf_fn ([UInt8.ofNat (Int.toNat (wW .u8 (bits .or .i64 (64 : Int) (wW .i64 (Int.tdiv (wW .i64 ((20 : Int) + (↑(a9.length) : Int))) (4 : Int)))))), UInt8.ofNat (Int.toNat (wW .u8 a0))] ++ r1.1 ++ r2.1 ++ r3.1 ++ [UInt8.ofNat (Int.toNat (wW .u8 a5)), UInt8.ofNat (Int.toNat (wW .u8 a6))] ++ (r4.1 ++ r5.1 ++ a9), ()))) (fun r6 =>
 .opt ((ipWord_fn (wW .i64 r6.1, ()))) (fun r7 =>
 .grd (decide (List.length ([UInt8.ofNat (Int.toNat (wW .u8 (bits .or .i64 (64 : Int) (wW .i64 (Int.tdiv (wW .i64 ((20 : Int) + (↑(a9.length) : Int))) (4 : Int)))))), UInt8.ofNat (Int.toNat (wW .u8 a0))] ++ r1.1 ++ r2.1 ++ r3.1 ++ [UInt8.ofNat (Int.toNat (wW .u8 a5)), UInt8.ofNat (Int.toNat (wW .u8 a6))]) + List.length r7.1 <= (9223372036854775807 : Nat))) (
 .grd (decide (List.length ([UInt8.ofNat (Int.toNat (wW .u8 (bits .or .i64 (64 : Int) (wW .i64 (Int.tdiv (wW .i64 ((20 : Int) + (↑(a9.length) : Int))) (4 : Int)))))), UInt8.ofNat (Int.toNat (wW .u8 a0))] ++ r1.1 ++ r2.1 ++ r3.1 ++ [UInt8.ofNat (Int.toNat (wW .u8 a5)), UInt8.ofNat (Int.toNat (wW .u8 a6))] ++ r7.1) + List.length (r4.1 ++ r5.1 ++ a9) <= (9223372036854775807 : Nat))) (
 .grd (decide (List.length ([UInt8.ofNat (Int.toNat (wW .u8 (bits .or .i64 (64 : Int) (wW .i64 (Int.tdiv (wW .i64 ((20 : Int) + (↑(a9.length) : Int))) (4 : Int)))))), UInt8.ofNat (Int.toNat (wW .u8 a0))] ++ r1.1 ++ r2.1 ++ r3.1 ++ [UInt8.ofNat (Int.toNat (wW .u8 a5)), UInt8.ofNat (Int.toNat (wW .u8 a6))] ++ r7.1 ++ (r4.1 ++ r5.1 ++ a9)) + a10.length <= (9223372036854775807 : Nat))) (
 .ret ([UInt8.ofNat (Int.toNat (wW .u8 (bits .or .i64 (64 : Int) (wW .i64 (Int.tdiv (wW .i64 ((20 : Int) + (↑(a9.length) : Int))) (4 : Int)))))), UInt8.ofNat (Int.toNat (wW .u8 a0))] ++ r1.1 ++ r2.1 ++ r3.1 ++ [UInt8.ofNat (Int.toNat (wW .u8 a5)), UInt8.ofNat (Int.toNat (wW .u8 a6))] ++ r7.1 ++ (r4.1 ++ r5.1 ++ a9) ++ a10, (0, ())))))))))))))))))))))))))) (
 .ite (a3) (
 .grd (true) (
 .grd (decide (0 <= wW .u8 (bits .or .i64 (64 : Int) (wW .i64 (Int.tdiv (wW .i64 ((20 : Int) + (↑(a9.length) : Int))) (4 : Int)))) /\ wW .u8 (bits .or .i64 (64 : Int) (wW .i64 (Int.tdiv (wW .i64 ((20 : Int) + (↑(a9.length) : Int))) (4 : Int)))) < 256)) (
 .grd (decide (0 <= wW .u8 a0 /\ wW .u8 a0 < 256)) (
 .opt ((ipWord_fn (wW .i64 (wW .i64 ((20 : Int) + (↑(a9.length) : Int)) + (↑(a10.length) : Int)), ()))) (fun r1 =>
 .grd (decide (List.length [UInt8.ofNat (Int.toNat (wW .u8 (bits .or .i64 (64 : Int) (wW .i64 (Int.tdiv (wW .i64 ((20 : Int) + (↑(a9.length) : Int))) (4 : Int)))))), UInt8.ofNat (Int.toNat (wW .u8 a0))] + List.length r1.1 <= (9223372036854775807 : Nat))) (
 .opt ((ipWord_fn (a1, ()))) (fun r2 =>
 .grd (decide (List.length ([UInt8.ofNat (Int.toNat (wW .u8 (bits .or .i64 (64 : Int) (wW .i64 (Int.tdiv (wW .i64 ((20 : Int) + (↑(a9.length) : Int))) (4 : Int)))))), UInt8.ofNat (Int.toNat (wW .u8 a0))] ++ r1.1) + List.length r2.1 <= (9223372036854775807 : Nat))) (
 .opt ((ipWord_fn (bits .or .i64 a4 8192, ()))) (fun r3 =>
 .grd (decide (List.length ([UInt8.ofNat (Int.toNat (wW .u8 (bits .or .i64 (64 : Int) (wW .i64 (Int.tdiv (wW .i64 ((20 : Int) + (↑(a9.length) : Int))) (4 : Int)))))), UInt8.ofNat (Int.toNat (wW .u8 a0))] ++ r1.1 ++ r2.1) + List.length r3.1 <= (9223372036854775807 : Nat))) (
 .grd (decide (0 <= wW .u8 a5 /\ wW .u8 a5 < 256)) (
 .grd (decide (0 <= wW .u8 a6 /\ wW .u8 a6 < 256)) (
 .grd (decide (List.length ([UInt8.ofNat (Int.toNat (wW .u8 (bits .or .i64 (64 : Int) (wW .i64 (Int.tdiv (wW .i64 ((20 : Int) + (↑(a9.length) : Int))) (4 : Int)))))), UInt8.ofNat (Int.toNat (wW .u8 a0))] ++ r1.1 ++ r2.1 ++ r3.1) + List.length [UInt8.ofNat (Int.toNat (wW .u8 a5)), UInt8.ofNat (Int.toNat (wW .u8 a6))] <= (9223372036854775807 : Nat))) (
 .opt ((ipLong_fn (a7, ()))) (fun r4 =>
 .opt ((ipLong_fn (a8, ()))) (fun r5 =>
 .grd (decide (List.length r4.1 + List.length r5.1 <= (9223372036854775807 : Nat))) (
 .grd (decide (List.length (r4.1 ++ r5.1) + a9.length <= (9223372036854775807 : Nat))) (
 .grd (decide (List.length ([UInt8.ofNat (Int.toNat (wW .u8 (bits .or .i64 (64 : Int) (wW .i64 (Int.tdiv (wW .i64 ((20 : Int) + (↑(a9.length) : Int))) (4 : Int)))))), UInt8.ofNat (Int.toNat (wW .u8 a0))] ++ r1.1 ++ r2.1 ++ r3.1 ++ [UInt8.ofNat (Int.toNat (wW .u8 a5)), UInt8.ofNat (Int.toNat (wW .u8 a6))]) + List.length (r4.1 ++ r5.1 ++ a9) <= (9223372036854775807 : Nat))) (
 .opt ((sumOf_fn ([UInt8.ofNat (Int.toNat (wW .u8 (bits .or .i64 (64 : Int) (wW .i64 (Int.tdiv (wW .i64 ((20 : Int) + (↑(a9.length) : Int))) (4 : Int)))))), UInt8.ofNat (Int.toNat (wW .u8 a0))] ++ r1.1 ++ r2.1 ++ r3.1 ++ [UInt8.ofNat (Int.toNat (wW .u8 a5)), UInt8.ofNat (Int.toNat (wW .u8 a6))] ++ (r4.1 ++ r5.1 ++ a9), ()))) (fun r6 =>
 .opt ((ipWord_fn (wW .i64 r6.1, ()))) (fun r7 =>
 .grd (decide (List.length ([UInt8.ofNat (Int.toNat (wW .u8 (bits .or .i64 (64 : Int) (wW .i64 (Int.tdiv (wW .i64 ((20 : Int) + (↑(a9.length) : Int))) (4 : Int)))))), UInt8.ofNat (Int.toNat (wW .u8 a0))] ++ r1.1 ++ r2.1 ++ r3.1 ++ [UInt8.ofNat (Int.toNat (wW .u8 a5)), UInt8.ofNat (Int.toNat (wW .u8 a6))]) + List.length r7.1 <= (9223372036854775807 : Nat))) (
 .grd (decide (List.length ([UInt8.ofNat (Int.toNat (wW .u8 (bits .or .i64 (64 : Int) (wW .i64 (Int.tdiv (wW .i64 ((20 : Int) + (↑(a9.length) : Int))) (4 : Int)))))), UInt8.ofNat (Int.toNat (wW .u8 a0))] ++ r1.1 ++ r2.1 ++ r3.1 ++ [UInt8.ofNat (Int.toNat (wW .u8 a5)), UInt8.ofNat (Int.toNat (wW .u8 a6))] ++ r7.1) + List.length (r4.1 ++ r5.1 ++ a9) <= (9223372036854775807 : Nat))) (
 .grd (decide (List.length ([UInt8.ofNat (Int.toNat (wW .u8 (bits .or .i64 (64 : Int) (wW .i64 (Int.tdiv (wW .i64 ((20 : Int) + (↑(a9.length) : Int))) (4 : Int)))))), UInt8.ofNat (Int.toNat (wW .u8 a0))] ++ r1.1 ++ r2.1 ++ r3.1 ++ [UInt8.ofNat (Int.toNat (wW .u8 a5)), UInt8.ofNat (Int.toNat (wW .u8 a6))] ++ r7.1 ++ (r4.1 ++ r5.1 ++ a9)) + a10.length <= (9223372036854775807 : Nat))) (
 .ret ([UInt8.ofNat (Int.toNat (wW .u8 (bits .or .i64 (64 : Int) (wW .i64 (Int.tdiv (wW .i64 ((20 : Int) + (↑(a9.length) : Int))) (4 : Int)))))), UInt8.ofNat (Int.toNat (wW .u8 a0))] ++ r1.1 ++ r2.1 ++ r3.1 ++ [UInt8.ofNat (Int.toNat (wW .u8 a5)), UInt8.ofNat (Int.toNat (wW .u8 a6))] ++ r7.1 ++ (r4.1 ++ r5.1 ++ a9) ++ a10, (0, ()))))))))))))))))))))))))) (
 .grd (true) (
 .grd (decide (0 <= wW .u8 (bits .or .i64 (64 : Int) (wW .i64 (Int.tdiv (wW .i64 ((20 : Int) + (↑(a9.length) : Int))) (4 : Int)))) /\ wW .u8 (bits .or .i64 (64 : Int) (wW .i64 (Int.tdiv (wW .i64 ((20 : Int) + (↑(a9.length) : Int))) (4 : Int)))) < 256)) (
 .grd (decide (0 <= wW .u8 a0 /\ wW .u8 a0 < 256)) (
 .opt ((ipWord_fn (wW .i64 (wW .i64 ((20 : Int) + (↑(a9.length) : Int)) + (↑(a10.length) : Int)), ()))) (fun r1 =>
 .grd (decide (List.length [UInt8.ofNat (Int.toNat (wW .u8 (bits .or .i64 (64 : Int) (wW .i64 (Int.tdiv (wW .i64 ((20 : Int) + (↑(a9.length) : Int))) (4 : Int)))))), UInt8.ofNat (Int.toNat (wW .u8 a0))] + List.length r1.1 <= (9223372036854775807 : Nat))) (
 .opt ((ipWord_fn (a1, ()))) (fun r2 =>
 .grd (decide (List.length ([UInt8.ofNat (Int.toNat (wW .u8 (bits .or .i64 (64 : Int) (wW .i64 (Int.tdiv (wW .i64 ((20 : Int) + (↑(a9.length) : Int))) (4 : Int)))))), UInt8.ofNat (Int.toNat (wW .u8 a0))] ++ r1.1) + List.length r2.1 <= (9223372036854775807 : Nat))) (
 .opt ((ipWord_fn (a4, ()))) (fun r3 =>
 .grd (decide (List.length ([UInt8.ofNat (Int.toNat (wW .u8 (bits .or .i64 (64 : Int) (wW .i64 (Int.tdiv (wW .i64 ((20 : Int) + (↑(a9.length) : Int))) (4 : Int)))))), UInt8.ofNat (Int.toNat (wW .u8 a0))] ++ r1.1 ++ r2.1) + List.length r3.1 <= (9223372036854775807 : Nat))) (
 .grd (decide (0 <= wW .u8 a5 /\ wW .u8 a5 < 256)) (
 .grd (decide (0 <= wW .u8 a6 /\ wW .u8 a6 < 256)) (
 .grd (decide (List.length ([UInt8.ofNat (Int.toNat (wW .u8 (bits .or .i64 (64 : Int) (wW .i64 (Int.tdiv (wW .i64 ((20 : Int) + (↑(a9.length) : Int))) (4 : Int)))))), UInt8.ofNat (Int.toNat (wW .u8 a0))] ++ r1.1 ++ r2.1 ++ r3.1) + List.length [UInt8.ofNat (Int.toNat (wW .u8 a5)), UInt8.ofNat (Int.toNat (wW .u8 a6))] <= (9223372036854775807 : Nat))) (
 .opt ((ipLong_fn (a7, ()))) (fun r4 =>
 .opt ((ipLong_fn (a8, ()))) (fun r5 =>
 .grd (decide (List.length r4.1 + List.length r5.1 <= (9223372036854775807 : Nat))) (
 .grd (decide (List.length (r4.1 ++ r5.1) + a9.length <= (9223372036854775807 : Nat))) (
 .grd (decide (List.length ([UInt8.ofNat (Int.toNat (wW .u8 (bits .or .i64 (64 : Int) (wW .i64 (Int.tdiv (wW .i64 ((20 : Int) + (↑(a9.length) : Int))) (4 : Int)))))), UInt8.ofNat (Int.toNat (wW .u8 a0))] ++ r1.1 ++ r2.1 ++ r3.1 ++ [UInt8.ofNat (Int.toNat (wW .u8 a5)), UInt8.ofNat (Int.toNat (wW .u8 a6))]) + List.length (r4.1 ++ r5.1 ++ a9) <= (9223372036854775807 : Nat))) (
 .opt ((sumOf_fn ([UInt8.ofNat (Int.toNat (wW .u8 (bits .or .i64 (64 : Int) (wW .i64 (Int.tdiv (wW .i64 ((20 : Int) + (↑(a9.length) : Int))) (4 : Int)))))), UInt8.ofNat (Int.toNat (wW .u8 a0))] ++ r1.1 ++ r2.1 ++ r3.1 ++ [UInt8.ofNat (Int.toNat (wW .u8 a5)), UInt8.ofNat (Int.toNat (wW .u8 a6))] ++ (r4.1 ++ r5.1 ++ a9), ()))) (fun r6 =>
 .opt ((ipWord_fn (wW .i64 r6.1, ()))) (fun r7 =>
 .grd (decide (List.length ([UInt8.ofNat (Int.toNat (wW .u8 (bits .or .i64 (64 : Int) (wW .i64 (Int.tdiv (wW .i64 ((20 : Int) + (↑(a9.length) : Int))) (4 : Int)))))), UInt8.ofNat (Int.toNat (wW .u8 a0))] ++ r1.1 ++ r2.1 ++ r3.1 ++ [UInt8.ofNat (Int.toNat (wW .u8 a5)), UInt8.ofNat (Int.toNat (wW .u8 a6))]) + List.length r7.1 <= (9223372036854775807 : Nat))) (
 .grd (decide (List.length ([UInt8.ofNat (Int.toNat (wW .u8 (bits .or .i64 (64 : Int) (wW .i64 (Int.tdiv (wW .i64 ((20 : Int) + (↑(a9.length) : Int))) (4 : Int)))))), UInt8.ofNat (Int.toNat (wW .u8 a0))] ++ r1.1 ++ r2.1 ++ r3.1 ++ [UInt8.ofNat (Int.toNat (wW .u8 a5)), UInt8.ofNat (Int.toNat (wW .u8 a6))] ++ r7.1) + List.length (r4.1 ++ r5.1 ++ a9) <= (9223372036854775807 : Nat))) (
 .grd (decide (List.length ([UInt8.ofNat (Int.toNat (wW .u8 (bits .or .i64 (64 : Int) (wW .i64 (Int.tdiv (wW .i64 ((20 : Int) + (↑(a9.length) : Int))) (4 : Int)))))), UInt8.ofNat (Int.toNat (wW .u8 a0))] ++ r1.1 ++ r2.1 ++ r3.1 ++ [UInt8.ofNat (Int.toNat (wW .u8 a5)), UInt8.ofNat (Int.toNat (wW .u8 a6))] ++ r7.1 ++ (r4.1 ++ r5.1 ++ a9)) + a10.length <= (9223372036854775807 : Nat))) (
 .ret ([UInt8.ofNat (Int.toNat (wW .u8 (bits .or .i64 (64 : Int) (wW .i64 (Int.tdiv (wW .i64 ((20 : Int) + (↑(a9.length) : Int))) (4 : Int)))))), UInt8.ofNat (Int.toNat (wW .u8 a0))] ++ r1.1 ++ r2.1 ++ r3.1 ++ [UInt8.ofNat (Int.toNat (wW .u8 a5)), UInt8.ofNat (Int.toNat (wW .u8 a6))] ++ r7.1 ++ (r4.1 ++ r5.1 ++ a9) ++ a10, (0, ()))))))))))))))))))))))))))))
noncomputable def gm2 : List (PF Go.Proofs.Try.prog) := gm1 ++ [FS.pf ipLong]
theorem ipWrite_eq (x : ty0_) : fnTr Try.prog cod gm2 [] 30 54 ipWrite_ap ipWrite_rp x = ipWrite_tree x := by kernel_rfl
def ipWrite_fn (x : ty0_) : Option ((List UInt8) × (Int × Unit)) := (ipWrite_tree x).eval
def ipWrite : FS Try.prog := ⟨54, ipWrite_ap, ipWrite_rp, ipWrite_fn, fun x r h => fnTr_sound (cod := cod) (Γ := gm2) (Λs := []) (n := 30) ((congrArg Tr.eval (ipWrite_eq x)).trans h)⟩
def fragSplit_L29_15 : LS := ⟨15, [(9, 9), (2, 2)], ⟨91, [(9, .v (.one (.own 9))), (8, .v (.one (.i .i64))), (2, .v (.one (.ptr 2 0))), (10, .v (.one (.s)))], [(9, .row 71 20 true true), (2, .cells [.i .i64, .i .i64, .b, .b, .i .i64, .i .i64, .i .i64, .i .u32, .i .u32, .s, .s])]⟩, [⟨some 1, [(9, 9)], ⟨91, [(9, .v (.one (.own 9)))], [(9, .row 71 20 true true)]⟩⟩], [(9, 71, 20)]⟩
abbrev ty1_ : Type := (Int × ((List UInt8) × ((List TPacket) × (Int × (Int × (Bool × (Bool × (Int × (Int × (Int × (Int × (Int × ((List UInt8) × ((List UInt8) × Unit))))))))))))))
def fragSplit_step29_15 : ty1_ -> Tr (ty1_ ⊕ ((List TPacket) × Unit)) :=
 fun (a0, a1, a2, a3, a4, a5, a6, a7, a8, a9, a10, a11, a12, a13, _) =>
 .ite (!decide (a1 = [])) (
 .ite (decide ((if true = true then if (↑(a1.length) : Int) < a0 then (↑(a1.length) : Int) else a0 else if (↑(a1.length) : Int) > a0 then (↑(a1.length) : Int) else a0) < (↑(a1.length) : Int))) (
 .grd (decide ((0 : Int) <= (0 : Int) /\ (0 <= if true = true then if (↑(a1.length) : Int) < a0 then (↑(a1.length) : Int) else a0 else if (↑(a1.length) : Int) > a0 then (↑(a1.length) : Int) else a0) /\ (if true = true then if (↑(a1.length) : Int) < a0 then (↑(a1.length) : Int) else a0 else if (↑(a1.length) : Int) > a0 then (↑(a1.length) : Int) else a0) <= (↑(a1.length) : Int))) (
 .grd (decide ((0 <= if true = true then if (↑(a1.length) : Int) < a0 then (↑(a1.length) : Int) else a0 else if (↑(a1.length) : Int) > a0 then (↑(a1.length) : Int) else a0) /\ (if true = true then if (↑(a1.length) : Int) < a0 then (↑(a1.length) : Int) else a0 else if (↑(a1.length) : Int) > a0 then (↑(a1.length) : Int) else a0) <= (↑(a1.length) : Int) /\ (↑(a1.length) : Int) <= (↑(a1.length) : Int))) (
 .grd (true) (
 .grd (decide ((a2.length + List.length [TPacket.mk a3 a4 a5 true (wW .i64 (a7 + wW .i64 (Int.tdiv (wW .i64 ((↑(a2.length) : Int) * a0)) (8 : Int)))) a8 a9 a10 a11 a12 (List.drop (0 : Nat) (List.take (Int.toNat (if true = true then if (↑(a1.length) : Int) < a0 then (↑(a1.length) : Int) else a0 else if (↑(a1.length) : Int) > a0 then (↑(a1.length) : Int) else a0)) a1))]) * (88 : Nat) <= (140737488355328 : Nat) /\ a2.length + List.length [TPacket.mk a3 a4 a5 true (wW .i64 (a7 + wW .i64 (Int.tdiv (wW .i64 ((↑(a2.length) : Int) * a0)) (8 : Int)))) a8 a9 a10 a11 a12 (List.drop (0 : Nat) (List.take (Int.toNat (if true = true then if (↑(a1.length) : Int) < a0 then (↑(a1.length) : Int) else a0 else if (↑(a1.length) : Int) > a0 then (↑(a1.length) : Int) else a0)) a1))] <= (9223372036854775807 : Nat))) (
 .grd (decide (List.length (a2 ++ [TPacket.mk a3 a4 a5 true (wW .i64 (a7 + wW .i64 (Int.tdiv (wW .i64 ((↑(a2.length) : Int) * a0)) (8 : Int)))) a8 a9 a10 a11 a12 (List.drop (0 : Nat) (List.take (Int.toNat (if true = true then if (↑(a1.length) : Int) < a0 then (↑(a1.length) : Int) else a0 else if (↑(a1.length) : Int) > a0 then (↑(a1.length) : Int) else a0)) a1))]) = List.length (a2 ++ [TPacket.mk a3 a4 a5 true (wW .i64 (a7 + wW .i64 (Int.tdiv (wW .i64 ((↑(a2.length) : Int) * a0)) (8 : Int)))) a8 a9 a10 a11 a12 (List.drop (0 : Nat) (List.take (Int.toNat (if true = true then if (↑(a1.length) : Int) < a0 then (↑(a1.length) : Int) else a0 else if (↑(a1.length) : Int) > a0 then (↑(a1.length) : Int) else a0)) a1))]))) (
 .ret (Sum.inl (a0, (List.drop (Int.toNat (if true = true then if (↑(a1.length) : Int) < a0 then (↑(a1.length) : Int) else a0 else if (↑(a1.length) : Int) > a0 then (↑(a1.length) : Int) else a0)) (List.take (Int.toNat (↑(a1.length) : Int)) a1), (a2 ++ [TPacket.mk a3 a4 a5 true (wW .i64 (a7 + wW .i64 (Int.tdiv (wW .i64 ((↑(a2.length) : Int) * a0)) (8 : Int)))) a8 a9 a10 a11 a12 (List.drop (0 : Nat) (List.take (Int.toNat (if true = true then if (↑(a1.length) : Int) < a0 then (↑(a1.length) : Int) else a0 else if (↑(a1.length) : Int) > a0 then (↑(a1.length) : Int) else a0)) a1))], (a3, (a4, (a5, (a6, (a7, (a8, (a9, (a10, (a11, (a12, (a13, ()))))))))))))))))))))) (
 .grd (decide ((0 : Int) <= (0 : Int) /\ (0 <= if true = true then if (↑(a1.length) : Int) < a0 then (↑(a1.length) : Int) else a0 else if (↑(a1.length) : Int) > a0 then (↑(a1.length) : Int) else a0) /\ (if true = true then if (↑(a1.length) : Int) < a0 then (↑(a1.length) : Int) else a0 else if (↑(a1.length) : Int) > a0 then (↑(a1.length) : Int) else a0) <= (↑(a1.length) : Int))) (
 .grd (decide ((0 <= if true = true then if (↑(a1.length) : Int) < a0 then (↑(a1.length) : Int) else a0 else if (↑(a1.length) : Int) > a0 then (↑(a1.length) : Int) else a0) /\ (if true = true then if (↑(a1.length) : Int) < a0 then (↑(a1.length) : Int) else a0 else if (↑(a1.length) : Int) > a0 then (↑(a1.length) : Int) else a0) <= (↑(a1.length) : Int) /\ (↑(a1.length) : Int) <= (↑(a1.length) : Int))) (
 .grd (true) (
 .grd (decide ((a2.length + List.length [TPacket.mk a3 a4 a5 a6 (wW .i64 (a7 + wW .i64 (Int.tdiv (wW .i64 ((↑(a2.length) : Int) * a0)) (8 : Int)))) a8 a9 a10 a11 a12 (List.drop (0 : Nat) (List.take (Int.toNat (if true = true then if (↑(a1.length) : Int) < a0 then (↑(a1.length) : Int) else a0 else if (↑(a1.length) : Int) > a0 then (↑(a1.length) : Int) else a0)) a1))]) * (88 : Nat) <= (140737488355328 : Nat) /\ a2.length + List.length [TPacket.mk a3 a4 a5 a6 (wW .i64 (a7 + wW .i64 (Int.tdiv (wW .i64 ((↑(a2.length) : Int) * a0)) (8 : Int)))) a8 a9 a10 a11 a12 (List.drop (0 : Nat) (List.take (Int.toNat (if true = true then if (↑(a1.length) : Int) < a0 then (↑(a1.length) : Int) else a0 else if (↑(a1.length) : Int) > a0 then (↑(a1.length) : Int) else a0)) a1))] <= (9223372036854775807 : Nat))) (
 .grd (decide (List.length (a2 ++ [TPacket.mk a3 a4 a5 a6 (wW .i64 (a7 + wW .i64 (Int.tdiv (wW .i64 ((↑(a2.length) : Int) * a0)) (8 : Int)))) a8 a9 a10 a11 a12 (List.drop (0 : Nat) (List.take (Int.toNat (if true = true then if (↑(a1.length) : Int) < a0 then (↑(a1.length) : Int) else a0 else if (↑(a1.length) : Int) > a0 then (↑(a1.length) : Int) else a0)) a1))]) = List.length (a2 ++ [TPacket.mk a3 a4 a5 a6 (wW .i64 (a7 + wW .i64 (Int.tdiv (wW .i64 ((↑(a2.length) : Int) * a0)) (8 : Int)))) a8 a9 a10 a11 a12 (List.drop (0 : Nat) (List.take (Int.toNat (if true = true then if (↑(a1.length) : Int) < a0 then (↑(a1.length) : Int) else a0 else if (↑(a1.length) : Int) > a0 then (↑(a1.length) : Int) else a0)) a1))]))) (
 .ret (Sum.inl (a0, (List.drop (Int.toNat (if true = true then if (↑(a1.length) : Int) < a0 then (↑(a1.length) : Int) else a0 else if (↑(a1.length) : Int) > a0 then (↑(a1.length) : Int) else a0)) (List.take (Int.toNat (↑(a1.length) : Int)) a1), (a2 ++ [TPacket.mk a3 a4 a5 a6 (wW .i64 (a7 + wW .i64 (Int.tdiv (wW .i64 ((↑(a2.length) : Int) * a0)) (8 : Int)))) a8 a9 a10 a11 a12 (List.drop (0 : Nat) (List.take (Int.toNat (if true = true then if (↑(a1.length) : Int) < a0 then (↑(a1.length) : Int) else a0 else if (↑(a1.length) : Int) > a0 then (↑(a1.length) : Int) else a0)) a1))], (a3, (a4, (a5, (a6, (a7, (a8, (a9, (a10, (a11, (a12, (a13, ())))))))))))))))))))))) (
 .grd (decide (a2.length = a2.length)) (
 .ret (Sum.inr (a2, ()))))
def fragSplit_loop29_15 (x : ty1_) : Option ((List TPacket) × Unit) := loopO 290015 (fun x => (fragSplit_step29_15 x).eval) 18446744073709551616 x
def fragSplit_ap : List VP1 := [.agg [.i .i64, .i .i64, .b, .b, .i .i64, .i .i64, .i .i64, .i .u32, .i .u32, .s, .s], .one (.i .i64)]
def fragSplit_rp : SP := ⟨1, [(0, .tup [.one (.st 20 true), .one (.i .i64)])], []⟩
abbrev ty2_ : Type := (Int × (Int × (Bool × (Bool × (Int × (Int × (Int × (Int × (Int × ((List UInt8) × ((List UInt8) × (Int × Unit))))))))))))
def fragSplit_tree : ty2_ -> Tr ((List TPacket) × (Int × Unit)) :=
 fun (a0, a1, a2, a3, a4, a5, a6, a7, a8, a9, a10, a11, _) =>
 .opt ((ipWrite_fn (a0, (a1, (a2, (a3, (a4, (a5, (a6, (a7, (a8, (a9, (a10, ()))))))))))))) (fun r0 =>
 .ite (!decide (r0.2.1 = 0)) (
 .ret ([], (r0.2.1, ()))) (
 .ite (decide (a11 < 68)) (
 .ret ([], (1, ()))) (
 .ite (decide (65535 < a11)) (
 .ret ([], (1, ()))) (
 .ite (decide ((↑(List.length r0.1) : Int) <= a11)) (
 .ret ([TPacket.mk a0 a1 a2 a3 a4 a5 a6 a7 a8 a9 a10], (0, ()))) (
 .ite (a2) (
 .ret ([], (9, ()))) (
 .ite (decide (65515 < wW .i64 (wW .i64 ((8 : Int) * a4) + (↑(a10.length) : Int)))) (
 .ret ([], (2, ()))) (
 .grd (true) (
 .grd (true) (
 .opt ((fragSplit_loop29_15 (wW .i64 (wW .i64 (Int.tdiv (wW .i64 (wW .i64 (a11 - 20) - (↑(a9.length) : Int))) (8 : Int)) * (8 : Int)), (a10, ([], (a0, (a1, (a2, (a3, (a4, (a5, (a6, (a7, (a8, (a9, (a10, ())))))))))))))))) (fun r1 =>
 .ret (r1.1, (0, ()))))))))))))
noncomputable def gm3 : List (PF Go.Proofs.Try.prog) := gm2 ++ [FS.pf ipWrite]
theorem fragSplit_eq (x : ty2_) : fnTr Try.prog cod gm3 [(29, fragSplit_L29_15)] 30 29 fragSplit_ap fragSplit_rp x = fragSplit_tree x := by kernel_rfl
def fragSplit_fn (x : ty2_) : Option ((List TPacket) × (Int × Unit)) := (fragSplit_tree x).eval
def fragSplit : FS Try.prog := ⟨29, fragSplit_ap, fragSplit_rp, fragSplit_fn, fun x r h => fnTr_sound (cod := cod) (Γ := gm3) (Λs := [(29, fragSplit_L29_15)]) (n := 30) ((congrArg Tr.eval (fragSplit_eq x)).trans h)⟩
def fragLives_ap : List VP1 := []
def fragLives_rp : SP := ⟨1, [(0, .v (.one (.b)))], []⟩
def fragLives_tree : Unit -> Tr (Bool × Unit) :=
 fun (_) =>
 .opt ((fragSplit_fn (0, (1, (false, (false, (0, (4, (0, (0, (0, ([], ([(97 : UInt8), (98 : UInt8), (99 : UInt8), (100 : UInt8), (101 : UInt8), (102 : UInt8), (103 : UInt8), (104 : UInt8), (97 : UInt8), (98 : UInt8), (99 : UInt8), (100 : UInt8), (101 : UInt8), (102 : UInt8), (103 : UInt8), (104 : UInt8), (97 : UInt8), (98 : UInt8), (99 : UInt8), (100 : UInt8), (101 : UInt8), (102 : UInt8), (103 : UInt8), (104 : UInt8), (97 : UInt8), (98 : UInt8), (99 : UInt8), (100 : UInt8), (101 : UInt8), (102 : UInt8), (103 : UInt8), (104 : UInt8), (97 : UInt8), (98 : UInt8), (99 : UInt8), (100 : UInt8), (101 : UInt8), (102 : UInt8), (103 : UInt8), (104 : UInt8), (97 : UInt8), (98 : UInt8), (99 : UInt8), (100 : UInt8), (101 : UInt8), (102 : UInt8), (103 : UInt8), (104 : UInt8), (120 : UInt8)], (68, ())))))))))))))) (fun r0 =>
 .ite (decide (r0.2.1 = 0)) (
 .ite (decide ((↑(List.length r0.1) : Int) = 2)) (
 .grd (true) (
 .opt (r0.1[(1 : Nat)]?) (fun r1 =>
 .ite (decide (r1.data = [(120 : UInt8)])) (
 .grd (true) (
 .opt (r0.1[(1 : Nat)]?) (fun r2 =>
 .ite (decide (r2.start = 6)) (
 .grd (true) (
 .opt (r0.1[(0 : Nat)]?) (fun r3 =>
 .ret (r3.more, ())))) (
 .ret (false, ()))))) (
 .ret (false, ()))))) (
 .ret (false, ()))) (
 .ret (false, ())))
noncomputable def gm4 : List (PF Go.Proofs.Try.prog) := gm3 ++ [FS.pf fragSplit]
theorem fragLives_eq (x : Unit) : fnTr Try.prog cod gm4 [] 30 30 fragLives_ap fragLives_rp x = fragLives_tree x := by kernel_rfl
def fragLives_fn (x : Unit) : Option (Bool × Unit) := (fragLives_tree x).eval
def fragLives : FS Try.prog := ⟨30, fragLives_ap, fragLives_rp, fragLives_fn, fun x r h => fnTr_sound (cod := cod) (Γ := gm4) (Λs := []) (n := 30) ((congrArg Tr.eval (fragLives_eq x)).trans h)⟩
def fEnd_ap : List VP1 := [.agg [.i .i64, .s, .b]]
def fEnd_rp : SP := ⟨1, [(0, .v (.one (.i .i64)))], []⟩
def fEnd_tree : (Int × ((List UInt8) × (Bool × Unit))) -> Tr (Int × Unit) :=
 fun (a0, a1, a2, _) =>
 .ret (wW .i64 (a0 + (↑(a1.length) : Int)), ())
noncomputable def gm5 : List (PF Go.Proofs.Try.prog) := gm4 ++ [FS.pf fragLives]
theorem fEnd_eq (x : (Int × ((List UInt8) × (Bool × Unit)))) : fnTr Try.prog cod gm5 [] 30 79 fEnd_ap fEnd_rp x = fEnd_tree x := by kernel_rfl
def fEnd_fn (x : (Int × ((List UInt8) × (Bool × Unit)))) : Option (Int × Unit) := (fEnd_tree x).eval
def fEnd : FS Try.prog := ⟨79, fEnd_ap, fEnd_rp, fEnd_fn, fun x r h => fnTr_sound (cod := cod) (Γ := gm5) (Λs := []) (n := 30) ((congrArg Tr.eval (fEnd_eq x)).trans h)⟩
def fRightPart_ap : List VP1 := [.agg [.i .i64, .s, .b]]
def fRightPart_rp : SP := ⟨1, [(0, .v (.one (.b)))], []⟩
def fRightPart_tree : (Int × ((List UInt8) × (Bool × Unit))) -> Tr (Bool × Unit) :=
 fun (a0, a1, a2, _) =>
 .ite (!decide (a1 = [])) (
 .ite (decide (0 <= a0)) (
 .grd (true) (
 .ite (decide (Int.tmod a0 (8 : Int) = (0 : Int))) (
 .ite (decide (a0 <= 65515)) (
 .opt ((fEnd_fn (a0, (a1, (a2, ()))))) (fun r0 =>
 .ite (decide (r0.1 <= 65515)) (
 .ite (a2) (
 .ret (true, ())) (
 .grd (true) (
 .ret (decide (Int.tmod (↑(a1.length) : Int) (8 : Int) = (0 : Int)), ())))) (
 .ret (false, ())))) (
 .ret (false, ()))) (
 .ret (false, ())))) (
 .ret (false, ()))) (
 .ret (false, ()))
noncomputable def gm6 : List (PF Go.Proofs.Try.prog) := gm5 ++ [FS.pf fEnd]
theorem fRightPart_eq (x : (Int × ((List UInt8) × (Bool × Unit)))) : fnTr Try.prog cod gm6 [] 30 84 fRightPart_ap fRightPart_rp x = fRightPart_tree x := by kernel_rfl
def fRightPart_fn (x : (Int × ((List UInt8) × (Bool × Unit)))) : Option (Bool × Unit) := (fRightPart_tree x).eval
def fRightPart : FS Try.prog := ⟨84, fRightPart_ap, fRightPart_rp, fRightPart_fn, fun x r h => fnTr_sound (cod := cod) (Γ := gm6) (Λs := []) (n := 30) ((congrArg Tr.eval (fRightPart_eq x)).trans h)⟩
def fSameKey_ap : List VP1 := [.agg [.i .u32, .i .u32, .i .i64, .i .i64, .i .i64, .i .i64, .s, .st 5 false], .agg [.i .u32, .i .u32, .i .i64, .i .i64, .i .i64, .i .i64, .s, .st 5 false]]
def fSameKey_rp : SP := ⟨1, [(0, .v (.one (.b)))], []⟩
abbrev ty3_ : Type := (Int × (Int × (Int × (Int × (Int × (Int × ((List UInt8) × ((List TPart) × (Int × (Int × (Int × (Int × (Int × (Int × ((List UInt8) × ((List TPart) × Unit))))))))))))))))
def fSameKey_tree : ty3_ -> Tr (Bool × Unit) :=
 fun (a0, a1, a2, a3, a4, a5, a6, a7, a8, a9, a10, a11, a12, a13, a14, a15, _) =>
 .ite (decide (a0 = a8)) (
 .ite (decide (a1 = a9)) (
 .ite (decide (a2 = a10)) (
 .ret (decide (a3 = a11), ())) (
 .ret (false, ()))) (
 .ret (false, ()))) (
 .ret (false, ()))
noncomputable def gm7 : List (PF Go.Proofs.Try.prog) := gm6 ++ [FS.pf fRightPart]
theorem fSameKey_eq (x : ty3_) : fnTr Try.prog cod gm7 [] 30 59 fSameKey_ap fSameKey_rp x = fSameKey_tree x := by kernel_rfl
def fSameKey_fn (x : ty3_) : Option (Bool × Unit) := (fSameKey_tree x).eval
def fSameKey : FS Try.prog := ⟨59, fSameKey_ap, fSameKey_rp, fSameKey_fn, fun x r h => fnTr_sound (cod := cod) (Γ := gm7) (Λs := []) (n := 30) ((congrArg Tr.eval (fSameKey_eq x)).trans h)⟩
def fRightHeap_L65_2 : LS := ⟨2, [(1, 1)], ⟨67, [(8, .v (.one (.i .i64))), (1, .v (.one (.ptr 1 0))), (6, .v (.one (.st 5 false))), (7, .v (.one (.i .i64)))], [(1, .cells [.i .u32, .i .u32, .i .i64, .i .i64, .i .i64, .i .i64, .s, .st 5 false])]⟩, [⟨none, [], ⟨67, [(2, .v (.one (.b)))], []⟩⟩, ⟨some 0, [(1, 1)], ⟨67, [(1, .v (.one (.ptr 1 0)))], [(1, .cells [.i .u32, .i .u32, .i .i64, .i .i64, .i .i64, .i .i64, .s, .st 5 false])]⟩⟩], []⟩
abbrev ty4_ : Type := (Int × ((List TPart) × (Int × (Int × (Int × (Int × (Int × (Int × (Int × ((List UInt8) × ((List TPart) × Unit)))))))))))
def fRightHeap_step65_2 : ty4_ -> Tr (ty4_ ⊕ ((Bool × Unit) ⊕ (Int × (Int × (Int × (Int × (Int × (Int × ((List UInt8) × ((List TPart) × Unit)))))))))) :=
 fun (a0, a1, a2, a3, a4, a5, a6, a7, a8, a9, a10, _) =>
 .ite (decide (a0 < a2)) (
 .grd (decide (0 <= a0)) (
 .opt (a1[Int.toNat a0]?) (fun r0 =>
 .opt ((fRightPart_fn (r0.at', (r0.data, (r0.last, ()))))) (fun r1 =>
 .ite (!r1.1) (
 .ret (Sum.inr (Sum.inl (false, ())))) (
 .ite (decide (0 < a0)) (
 .grd (decide (0 <= wW .i64 (a0 - 1))) (
 .opt (a10[Int.toNat (wW .i64 (a0 - 1))]?) (fun r2 =>
 .ite (r2.last) (
 .ret (Sum.inr (Sum.inl (false, ())))) (
 .grd (decide (0 <= wW .i64 (a0 - 1))) (
 .opt (a10[Int.toNat (wW .i64 (a0 - 1))]?) (fun r3 =>
 .opt ((fEnd_fn (r3.at', (r3.data, (r3.last, ()))))) (fun r4 =>
 .ite (decide (r0.at' < r4.1)) (
 .ret (Sum.inr (Sum.inl (false, ())))) (
 .ret (Sum.inl (wW .i64 (a0 + 1), (a1, (a2, (a3, (a4, (a5, (a6, (a7, (a8, (a9, (a10, ())))))))))))))))))))) (
 .ret (Sum.inl (wW .i64 (a0 + 1), (a1, (a2, (a3, (a4, (a5, (a6, (a7, (a8, (a9, (a10, ())))))))))))))))))) (
 .ret (Sum.inr (Sum.inr (a3, (a4, (a5, (a6, (a7, (a8, (a9, (a10, ())))))))))))
def fRightHeap_loop65_2 (x : ty4_) : Option ((Bool × Unit) ⊕ (Int × (Int × (Int × (Int × (Int × (Int × ((List UInt8) × ((List TPart) × Unit))))))))) := loopO 650002 (fun x => (fRightHeap_step65_2 x).eval) 18446744073709551616 x
def fRightHeap_ap : List VP1 := [.agg [.i .u32, .i .u32, .i .i64, .i .i64, .i .i64, .i .i64, .s, .st 5 false]]
def fRightHeap_rp : SP := ⟨1, [(0, .v (.one (.b)))], []⟩
def fRightHeap_tree : (Int × (Int × (Int × (Int × (Int × (Int × ((List UInt8) × ((List TPart) × Unit)))))))) -> Tr (Bool × Unit) :=
 fun (a0, a1, a2, a3, a4, a5, a6, a7, _) =>
 .opt ((fRightHeap_loop65_2 (0, (a7, ((↑(a7.length) : Int), (a0, (a1, (a2, (a3, (a4, (a5, (a6, (a7, ()))))))))))))) (fun r0 =>
 .sum (r0) (fun r1 =>
 .ret (r1.1, ())) (fun r1 =>
 .ite (decide ((↑(List.length r1.2.2.2.2.2.2.2.1) : Int) = 0)) (
 .ret (false, ())) (
 .grd (true) (
 .opt (r1.2.2.2.2.2.2.2.1[(0 : Nat)]?) (fun r2 =>
 .ite (decide (r2.at' = 0)) (
 .ret (true, ())) (
 .ite (decide (r1.2.2.2.2.1 = 0)) (
 .ite (decide (r1.2.2.2.2.2.1 = 0)) (
 .ret (decide (r1.2.2.2.2.2.2.1 = []), ())) (
 .ret (false, ()))) (
 .ret (false, ()))))))))
noncomputable def gm8 : List (PF Go.Proofs.Try.prog) := gm7 ++ [FS.pf fSameKey]
theorem fRightHeap_eq (x : (Int × (Int × (Int × (Int × (Int × (Int × ((List UInt8) × ((List TPart) × Unit))))))))) : fnTr Try.prog cod gm8 [(65, fRightHeap_L65_2)] 30 65 fRightHeap_ap fRightHeap_rp x = fRightHeap_tree x := by kernel_rfl
def fRightHeap_fn (x : (Int × (Int × (Int × (Int × (Int × (Int × ((List UInt8) × ((List TPart) × Unit))))))))) : Option (Bool × Unit) := (fRightHeap_tree x).eval
def fRightHeap : FS Try.prog := ⟨65, fRightHeap_ap, fRightHeap_rp, fRightHeap_fn, fun x r h => fnTr_sound (cod := cod) (Γ := gm8) (Λs := [(65, fRightHeap_L65_2)]) (n := 30) ((congrArg Tr.eval (fRightHeap_eq x)).trans h)⟩
def fCheck_L57_2 : LS := ⟨2, [(1000200, 1000200)], ⟨19, [(8, .v (.one (.i .i64))), (0, .v (.one (.st 6 false))), (1, .v (.one (.clp 66 [(1000200, 0)]))), (7, .v (.one (.i .i64)))], [(1000200, .cells [.i .u32, .i .u32, .i .i64, .i .i64, .i .i64, .i .i64, .s, .st 5 false])]⟩, [⟨none, [(1000200, 1000200)], ⟨19, [(4, .v (.one (.i .i64)))], [(1000200, .cells [.i .u32, .i .u32, .i .i64, .i .i64, .i .i64, .i .i64, .s, .st 5 false])]⟩⟩, ⟨some 0, [(1000200, 1000200)], ⟨19, [], [(1000200, .cells [.i .u32, .i .u32, .i .i64, .i .i64, .i .i64, .i .i64, .s, .st 5 false])]⟩⟩], []⟩
abbrev ty5_ : Type := (Int × ((List THeap) × (Int × (Int × (Int × (Int × (Int × (Int × (Int × ((List UInt8) × ((List TPart) × Unit)))))))))))
abbrev ty6_ : Type := (Int × (Int × (Int × (Int × (Int × (Int × (Int × ((List UInt8) × ((List TPart) × Unit)))))))))
def fCheck_step57_2 : ty5_ -> Tr (ty5_ ⊕ (ty6_ ⊕ (Int × (Int × (Int × (Int × (Int × (Int × ((List UInt8) × ((List TPart) × Unit)))))))))) :=
 fun (a0, a1, a2, a3, a4, a5, a6, a7, a8, a9, a10, _) =>
 .ite (decide (a0 < a2)) (
 .grd (decide (0 <= a0)) (
 .opt (a1[Int.toNat a0]?) (fun r0 =>
 .opt ((fSameKey_fn (r0.from', (r0.to, (r0.proto, (r0.id, (r0.tos, (r0.life, (r0.options, (r0.parts, (a3, (a4, (a5, (a6, (a7, (a8, (a9, (a10, ())))))))))))))))))) (fun r1 =>
 .ite (r1.1) (
 .ret (Sum.inr (Sum.inl (a0, (a3, (a4, (a5, (a6, (a7, (a8, (a9, (a10, ())))))))))))) (
 .ret (Sum.inl (wW .i64 (a0 + 1), (a1, (a2, (a3, (a4, (a5, (a6, (a7, (a8, (a9, (a10, ()))))))))))))))))) (
 .ret (Sum.inr (Sum.inr (a3, (a4, (a5, (a6, (a7, (a8, (a9, (a10, ())))))))))))
def fCheck_loop57_2 (x : ty5_) : Option (ty6_ ⊕ (Int × (Int × (Int × (Int × (Int × (Int × ((List UInt8) × ((List TPart) × Unit))))))))) := loopO 570002 (fun x => (fCheck_step57_2 x).eval) 18446744073709551616 x
def fCheck_L33_10 : LS := ⟨10, [], ⟨39, [(23, .v (.one (.i .i64))), (0, .v (.one (.st 6 false))), (21, .v (.one (.st 6 false))), (22, .v (.one (.i .i64)))], []⟩, [⟨none, [], ⟨39, [(2, .v (.one (.i .i64)))], []⟩⟩, ⟨some 2, [], ⟨39, [], []⟩⟩], []⟩
def fCheck_step33_10 : (Int × ((List THeap) × ((List THeap) × (Int × Unit)))) -> Tr ((Int × ((List THeap) × ((List THeap) × (Int × Unit)))) ⊕ ((Int × Unit) ⊕ Unit)) :=
 fun (a0, a1, a2, a3, _) =>
 .ite (decide (a0 < a3)) (
 .grd (decide (0 <= a0)) (
 .opt (a2[Int.toNat a0]?) (fun r0 =>
 .opt ((fRightHeap_fn (r0.from', (r0.to, (r0.proto, (r0.id, (r0.tos, (r0.life, (r0.options, (r0.parts, ())))))))))) (fun r1 =>
 .ite (!r1.1) (
 .ret (Sum.inr (Sum.inl (4, ())))) (
 .grd (decide ((0 : Int) <= (0 : Int) /\ 0 <= a0 /\ a0 <= (↑(a1.length) : Int))) (
 .opt ((fCheck_loop57_2 (0, (List.drop (0 : Nat) (List.take (Int.toNat a0) a1), ((↑(List.length (List.drop (0 : Nat) (List.take (Int.toNat a0) a1))) : Int), (r0.from', (r0.to, (r0.proto, (r0.id, (r0.tos, (r0.life, (r0.options, (r0.parts, ()))))))))))))) (fun r2 =>
 .sum (r2) (fun r3 =>
 .ite (decide (0 <= r3.1)) (
 .ret (Sum.inr (Sum.inl (4, ())))) (
 .ret (Sum.inl (wW .i64 (a0 + 1), (a1, (a2, (a3, ()))))))) (fun r3 =>
 .ite (false) (
 .ret (Sum.inr (Sum.inl (4, ())))) (
 .ret (Sum.inl (wW .i64 (a0 + 1), (a1, (a2, (a3, ())))))))))))))) (
 .ret (Sum.inr (Sum.inr ())))
def fCheck_loop33_10 (x : (Int × ((List THeap) × ((List THeap) × (Int × Unit))))) : Option ((Int × Unit) ⊕ Unit) := loopO 330010 (fun x => (fCheck_step33_10 x).eval) 18446744073709551616 x
def fCheck_L33_4 : LS := ⟨4, [], ⟨39, [(12, .v (.one (.i .i64))), (10, .v (.one (.st 6 false))), (0, .v (.one (.st 6 false))), (11, .v (.one (.i .i64)))], []⟩, [⟨none, [], ⟨39, [(2, .v (.one (.i .i64)))], []⟩⟩, ⟨some 0, [], ⟨39, [(0, .v (.one (.st 6 false)))], []⟩⟩], []⟩
def fCheck_step33_4 : (Int × ((List THeap) × ((List THeap) × (Int × Unit)))) -> Tr ((Int × ((List THeap) × ((List THeap) × (Int × Unit)))) ⊕ ((Int × Unit) ⊕ ((List THeap) × Unit))) :=
 fun (a0, a1, a2, a3, _) =>
 .ite (decide (a0 < a3)) (
 .grd (decide (0 <= a0)) (
 .opt (a1[Int.toNat a0]?) (fun r0 =>
 .ite (decide (64 < (↑(List.length r0.parts) : Int))) (
 .ret (Sum.inr (Sum.inl (2, ())))) (
 .ret (Sum.inl (wW .i64 (a0 + 1), (a1, (a2, (a3, ()))))))))) (
 .ret (Sum.inr (Sum.inr (a2, ()))))
def fCheck_loop33_4 (x : (Int × ((List THeap) × ((List THeap) × (Int × Unit))))) : Option ((Int × Unit) ⊕ ((List THeap) × Unit)) := loopO 330004 (fun x => (fCheck_step33_4 x).eval) 18446744073709551616 x
def fCheck_ap : List VP1 := [.one (.st 6 false)]
def fCheck_rp : SP := ⟨1, [(0, .v (.one (.i .i64)))], []⟩
def fCheck_tree : ((List THeap) × Unit) -> Tr (Int × Unit) :=
 fun (a0, _) =>
 .ite (decide (16 < (↑(a0.length) : Int))) (
 .ret (2, ())) (
 .opt ((fCheck_loop33_4 (0, (a0, (a0, ((↑(a0.length) : Int), ())))))) (fun r0 =>
 .sum (r0) (fun r1 =>
 .ret (r1.1, ())) (fun r1 =>
 .opt ((fCheck_loop33_10 (0, (r1.1, (r1.1, ((↑(List.length r1.1) : Int), ())))))) (fun r2 =>
 .sum (r2) (fun r3 =>
 .ret (r3.1, ())) (fun r3 =>
 .ret (0, ()))))))
noncomputable def gm9 : List (PF Go.Proofs.Try.prog) := gm8 ++ [FS.pf fRightHeap]
theorem fCheck_eq (x : ((List THeap) × Unit)) : fnTr Try.prog cod gm9 [(57, fCheck_L57_2), (33, fCheck_L33_10), (33, fCheck_L33_4)] 30 33 fCheck_ap fCheck_rp x = fCheck_tree x := by kernel_rfl
def fCheck_fn (x : ((List THeap) × Unit)) : Option (Int × Unit) := (fCheck_tree x).eval
def fCheck : FS Try.prog := ⟨33, fCheck_ap, fCheck_rp, fCheck_fn, fun x r h => fnTr_sound (cod := cod) (Γ := gm9) (Λs := [(57, fCheck_L57_2), (33, fCheck_L33_10), (33, fCheck_L33_4)]) (n := 30) ((congrArg Tr.eval (fCheck_eq x)).trans h)⟩
def fRefused_ap : List VP1 := [.agg [.i .i64, .i .i64, .b, .b, .i .i64, .i .i64, .i .i64, .i .u32, .i .u32, .s, .s]]
def fRefused_rp : SP := ⟨1, [(0, .v (.one (.i .i64)))], []⟩
def fRefused_tree : ty0_ -> Tr (Int × Unit) :=
 fun (a0, a1, a2, a3, a4, a5, a6, a7, a8, a9, a10, _) =>
 .ite (decide (65515 < wW .i64 (wW .i64 ((8 : Int) * a4) + (↑(a10.length) : Int)))) (
 .ret (2, ())) (
 .ite (decide (a10 = [])) (
 .ret (4, ())) (
 .ite (a3) (
 .grd (true) (
 .ite (!decide (Int.tmod (↑(a10.length) : Int) (8 : Int) = (0 : Int))) (
 .ret (4, ())) (
 .ret (0, ())))) (
 .ret (0, ()))))
noncomputable def gm10 : List (PF Go.Proofs.Try.prog) := gm9 ++ [FS.pf fCheck]
theorem fRefused_eq (x : ty0_) : fnTr Try.prog cod gm10 [] 30 56 fRefused_ap fRefused_rp x = fRefused_tree x := by kernel_rfl
def fRefused_fn (x : ty0_) : Option (Int × Unit) := (fRefused_tree x).eval
def fRefused : FS Try.prog := ⟨56, fRefused_ap, fRefused_rp, fRefused_fn, fun x r h => fnTr_sound (cod := cod) (Γ := gm10) (Λs := []) (n := 30) ((congrArg Tr.eval (fRefused_eq x)).trans h)⟩
theorem clParts_h1 (xs : List (τ 5)) : (bodyTr Go.Proofs.Try.prog cod 34 [.one (.nn (.st 5 xs))]).eval = (cloneRes 86 5 32 xs).eval := by kernel_rfl
theorem clParts_h2 : (bodyTr Go.Proofs.Try.prog cod 34 [.one .nil]).eval = some (.one .nil, []) := by kernel_rfl
def clParts : PF Go.Proofs.Try.prog := clonePF Go.Proofs.Try.prog cod 34 86 5 32 clParts_h1 clParts_h2
def fOwn_L55_3 : LS := ⟨3, [(8, 8)], ⟨25, [(11, .v (.one (.i .i64))), (3, .v (.one (.dp 8))), (9, .v (.one (.st 6 false))), (10, .v (.one (.i .i64)))], [(8, .deep 83 86 6)]⟩, [⟨some 0, [(8, 8)], ⟨25, [(3, .v (.one (.dp 8)))], [(8, .deep 83 86 6)]⟩⟩], []⟩
def fOwn_step55_3 : (Int × (Nat × ((List THeap) × (Int × ((List THeap) × Unit))))) -> Tr ((Int × (Nat × ((List THeap) × (Int × ((List THeap) × Unit))))) ⊕ (Nat × ((List THeap) × Unit))) :=
 fun (a0, a1, a2, a3, a4, _) =>
 .ite (decide (a0 < a3)) (
 .grd (decide (0 <= a0)) (
 .opt (a2[Int.toNat a0]?) (fun r0 =>
 .grd (decide (((0 : Nat) + List.length r0.parts) * (32 : Nat) <= (140737488355328 : Nat) /\ (0 : Nat) + List.length r0.parts <= (9223372036854775807 : Nat))) (
 .grd (decide ((a4.length + List.length [THeap.mk r0.from' r0.to r0.proto r0.id r0.tos r0.life r0.options r0.parts]) * (80 : Nat) <= (140737488355328 : Nat) /\ a4.length + List.length [THeap.mk r0.from' r0.to r0.proto r0.id r0.tos r0.life r0.options r0.parts] <= (9223372036854775807 : Nat))) (
 .grd (decide (List.length (a4 ++ [THeap.mk r0.from' r0.to r0.proto r0.id r0.tos r0.life r0.options r0.parts]) = List.length (a4 ++ [THeap.mk r0.from' r0.to r0.proto r0.id r0.tos r0.life r0.options r0.parts]))) (
 .ret (Sum.inl (wW .i64 (a0 + 1), (List.length (a4 ++ [THeap.mk r0.from' r0.to r0.proto r0.id r0.tos r0.life r0.options r0.parts]), (a2, (a3, (a4 ++ [THeap.mk r0.from' r0.to r0.proto r0.id r0.tos r0.life r0.options r0.parts], ())))))))))))) (
 .grd (decide (a4.length = a4.length)) (
 .ret (Sum.inr (a1, (a4, ())))))
def fOwn_loop55_3 (x : (Int × (Nat × ((List THeap) × (Int × ((List THeap) × Unit)))))) : Option (Nat × ((List THeap) × Unit)) := loopO 550003 (fun x => (fOwn_step55_3 x).eval) 18446744073709551616 x
def fOwn_ap : SP := ⟨25, [(0, .v (.one (.st 6 false)))], []⟩
def fOwn_rp : SP := ⟨1, [(0, .v (.one (.dp 2000000)))], [(2000000, .deep 83 86 6)]⟩
def fOwn_tree : ((List THeap) × Unit) -> Tr (Nat × ((List THeap) × Unit)) :=
 fun (a0, _) =>
 .grd (decide ((0 : Int) <= (0 : Int) /\ 0 <= (↑(a0.length) : Int) /\ Int.toNat (↑(a0.length) : Int) * (80 : Nat) <= (140737488355328 : Nat) /\ (↑(a0.length) : Int) <= (↑(9223372036854775807 : Nat) : Int))) (
 .grd (true) (
 .opt ((fOwn_loop55_3 (0, (Int.toNat (↑(a0.length) : Int), (a0, ((↑(a0.length) : Int), (List.replicate (0 : Nat) (THeap.mk (0 : Int) (0 : Int) (0 : Int) (0 : Int) (0 : Int) (0 : Int) [] []), ()))))))) (fun r0 =>
 .grd (decide (List.length r0.2.fst = List.length r0.2.1)) (
 .ret (r0.1, (r0.2.1, ()))))))
noncomputable def gm11 : List (PF Go.Proofs.Try.prog) := gm10 ++ [FS.pf fRefused, clParts]
theorem fOwn_eq (x : ((List THeap) × Unit)) : gsTr Try.prog cod gm11 [(55, fOwn_L55_3)] 30 55 fOwn_ap fOwn_rp x = fOwn_tree x := by kernel_rfl
def fOwn_fn (x : ((List THeap) × Unit)) : Option (Nat × ((List THeap) × Unit)) := (fOwn_tree x).eval
def fOwn : GS Try.prog := ⟨55, [0], fOwn_ap, fOwn_rp, fOwn_fn, fun x r h ys m g he hg => gs_sound (cod := cod) (Γ := gm11) (Λs := [(55, fOwn_L55_3)]) (n := 30) ((congrArg Tr.eval (fOwn_eq x)).trans h) he hg⟩
def fDel_ap : SP := ⟨33, [(0, .v (.one (.dp 1000100))), (1, .v (.one (.i .i64))), (2, .v (.one (.i .i64)))], [(1000100, .deep 83 86 6)]⟩
def fDel_rp : SP := ⟨1, [(0, .v (.one (.dp 1000100)))], [(1000100, .deep 83 86 6)]⟩
def fDel_tree : (Nat × (Int × (Int × ((List THeap) × Unit)))) -> Tr (Nat × ((List THeap) × Unit)) :=
 fun (a0, a1, a2, a3, _) =>
 .grd (decide (0 <= a1 /\ a1 <= a2 /\ a2 <= (↑(a3.length) : Int) /\ (↑(a3.length) : Int) <= (↑(a3.length) : Int))) (
 .ite (decide (a1 = a2)) (
 .grd (decide (a3.length = a3.length)) (
 .ret (a0, (a3, ())))) (
 .grd (decide ((0 : Int) <= (0 : Int) /\ 0 <= a1 /\ a1 <= (↑a0 : Int))) (
 .grd (decide (0 <= a2 /\ a2 <= (↑(a3.length) : Int) /\ (↑(a3.length) : Int) <= (↑a0 : Int))) (
 .grd (decide ((0 : Nat) = (0 : Nat) /\ Int.toNat (a1 - 0) <= Int.toNat a2 /\ Int.toNat a2 + Int.toNat ((↑(a3.length) : Int) - a2) = a3.length)) (
 .grd (decide (0 <= (↑(List.length (List.take (Int.toNat (a1 - 0)) a3 ++ List.drop (Int.toNat a2) a3)) : Int) /\ (↑(List.length (List.take (Int.toNat (a1 - 0)) a3 ++ List.drop (Int.toNat a2) a3)) : Int) <= (↑(a3.length) : Int) /\ (↑(a3.length) : Int) <= (↑(a3.length) : Int))) (
 .grd (decide (List.length (List.take (Int.toNat (a1 - 0)) a3 ++ List.drop (Int.toNat a2) a3) <= Int.toNat (↑(List.length (List.take (Int.toNat (a1 - 0)) a3 ++ List.drop (Int.toNat a2) a3)) : Int))) (
 .grd (decide (List.length (List.take (Int.toNat (a1 - 0)) a3 ++ List.drop (Int.toNat a2) a3) = List.length (List.take (Int.toNat (a1 - 0)) a3 ++ List.drop (Int.toNat a2) a3))) (
 .ret (a3.length, (List.take (Int.toNat (a1 - 0)) a3 ++ List.drop (Int.toNat a2) a3, ()))))))))))
noncomputable def gm12 : List (PF Go.Proofs.Try.prog) := gm11 ++ [GS.pf fOwn]
theorem fDel_eq (x : (Nat × (Int × (Int × ((List THeap) × Unit))))) : gsTr Try.prog cod gm12 [] 30 60 fDel_ap fDel_rp x = fDel_tree x := by kernel_rfl
def fDel_fn (x : (Nat × (Int × (Int × ((List THeap) × Unit))))) : Option (Nat × ((List THeap) × Unit)) := (fDel_tree x).eval
def fDel : GS Try.prog := ⟨60, [1, 0, 0], fDel_ap, fDel_rp, fDel_fn, fun x r h ys m g he hg => gs_sound (cod := cod) (Γ := gm12) (Λs := []) (n := 30) ((congrArg Tr.eval (fDel_eq x)).trans h) he hg⟩
end Go.Proofs.Ythnijeclidpooaa.X
namespace Go.Proofs.Ythnijeclidpooaa.X
open Go Go.RowKit Go.Lib Go.Proofs.Ythnijeclidpooaa.Abs
set_option linter.unusedVariables false
set_option linter.unusedSimpArgs false
theorem run_copyN {P : Program} (w : World) (dT sT ty elem : TypeId) (sz b o dLen dCap : Nat) (a : Addr) (sLen sCap : Nat) (cs : List Value)
  (hu : P.underlying dT = some (.slice elem)) (hs : (P.info? elem).map (·.size) = some sz) (hn : cs.length = Nat.min sLen dLen * sz)
  (hsrc : ∀ j v, cs[j]? = some v -> w.cell? (a.add j) = some v) (hc : ∀ j, j < cs.length -> (w.cell? ⟨b, o + j, none⟩).isSome = true) (hf : ∀ j, j < cs.length -> w.frozen? ⟨b, o + j, none⟩ = false) (h1 : ∀ v ∈ cs, v.oneCell' = true) :
  (Builtin.copy_ #[dT, sT] ty #[.slice (some ⟨b, o, none⟩) dLen dCap, .slice (some a) sLen sCap]).run P w = .ok (goInt (Nat.min sLen dLen)) (w.setCells b o cs) := by
 have hl := run_loadCells_list (P := P) w a cs hsrc
 have hst := run_storeCells_cells (P := P) b o cs 0 w (by simpa using hc) (by simpa using hf) h1
 cases hq : P.info? elem with
 | none => simp [hq] at hs
 | some i =>
  have hi : i.size = sz := by simpa [hq] using hs
  rw [hn] at hl
  simp [Builtin.copy_, run_underlying hu, Builtin.lenOf, Builtin.firstCells, sizeOf, typeInfo, hq, hi, hl, hst]
def InsOk (w w' : World) (v0 v' : Value) (rows : List (List D)) : Prop :=
 w.grownBy w' v0.ownBlock /\ (v'.ownBlock = v0.ownBlock \/ v'.ownBlock = some w.heap.size) /\ (∀ b, v'.ownBlock = some b -> b < w'.heap.size) /\ RowRel w' (fun _ => False) 86 3 v' rows
structure OnePart (w : World) (b o : Nat) (vs : List Value) (r : List D) : Prop where
 len : vs.length = 3
 cell : ∀ j v, vs[j]? = some v -> w.cell? ⟨b, o + j, none⟩ = some v
 one : ∀ v ∈ vs, v.oneCell' = true
 rep : ∀ (j : Nat) (v : Value) (d : D), vs[j]? = some v -> r[j]? = some d -> RepI w (fun _ => False) v d
 rlen : r.length = 3
set_option maxRecDepth 100000 in
set_option maxHeartbeats 4000000 in
theorem Insert_end (v0 : Value) (rows : List (List D)) (vb voff vc : Nat) (vs : List Value) (r : List D) (w : World) (h0 : RowRel w (fun _ => False) 86 3 v0 rows) (hrl : ∀ r ∈ rows, r.length = 3)
  (hv : OnePart w vb voff vs r) (hn : rows.length <= 1000000) :
  Calls Try.prog 80 #[v0, .int .i64 rows.length, .slice (some ⟨vb, voff, none⟩) 1 vc] w fun e w' => ∃ v', e = .returned v' /\ InsOk w w' v0 v' (rows ++ [r]) := by
 have hform : ∃ ao c, v0 = .slice ao rows.length c := by
  rcases h0 with ⟨rfl, rfl⟩ | ⟨g, cap, cur, fz, rfl, _⟩
  . exact ⟨_, _, rfl⟩
  . exact ⟨_, _, rfl⟩
 obtain ⟨v', w', hrun, hgrow, hob, hlt, hrow⟩ := append_core (P := Try.prog) (w := w) (UU := fun _ => False) (t := 81) (ty := 81) (e := 86) (sz := 3) (zs := [.d (.i .i64 0), .d (.s []), .d (.b false)]) (rows := rows) (new := [r]) (v0 := v0) (ao := some ⟨vb, voff, none⟩) (cap := vc) (by kernel_rfl) (by kernel_rfl) (by kernel_rfl) (by decide) h0 hrl (fun x hx => by rw [List.mem_singleton] at hx; rw [hx]; exact hv.rlen) (fun e => by cases e)
  (fun ad e _ => by
    cases e
    refine ⟨rfl, fun i j r' d hi hj => ?_⟩
    cases i with
    | succ i => simp at hi
    | zero =>
     cases hi
     have hjl : j < vs.length := by have := (List.getElem?_eq_some_iff.1 hj).1; rw [hv.rlen] at this; rw [hv.len]; exact this
     refine ⟨vs[j], ?_, hv.one _ (List.getElem_mem hjl), hv.rep j _ d (List.getElem?_eq_getElem hjl) hj⟩
     rw [Nat.zero_mul, Nat.add_zero]
     exact hv.cell j _ (List.getElem?_eq_getElem hjl))
  (by show rows.length + 1 <= maxLen; unfold maxLen; omega) (by show (rows.length + 1) * 32 <= 140737488355328; omega) (fun b hb => hb.elim)
 obtain ⟨ao, c, rfl⟩ := hform
 cases ao with
 | none =>
  go_enter Try.func80, Try.ntmps80
  go_wp2_with (at_builtin; refine Lib.wpList_append_run _ rfl _ _ _ _ rfl _ _ rfl rfl _ _ hrun ?_)
  go_ret
  exact ⟨_, rfl, hgrow, hob, hlt, hrow⟩
 | some ad =>
  obtain ⟨ab, ao, asp⟩ := ad
  go_enter Try.func80, Try.ntmps80
  go_wp2_with (at_builtin; refine Lib.wpList_append_run _ rfl _ _ _ _ rfl _ _ rfl rfl _ _ hrun ?_)
  all_goals (go_ret; exact ⟨_, rfl, hgrow, hob, hlt, hrow⟩)
set_option maxRecDepth 100000 in
set_option maxHeartbeats 4000000 in
theorem Insert_room (g n cap i : Nat) (cur : Array Value) (vb voff vc : Nat) (vs : List Value) (r : List D) (w : World) (hg : w.heap[g]? = some (.cells cur 86 (0, 0))) (hi : i < n) (hroom : n + 1 <= cap) (hcap : cap <= maxLen) (hsz : cur.size = cap * 3)
  (hone : ∀ j, j < n * 3 -> ∀ v, cur[j]? = some v -> v.oneCell' = true) (hv : OnePart w vb voff vs r) (hvb : vb ≠ g) (tA : TypeId) (kA : Nat) (hsa : w.shape? vb = some (tA, kA)) (hfa : w.frozen? ⟨vb, voff, none⟩ = false) (hfe : w.frozen? ⟨vb, kA, none⟩ = false) :
  Calls Try.prog 80 #[.slice (some ⟨g, 0, none⟩) n cap, .int .i64 i, .slice (some ⟨vb, voff, none⟩) 1 vc] w fun e w' =>
    e = .returned (.slice (some ⟨g, 0, none⟩) (n + 1) cap) /\ w' = (w.drew.setCells g ((i + 1) * 3) ((cur.toList.drop (i * 3)).take ((n - i) * 3))).setCells g (i * 3) vs := by
 have hz2 : ¬ ((i : Int) = (n : Int)) := by omega
 have hlim : cap <= 9223372036854775807 := hcap
 have hw1 : IntKind.i64.wrap ((i : Int) + 1) = (i : Int) + 1 := by rw [IntKind.wrap_i64]; omega
 have hb1 : (0 : Int) <= (i : Int) + 1 := by omega
 have hin : i <= n := by omega
 have htn : ((i : Int) + 1).toNat = i + 1 := by omega
 have hb2 : ¬ (cap = i + 1) := by omega
 have hb3 : (i : Int) <= (n : Int) + 1 := by omega
 have hb4 : ¬ (cap = i) := by omega
 have hsa' : w.shape? (⟨vb, voff, none⟩ : Addr).block = some (tA, kA) := hsa
 have hsb : w.shape? (⟨g, (i + 1) * 3, none⟩ : Addr).block = some (86, cur.size) := by simp [World.shape?, hg]
 have hov : ∀ lb cb, (callFunc 87 #[.slice (some ⟨vb, voff, none⟩) 1 vc, .slice (some ⟨g, (i + 1) * 3, none⟩) lb cb]).run Try.prog w = .ok (.value (.bool false)) w := fun lb cb => by
  rw [run_callFunc_extern Try.func87 (by kernel_rfl) (by kernel_rfl) (by kernel_rfl) (e := Extern.SlicesOverlaps.overlaps #[81, 81] #[4]) (by kernel_rfl),
    Lib.run_overlaps_apart w 81 4 86 (by kernel_rfl) 3 (fun _ => by kernel_rfl) ⟨vb, voff, none⟩ ⟨g, (i + 1) * 3, none⟩ 1 vc lb cb hvb tA _ kA _ hsa' hsb (by omega) hfa hfe]
  rfl
 have mixed : Try.prog.follows Departure.mixedOrders = true := by kernel_rfl
 obtain ⟨CS, hCS⟩ : ∃ CS, CS = (cur.toList.drop (i * 3)).take ((n - i) * 3) := ⟨_, rfl⟩
 rw [<- hCS]
 have hmul : (n - i) * 3 + i * 3 = n * 3 := by omega
 have hcl : CS.length = (n - i) * 3 := by rw [hCS, List.length_take, List.length_drop, Array.length_toList]; omega
 have hcget : ∀ j v, CS[j]? = some v -> j < (n - i) * 3 /\ cur[i * 3 + j]? = some v := fun j v hj => by
  have h1 := (List.getElem?_eq_some_iff.1 hj).1
  rw [hCS, List.getElem?_take] at hj
  split at hj
  . rename_i h2; rw [List.getElem?_drop, Array.getElem?_toList] at hj; exact ⟨h2, hj⟩
  . cases hj
 have hin1 : ∀ k, k < cap * 3 -> (w.cell? ⟨g, k, none⟩).isSome = true := fun k hk => by simp only [World.cell?, hg]; rw [Array.getElem?_eq_getElem (by omega)]; rfl
 have hfz : ∀ k, w.frozen? ⟨g, k, none⟩ = false := fun k => by simp [World.frozen?, hg]
 have hsz3 : (Try.prog.info? 86).map (·.size) = some 3 := by kernel_rfl
 have htu : Try.prog.underlying 81 = some (.slice 86) := by kernel_rfl
 have hcp1 : ∀ ty dc sc, (Builtin.copy_ #[81, 81] ty #[.slice (some ⟨g, (i + 1) * 3, none⟩) (n - i) dc, .slice (some ⟨g, i * 3, none⟩) (n + 1 - i) sc]).run Try.prog w.drew = .ok (goInt ((n - i : Nat) : Int)) (w.drew.setCells g ((i + 1) * 3) CS) := fun ty dc sc => by
  have h := run_copyN (P := Try.prog) w.drew 81 81 ty 86 3 g ((i + 1) * 3) (n - i) dc ⟨g, i * 3, none⟩ (n + 1 - i) sc CS htu hsz3 (by rw [hcl]; congr 1; simp only [Nat.min_def]; split <;> omega)
    (fun j v hj => by
     rw [Addr.add_lit]
     obtain ⟨_, h2⟩ := hcget j v hj
     show w.cell? _ = _
     simp only [World.cell?, hg]; exact h2)
    (fun j hj => hin1 _ (by omega)) (fun j hj => hfz _) (fun v hv => by
     obtain ⟨j, hj⟩ := List.mem_iff_getElem?.1 hv
     obtain ⟨h1, h2⟩ := hcget j v hj
     exact hone _ (by omega) v h2)
  have hm : Nat.min (n + 1 - i) (n - i) = n - i := by simp only [Nat.min_def]; split <;> omega
  rw [hm] at h
  exact h
 obtain ⟨W1, hW1⟩ : ∃ W1, W1 = w.drew.setCells g ((i + 1) * 3) CS := ⟨_, rfl⟩
 have hsp1 : ∀ k, k < cap * 3 -> (W1.cell? ⟨g, k, none⟩).isSome = true := fun k hk => by
  rw [hW1]
  exact isSome_setCells g CS ((i + 1) * 3) w.drew (fun j hj => hin1 _ (by rw [hcl] at hj; omega)) _ (hin1 k hk)
 have hcp2 : ∀ (W : World), (∀ x, W.cell? x = W1.cell? x) -> (∀ x, W.frozen? x = W1.frozen? x) -> ∀ ty dc, (Builtin.copy_ #[81, 81] ty #[.slice (some ⟨g, i * 3, none⟩) (n + 1 - i) dc, .slice (some ⟨vb, voff, none⟩) 1 vc]).run Try.prog W = .ok (goInt 1) (W.setCells g (i * 3) vs) := fun W hWc hWf ty dc => by
  have h := run_copyN (P := Try.prog) W 81 81 ty 86 3 g (i * 3) (n + 1 - i) dc ⟨vb, voff, none⟩ 1 vc vs htu hsz3 (by rw [hv.len]; simp only [Nat.min_def]; split <;> omega)
    (fun j v hj => by
     rw [Addr.add_lit, hWc, hW1, World.cell?_setCells_out g _ _ _ _ (fun h _ => absurd h hvb)]
     exact hv.cell j v hj)
    (fun j hj => by rw [hWc]; exact hsp1 _ (by rw [hv.len] at hj; omega)) (fun j hj => by rw [hWf, hW1, World.frozen?_setCells]; exact hfz _) hv.one
  have hm : Nat.min 1 (n + 1 - i) = 1 := by simp only [Nat.min_def]; split <;> omega
  rw [hm] at h
  exact h
 rw [<- hW1] at hcp1
 go_enter Try.func80, Try.ntmps80
 go_wp2_with (simp only [hov])
 go_region_law_o (refine step_copy_runI rfl _ _ 81 81 rfl _ _ (by simp [Act.eval, Act.put]) (by simp [Act.eval, Act.put]) (hcp1 _ _ _) ?_)
 go_wp2_with (at_builtin; refine wpList_copy_runI _ rfl _ _ 81 81 rfl _ _ rfl rfl (hcp2 _ (fun _ => rfl) (fun _ => rfl) _ _) ?_)
 go_ret
 first | exact ⟨rfl, rfl⟩ | exact ⟨rfl, by rw [hW1]⟩ | exact ⟨rfl, by rw [hCS]⟩ | exact ⟨rfl, by rw [hW1, hCS]⟩
def zPart : Value := .agg #[.int .i64 0, .string ⟨#[]⟩, .bool false]
set_option maxRecDepth 100000 in
set_option maxHeartbeats 4000000 in
theorem Insert_grow (g n cap i : Nat) (cur : Array Value) (vb voff vc : Nat) (vs : List Value) (r : List D) (w : World) (hg : w.heap[g]? = some (.cells cur 86 (0, 0))) (hi : i < n) (hnc : n <= cap) (hroom : cap < n + 1) (hbig : n <= 1000000) (hsz : cur.size = cap * 3)
  (hone : ∀ j, j < n * 3 -> ∀ v, cur[j]? = some v -> v.oneCell' = true) (hv : OnePart w vb voff vs r) :
  Calls Try.prog 80 #[.slice (some ⟨g, 0, none⟩) n cap, .int .i64 i, .slice (some ⟨vb, voff, none⟩) 1 vc] w fun e w' =>
    e = .returned (.slice (some ⟨w.heap.size, 0, none⟩) (n + 1) (grownCap w (n + 1) cap 86)) /\
    w' = (((w.alloc (.cells ((cur.toList.take (i * 3)).toArray ++ Builtin.zeroCells zPart.cells (n + 1 - i) ++ Builtin.zeroCells zPart.cells (grownCap w (n + 1) cap 86 - (n + 1))) 86)).drew.setCells w.heap.size (i * 3) vs).drew).setCells w.heap.size ((i + 1) * 3) ((cur.toList.drop (i * 3)).take ((n - i) * 3)) := by
 have mixed : Try.prog.follows Departure.mixedOrders = true := by kernel_rfl
 have hz2 : ¬ ((i : Int) = (n : Int)) := by omega
 have hz3 : (cap : Int) < (n : Int) + 1 := by omega
 obtain ⟨i0, hi0⟩ := Option.isSome_iff_exists.1 (show (Try.prog.info? 86).isSome = true by kernel_rfl)
 have hz0 : i0.zero = some zPart := by have h : (Try.prog.info? 86).bind (·.zero) = some zPart := (by kernel_rfl); rw [hi0] at h; exact h
 have hzs : i0.size = 3 := by have h : (Try.prog.info? 86).map (·.size) = some 3 := (by kernel_rfl); rw [hi0] at h; exact Option.some.inj h
 have hzb : i0.bytes = 32 := by have h : (Try.prog.info? 86).map (·.bytes) = some 32 := (by kernel_rfl); rw [hi0] at h; exact Option.some.inj h
 have hsz3 : (Try.prog.info? 86).map (·.size) = some 3 := by kernel_rfl
 have htu : Try.prog.underlying 81 = some (.slice 86) := by kernel_rfl
 have htn : Try.prog.underlying 3 = some (.int .i64) := by kernel_rfl
 have hgw : g < w.heap.size := (Array.getElem?_eq_some_iff.1 hg).1
 have hvw : vb < w.heap.size := block_lt_of_cell (hv.cell 0 _ (List.getElem?_eq_getElem (by rw [hv.len]; decide)))
 have hkk : (n : Int) + 1 - (i : Int) = ((n + 1 - i : Nat) : Int) := by omega
 have hik : i + (n + 1 - i) = n + 1 := by omega
 have hcapn : cap = n := by omega
 obtain ⟨CS, hCS⟩ : ∃ CS, CS = (cur.toList.drop (i * 3)).take ((n - i) * 3) := ⟨_, rfl⟩
 obtain ⟨OLD, hOLD⟩ : ∃ OLD, OLD = cur.toList.take (i * 3) := ⟨_, rfl⟩
 rw [<- hCS, <- hOLD]
 have hol : OLD.length = i * 3 := by rw [hOLD, List.length_take, Array.length_toList]; omega
 have hcl : CS.length = (n - i) * 3 := by rw [hCS, List.length_take, List.length_drop, Array.length_toList]; omega
 have hcget : ∀ j v, CS[j]? = some v -> j < (n - i) * 3 /\ cur[i * 3 + j]? = some v := fun j v hj => by
  rw [hCS, List.getElem?_take] at hj
  split at hj
  . rename_i h2; rw [List.getElem?_drop, Array.getElem?_toList] at hj; exact ⟨h2, hj⟩
  . cases hj
 have hold : (Builtin.firstCells i0.size i (.slice (some ⟨g, 0, none⟩) i cap)).run Try.prog w.drew = .ok OLD.toArray w.drew := by
  rw [hzs]
  exact run_firstCells_some w.drew 3 i ⟨g, 0, none⟩ i cap OLD hol (fun j v hj => by
    rw [Addr.add_lit, Nat.zero_add]
    rw [hOLD, List.getElem?_take] at hj
    split at hj
    . rw [Array.getElem?_toList] at hj
      show w.cell? _ = _
      simp only [World.cell?, hg]; exact hj
    . cases hj)
 have hrz : ∀ ty, (Builtin.append_ #[81, 3] ty #[.slice (some ⟨g, 0, none⟩) i cap, .int .i64 ((n : Int) + 1 - (i : Int))]).run Try.prog w =
    .ok (.slice (some ⟨w.heap.size, 0, none⟩) (n + 1) (grownCap w (n + 1) cap 86)) (w.drew.alloc (.cells (OLD.toArray ++ Builtin.zeroCells zPart.cells (n + 1 - i) ++ Builtin.zeroCells zPart.cells (grownCap w (n + 1) cap 86 - (n + 1))) 86)) := fun ty => by
  have h := Lib.run_append_grow_zeros w 81 3 ty 86 i0 _ .i64 .i64 htu htn hi0 hz0 (some ⟨g, 0, none⟩) i cap OLD hold (n + 1 - i) (by omega) (by omega) (by omega) (by omega) (by rw [hzb]; omega) (by rw [hzb, hik]; exact growslice_fits hroom (by omega))
  rw [hik] at h
  rw [hkk]
  exact h
 obtain ⟨G, hG⟩ : ∃ G, G = grownCap w (n + 1) cap 86 := ⟨_, rfl⟩
 obtain ⟨ROW, hROW⟩ : ∃ ROW : Array Value, ROW = OLD.toArray ++ Builtin.zeroCells zPart.cells (n + 1 - i) ++ Builtin.zeroCells zPart.cells (G - (n + 1)) := ⟨_, rfl⟩
 rw [<- hG] at hrz ⊢
 rw [<- hROW] at hrz ⊢
 have hGn : n + 1 <= G := by rw [hG]; exact grownCap_ge w _ _ _
 have hzc : zPart.cells.size = 3 := rfl
 have hRl : ROW.size = G * 3 := by
  rw [hROW]
  simp only [Array.size_append, size_zeroCells, hzc, List.size_toArray, hol]
  omega
 obtain ⟨W1, hW1⟩ : ∃ W1, W1 = w.drew.alloc (.cells ROW 86) := ⟨_, rfl⟩
 rw [<- hW1] at hrz
 have hN : ∀ j, j < (n + 1) * 3 -> (W1.cell? ⟨w.heap.size, j, none⟩).isSome = true := fun j hj => by
  rw [hW1, World.cell?_alloc_at (w := w.drew) ROW _ w.heap.size j rfl, Array.getElem?_eq_getElem (by omega)]; rfl
 have hNf : ∀ j, W1.frozen? ⟨w.heap.size, j, none⟩ = false := fun j => by rw [hW1]; exact World.frozen?_alloc_at (w := w.drew) ROW _ w.heap.size j rfl
 have hOb : ∀ j v, cur[j]? = some v -> W1.cell? ⟨g, j, none⟩ = some v := fun j v h => by
  rw [hW1, World.cell?_alloc_past (w := w.drew) _ g j hgw]
  show w.cell? _ = _
  simp only [World.cell?, hg]; exact h
 have hOv : ∀ j v, w.cell? ⟨vb, j, none⟩ = some v -> W1.cell? ⟨vb, j, none⟩ = some v := fun j v h => by rw [hW1, World.cell?_alloc_past (w := w.drew) _ vb j hvw]; exact h
 have hcpA : ∀ (W : World), (∀ x, W.cell? x = W1.cell? x) -> (∀ x, W.frozen? x = W1.frozen? x) -> ∀ ty dc, (Builtin.copy_ #[81, 81] ty #[.slice (some ⟨w.heap.size, i * 3, none⟩) (n + 1 - i) dc, .slice (some ⟨vb, voff, none⟩) 1 vc]).run Try.prog W = .ok (goInt 1) (W.setCells w.heap.size (i * 3) vs) := fun W hWc hWf ty dc => by
  have h := run_copyN (P := Try.prog) W 81 81 ty 86 3 w.heap.size (i * 3) (n + 1 - i) dc ⟨vb, voff, none⟩ 1 vc vs htu hsz3 (by rw [hv.len]; simp only [Nat.min_def]; split <;> omega)
    (fun j v hj => by rw [Addr.add_lit, hWc]; exact hOv _ v (hv.cell j v hj))
    (fun j hj => by rw [hWc]; exact hN _ (by rw [hv.len] at hj; omega)) (fun j hj => by rw [hWf]; exact hNf _) hv.one
  have hm : Nat.min 1 (n + 1 - i) = 1 := by simp only [Nat.min_def]; split <;> omega
  rw [hm] at h
  exact h
 have hG63 : G <= 9223372036854775807 := by
  have := grownCap_le_maxLen w (n + 1) cap 86 (by unfold maxLen; omega)
  rw [<- hG] at this
  unfold maxLen at this
  omega
 have hGi : ¬ (G = i) := by omega
 have hGim : ¬ (G = i + 1) := by omega
 have hci : ¬ (cap = i) := by omega
 have hbN : g ≠ w.heap.size := by omega
 have hcpB : ∀ (W : World), (∀ x, W.cell? x = (W1.setCells w.heap.size (i * 3) vs).cell? x) -> (∀ x, W.frozen? x = (W1.setCells w.heap.size (i * 3) vs).frozen? x) -> ∀ ty dc sc, (Builtin.copy_ #[81, 81] ty #[.slice (some ⟨w.heap.size, (i + 1) * 3, none⟩) (n - i) dc, .slice (some ⟨g, i * 3, none⟩) (n - i) sc]).run Try.prog W = .ok (goInt ((n - i : Nat) : Int)) (W.setCells w.heap.size ((i + 1) * 3) CS) := fun W hWc hWf ty dc sc => by
  have h := run_copyN (P := Try.prog) W 81 81 ty 86 3 w.heap.size ((i + 1) * 3) (n - i) dc ⟨g, i * 3, none⟩ (n - i) sc CS htu hsz3 (by rw [hcl]; congr 1; simp only [Nat.min_def]; split <;> omega)
    (fun j v hj => by
      rw [Addr.add_lit, hWc, World.cell?_setCells_out _ _ _ _ _ (fun h _ => absurd h hbN)]
      exact hOb _ v (hcget j v hj).2)
    (fun j hj => by rw [hWc]; exact isSome_setCells _ vs (i * 3) W1 (fun t ht => hN _ (by rw [hv.len] at ht; omega)) _ (hN _ (by rw [hcl] at hj; omega)))
    (fun j hj => by rw [hWf, World.frozen?_setCells]; exact hNf _) (fun v hv => by
      obtain ⟨j, hj⟩ := List.mem_iff_getElem?.1 hv
      obtain ⟨h1, h2⟩ := hcget j v hj
      exact hone _ (by omega) v h2)
  have hm : Nat.min (n - i) (n - i) = n - i := by simp only [Nat.min_def]; split <;> omega
  rw [hm] at h
  exact h
 subst hW1
 have hE1 : ∀ x, ((w.alloc (.cells ROW 86)).drew).cell? x = (w.drew.alloc (.cells ROW 86)).cell? x := fun x => rfl
 have hE2 : ∀ x, ((w.alloc (.cells ROW 86)).drew).frozen? x = (w.drew.alloc (.cells ROW 86)).frozen? x := fun x => rfl
 have hF1 : ∀ x, (((w.alloc (.cells ROW 86)).drew.setCells w.heap.size (i * 3) vs).drew).cell? x = ((w.drew.alloc (.cells ROW 86)).setCells w.heap.size (i * 3) vs).cell? x := fun x => rfl
 have hF2 : ∀ x, (((w.alloc (.cells ROW 86)).drew.setCells w.heap.size (i * 3) vs).drew).frozen? x = ((w.drew.alloc (.cells ROW 86)).setCells w.heap.size (i * 3) vs).frozen? x := fun x => rfl
 have hw1 : IntKind.i64.wrap ((i : Int) + 1) = (i : Int) + 1 := by rw [IntKind.wrap_i64]; omega
 have hb1 : (0 : Int) <= (i : Int) + 1 := by omega
 have hin : i <= n := by omega
 have htn' : ((i : Int) + 1).toNat = i + 1 := by omega
 have hb3 : (i : Int) <= (n : Int) := by omega
 clear hkk hik hold hROW hG hRl hcapn hcget hol hcl hN hNf hOb hOv hCS hOLD hone hsz hz0 hzs hzb hi0 hzc
 go_enter Try.func80, Try.ntmps80
 go_wp2_with (first
  | (at_builtin; refine Lib.wpList_append_run _ rfl _ _ _ _ rfl _ _ rfl rfl _ _ (hrz _) ?_)
  | (at_builtin; refine wpList_copy_runI _ rfl _ _ 81 81 rfl _ _ rfl rfl (hcpA _ hE1 hE2 _ _) ?_))
 go_region_law_o (refine step_copy_runI rfl _ _ 81 81 rfl _ _ (by simp [Act.eval, Act.put]) (by simp [Act.eval, Act.put]) (hcpB _ hF1 hF2 3 (G - (i + 1)) (cap - i)) ?_)
 clear hrz hcpA hcpB hE1 hE2 hF1 hF2
 go_wp2
 go_ret
 exact ⟨rfl, rfl⟩
theorem stored {w : World} {g off : Nat} {cur : Array Value} {e : TypeId} {fz : Nat × Nat} (ul : List Value) (hg : w.heap[g]? = some (.cells cur e fz)) (hin : off + ul.length <= cur.size) :
  ∃ cur' : Array Value, (w.setCells g off ul).heap[g]? = some (.cells cur' e fz) /\ cur'.size = cur.size /\ (∀ q, q < off \/ off + ul.length <= q -> cur'[q]? = cur[q]?) /\ ∀ q, q < ul.length -> cur'[off + q]? = ul[q]? := by
 obtain ⟨cur', p1, p2, p3⟩ := setCells_shape g ul off w cur e fz hg
 refine ⟨cur', p1, p2.symm, p3, fun q hq => ?_⟩
 have := World.cell?_setCells_in g ul off w (fun j hj => by
  simp only [World.cell?, hg]; rw [Array.getElem?_eq_getElem (by omega)]; rfl) q hq
 simp only [World.cell?, p1] at this
 rw [List.getElem?_eq_getElem hq]
 exact this
theorem ins_get {α : Type} {l : List α} {i : Nat} (hi : i <= l.length) (x : α) (q : Nat) : (l.take i ++ x :: l.drop i)[q]? = if q < i then l[q]? else if q = i then some x else l[q - 1]? := by
 have hl : (l.take i).length = i := by rw [List.length_take]; omega
 split
 . rename_i h; rw [List.getElem?_append_left (by omega), List.getElem?_take, if_pos h]
 . rename_i h
   rw [List.getElem?_append_right (by omega), hl]
   split
   . rename_i h2; subst h2; simp
   . rename_i h2
     rw [show q - i = (q - i - 1) + 1 by omega, List.getElem?_cons_succ, List.getElem?_drop]
     congr 1; omega
theorem ins_len {α : Type} {l : List α} {i : Nat} (hi : i <= l.length) (x : α) : (l.take i ++ x :: l.drop i).length = l.length + 1 := by
 simp only [List.length_append, List.length_take, List.length_cons, List.length_drop]; omega
theorem ins_rows {w w' : World} {rows : List (List D)} {r : List D} {i : Nat} {cur cur' : Array Value} {vb voff : Nat} {vs : List Value} (hi : i <= rows.length) (hrl : ∀ r ∈ rows, r.length = 3) (hv : OnePart w vb voff vs r)
   (h8 : ∀ (i j : Nat) (r : List D) (d : D), rows[i]? = some r -> r[j]? = some d -> ∃ u, cur[i * 3 + j]? = some u /\ u.oneCell' = true /\ RepI w (fun _ => False) u d)
   (k1 : ∀ q, q < i * 3 -> cur'[q]? = cur[q]?) (k2 : ∀ q, q < 3 -> cur'[i * 3 + q]? = vs[q]?) (k3 : ∀ q, q < (rows.length - i) * 3 -> cur'[(i + 1) * 3 + q]? = cur[i * 3 + q]?) :
   ∀ (i' j : Nat) (r' : List D) (d : D), (rows.take i ++ r :: rows.drop i)[i']? = some r' -> r'[j]? = some d -> ∃ u, cur'[i' * 3 + j]? = some u /\ u.oneCell' = true /\ RepI w' (fun _ => False) u d := by
 have up : ∀ {u : Value} {d : D}, RepI w (fun _ => False) u d -> RepI w' (fun _ => False) u d := fun hr => hr.mono (fun _ hb => hb) (fun _ hb => hb.elim)
 intro i' j r' d hr hd
 rw [ins_get hi] at hr
 split at hr
 . rename_i hlt
   have hj : j < 3 := by have := (List.getElem?_eq_some_iff.1 hd).1; rwa [hrl _ (List.mem_of_getElem? hr)] at this
   obtain ⟨u, z1, z2, z3⟩ := h8 i' j r' d hr hd
   exact ⟨u, by rw [k1 _ (by omega)]; exact z1, z2, up z3⟩
 . split at hr
   . rename_i h2
     subst h2; cases hr
     have hj : j < 3 := by have := (List.getElem?_eq_some_iff.1 hd).1; rwa [hv.rlen] at this
     have hjv : j < vs.length := by rw [hv.len]; exact hj
     exact ⟨vs[j], by rw [k2 j hj]; exact List.getElem?_eq_getElem hjv, hv.one _ (List.getElem_mem hjv), up (hv.rep j _ d (List.getElem?_eq_getElem hjv) hd)⟩
   . rename_i h1 h2
     have hj : j < 3 := by have := (List.getElem?_eq_some_iff.1 hd).1; rwa [hrl _ (List.mem_of_getElem? hr)] at this
     have hil := (List.getElem?_eq_some_iff.1 hr).1
     obtain ⟨u, z1, z2, z3⟩ := h8 (i' - 1) j r' d hr hd
     refine ⟨u, ?_, z2, up z3⟩
     have := k3 ((i' - 1 - i) * 3 + j) (by omega)
     rw [show (i + 1) * 3 + ((i' - 1 - i) * 3 + j) = i' * 3 + j by omega, show i * 3 + ((i' - 1 - i) * 3 + j) = (i' - 1) * 3 + j by omega] at this
     rw [this]; exact z1
theorem Insert_walk (v0 : Value) (rows : List (List D)) (i : Nat) (vb voff vc : Nat) (vs : List Value) (r : List D) (w : World) (h0 : RowRel w (fun _ => False) 86 3 v0 rows) (hrl : ∀ r ∈ rows, r.length = 3) (hi : i <= rows.length)
   (hv : OnePart w vb voff vs r) (hn : rows.length <= 1000000) (hvb : ∀ b, v0.ownBlock = some b -> vb ≠ b) (tA : TypeId) (kA : Nat) (hsa : w.shape? vb = some (tA, kA)) (hfa : w.frozen? ⟨vb, voff, none⟩ = false) (hfe : w.frozen? ⟨vb, kA, none⟩ = false) :
   Calls Try.prog 80 #[v0, .int .i64 i, .slice (some ⟨vb, voff, none⟩) 1 vc] w fun e w' => ∃ v', e = .returned v' /\ InsOk w w' v0 v' (rows.take i ++ r :: rows.drop i) := by
 rcases Nat.lt_or_ge i rows.length with hlt | hge
 case inr =>
   obtain rfl : i = rows.length := by omega
   rw [List.take_length, List.drop_length]
   exact Insert_end v0 rows vb voff vc vs r w h0 hrl hv hn
 rcases h0 with ⟨_, rfl⟩ | ⟨g, cap, cur, fz, rfl, hg, h3, h4, h5, rfl, h8⟩
 . simp at hlt
 have hgw : g < w.heap.size := (Array.getElem?_eq_some_iff.1 hg).1
 have hone : ∀ j, j < rows.length * 3 -> ∀ v, cur[j]? = some v -> v.oneCell' = true := fun j hj v hjv => by
   have h1 : j / 3 < rows.length := by omega
   have h2 := hrl rows[j / 3] (List.getElem_mem h1)
   obtain ⟨u, z1, z2, _⟩ := h8 (j / 3) (j % 3) rows[j / 3] ((rows[j / 3])[j % 3]'(by omega)) (List.getElem?_eq_getElem h1) (List.getElem?_eq_getElem _)
   rw [show j / 3 * 3 + j % 3 = j by omega, hjv] at z1
   cases z1; exact z2
 have hct : cur.toList.length = cap * 3 := (Array.length_toList (xs := cur)).trans h5
 have hcl : ((cur.toList.drop (i * 3)).take ((rows.length - i) * 3)).length = (rows.length - i) * 3 := by rw [List.length_take, List.length_drop, hct]; omega
 have hcg : ∀ q, q < (rows.length - i) * 3 -> ((cur.toList.drop (i * 3)).take ((rows.length - i) * 3))[q]? = cur[i * 3 + q]? := fun q hq => by
   rw [List.getElem?_take, if_pos hq, List.getElem?_drop, Array.getElem?_toList]
 generalize hCS : (cur.toList.drop (i * 3)).take ((rows.length - i) * 3) = CS at hcl hcg
 have hil := ins_len hi r
 by_cases hroom : rows.length + 1 <= cap
 . refine (Insert_room g rows.length cap i cur vb voff vc vs r w hg hlt hroom h4 h5 hone hv (hvb g rfl) tA kA hsa hfa hfe).mono ?_
   rintro e w' ⟨rfl, hw'⟩
   rw [hCS] at hw'
   obtain ⟨c1, p1, p2, p3, p4⟩ := stored (w := w.drew) (g := g) (off := (i + 1) * 3) CS hg (by omega)
   obtain ⟨c2, r1, r2, r3, r4⟩ := stored (g := g) (off := i * 3) vs p1 (by rw [hv.len]; omega)
   rw [<- hw'] at r1
   have hoth : ∀ b, b ≠ g -> w'.heap[b]? = w.heap[b]? := fun b hb => by rw [hw', setCells_other g vs _ _ b hb, setCells_other g CS _ _ b hb]; rfl
   have hrest : w'.os = w.os /\ w'.tape = w.tape /\ w'.output = w.output := by
     obtain ⟨a1, a2, a3⟩ := setCells_rest g vs (i * 3) (w.drew.setCells g ((i + 1) * 3) CS)
     obtain ⟨b1, b2, b3⟩ := setCells_rest g CS ((i + 1) * 3) w.drew
     rw [hw']; exact ⟨a1.trans b1, a2.trans b2, a3.trans b3⟩
   have hsz : w'.heap.size = w.heap.size := by rw [hw', setCells_size, setCells_size]; rfl
   refine ⟨_, rfl, ⟨hrest.1, hrest.2.1, hrest.2.2, by omega, fun k hk hne => hoth k fun e => hne (by rw [e]; rfl)⟩, .inl rfl, fun b hb => by (have : g = b := by simpa [Value.ownBlock] using hb); omega, .inr ⟨g, cap, c2, (0, 0), by rw [hil], r1, by omega, h4, by omega, rfl, ?_⟩⟩
   refine ins_rows hi hrl hv h8 (fun q hq => ?_) (fun q hq => r4 q (by rw [hv.len]; exact hq)) (fun q hq => ?_)
   . rw [r3 _ (.inl hq), p3 _ (.inl (by omega))]
   . rw [r3 _ (.inr (by rw [hv.len]; omega)), p4 q (by omega), hcg q hq]
 . refine (Insert_grow g rows.length cap i cur vb voff vc vs r w hg hlt h3 (by omega) hn h5 hone hv).mono ?_
   rintro e w' ⟨rfl, hw'⟩
   rw [hCS] at hw'
   have hG := grownCap_ge w (rows.length + 1) cap 86
   have hGm := grownCap_le_maxLen w (rows.length + 1) cap 86 (by unfold maxLen; omega)
   generalize grownCap w (rows.length + 1) cap 86 = G at hG hGm hw' ⊢
   have hzc : zPart.cells.size = 3 := rfl
   have hol : (cur.toList.take (i * 3)).length = i * 3 := by rw [List.length_take, hct]; omega
   obtain ⟨ROW, hROW⟩ : ∃ ROW : Array Value, ROW = (cur.toList.take (i * 3)).toArray ++ Builtin.zeroCells zPart.cells (rows.length + 1 - i) ++ Builtin.zeroCells zPart.cells (G - (rows.length + 1)) := ⟨_, rfl⟩
   rw [<- hROW] at hw'
   have hRl : ROW.size = G * 3 := by
     rw [hROW]
     simp only [Array.size_append, size_zeroCells, hzc, List.size_toArray, hol]
     omega
   have hRg : ∀ q, q < i * 3 -> ROW[q]? = cur[q]? := fun q hq => by
     rw [hROW, Array.append_assoc, Array.getElem?_append_left (by rw [List.size_toArray, hol]; exact hq), List.getElem?_toArray, List.getElem?_take, if_pos hq, Array.getElem?_toList]
   have hg1 : (w.alloc (.cells ROW 86)).drew.heap[w.heap.size]? = some (.cells ROW 86 (0, 0)) := heap_alloc_new w _
   obtain ⟨c1, p1, p2, p3, p4⟩ := stored (g := w.heap.size) (off := i * 3) vs hg1 (by rw [hv.len]; omega)
   have p1 : ((w.alloc (.cells ROW 86)).drew.setCells w.heap.size (i * 3) vs).drew.heap[w.heap.size]? = some (.cells c1 86 (0, 0)) := p1
   obtain ⟨c2, r1, r2, r3, r4⟩ := stored (g := w.heap.size) (off := (i + 1) * 3) CS p1 (by omega)
   rw [<- hw'] at r1
   have hoth : ∀ b, b < w.heap.size -> w'.heap[b]? = w.heap[b]? := fun b hb => by
     rw [hw', setCells_other _ CS _ _ b (by omega)]
     show ((w.alloc (.cells ROW 86)).drew.setCells w.heap.size (i * 3) vs).heap[b]? = _
     rw [setCells_other _ vs _ _ b (by omega)]
     exact Below.heap_alloc _ _ _ hb
   have hrest : w'.os = w.os /\ w'.tape = w.tape /\ w'.output = w.output := by
     obtain ⟨a1, a2, a3⟩ := setCells_rest w.heap.size CS ((i + 1) * 3) ((w.alloc (.cells ROW 86)).drew.setCells w.heap.size (i * 3) vs).drew
     obtain ⟨b1, b2, b3⟩ := setCells_rest w.heap.size vs (i * 3) (w.alloc (.cells ROW 86)).drew
     rw [hw']; exact ⟨a1.trans b1, a2.trans b2, a3.trans b3⟩
   have hsz : w'.heap.size = w.heap.size + 1 := by
     rw [hw', setCells_size]
     show ((w.alloc (.cells ROW 86)).drew.setCells w.heap.size (i * 3) vs).heap.size = _
     rw [setCells_size]; exact size_alloc _ _
   refine ⟨_, rfl, ⟨hrest.1, hrest.2.1, hrest.2.2, by omega, fun k hk _ => hoth k hk⟩, .inr rfl, fun b hb => by (have : w.heap.size = b := by simpa [Value.ownBlock] using hb); omega, .inr ⟨w.heap.size, G, c2, (0, 0), by rw [hil], r1, by omega, hGm, by omega, rfl, ?_⟩⟩
   refine ins_rows hi hrl hv h8 (fun q hq => ?_) (fun q hq => ?_) (fun q hq => ?_)
   . rw [r3 _ (.inl (by omega)), p3 _ (.inl hq), hRg q hq]
   . rw [r3 _ (.inl (by omega)), p4 q (by rw [hv.len]; exact hq)]
   . rw [r4 q (by omega), hcg q hq]
def insTr (ys : List V) (m : Mem) : Option (Tr (V × Mem)) :=
 match ys, m with
 | [.one (.own k 0 n), .one (.d (.i .i64 i)), .one (.own k' 0 n')], [(q, .rowT 0 e c ap fr xs), (q', b')] =>
  match b'.std with
  | .row 0 e' sz ap' fr' rs =>
   if hc : c = 5 then (match rs, decide (k = 1000100 /\ q = 1000100 /\ k' = 1000101 /\ q' = 1000101 /\ n' = 1 /\ sz = 3 /\ ap = true /\ ap' = true /\ e = 86) with
    | [r], true => match decG 5 r with
     | some T => some (T.bind fun p => .grd (decide (0 <= i /\ i <= xs.length /\ xs.length <= 1000000)) (.ret (.one (.own 1000100 1 ((hc ▸ xs : List (τ 5)).take i.toNat ++ p :: (hc ▸ xs : List (τ 5)).drop i.toNat).length),
      [(1000100, .rowT 1 e 5 true true ((hc ▸ xs : List (τ 5)).take i.toNat ++ p :: (hc ▸ xs : List (τ 5)).drop i.toNat)), (1000101, b')])))
     | none => none
    | _, _ => none) else none
  | _ => none
 | _, _ => none
theorem us3f {us : Array Value} {a b c : Value} (h : us.size = 3) (h0 : us.getD 0 undef = a) (h1 : us.getD 1 undef = b) (h2 : us.getD 2 undef = c) : us = #[a, b, c] := by
 obtain ⟨us⟩ := us
 match us, h with
 | [x, y, z], _ => have e0 : x = a := h0; have e1 : y = b := h1; have e2 : z = c := h2; rw [e0, e1, e2]
theorem Inner.rel {w : World} {e : TypeId} {c : Nat} {u : Value} {ys : List (τ c)} (h : Inner w e c u ys) : RowRel w (fun _ => False) e (esz c) u (ys.map (enc c)) := by
 rcases h with ⟨rfl, rfl⟩ | ⟨g, cap, cur, rfl, h1, h2, h3, h4, _, h5⟩
 . exact .inl ⟨rfl, rfl⟩
 . refine .inr ⟨g, cap, cur, (0, 0), by rw [List.length_map], h1, by rw [List.length_map]; exact h2, h3, h4, rfl, fun i j r d hi hj => ?_⟩
   rw [List.getElem?_map, Option.map_eq_some_iff] at hi
   obtain ⟨y, hy, rfl⟩ := hi
   exact h5 i j y d hy hj
theorem one_part {w : World} {g cap : Nat} {cur : Array Value} {r : List D} {p : TPart} {UU : Nat -> Prop} {e : TypeId} (hg : w.heap[g]? = some (.cells cur e (0, 0))) (hrl : r.length = 3) (hsz : 3 <= cur.size)
   (h : ∀ (j : Nat) (d : D), r[j]? = some d -> ∃ u, cur[0 * 3 + j]? = some u /\ u.oneCell' = true /\ RepI w UU u d) (hw : WkDs r (enc 5 p)) : OnePart w g 0 (cur.toList.take 3) (enc 5 p) := by
 obtain ⟨hwl, hwg⟩ := WkDs_get hw
 have hl : (cur.toList.take 3).length = 3 := by rw [List.length_take, Array.length_toList]; omega
 have hget : ∀ j v, (cur.toList.take 3)[j]? = some v -> j < 3 /\ cur[j]? = some v := fun j v hj => by
   rw [List.getElem?_take] at hj
   split at hj
   . rename_i h2; rw [Array.getElem?_toList] at hj; exact ⟨h2, hj⟩
   . cases hj
 have hat : ∀ j v, (cur.toList.take 3)[j]? = some v -> ∃ d, r[j]? = some d /\ v.oneCell' = true /\ RepI w UU v d := fun j v hj => by
   obtain ⟨h1, h2⟩ := hget j v hj
   have hjr : j < r.length := by omega
   obtain ⟨u, z1, z2, z3⟩ := h j _ (List.getElem?_eq_getElem hjr)
   rw [Nat.zero_mul, Nat.zero_add, h2] at z1; cases z1
   exact ⟨_, List.getElem?_eq_getElem hjr, z2, z3⟩
 refine ⟨hl, fun j v hj => ?_, fun v hv => ?_, fun j v d hj hd => ?_, rfl⟩
 . rw [Nat.zero_add]; simp only [World.cell?, hg]; exact (hget j v hj).2
 . obtain ⟨j, hj⟩ := List.mem_iff_getElem?.1 hv
   obtain ⟨d, _, h2, _⟩ := hat j v hj
   exact h2
 . obtain ⟨d0, h1, _, h3⟩ := hat j v hj
   obtain ⟨d1, g1, g2⟩ := hwg j d hd
   rw [h1] at g1; cases g1
   exact RepI.ofFlat' (h3.wkD g2) (List.all_eq_true.1 (flatT_all 5 p rfl) d (List.mem_of_getElem? hd))
def pfIns : PF Try.prog where
 f := 80
 own := [1, 0, 1]
 tr := insTr
 ok := by
  intro ys m T r0 m' h hT
  unfold insTr at h
  split at h
  case h_2 => cases h
  rename_i k n i k' n' q e c ap fr xs q' b'
  split at h
  case h_2 => cases h
  rename_i e' sz ap' fr' rs hstd
  split at h
  case isFalse => cases h
  rename_i hc
  subst hc
  split at h
  case h_2 => cases h
  rename_i r hcnd
  simp only [decide_eq_true_eq] at hcnd
  obtain ⟨rfl, rfl, rfl, rfl, rfl, rfl, rfl, rfl, rfl⟩ := hcnd
  split at h
  case h_2 => cases h
  rename_i T' hdec
  cases h
  rw [Tr.eval_bind] at hT
  obtain ⟨p, hp, hT⟩ := Option.bind_eq_some_iff.1 hT
  obtain ⟨hg1, hT⟩ := Tr.eval_grd hT
  simp only [decide_eq_true_eq] at hg1
  obtain ⟨hi0, hil, hlim⟩ := hg1
  cases hT
  refine ⟨_, _, WkVs_rfl _, WkM_rfl _, fun w U0 X β0 us hs => ?_⟩
  have hu0 := (show RepV w β0 U0 w.heap.size (us.getD 0 undef) (.one (.own 1000100 0 n)) from hs.env 0).toC
  have hu1 := (show RepV w β0 U0 w.heap.size (us.getD 1 undef) (vi .i64 i) from hs.env 1).int
  have hu2 := (show RepV w β0 U0 w.heap.size (us.getD 2 undef) (.one (.own 1000101 0 1)) from hs.env 2).toC
  obtain ⟨a0, c0, v0, ver0, e0, l0, n0, s0, k0, le0, q0⟩ := hu0
  obtain ⟨a2, c2, v2, ver2, e2, l2, n2, s2, k2, le2, q2⟩ := hu2
  obtain ⟨p0, hp0, hr0⟩ := hs.mem 1000100 (.rowT 0 86 5 true fr xs) rfl
  rw [k0] at hp0; cases hp0
  obtain ⟨p2, hp2, hr2⟩ := hs.mem 1000101 b' rfl
  rw [k2] at hp2; cases hp2
  unfold RepB at hr2
  rw [hstd] at hr2
  have hv0 := hr0.1
  have hv2 := hr2.1
  subst hv0; subst hv2
  have q0 := q0 rfl
  have q2 := q2 rfl
  rw [q0] at e0
  rw [q2] at e2
  have hus : us = #[v0, .int .i64 i, v2] := us3f hs.n q0 hu1 q2
  have hin := Inner.ofRow hr0 rfl
  have hrel := Inner.rel hin
  have hxl : (xs.map (enc 5)).length = xs.length := List.length_map ..
  obtain ⟨hr2l, hr2c⟩ := hr2.2
  rcases hr2c with ⟨_, e9⟩ | ⟨g2, cap2, cur2, fz2, e9, hg2, hle2, hcap2, hsz2, hap2, _, hc2⟩
  . cases e9
  obtain ⟨rfl, _⟩ := hap2 rfl
  have hrl := hr2l r (by simp)
  have hsz3 : 3 <= cur2.size := by simp only [List.length_singleton] at hle2; omega
  have hv := one_part (cap := cap2) (p := p) hg2 hrl hsz3 (fun j d hd => hc2 0 j r d rfl hd) (decG_wk hdec hp)
  have hne : ∀ b, v0.ownBlock = some b -> g2 ≠ b := fun b hb e => by
    subst e
    exact hs.inj 1000100 1000101 _ _ _ _ g2 0 (by decide) k0 k2 rfl rfl hb (show v2.ownBlock = some g2 by rw [e9]; rfl)
  have hwalk := Insert_walk v0 (xs.map (enc 5)) i.toNat g2 0 cap2 _ (enc 5 p) w hrel (fun x hx => by obtain ⟨y, _, rfl⟩ := List.mem_map.1 hx; rfl) (by rw [hxl]; omega) hv (by rw [hxl]; exact hlim) hne e' cur2.size (by simp [World.shape?, hg2]) (by simp [World.frozen?, hg2]) (by simp [World.frozen?, hg2])
  have hi9 : ((i.toNat : Nat) : Int) = i := by omega
  rw [hi9] at hwalk
  rw [hus, show v2 = .slice (some ⟨g2, 0, none⟩) 1 cap2 from e9]
  refine hwalk.mono ?_
  rintro e w' ⟨v', rfl, hgrow, hob, hlt, hrow⟩
  refine ⟨v', _, _, rfl, ⟨rfl, rfl⟩, ?_⟩
  have hmp : (xs.map (enc 5)).take i.toNat ++ enc 5 p :: (xs.map (enc 5)).drop i.toNat = (xs.take i.toNat ++ p :: xs.drop i.toNat).map (enc 5) := by
    rw [List.map_append, List.map_cons, List.map_take, List.map_drop]
  rw [hmp] at hrow
  have h0 : SimB w U0 X β0 β0 U0 ⟨1, [(0, .one .bad)], [(1000100, .rowT 0 86 5 true fr xs), (1000101, b')]⟩ ⟨#[v'], []⟩ w := { hs with
    n := rfl, small := by simp, defers := rfl
    env := fun t => by
      show RepV w β0 U0 w.heap.size _ ((Abs.look t [(0, V.one .bad)]).getD (.one .bad))
      cases t with
      | zero => exact .bad _
      | succ t => simp [Abs.look]; exact .bad _ }
  have h1 := h0.replE (w' := w') (p' := .row v' 1) (blk' := .rowT 1 86 5 true true (xs.take i.toNat ++ p :: xs.drop i.toNat)) k0 rfl hgrow.os hgrow.tape hgrow.output hgrow.size
    (fun b hb hne => hgrow.block b hb (fun e' => hne e'.symm))
    (fun b j hb hnc => by
      have hne : some b ≠ v0.ownBlock := fun e' => hnc e'.symm
      exact ⟨World.cell?_of_block (w := w) (hgrow.block b hb hne), World.frozen?_of_block (w := w) (hgrow.block b hb hne)⟩)
    (fun b _ hb => .inr (.inr (fun j => hb)))
    (.inr (.inl ⟨_, _, _, _, rfl, rfl, by decide⟩))
    (fun b hb => by
      have hb' : v'.ownBlock = some b := hb
      rcases hob with h1 | h1
      . left; rw [h1] at hb'; exact hb'
      . right
        have hlt' := hlt w.heap.size h1
        rw [h1] at hb'
        obtain rfl : w.heap.size = b := by simpa using hb'
        exact ⟨Nat.le_refl _, hlt'⟩)
    (fun b j hc => by
      have hb' : v'.ownBlock = some b := hc
      rcases hob with h1 | h1
      . left; rw [h1] at hb'; exact hb'
      . right
        rw [h1] at hb'
        have : w.heap.size = b := by simpa using hb'
        omega)
    ⟨rfl, fun x hx => by obtain ⟨y, _, rfl⟩ := List.mem_map.1 hx; rfl, by
      rcases hrow with hr | ⟨g, cap', cur, fz, q1, q2, q3, q4, q5, rfl, q7⟩
      . exact .inl hr
      . exact .inr ⟨g, cap', cur, (0, 0), q1, q2, q3, q4, q5, fun _ => ⟨rfl, noSp_spare rfl⟩, fun i _ => by simp [World.frozen?, q2], fun i j x d hi hj => by
         obtain ⟨u, z1, z2, z3⟩ := q7 i j x d hi hj
         exact ⟨u, z1, z2, z3.ofNone⟩⟩⟩
  have h2 := h1.congr (s' := ⟨1, [(0, .one .bad)], [(1000100, .rowT 1 86 5 true true (xs.take i.toNat ++ p :: xs.drop i.toNat)), (1000101, b')]⟩) rfl rfl (fun k => by
    show Abs.look k ((1000100, _) :: (1000101, _) :: []) = Abs.look k ((1000100, _) :: (1000100, _) :: (1000101, _) :: [])
    simp only [Abs.look_cons]
    split
    . rfl
    . rfl)
  refine ⟨_, U0, { h2 with n := rfl, env := fun t => ?_ }⟩
  cases t with
  | zero =>
    have hl : ((xs.take i.toNat ++ p :: xs.drop i.toNat).map (enc 5)).length = (xs.take i.toNat ++ p :: xs.drop i.toNat).length := List.length_map ..
    rcases hrow with ⟨rfl, e2⟩ | ⟨g, cap', cur, fz, rfl, _, q3, _⟩
    . simp at e2
    . rw [hl] at q3 ⊢
      exact repOwn (upd_self _ _ _) q3 (fun e => by cases e) (fun x hx => by cases hx; exact ⟨g, rfl⟩)
  | succ t =>
    show RepV _ _ U0 w.heap.size _ ((Abs.look (t + 1) [(0, _)]).getD (.one .bad))
    simp [Abs.look]; exact .bad _
end Go.Proofs.Ythnijeclidpooaa.X
namespace Go.Proofs.Ythnijeclidpooaa.X
open Go Go.RowKit Go.Proofs.Ythnijeclidpooaa.Abs
open Go.IntKind renaming wrap -> wW
set_option maxRecDepth 100000
set_option linter.unusedVariables false
def fPut_L61_3 : LS := ⟨3, [(3, 3), (5500100, 5500100), (1500100, 1500100)], ⟨80, [(14, .v (.one (.i .i64))), (3, .v (.one (.ptr 3 0))), (12, .v (.one (.own 5500100))), (6, .v (.one (.i .i64))), (0, .v (.one (.dpr 1500100 8 0))), (13, .v (.one (.i .i64)))], [(3, .cells [.i .i64, .s, .b]), (5500100, .row 86 5 true true), (1500100, .deepH 83 86 6 5500100)]⟩, [⟨none, [(1500100, 1500100)], ⟨80, [(4, .v (.one (.b))), (5, .v (.one (.i .i64)))], [(1500100, .deep 83 86 6)]⟩⟩, ⟨some 0, [(3, 3), (1500100, 1500100)], ⟨80, [(3, .v (.one (.ptr 3 0))), (6, .v (.one (.i .i64))), (0, .v (.one (.dpr 1500100 8 0)))], [(3, .cells [.i .i64, .s, .b]), (1500100, .deep 83 86 6)]⟩⟩], []⟩
abbrev ty7_ : Type := (Int × (Int × (Nat × (Int × (Int × ((List UInt8) × (Bool × ((List TPart) × (Nat × ((List THeap) × Unit))))))))))
abbrev ty8_ : Type := (Bool × (Nat × (Int × (Int × (Int × (Int × (Int × ((List UInt8) × (Bool × ((List TPart) × (Nat × ((List THeap) × (Int × ((List UInt8) × (Bool × Unit)))))))))))))))
abbrev ty9_ : Type := (Bool × (Nat × (Int × (Int × (Int × (Int × (Int × ((List UInt8) × (Bool × ((List TPart) × (Nat × ((List THeap) × Unit))))))))))))
def fPut_step61_3 : ty7_ -> Tr (ty7_ ⊕ ((Bool × (Int × ((List THeap) × Unit))) ⊕ (Int × (Nat × (Int × ((List UInt8) × (Bool × ((List THeap) × Unit)))))))) :=
 fun (a0, a1, a2, a3, a4, a5, a6, a7, a8, a9, _) =>
 .ite (decide (a0 < a3)) (
 .grd (decide (0 <= a0 /\ a0 < (↑(a7.length) : Int))) (
 .opt (a7[Int.toNat a0]?) (fun r0 =>
 .ite (decide (r0.at' = a4) && (decide (r0.data = a5) && (r0.last == a6 && true))) (
 .ret (Sum.inr (Sum.inl (false, (0, (List.modify a9 a8 fun x => THeap.mk x.from' x.to x.proto x.id x.tos x.life x.options a7, ())))))) (
 .opt (Tr.eval (α := ty8_) (
 .opt ((fEnd_fn (r0.at', (r0.data, (r0.last, ()))))) (fun r1 =>
 .ite (decide (a4 < r1.1)) (
 .opt ((fEnd_fn (a4, (a5, (a6, ()))))) (fun r2 =>
 .ite (decide (r0.at' < r2.1)) (
 .grd (decide (a7.length = a7.length)) (
 .ret (decide (r0.at' < r2.1), (a2, (a3, (a0, (a0, (a1, (a4, (a5, (a6, (a7, ((a8, some ((5500100 : Nat), vk (5500100 : Nat))).fst, (a9, (r0.at', (r0.data, (r0.last, ()))))))))))))))))) (
 .ite (r0.last) (
 .ite (decide (r0.at' < a4)) (
 .grd (decide (a7.length = a7.length)) (
 .ret (decide (r0.at' < a4), (a2, (a3, (a0, (a0, (a1, (a4, (a5, (a6, (a7, ((a8, some ((5500100 : Nat), vk (5500100 : Nat))).fst, (a9, (r0.at', (r0.data, (r0.last, ()))))))))))))))))) (
 .ite (a6) (
 .grd (decide (a7.length = a7.length)) (
 .ret (decide (a4 < r0.at'), (a2, (a3, (a0, (a0, (a1, (a4, (a5, (a6, (a7, ((a8, some ((5500100 : Nat), vk (5500100 : Nat))).fst, (a9, (r0.at', (r0.data, (r0.last, ()))))))))))))))))) (
 .grd (decide (a7.length = a7.length)) (
 .ret (false, (a2, (a3, (a0, (a0, (a1, (a4, (a5, (a6, (a7, ((a8, some ((5500100 : Nat), vk (5500100 : Nat))).fst, (a9, (r0.at', (r0.data, (r0.last, ()))))))))))))))))))) (
 .ite (a6) (
 .grd (decide (a7.length = a7.length)) (
 .ret (decide (a4 < r0.at'), (a2, (a3, (a0, (a0, (a1, (a4, (a5, (a6, (a7, ((a8, some ((5500100 : Nat), vk (5500100 : Nat))).fst, (a9, (r0.at', (r0.data, (r0.last, ()))))))))))))))))) (
 .grd (decide (a7.length = a7.length)) (
 .ret (false, (a2, (a3, (a0, (a0, (a1, (a4, (a5, (a6, (a7, ((a8, some ((5500100 : Nat), vk (5500100 : Nat))).fst, (a9, (r0.at', (r0.data, (r0.last, ()))))))))))))))))))))) (
 .ite (r0.last) (
 .ite (decide (r0.at' < a4)) (
 .grd (decide (a7.length = a7.length)) (
 .ret (decide (r0.at' < a4), (a2, (a3, (a0, (a0, (a1, (a4, (a5, (a6, (a7, ((a8, some ((5500100 : Nat), vk (5500100 : Nat))).fst, (a9, (r0.at', (r0.data, (r0.last, ()))))))))))))))))) (
 .ite (a6) (
 .grd (decide (a7.length = a7.length)) (
 .ret (decide (a4 < r0.at'), (a2, (a3, (a0, (a0, (a1, (a4, (a5, (a6, (a7, ((a8, some ((5500100 : Nat), vk (5500100 : Nat))).fst, (a9, (r0.at', (r0.data, (r0.last, ()))))))))))))))))) (
 .grd (decide (a7.length = a7.length)) (
 .ret (false, (a2, (a3, (a0, (a0, (a1, (a4, (a5, (a6, (a7, ((a8, some ((5500100 : Nat), vk (5500100 : Nat))).fst, (a9, (r0.at', (r0.data, (r0.last, ()))))))))))))))))))) (
 .ite (a6) (
 .grd (decide (a7.length = a7.length)) (
 .ret (decide (a4 < r0.at'), (a2, (a3, (a0, (a0, (a1, (a4, (a5, (a6, (a7, ((a8, some ((5500100 : Nat), vk (5500100 : Nat))).fst, (a9, (r0.at', (r0.data, (r0.last, ()))))))))))))))))) (
 .grd (decide (a7.length = a7.length)) (
 .ret (false, (a2, (a3, (a0, (a0, (a1, (a4, (a5, (a6, (a7, ((a8, some ((5500100 : Nat), vk (5500100 : Nat))).fst, (a9, (r0.at', (r0.data, (r0.last, ())))))))))))))))))))))) (fun r1 =>
 .ite (r1.1) (
 .ret (Sum.inr (Sum.inl (false, (8, (List.modify r1.2.2.2.2.2.2.2.2.2.2.2.1 r1.2.2.2.2.2.2.2.2.2.2.1 fun x => THeap.mk x.from' x.to x.proto x.id x.tos x.life x.options r1.2.2.2.2.2.2.2.2.2.1, ())))))) (
 .opt (Tr.eval (α := ty9_) (
 .grd (decide (List.length r1.2.2.2.2.2.2.2.2.2.fst = List.length r1.2.2.2.2.2.2.2.2.2.1)) (
 .ret (decide (r1.2.2.2.2.2.2.2.2.2.2.2.2.1 < r1.2.2.2.2.2.2.1), (r1.2.1, (r1.2.2.1, (r1.2.2.2.1, (r1.2.2.2.2.1, (r1.2.2.2.2.2.1, (r1.2.2.2.2.2.2.1, (r1.2.2.2.2.2.2.2.1, (r1.2.2.2.2.2.2.2.2.1, (r1.2.2.2.2.2.2.2.2.2.1, ((r1.2.2.2.2.2.2.2.2.2.2.1, some ((5500100 : Nat), vk (5500100 : Nat))).fst, (r1.2.2.2.2.2.2.2.2.2.2.2.1, ()))))))))))))))) (fun r2 =>
 .ite (r2.1) (
 .grd (decide (List.length r2.2.2.2.2.2.2.2.2.2.fst = List.length r2.2.2.2.2.2.2.2.2.2.1)) (
 .ret (Sum.inl (wW .i64 (r2.2.2.2.1 + 1), (wW .i64 (r2.2.2.2.2.1 + 1), (r2.2.1, (r2.2.2.1, (r2.2.2.2.2.2.2.1, (r2.2.2.2.2.2.2.2.1, (r2.2.2.2.2.2.2.2.2.1, (r2.2.2.2.2.2.2.2.2.2.1, ((r2.2.2.2.2.2.2.2.2.2.2.1, some ((5500100 : Nat), vk (5500100 : Nat))).fst, (r2.2.2.2.2.2.2.2.2.2.2.2.1, ()))))))))))))) (
 .grd (decide (List.length r2.2.2.2.2.2.2.2.2.2.fst = List.length r2.2.2.2.2.2.2.2.2.2.1)) (
 .ret (Sum.inl (wW .i64 (r2.2.2.2.1 + 1), (r2.2.2.2.2.2.1, (r2.2.1, (r2.2.2.1, (r2.2.2.2.2.2.2.1, (r2.2.2.2.2.2.2.2.1, (r2.2.2.2.2.2.2.2.2.1, (r2.2.2.2.2.2.2.2.2.2.1, ((r2.2.2.2.2.2.2.2.2.2.2.1, some ((5500100 : Nat), vk (5500100 : Nat))).fst, (r2.2.2.2.2.2.2.2.2.2.2.2.1, ())))))))))))))))))))) (
 .ret (Sum.inr (Sum.inr (a1, (a2, (a4, (a5, (a6, (List.modify a9 a8 fun x => THeap.mk x.from' x.to x.proto x.id x.tos x.life x.options a7, ())))))))))
def fPut_loop61_3 (x : ty7_) : Option ((Bool × (Int × ((List THeap) × Unit))) ⊕ (Int × (Nat × (Int × ((List UInt8) × (Bool × ((List THeap) × Unit))))))) := loopO 610003 (fun x => (fPut_step61_3 x).eval) 18446744073709551616 x
def fPut_L61_100011 : LS := ⟨100011, [], ⟨0, [], []⟩, [⟨some 9998, [(3, 3), (5500100, 5500100), (1500100, 1500100)], ⟨80, [(54, .v (.one (.b))), (3, .v (.one (.ptr 3 0))), (12, .v (.one (.own 5500100))), (0, .v (.one (.dpr 1500100 8 0))), (13, .v (.one (.i .i64))), (14, .v (.one (.i .i64))), (7, .v (.one (.i .i64))), (6, .v (.one (.i .i64)))], [(3, .cells [.i .i64, .s, .b]), (5500100, .row 86 5 true true), (1500100, .deepH 83 86 6 5500100)]⟩⟩], []⟩
def fPut_L61_160007 : LS := ⟨160007, [], ⟨0, [], []⟩, [⟨some 9998, [(3, 3), (5500100, 5500100), (1500100, 1500100), (8, 8)], ⟨80, [(23, .v (.one (.b))), (3, .v (.one (.ptr 3 0))), (12, .v (.one (.own 5500100))), (0, .v (.one (.dpr 1500100 8 0))), (13, .v (.one (.i .i64))), (14, .v (.one (.i .i64))), (7, .v (.one (.i .i64))), (6, .v (.one (.i .i64))), (8, .v (.one (.ptr 8 0)))], [(3, .cells [.i .i64, .s, .b]), (5500100, .row 86 5 true true), (1500100, .deepH 83 86 6 5500100), (8, .cells [.i .i64, .s, .b])]⟩⟩], []⟩
def fPut_ap : SP := ⟨80, [(0, .v (.one (.dpr 1500100 8 0))), (1, .v (.agg [.i .i64, .s, .b]))], [(1500100, .deep 83 86 6)]⟩
def fPut_rp : SP := ⟨1, [(0, .tup [.one (.b), .one (.i .i64)])], [(1500100, .deep 83 86 6)]⟩
def fPut_tree : (Nat × (Int × ((List UInt8) × (Bool × ((List THeap) × Unit))))) -> Tr (Bool × (Int × ((List THeap) × Unit))) :=
 fun (a0, a1, a2, a3, a4, _) =>
 .opt (a4[a0]?) (fun r0 =>
 .grd (decide (List.length r0.parts = List.length r0.parts)) (
 .opt ((fPut_loop61_3 (0, (0, (a0, ((↑(List.length r0.parts) : Int), (a1, (a2, (a3, (r0.parts, ((a0, some (hkey (1500100 : Nat), (1 : Nat))).fst, (a4, ())))))))))))) (fun r1 =>
 .sum (r1) (fun r2 =>
 .ret (r2.1, (r2.2.1, (r2.2.2.1, ())))) (fun r2 =>
 .opt (r2.2.2.2.2.2.1[r2.2.1]?) (fun r3 =>
 .ite (decide ((↑(List.length r3.parts) : Int) = 64)) (
 .ret (false, (6, (List.modify r2.2.2.2.2.2.1 r2.2.1 fun x => THeap.mk x.from' x.to x.proto x.id x.tos x.life x.options r3.parts, ())))) (
 .opt ((List.modify r2.2.2.2.2.2.1 r2.2.1 fun x => THeap.mk x.from' x.to x.proto x.id x.tos x.life x.options r3.parts)[r2.2.1]?) (fun r4 =>
 .grd (decide (0 <= r2.1 /\ r2.1 <= (↑(List.length r4.parts) : Int) /\ List.length r4.parts <= (1000000 : Nat))) (
 .grd (decide (r2.2.1 = r2.2.1)) (
 .opt ((List.modify r2.2.2.2.2.2.1 r2.2.1 fun x => THeap.mk x.from' x.to x.proto x.id x.tos x.life x.options r3.parts)[r2.2.1]?) (fun r5 =>
 .ret (true, (0, (List.set (List.modify r2.2.2.2.2.2.1 r2.2.1 fun x => THeap.mk x.from' x.to x.proto x.id x.tos x.life x.options r3.parts) r2.2.1 (THeap.mk r5.from' r5.to r5.proto r5.id r5.tos r5.life r5.options (List.take (Int.toNat r2.1) r4.parts ++ TPart.mk (TPart.mk r2.2.2.1 r2.2.2.2.1 r2.2.2.2.2.1).at' (TPart.mk r2.2.2.1 r2.2.2.2.1 r2.2.2.2.2.1).data (TPart.mk r2.2.2.1 r2.2.2.2.1 r2.2.2.2.2.1).last :: List.drop (Int.toNat r2.1) r4.parts)), ())))))))))))))
noncomputable def gm13 : List (PF Go.Proofs.Try.prog) := gm12 ++ [GS.pf fDel, pfIns]
theorem fPut_eq (x : (Nat × (Int × ((List UInt8) × (Bool × ((List THeap) × Unit)))))) : gsTr Try.prog cod gm13 [(61, fPut_L61_3), (61, fPut_L61_100011), (61, fPut_L61_160007)] 30 61 fPut_ap fPut_rp x = fPut_tree x := by kernel_rfl
def fPut_fn (x : (Nat × (Int × ((List UInt8) × (Bool × ((List THeap) × Unit)))))) : Option (Bool × (Int × ((List THeap) × Unit))) := (fPut_tree x).eval
def fPut : GS Try.prog := ⟨61, [2, 0], fPut_ap, fPut_rp, fPut_fn, fun x r h ys m g he hg => gs_sound (cod := cod) (Γ := gm13) (Λs := [(61, fPut_L61_3), (61, fPut_L61_100011), (61, fPut_L61_160007)]) (n := 30) ((congrArg Tr.eval (fPut_eq x)).trans h) he hg⟩
end Go.Proofs.Ythnijeclidpooaa.X
/-
 DERIVED: THE SHELF's CONTRACTS AT THIS DUMP, IN PLAIN WORDS (tools/lay-plain.mjs out of 'TryShelf.lean', which tools/lay-shelf.mjs wrote): THE SAME DECLARATIONS UNDER THE SAME NAMES: 'import', 'namespace', 'open', 'def', 'theorem' AND NOTHING ELSE: no command of the shelf's: FOR A HAND-IN. Each laying: the table of numbers ('.._ren') and one theorem, a field a fact of the dump's own or the kernel's comparison; each contract: ONE APPLICATION.
-/
namespace Go.Proofs
open Go.Shelf
def Try.lays169_ren : Go.Shelf.Ren := ⟨fun | 169 => 83 | n => n, fun | 70 => 144 | 9 => 9 | 0 => 0 | 72 => 146 | 37 => 137 | 127 => 157 | 3 => 3 | 5 => 5 | n => n, fun | n => n⟩
theorem Try.lays169 : Go.Proofs.Lays.n169 Try.prog Try.lays169_ren := {
 mixed := by kernel_rfl
 f169 := Try.func83.trans (congrArg some (by kernel_rfl))
 t0 := Try.underlying0
 a0 := Try.isAgg0
 z0 := Try.sizeOf0
 v0 := Try.zeroValue0
 t3 := Try.underlying3
 a3 := Try.isAgg3
 z3 := Try.sizeOf3
 v3 := Try.zeroValue3
 t9 := Try.underlying9
 a9 := Try.isAgg9
 z9 := Try.sizeOf9
 v9 := Try.zeroValue9
 t37 := Try.underlying137
 a37 := Try.isAgg137
 z37 := Try.sizeOf137
 v37 := Try.zeroValue137
 t70 := Try.underlying144
 a70 := Try.isAgg144
 z70 := Try.sizeOf144
 v70 := Try.zeroValue144
 t72 := Try.underlying146
 a72 := Try.isAgg146
 z72 := Try.sizeOf146
 v72 := Try.zeroValue146
 t127 := Try.underlying157
 a127 := Try.isAgg157
 z127 := Try.sizeOf157
 v127 := Try.zeroValue157 }
theorem Try.Builder_Extra_169 : Builder.Extra Try.prog Try.lays169_ren := {
 sizeBuilder := by kernel_rfl
 liesBuilder := by kernel_rfl
 t5 := Try.underlying5
 a5 := Try.isAgg5
 z5 := Try.sizeOf5
 v5 := Try.zeroValue5
 infoByte := by kernel_rfl
 cellsByte := by kernel_rfl
 sizeByte := by kernel_rfl
 neB5 := by decide }
end Go.Proofs
namespace Go.Proofs.Ythnijeclidpooaa.X
open Go Go.RowKit Go.Proofs.Ythnijeclidpooaa.Abs
set_option linter.unusedVariables false
set_option linter.unusedSimpArgs false
theorem rep_str {w : World} {U : Nat -> Prop} {v : Value} {l : List UInt8} (h : RepI w U v (.s l)) : v = .string ⟨l.toArray⟩ := by cases h; rfl
def baL (l : List UInt8) : ByteArray := ⟨l.toArray⟩
theorem us1 {us : Array Value} {a : Value} (h : us.size = 1) (h0 : us.getD 0 undef = a) : us = #[a] := by
 obtain ⟨us⟩ := us
 match us, h with
 | [x], _ => have : x = a := h0; rw [this]
theorem us2 {us : Array Value} {a b : Value} (h : us.size = 2) (h0 : us.getD 0 undef = a) (h1 : us.getD 1 undef = b) : us = #[a, b] := by
 obtain ⟨us⟩ := us
 match us, h with
 | [x, y], _ => have ha : x = a := h0; have hb : y = b := h1; rw [ha, hb]
theorem baL_size (l : List UInt8) : (baL l).size = l.length := by simp [baL, ByteArray.size]
end Go.Proofs.Ythnijeclidpooaa.X
