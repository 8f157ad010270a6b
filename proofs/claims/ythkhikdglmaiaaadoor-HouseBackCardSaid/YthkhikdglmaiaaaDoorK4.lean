/- Texts towards the law HouseBack, put together (part 4): an abstract walk and its proof, functions of the program as trees, and plain laws. Conditions: none. -/
import Derived.LoopN
import Derived.Test.YthkhikdglmaiaaaDoorProg
import Derived.KernelRfl
import Derived.Test.YthkhikdglmaiaaaDoorK3
namespace Go.Proofs.YthkhikdglmaiaaaDoor.Abs
open Go Go.RowKit
set_option linter.unusedVariables false
set_option linter.unusedSimpArgs false
abbrev Mem := List (Nat × Blk)

inductive PD where
  | i (k : IntKind)
  | b
  | s
  | st (c : Nat)
def PdsT : List PD -> Type -> Type
  | [], R => R
  | .i _ :: ps, R => Int × PdsT ps R
  | .b :: ps, R => Bool × PdsT ps R
  | .s :: ps, R => List UInt8 × PdsT ps R
  | .st c :: ps, R => List (τ c) × PdsT ps R
def putDs : (ps : List PD) -> {R : Type} -> PdsT ps R -> List D × R
  | [], _, r => ([], r)
  | .i k :: ps, _, (n, x) => (.i k n :: (putDs ps x).1, (putDs ps x).2)
  | .b :: ps, _, (n, x) => (.b n :: (putDs ps x).1, (putDs ps x).2)
  | .s :: ps, _, (n, x) => (.s n :: (putDs ps x).1, (putDs ps x).2)
  | .st c :: ps, _, (n, x) => (.st c n :: (putDs ps x).1, (putDs ps x).2)
def castSt (c k : Nat) (xs : List (τ k)) : Option (List (τ c)) := if h : k = c then some (h ▸ xs) else none
theorem castSt_eq {c k : Nat} {xs : List (τ k)} {ys : List (τ c)} (h : castSt c k xs = some ys) : D.st k xs = D.st c ys := by
  unfold castSt at h
  split at h
  · rename_i e; subst e; cases h; rfl
  · cases h
def getDs : (ps : List PD) -> List D -> Option (∀ R : Type, R -> PdsT ps R)
  | [], [] => some fun _ r => r
  | .i k :: ps, d :: ds => match d, getDs ps ds with
    | .i k' n, some g => if k = k' then some fun R r => (n, g R r) else none
    | _, _ => none
  | .b :: ps, d :: ds => match d, getDs ps ds with
    | .b n, some g => some fun R r => (n, g R r)
    | _, _ => none
  | .s :: ps, d :: ds => match d, getDs ps ds with
    | .s n, some g => some fun R r => (n, g R r)
    | _, _ => none
  | .st c :: ps, d :: ds => match d, getDs ps ds with
    | .st k xs, some g => match castSt c k xs with
      | some ys => some fun R r => (ys, g R r)
      | none => none
    | _, _ => none
  | _, _ => none
theorem getDs_put : ∀ {ps : List PD} {ds : List D} {g : ∀ R : Type, R -> PdsT ps R}, getDs ps ds = some g -> ∀ (R : Type) (r : R), putDs ps (g R r) = (ds, r)
  | [], [], g, h, R, r => by cases h; rfl
  | [], _ :: _, g, h, R, r => by cases h
  | .i k :: ps, [], g, h, R, r => by cases h
  | .b :: ps, [], g, h, R, r => by cases h
  | .s :: ps, [], g, h, R, r => by cases h
  | .st c :: ps, [], g, h, R, r => by cases h
  | .i k :: ps, d :: ds, g, h, R, r => by
    unfold getDs at h
    split at h
    · rename_i k' n g' hg
      split at h
      · rename_i e; subst e; cases h
        simp only [putDs, getDs_put hg R r]
      · cases h
    · cases h
  | .b :: ps, d :: ds, g, h, R, r => by
    unfold getDs at h
    split at h
    · rename_i n g' hg
      cases h
      simp only [putDs, getDs_put hg R r]
    · cases h
  | .s :: ps, d :: ds, g, h, R, r => by
    unfold getDs at h
    split at h
    · rename_i n g' hg
      cases h
      simp only [putDs, getDs_put hg R r]
    · cases h
  | .st c :: ps, d :: ds, g, h, R, r => by
    unfold getDs at h
    split at h
    · rename_i k xs g' hg
      split at h
      · rename_i ys hy
        cases h
        simp only [putDs, getDs_put hg R r, castSt_eq hy]
      · cases h
    · cases h

inductive Pt where
  | i (k : IntKind)
  | b
  | s
  | st (c : Nat) (fr : Bool)
  | nil
  | un
  | bad
  | own (k : Nat)
  | pre (k sz : Nat)
  | pr (k sz off : Nat)
  | mp (k : Nat)
  | ptr (k off : Nat)
  | clo (f : FuncId) (ps : List PD)
  | clp (f : FuncId) (ks : List (Nat × Nat))
def Pt.T : Pt -> Type -> Type
  | .i _, R => Int × R
  | .b, R => Bool × R
  | .s, R => List UInt8 × R
  | .st c _, R => List (τ c) × R
  | .clo _ ps, R => PdsT ps R
  | .pre _ _, R => Nat × R
  | .pr _ _ _, R => Nat × R
  | .nil, R | .un, R | .bad, R | .own _, R | .ptr _ _, R | .clp _ _, R | .mp _, R => R
def stC (fr : Bool) (c : Nat) (xs : List (τ c)) : C := match fr with | true => .f (.st c xs) | false => .d (.st c xs)
def vk (k : Nat) : Nat := match Nat.ble 1000000 k && Nat.blt k 1500000 with | true => 1 | false => 0
def Pt.put (len : Nat -> Nat) : (p : Pt) -> {R : Type} -> p.T R -> C × R
  | .i k, _, (n, r) => (.d (.i k n), r)
  | .b, _, (x, r) => (.d (.b x), r)
  | .s, _, (l, r) => (.d (.s l), r)
  | .st c fr, _, (xs, r) => (stC fr c xs, r)
  | .nil, _, r => (.nil, r)
  | .un, _, r => (.un, r)
  | .bad, _, r => (.bad, r)
  | .own k, _, r => (.own k (vk k) (len k), r)
  | .pre k sz, _, (n, r) => (.pre k (vk k) sz n, r)
  | .pr k sz off, _, (n, r) => (.pr k (vk k) sz n off, r)
  | .mp k, _, r => (.mp k, r)
  | .ptr k o, _, r => (.ptr k o, r)
  | .clo f ps, _, x => (.clo f (putDs ps x).1, (putDs ps x).2)
  | .clp f ks, _, r => (.clp f ks, r)
def getSt (c : Nat) (fr : Bool) : C -> Option (List (τ c))
  | .d (.st k xs) => match fr with | true => none | false => castSt c k xs
  | .f (.st k xs) => castSt c k xs
  | .nil => some []
  | _ => none
theorem getSt_wk {c : Nat} {fr : Bool} {x : C} {xs : List (τ c)} (h : getSt c fr x = some xs) : WkC x (stC fr c xs) := by
  cases x with
  | d d =>
    cases d with
    | st k ys =>
      cases fr with
      | true => cases h
      | false => exact .inl (by rw [castSt_eq (show castSt c k ys = some xs from h)]; rfl)
    | _ => cases h
  | f d =>
    cases d with
    | st k ys =>
      have := castSt_eq (show castSt c k ys = some xs from h)
      cases fr with
      | true => exact .inl (by rw [this]; rfl)
      | false => exact .inr (.inr (.inr ⟨_, rfl, by rw [this]; rfl⟩))
    | _ => cases h
  | nil =>
    have : xs = [] := by cases h; rfl
    subst this
    cases fr with
    | true => exact .inr (.inr (.inl ⟨rfl, .inr (.inr ⟨c, rfl⟩)⟩))
    | false => exact .inr (.inr (.inl ⟨rfl, .inr (.inl ⟨c, rfl⟩)⟩))
  | _ => cases h
abbrev Ob := List (Nat × Nat)
def Pt.get : (p : Pt) -> C -> Option (Ob × ∀ R : Type, R -> p.T R)
  | .i k, c => match c with
    | .d (.i k' n) => if k = k' then some ([], fun _ r => (n, r)) else none
    | _ => none
  | .b, c => match c with
    | .d (.b x) => some ([], fun _ r => (x, r))
    | _ => none
  | .s, c => match c with
    | .d (.s l) => some ([], fun _ r => (l, r))
    | _ => none
  | .st q fr, c => match getSt q fr c with
    | some xs => some ([], fun _ r => (xs, r))
    | none => none
  | .nil, c => match c with
    | .nil => some ([], fun _ r => r)
    | _ => none
  | .un, c => match c with
    | .un => some ([], fun _ r => r)
    | _ => none
  | .bad, _ => some ([], fun _ r => r)
  | .own k, c => match c with
    | .own k' ver len => if k = k' /\ ver = vk k then some ([(k, len)], fun _ r => r) else none
    | _ => none
  | .pre k sz, c => match c with
    | .pre k' ver sz' len => if k = k' /\ ver = vk k /\ sz = sz' then some ([], fun _ r => (len, r)) else none
    | _ => none
  | .pr k sz off, c => match c with
    | .pr k' ver sz' ix off' => if k = k' /\ ver = vk k /\ sz = sz' /\ off = off' then some ([], fun _ r => (ix, r)) else none
    | _ => none
  | .mp k, c => match c with
    | .mp k' => if k = k' then some ([], fun _ r => r) else none
    | _ => none
  | .ptr k o, c => match c with
    | .ptr k' o' => if k = k' /\ o = o' then some ([], fun _ r => r) else none
    | _ => none
  | .clo f ps, c => match c with
    | .clo f' ds => if f = f' then match getDs ps ds with
      | some g => some ([], g)
      | none => none
      else none
    | _ => none
  | .clp f ks, c => match c with
    | .clp f' ks' => if f = f' /\ ks = ks' then some ([], fun _ r => r) else none
    | _ => none
def ObOk (len : Nat -> Nat) (l : Ob) : Prop := ∀ q ∈ l, q.2 = len q.1
theorem Pt.get_put {len : Nat -> Nat} {p : Pt} {c : C} {l : Ob} {g : ∀ R : Type, R -> p.T R} (h : p.get c = some (l, g)) (ho : ObOk len l) (R : Type) (r : R) : (p.put len (g R r)).2 = r /\ WkC c (p.put len (g R r)).1 := by
  cases p with
  | i k =>
    simp only [Pt.get] at h
    split at h
    · split at h
      · rename_i e; subst e; cases h; exact ⟨rfl, .inl rfl⟩
      · cases h
    · cases h
  | b => simp only [Pt.get] at h; split at h; (cases h; exact ⟨rfl, .inl rfl⟩); cases h
  | s => simp only [Pt.get] at h; split at h; (cases h; exact ⟨rfl, .inl rfl⟩); cases h
  | st q fr =>
    simp only [Pt.get] at h
    split at h
    · rename_i xs hx; cases h; exact ⟨rfl, getSt_wk hx⟩
    · cases h
  | nil => simp only [Pt.get] at h; split at h; (cases h; exact ⟨rfl, .inl rfl⟩); cases h
  | un => simp only [Pt.get] at h; split at h; (cases h; exact ⟨rfl, .inl rfl⟩); cases h
  | bad => simp only [Pt.get] at h; cases h; exact ⟨rfl, .inr (.inl rfl)⟩
  | own k =>
    simp only [Pt.get] at h
    split at h
    · split at h
      · rename_i k' ver n e
        obtain ⟨rfl, rfl⟩ := e
        cases h
        refine ⟨rfl, .inl ?_⟩
        have := ho (k, n) (by simp)
        simp only at this
        rw [this]; rfl
      · cases h
    · cases h
  | pre k sz =>
    simp only [Pt.get] at h
    split at h
    · split at h
      · rename_i e; obtain ⟨rfl, rfl, rfl⟩ := e; cases h; exact ⟨rfl, .inl rfl⟩
      · cases h
    · cases h
  | pr k sz off =>
    simp only [Pt.get] at h
    split at h
    · split at h
      · rename_i e; obtain ⟨rfl, rfl, rfl, rfl⟩ := e; cases h; exact ⟨rfl, .inl rfl⟩
      · cases h
    · cases h
  | mp k =>
    simp only [Pt.get] at h
    split at h
    · split at h
      · rename_i e; subst e; cases h; exact ⟨rfl, .inl rfl⟩
      · cases h
    · cases h
  | ptr k o =>
    simp only [Pt.get] at h
    split at h
    · split at h
      · rename_i e; obtain ⟨rfl, rfl⟩ := e; cases h; exact ⟨rfl, .inl rfl⟩
      · cases h
    · cases h
  | clp f ks =>
    simp only [Pt.get] at h
    split at h
    · split at h
      · rename_i e; obtain ⟨rfl, rfl⟩ := e; cases h; exact ⟨rfl, .inl rfl⟩
      · cases h
    · cases h
  | clo f ps =>
    simp only [Pt.get] at h
    split at h
    · split at h
      · rename_i e; subst e
        split at h
        · rename_i g' hg; cases h
          have := getDs_put hg R r
          refine ⟨by simp only [Pt.put]; rw [this], .inl ?_⟩
          simp only [Pt.put]; rw [this]
        · cases h
      · cases h
    · cases h

def PtsT : List Pt -> Type -> Type
  | [], R => R
  | p :: ps, R => p.T (PtsT ps R)
def putPts (len : Nat -> Nat) : (ps : List Pt) -> {R : Type} -> PtsT ps R -> List C × R
  | [], _, r => ([], r)
  | p :: ps, _, x => ((p.put len x).1 :: (putPts len ps (p.put len x).2).1, (putPts len ps (p.put len x).2).2)
def getPts : (ps : List Pt) -> List C -> Option (Ob × ∀ R : Type, R -> PtsT ps R)
  | [], [] => some ([], fun _ r => r)
  | p :: ps, c :: cs => match p.get c, getPts ps cs with
    | some (l1, g1), some (l2, g2) => some (l1 ++ l2, fun R r => g1 _ (g2 R r))
    | _, _ => none
  | _, _ => none
theorem ObOk.left {len : Nat -> Nat} {l1 l2 : Ob} (h : ObOk len (l1 ++ l2)) : ObOk len l1 := fun q hq => h q (List.mem_append_left _ hq)
theorem ObOk.right {len : Nat -> Nat} {l1 l2 : Ob} (h : ObOk len (l1 ++ l2)) : ObOk len l2 := fun q hq => h q (List.mem_append_right _ hq)
theorem getPts_put {len : Nat -> Nat} : ∀ {ps : List Pt} {cs : List C} {l : Ob} {g : ∀ R : Type, R -> PtsT ps R}, getPts ps cs = some (l, g) -> ObOk len l -> ∀ (R : Type) (r : R), (putPts len ps (g R r)).2 = r /\ WkCs cs (putPts len ps (g R r)).1
  | [], [], l, g, h, ho, R, r => by cases h; exact ⟨rfl, trivial⟩
  | [], _ :: _, l, g, h, ho, R, r => by cases h
  | _ :: _, [], l, g, h, ho, R, r => by cases h
  | p :: ps, c :: cs, l, g, h, ho, R, r => by
    unfold getPts at h
    split at h
    · rename_i l1 g1 l2 g2 h1 h2
      cases h
      obtain ⟨a1, a2⟩ := Pt.get_put h1 ho.left _ (g2 R r)
      obtain ⟨b1, b2⟩ := getPts_put h2 ho.right R r
      simp only [putPts]
      rw [a1]
      exact ⟨b1, a2, b2⟩
    · cases h
def skipPts : (ps : List Pt) -> {R : Type} -> PtsT ps R -> R := fun ps _ x => (putPts (fun _ => 0) ps x).2

inductive VP1 where
  | one (p : Pt)
  | agg (ps : List Pt)
inductive VP where
  | v (x : VP1)
  | tup (xs : List VP1)
def VP1.T : VP1 -> Type -> Type
  | .one p, R => p.T R
  | .agg ps, R => PtsT ps R
def VP1.put (len : Nat -> Nat) : (p : VP1) -> {R : Type} -> p.T R -> V × R
  | .one p, _, x => (.one (p.put len x).1, (p.put len x).2)
  | .agg ps, _, x => (.agg (putPts len ps x).1, (putPts len ps x).2)
def VP1.get : (p : VP1) -> V -> Option (Ob × ∀ R : Type, R -> p.T R)
  | .one p, v => match v with
    | .one c => p.get c
    | _ => none
  | .agg ps, v => match v with
    | .agg cs => getPts ps cs
    | _ => none
theorem VP1.get_put {len : Nat -> Nat} {p : VP1} {u : V} {l : Ob} {g : ∀ R : Type, R -> p.T R} (h : p.get u = some (l, g)) (ho : ObOk len l) (R : Type) (r : R) : (p.put len (g R r)).2 = r /\ WkV u (p.put len (g R r)).1 := by
  cases p with
  | one p =>
    cases u with
    | one c =>
      have h' : p.get c = some (l, g) := h
      have := Pt.get_put (len := len) h' ho R r
      exact ⟨this.1, this.2⟩
    | agg => cases h
    | tup => cases h
  | agg ps =>
    cases u with
    | agg cs =>
      have h' : getPts ps cs = some (l, g) := h
      have := getPts_put (len := len) h' ho R r
      exact ⟨this.1, this.2⟩
    | one => cases h
    | tup => cases h
def VPsT : List VP1 -> Type -> Type
  | [], R => R
  | p :: ps, R => p.T (VPsT ps R)
def putVs (len : Nat -> Nat) : (ps : List VP1) -> {R : Type} -> VPsT ps R -> List V × R
  | [], _, r => ([], r)
  | p :: ps, _, x => ((p.put len x).1 :: (putVs len ps (p.put len x).2).1, (putVs len ps (p.put len x).2).2)
def getVs : (ps : List VP1) -> List V -> Option (Ob × ∀ R : Type, R -> VPsT ps R)
  | [], [] => some ([], fun _ r => r)
  | p :: ps, c :: cs => match p.get c, getVs ps cs with
    | some (l1, g1), some (l2, g2) => some (l1 ++ l2, fun R r => g1 _ (g2 R r))
    | _, _ => none
  | _, _ => none
theorem getVs_put {len : Nat -> Nat} : ∀ {ps : List VP1} {cs : List V} {l : Ob} {g : ∀ R : Type, R -> VPsT ps R}, getVs ps cs = some (l, g) -> ObOk len l -> ∀ (R : Type) (r : R), (putVs len ps (g R r)).2 = r /\ WkVs cs (putVs len ps (g R r)).1
  | [], [], l, g, h, ho, R, r => by cases h; exact ⟨rfl, trivial⟩
  | [], _ :: _, l, g, h, ho, R, r => by cases h
  | _ :: _, [], l, g, h, ho, R, r => by cases h
  | p :: ps, c :: cs, l, g, h, ho, R, r => by
    unfold getVs at h
    split at h
    · rename_i l1 g1 l2 g2 h1 h2
      cases h
      obtain ⟨a1, a2⟩ := VP1.get_put h1 ho.left _ (g2 R r)
      obtain ⟨b1, b2⟩ := getVs_put h2 ho.right R r
      simp only [putVs]
      rw [a1]
      exact ⟨b1, a2, b2⟩
    · cases h
def WkX (x y : V) : Prop := WkV x y \/ ∃ vs vs', x = .tup vs /\ y = .tup vs' /\ WkVs vs vs'
def VP.T : VP -> Type -> Type
  | .v p, R => p.T R
  | .tup ps, R => VPsT ps R
def VP.put (len : Nat -> Nat) : (p : VP) -> {R : Type} -> p.T R -> V × R
  | .v p, _, x => p.put len x
  | .tup ps, _, x => (.tup (putVs len ps x).1, (putVs len ps x).2)
def VP.get : (p : VP) -> V -> Option (Ob × ∀ R : Type, R -> p.T R)
  | .v p, u => p.get u
  | .tup ps, u => match u with
    | .tup vs => getVs ps vs
    | _ => none
theorem VP.get_put {len : Nat -> Nat} {p : VP} {u : V} {l : Ob} {g : ∀ R : Type, R -> p.T R} (h : p.get u = some (l, g)) (ho : ObOk len l) (R : Type) (r : R) : (p.put len (g R r)).2 = r /\ WkX u (p.put len (g R r)).1 := by
  cases p with
  | v p =>
    have h' : p.get u = some (l, g) := h
    have := VP1.get_put (len := len) h' ho R r
    exact ⟨this.1, .inl this.2⟩
  | tup ps =>
    cases u with
    | tup us =>
      have h' : getVs ps us = some (l, g) := h
      have := getVs_put (len := len) h' ho R r
      exact ⟨this.1, .inr ⟨_, _, rfl, rfl, this.2⟩⟩
    | one => cases h
    | agg => cases h

def EnvT : List (Nat × VP) -> Type -> Type
  | [], R => R
  | p :: ps, R => p.2.T (EnvT ps R)
def putEnv (len : Nat -> Nat) : (ps : List (Nat × VP)) -> {R : Type} -> EnvT ps R -> List (Nat × V) × R
  | [], _, r => ([], r)
  | p :: ps, _, x => ((p.1, (p.2.put len x).1) :: (putEnv len ps (p.2.put len x).2).1, (putEnv len ps (p.2.put len x).2).2)
def getEnv : (ps : List (Nat × VP)) -> List (Nat × V) -> Option (Ob × ∀ R : Type, R -> EnvT ps R)
  | [], [] => some ([], fun _ r => r)
  | p :: ps, c :: cs => match Nat.beq p.1 c.1, p.2.get c.2, getEnv ps cs with
    | true, some (l1, g1), some (l2, g2) => some (l1 ++ l2, fun R r => g1 _ (g2 R r))
    | _, _, _ => none
  | _, _ => none
def EnvWk : List (Nat × V) -> List (Nat × V) -> Prop
  | [], [] => True
  | c :: cs, d :: ds => c.1 = d.1 /\ WkX c.2 d.2 /\ EnvWk cs ds
  | _, _ => False
theorem getEnv_put {len : Nat -> Nat} : ∀ {ps : List (Nat × VP)} {cs : List (Nat × V)} {l : Ob} {g : ∀ R : Type, R -> EnvT ps R}, getEnv ps cs = some (l, g) -> ObOk len l -> ∀ (R : Type) (r : R), (putEnv len ps (g R r)).2 = r /\ EnvWk cs (putEnv len ps (g R r)).1
  | [], [], l, g, h, ho, R, r => by cases h; exact ⟨rfl, trivial⟩
  | [], _ :: _, l, g, h, ho, R, r => by cases h
  | _ :: _, [], l, g, h, ho, R, r => by cases h
  | p :: ps, c :: cs, l, g, h, ho, R, r => by
    unfold getEnv at h
    split at h
    · rename_i l1 g1 l2 g2 h0 h1 h2
      cases h
      obtain ⟨a1, a2⟩ := VP.get_put h1 ho.left _ (g2 R r)
      obtain ⟨b1, b2⟩ := getEnv_put h2 ho.right R r
      simp only [putEnv]
      rw [a1]
      exact ⟨b1, (Nat.eq_of_beq_eq_true h0).symm, a2, b2⟩
    · cases h
inductive BP where
  | cells (ps : List Pt)
  | row (e : TypeId) (c : Nat) (ap fr : Bool)
  | map (kt : Nat)
def BP.T : BP -> Type -> Type
  | .map kt, R => List (τ kt × Int) × R
  | .cells ps, R => PtsT ps R
  | .row _ c _ _, R => List (τ c) × R
def BP.put (len : Nat -> Nat) (k : Nat) : (p : BP) -> {R : Type} -> p.T R -> Blk × R
  | .cells ps, _, x => (.cells (putPts len ps x).1, (putPts len ps x).2)
  | .row e c ap fr, _, (xs, r) => (.rowT (vk k) e c ap fr xs, r)
  | .map kt, _, (es, r) => (.mp kt es, r)
def getMp (kt : Nat) : Blk -> Option (List (τ kt × Int))
  | .mp kt' es => if h : kt' = kt then some (h ▸ es) else none
  | _ => none
theorem getMp_eq {kt : Nat} {b : Blk} {es : List (τ kt × Int)} (h : getMp kt b = some es) : b = .mp kt es := by
  cases b with
  | mp kt' es' =>
    have h' : (if h : kt' = kt then some (h ▸ es') else none) = some es := h
    split at h'
    · rename_i e; subst e; cases h'; rfl
    · cases h'
  | cells => exact absurd (show (none : Option (List (τ kt × Int))) = some es from h) (by simp)
  | row => exact absurd (show (none : Option (List (τ kt × Int))) = some es from h) (by simp)
  | rowT => exact absurd (show (none : Option (List (τ kt × Int))) = some es from h) (by simp)
def getRow (k : Nat) (e : TypeId) (c : Nat) (ap fr : Bool) : Blk -> Option (List (τ c))
  | .rowT ver e' c' ap' fr' xs => if ver = vk k /\ e = e' /\ ap = ap' /\ fr = fr' then castSt c c' xs else none
  | _ => none
theorem getRow_wk {k : Nat} {e : TypeId} {c : Nat} {ap fr : Bool} {b : Blk} {ys : List (τ c)} (h : getRow k e c ap fr b = some ys) : b = .rowT (vk k) e c ap fr ys := by
  cases b with
  | rowT ver e' c' ap' fr' xs =>
    have h' : (if ver = vk k /\ e = e' /\ ap = ap' /\ fr = fr' then castSt c c' xs else none) = some ys := h
    by_cases e1 : ver = vk k /\ e = e' /\ ap = ap' /\ fr = fr'
    · rw [if_pos e1] at h'
      obtain ⟨rfl, rfl, rfl, rfl⟩ := e1
      unfold castSt at h'
      split at h'
      · rename_i e; subst e; cases h'; rfl
      · cases h'
    · rw [if_neg e1] at h'; cases h'
  | cells => exact absurd (show (none : Option (List (τ c))) = some ys from h) (by simp)
  | mp => exact absurd (show (none : Option (List (τ c))) = some ys from h) (by simp)
  | row => exact absurd (show (none : Option (List (τ c))) = some ys from h) (by simp)
def BP.get (k : Nat) : (p : BP) -> Blk -> Option (Ob × ∀ R : Type, R -> p.T R)
  | .cells ps, b => match b with
    | .cells cs => getPts ps cs
    | _ => none
  | .row e c ap fr, b => match getRow k e c ap fr b with
    | some ys => some ([], fun _ r => (ys, r))
    | none => none
  | .map kt, b => match getMp kt b with
    | some es => some ([], fun _ r => (es, r))
    | none => none
theorem WkB.blk {b b' : Blk} (h : WkB b b') : BlkWk b b' := by
  refine ⟨?_, fun p x j => WkB_covers h, fun w β U base p hr => hr.wk h⟩
  cases b with
  | cells cs => cases b' with
    | cells => rfl
    | mp => cases h
    | row => cases h
    | rowT => cases h
  | mp => cases h; rfl
  | row => cases h; rfl
  | rowT => cases h; rfl
theorem BP.get_put {len : Nat -> Nat} {k : Nat} {p : BP} {b : Blk} {l : Ob} {g : ∀ R : Type, R -> p.T R} (h : p.get k b = some (l, g)) (ho : ObOk len l) (R : Type) (r : R) : (p.put len k (g R r)).2 = r /\ BlkWk b (p.put len k (g R r)).1 := by
  cases p with
  | cells ps =>
    cases b with
    | cells cs =>
      have h' : getPts ps cs = some (l, g) := h
      have := getPts_put (len := len) h' ho R r
      exact ⟨this.1, WkB.blk (show WkB (.cells _) (.cells _) from this.2)⟩
    | mp => cases h
    | row => cases h
    | rowT => cases h
  | map kt =>
    cases hr : getMp kt b with
    | none =>
      have h' : (match getMp kt b with | some es => some (([] : Ob), fun (R : Type) (r : R) => ((es, r) : List (τ kt × Int) × R)) | none => none) = some (l, g) := h
      rw [hr] at h'
      exact absurd h' (by simp)
    | some es =>
      have h' : (match getMp kt b with | some es => some (([] : Ob), fun (R : Type) (r : R) => ((es, r) : List (τ kt × Int) × R)) | none => none) = some (l, g) := h
      rw [hr] at h'
      have h2 := congrArg Prod.snd (Option.some.inj h')
      have h3 : g = fun R r => (es, r) := h2.symm
      subst h3
      refine ⟨rfl, ?_⟩
      rw [getMp_eq hr]
      exact BlkWk.rfl _
  | row e c ap fr =>
    cases hr : getRow k e c ap fr b with
    | none =>
      have h' : (match getRow k e c ap fr b with | some ys => some (([] : Ob), fun (R : Type) (r : R) => ((ys, r) : List (τ c) × R)) | none => none) = some (l, g) := h
      rw [hr] at h'
      exact absurd h' (by simp)
    | some ys =>
      have h' : (match getRow k e c ap fr b with | some ys => some (([] : Ob), fun (R : Type) (r : R) => ((ys, r) : List (τ c) × R)) | none => none) = some (l, g) := h
      rw [hr] at h'
      have h2 := congrArg Prod.snd (Option.some.inj h')
      have h3 : g = fun R r => (ys, r) := h2.symm
      subst h3
      refine ⟨rfl, ?_⟩
      rw [getRow_wk hr]
      exact BlkWk.rfl _
def MemT : List (Nat × BP) -> Type -> Type
  | [], R => R
  | p :: ps, R => p.2.T (MemT ps R)
def putMem (len : Nat -> Nat) : (ps : List (Nat × BP)) -> {R : Type} -> MemT ps R -> List (Nat × Blk) × R
  | [], _, r => ([], r)
  | p :: ps, _, x => ((p.1, (p.2.put len p.1 x).1) :: (putMem len ps (p.2.put len p.1 x).2).1, (putMem len ps (p.2.put len p.1 x).2).2)
def getMem : (ps : List (Nat × BP)) -> List (Nat × Blk) -> Option (Ob × ∀ R : Type, R -> MemT ps R)
  | [], [] => some ([], fun _ r => r)
  | p :: ps, c :: cs => match Nat.beq p.1 c.1, p.2.get p.1 c.2, getMem ps cs with
    | true, some (l1, g1), some (l2, g2) => some (l1 ++ l2, fun R r => g1 _ (g2 R r))
    | _, _, _ => none
  | _, _ => none
def MemWk : List (Nat × Blk) -> List (Nat × Blk) -> Prop
  | [], [] => True
  | c :: cs, d :: ds => c.1 = d.1 /\ BlkWk c.2 d.2 /\ MemWk cs ds
  | _, _ => False
theorem getMem_put {len : Nat -> Nat} : ∀ {ps : List (Nat × BP)} {cs : List (Nat × Blk)} {l : Ob} {g : ∀ R : Type, R -> MemT ps R}, getMem ps cs = some (l, g) -> ObOk len l -> ∀ (R : Type) (r : R), (putMem len ps (g R r)).2 = r /\ MemWk cs (putMem len ps (g R r)).1
  | [], [], l, g, h, ho, R, r => by cases h; exact ⟨rfl, trivial⟩
  | [], _ :: _, l, g, h, ho, R, r => by cases h
  | _ :: _, [], l, g, h, ho, R, r => by cases h
  | p :: ps, c :: cs, l, g, h, ho, R, r => by
    unfold getMem at h
    split at h
    · rename_i l1 g1 l2 g2 h0 h1 h2
      cases h
      obtain ⟨a1, a2⟩ := BP.get_put h1 ho.left _ (g2 R r)
      obtain ⟨b1, b2⟩ := getMem_put h2 ho.right R r
      simp only [putMem]
      rw [a1]
      exact ⟨b1, (Nat.eq_of_beq_eq_true h0).symm, a2, b2⟩
    · cases h
def memLen : (ps : List (Nat × BP)) -> {R : Type} -> MemT ps R -> Nat -> Nat
  | [], _, _, _ => 0
  | (q, .row e c ap fr) :: ps, _, (xs, x), k => match Nat.beq q k with | true => xs.length | false => memLen ps x k
  | (q, .cells cs) :: ps, _, x, k => memLen ps (skipPts cs x) k
  | (q, .map kt) :: ps, _, (es, x), k => memLen ps x k

structure SP where
  n : Nat
  env : List (Nat × VP)
  mem : List (Nat × BP)
def SP.T (sp : SP) : Type := EnvT sp.env (MemT sp.mem Unit)
def SP.len (sp : SP) (x : sp.T) : Nat -> Nat := memLen sp.mem (putEnv (fun _ => 0) sp.env x).2
def SP.put (sp : SP) (x : sp.T) : St :=
  ⟨sp.n, (putEnv (sp.len x) sp.env x).1, (putMem (sp.len x) sp.mem (putEnv (sp.len x) sp.env x).2).1⟩
def SP.get (sp : SP) (s : St) : Option (Ob × sp.T) :=
  match Nat.beq s.n sp.n, getEnv sp.env s.env, getMem sp.mem s.mem with
  | true, some (l1, g1), some (l2, g2) => some (l1 ++ l2, g1 _ (g2 Unit ()))
  | _, _, _ => none
def grdOb {α : Type} (len : Nat -> Nat) : Ob -> Tr α -> Tr α
  | [], T => T
  | (k, n) :: r, T => .grd (decide (n = len k)) (grdOb len r T)
theorem eval_grdOb {α : Type} {len : Nat -> Nat} : ∀ {l : Ob} {T : Tr α} {a : α}, (grdOb len l T).eval = some a -> ObOk len l /\ T.eval = some a
  | [], T, a, h => ⟨fun q hq => (by cases hq), h⟩
  | (k, n) :: r, T, a, h => by
    obtain ⟨h1, h2⟩ := Tr.eval_grd h
    obtain ⟨h3, h4⟩ := eval_grdOb h2
    refine ⟨fun q hq => ?_, h4⟩
    rcases List.mem_cons.1 hq with rfl | hq
    · simpa using h1
    · exact h3 q hq

theorem SP.get_put {sp : SP} {s : St} {l : Ob} {x : sp.T} (h : sp.get s = some (l, x)) (hob0 : ObOk (sp.len x) l) : s.n = (sp.put x).n /\ EnvWk s.env (sp.put x).env /\ MemWk s.mem (sp.put x).mem := by
  unfold SP.get at h
  split at h
  · rename_i l1 g1 l2 g2 h0 h1 h2
    have ho := congrArg Prod.fst (Option.some.inj h)
    have hx := congrArg Prod.snd (Option.some.inj h)
    simp only at ho hx
    subst hx
    subst ho
    have skip0 : ∀ (len : Nat -> Nat), ObOk len l1 -> (putEnv len sp.env (g1 _ (g2 Unit ()))).2 = g2 Unit () := fun len hl => (getEnv_put h1 hl _ _).1
    have skip : ∀ (len : Nat -> Nat), (putEnv len sp.env (g1 _ (g2 Unit ()))).2 = g2 Unit () := by
      intro len
      have e : ∀ len len' : Nat -> Nat, (putEnv len sp.env (g1 _ (g2 Unit ()))).2 = (putEnv len' sp.env (g1 _ (g2 Unit ()))).2 := by
        intro len len'
        have ePt : ∀ (p : Pt) {R : Type} (x : p.T R), (p.put len x).2 = (p.put len' x).2 := by
          intro p R x; cases p <;> rfl
        have ePts : ∀ (ps : List Pt) {R : Type} (x : PtsT ps R), (putPts len ps x).2 = (putPts len' ps x).2 := by
          intro ps
          induction ps with
          | nil => intro R x; rfl
          | cons p ps ih => intro R x; simp only [putPts]; rw [ePt p x]; exact ih _
        have eV1 : ∀ (p : VP1) {R : Type} (x : p.T R), (p.put len x).2 = (p.put len' x).2 := by
          intro p R x
          cases p with
          | one p => exact ePt p x
          | agg ps => exact ePts ps x
        have eVs : ∀ (ps : List VP1) {R : Type} (x : VPsT ps R), (putVs len ps x).2 = (putVs len' ps x).2 := by
          intro ps
          induction ps with
          | nil => intro R x; rfl
          | cons p ps ih => intro R x; simp only [putVs]; rw [eV1 p x]; exact ih _
        have eV : ∀ (p : VP) {R : Type} (x : p.T R), (p.put len x).2 = (p.put len' x).2 := by
          intro p R x
          cases p with
          | v p => exact eV1 p x
          | tup ps => exact eVs ps x
        have eE : ∀ (ps : List (Nat × VP)) {R : Type} (x : EnvT ps R), (putEnv len ps x).2 = (putEnv len' ps x).2 := by
          intro ps
          induction ps with
          | nil => intro R x; rfl
          | cons p ps ih => intro R x; simp only [putEnv]; rw [eV p.2 x]; exact ih _
        exact eE _ _
      rw [e len (sp.len (g1 _ (g2 Unit ())))]
      exact skip0 _ (fun q hq => hob0 q (List.mem_append_left _ hq))
    have hob : ∀ q ∈ l1 ++ l2, q.2 = sp.len (g1 _ (g2 Unit ())) q.1 := hob0
    refine ⟨Nat.eq_of_beq_eq_true h0, (getEnv_put h1 (fun q hq => hob q (List.mem_append_left _ hq)) _ _).2, ?_⟩
    unfold SP.put
    simp only
    rw [skip]
    exact (getMem_put h2 (fun q hq => hob q (List.mem_append_right _ hq)) _ _).2
  · cases h

theorem EnvWk.get : ∀ {cs ds : List (Nat × V)}, EnvWk cs ds -> ∀ t, (look t cs = none /\ look t ds = none) \/ ∃ x y, look t cs = some x /\ look t ds = some y /\ WkX x y
  | [], [], h, t => .inl ⟨rfl, rfl⟩
  | c :: cs, d :: ds, h, t => by
    obtain ⟨h1, h2, h3⟩ := h
    obtain ⟨a, b⟩ := c; obtain ⟨a', b'⟩ := d
    simp only at h1 h2; subst h1
    rw [look_cons, look_cons]
    by_cases e : a = t
    · rw [if_pos e, if_pos e]; exact .inr ⟨_, _, rfl, rfl, h2⟩
    · rw [if_neg e, if_neg e]; exact EnvWk.get h3 t
  | [], _ :: _, h, t => h.elim
  | _ :: _, [], h, t => h.elim
theorem MemWk.get : ∀ {cs ds : List (Nat × Blk)}, MemWk cs ds -> ∀ t, OptWk (look t cs) (look t ds)
  | [], [], h, t => trivial
  | c :: cs, d :: ds, h, t => by
    obtain ⟨h1, h2, h3⟩ := h
    obtain ⟨a, b⟩ := c; obtain ⟨a', b'⟩ := d
    simp only at h1 h2; subst h1
    rw [look_cons, look_cons]
    by_cases e : a = t
    · rw [if_pos e, if_pos e]; exact h2
    · rw [if_neg e, if_neg e]; exact MemWk.get h3 t
  | [], _ :: _, h, t => h.elim
  | _ :: _, [], h, t => h.elim

theorem RepV.wkX {w : World} {β : Nat -> Option Place} {U : Nat -> Prop} {base : Nat} {v : Value} {x y : V} (h : RepV w β U base v x) (hw : WkX x y) : RepV w β U base v y := by
  rcases hw with hw | ⟨vs, vs', rfl, rfl, hw⟩
  · exact h.wk hw
  · cases h with
    | tup us _ hl h =>
      obtain ⟨h1, h2⟩ := WkVs_get hw
      refine .tup us vs' (by omega) fun j u x hu hx => ?_
      have hj : j < vs.length := by have := (List.getElem?_eq_some_iff.1 hx).1; omega
      exact (h j u _ hu (List.getElem?_eq_getElem hj)).wk (h2 j _ x (List.getElem?_eq_getElem hj) hx)

structure StWk (s s' : St) : Prop where
  n : s.n = s'.n
  env : EnvWk s.env s'.env
  mem : MemWk s.mem s'.mem
theorem SP.wk {sp : SP} {s : St} {l : Ob} {x : sp.T} (h : sp.get s = some (l, x)) (ho : ObOk (sp.len x) l) : StWk s (sp.put x) := ⟨(SP.get_put h ho).1, (SP.get_put h ho).2.1, (SP.get_put h ho).2.2⟩

theorem SimB.stWk {w0 : World} {U0 : Nat -> Prop} {X : Nat -> Nat -> Prop} {β0 β : Nat -> Option Place} {U : Nat -> Prop} {s s' : St} {a : Act} {w : World} (h : SimB w0 U0 X β0 β U s a w) (hw : StWk s s') : SimB w0 U0 X β0 β U s' a w := by
  have h1 : SimB w0 U0 X β0 β U { s with env := s'.env } a w := { h with
    env := fun t => by
      rcases hw.env.get t with ⟨e1, e2⟩ | ⟨x, y, e1, e2, e3⟩
      · have := h.env t
        unfold St.get at this ⊢
        rw [e2]; exact .bad _
      · have := h.env t
        unfold St.get at this ⊢
        rw [e1] at this; rw [e2]
        exact this.wkX e3 }
  exact h1.blkWk hw.n.symm rfl (fun k => hw.mem.get k)
theorem Sim.stWk {w0 : World} {U0 : Nat -> Prop} {X : Nat -> Nat -> Prop} {β0 : Nat -> Option Place} {s s' : St} {a : Act} {w : World} (h : Sim w0 U0 X β0 s a w) (hw : StWk s s') : Sim w0 U0 X β0 s' a w := by
  obtain ⟨β, U, hb⟩ := h
  exact ⟨β, U, hb.stWk hw⟩
end Go.Proofs.YthkhikdglmaiaaaDoor.Abs
namespace Go.Proofs.YthkhikdglmaiaaaDoor.Abs
open Go Go.RowKit
set_option linter.unusedVariables false
set_option linter.unusedSimpArgs false

abbrev Kn := List (Nat × Bool)
abbrev Log := List (List Nat × List Nat)

def unKn (d : Nat) : Kn -> Kn
  | [] => []
  | (t, b) :: r => match Nat.beq t d with | true => unKn d r | false => (t, b) :: unKn d r
def knPut (kn : Kn) (dst : Option Nat) (b : Option Bool) : Kn :=
  match dst with
  | none => kn
  | some d => match b with | some b => (d, b) :: unKn d kn | none => unKn d kn
def known (kn : Kn) : Operand -> Option Bool
  | .tmp t => look t kn
  | .const (.bool b) => some b
  | _ => none

def KnOk (kn : Kn) (s : St) : Prop := ∀ t b, look t kn = some b -> s.get t = vb b

def ownKeys : List C -> List Nat
  | [] => []
  | .own k _ _ :: r => k :: ownKeys r
  | _ :: r => ownKeys r
def V.own1 : V -> List Nat
  | .one c => ownKeys [c]
  | .agg cs => ownKeys cs
  | .tup _ => []
def V.owns : V -> List Nat
  | .tup vs => vs.flatMap V.own1
  | v => v.own1
def newNames (old : List Nat) : Nat -> List Nat -> List (Nat × Nat)
  | _, [] => []
  | j, k :: r => match old.contains k with
    | true => newNames old j r
    | false => (k, j) :: newNames (k :: old) (j + 1) r
def ownsOf (m : Nat -> Option Blk) : List V -> List Nat
  | [] => []
  | .one (.ptr k _) :: r => match m k with
    | some (.cells cs) => ownKeys cs ++ ownsOf m r
    | _ => ownsOf m r
  | v :: r => v.own1 ++ ownsOf m r
def capsOf : List V -> List Nat
  | [] => []
  | .one (.clp _ ks) :: r => ks.map (·.1) ++ capsOf r
  | _ :: r => capsOf r
def ksPtr (args : List V) : List (Nat × Nat) := ksOf 0 args ++ newNames ((ksOf 0 args).map (·.1)) 1000200 (capsOf args)
def pickM (mode : Nat) : List Nat -> List V -> List V
  | m :: ms, v :: vs => match Nat.beq m mode with
    | true => v :: pickM mode ms vs
    | false => pickM mode ms vs
  | _, _ => []
def stayKeys : List V -> List Nat
  | [] => []
  | .one (.own k _ _) :: r => k :: stayKeys r
  | .one (.pre k _ _ _) :: r => k :: stayKeys r
  | _ :: r => stayKeys r
def ksAll (m : Nat -> Option Blk) (args : List V) (ms : List Nat) : List (Nat × Nat) := ksPtr args ++ newNames [] 1000100 (ownsOf m (pickM 1 ms args)) ++ newNames (ownsOf m (pickM 1 ms args)) 1500100 (stayKeys (pickM 2 ms args))
def ksFor (own : List Nat) (m : Nat -> Option Blk) (args : List V) : List (Nat × Nat) := match own with | [] => ksPtr args | m1 :: ms => ksAll m args (m1 :: ms)
def rowB : Option Blk -> Bool
  | some (.row _ _ _ _ _ _) => true
  | some (.rowT _ _ _ _ _ _) => true
  | _ => false
def lockK (ks : List (Nat × Nat)) (m : Nat -> Option Blk) : List Nat -> Bool
  | [] => false
  | k :: r => match look k ks with
    | some _ => lockK ks m r
    | none => match rowB (m k) with
      | true => true
      | false => lockK ks m r
def lockOf (ks : List (Nat × Nat)) (m : Nat -> Option Blk) (vals : List V) : Bool := lockK ks m (vals.flatMap V.keysA ++ ks.flatMap fun p => cellKeys (m p.1))

variable (P : Program) (cod : TypeId -> Nat) (own : FuncId -> List Nat) (call : FuncId -> List V -> Mem -> Tr (V × Mem)) {ρ : Type}

def execCall (o : Oper) (kn : Kn) (s : St) (K : Kn -> List Nat -> List Nat -> St -> Tr ρ) (f : FuncId) (caps : List V) (args : List Operand) : Tr ρ :=
  match viewMem s.blk (sigIn s.blk (ksFor (own f) s.blk (args.map s.eval ++ caps))) (lockOf (ksFor (own f) s.blk (args.map s.eval ++ caps)) s.blk (args.map s.eval ++ caps)) (ksFor (own f) s.blk (args.map s.eval ++ caps)) with
  | none => .fail 11
  | some m1 => match canEnter P f && okKs (ksFor (own f) s.blk (args.map s.eval ++ caps)) && decide ((args.length + caps.length) <= 900) with
    | true => (call f ((args.map s.eval ++ caps).map (viewV s.blk (sigIn s.blk (ksFor (own f) s.blk (args.map s.eval ++ caps))) (lockOf (ksFor (own f) s.blk (args.map s.eval ++ caps)) s.blk (args.map s.eval ++ caps)))) m1).bind fun rm =>
        match callOut s (ksFor (own f) s.blk (args.map s.eval ++ caps)) (lockOf (ksFor (own f) s.blk (args.map s.eval ++ caps)) s.blk (args.map s.eval ++ caps)) o.dst rm.1 rm.2 with
        | some E => K (knPut kn o.dst none) (callRK (ksFor (own f) s.blk (args.map s.eval ++ caps)) s.blk (args.map s.eval ++ caps)) (E.mem.map (·.1)) (s.out o.dst E)
        | none => .fail 12
    | false => .fail 13

def execOp (o : Oper) (kn : Kn) (s : St) (K : Kn -> List Nat -> List Nat -> St -> Tr ρ) : Tr ρ :=
  match o.op with
  | .pick c a b => match known kn c with
    | some t => match t with
      | true => K (knPut kn o.dst (known kn a)) [] [] (s.put o.dst (s.eval a))
      | false => K (knPut kn o.dst (known kn b)) [] [] (s.put o.dst (s.eval b))
    | none => match s.eval c with
      | .one (.d (.b t)) => .ite t (K (knPut kn o.dst (known kn a)) [] [] (s.put o.dst (s.eval a))) (K (knPut kn o.dst (known kn b)) [] [] (s.put o.dst (s.eval b)))
      | _ => .fail 1
  | .assign x => K (knPut kn o.dst (known kn x)) [] [] (s.put o.dst (s.eval x))
  | .move x => K (knPut kn o.dst (known kn x)) [] [] (s.put o.dst (s.eval x))
  | .call { callee := .value fo, args, .. } => match cloOf (s.eval fo) with
    | some (f, caps) => execCall P own call o kn s K f caps args.toList
    | none => .fail 2
  | .lookup t x i ok => .fail 3
  | .mapEntry t x i => .fail 3
  | op => match effS P o.dst op s.eval s.blk with
    | some T => T.bind fun E => K (knPut kn o.dst none) (effKeys o.dst op s.eval) (E.mem.map (·.1)) (s.out o.dst E)
    | none => match effZ P cod o.dst op s.eval s.blk with
    | some T => T.bind fun E => K (knPut kn o.dst none) (effKeys o.dst op s.eval) (E.mem.map (·.1)) (s.out o.dst E)
    | none => match effX P cod o.dst op s.eval s.blk with
    | some T => T.bind fun E => K (knPut kn o.dst none) (effKeys o.dst op s.eval) (E.mem.map (·.1)) (s.out o.dst E)
    | none => match effPX P cod o.dst op s.eval s.blk with
    | some T => T.bind fun E => K (knPut kn o.dst none) (effKeys o.dst op s.eval) (E.mem.map (·.1)) (s.out o.dst E)
    | none => match eff P o.dst op s.eval s.blk with
      | some E => K (knPut kn o.dst none) (effKeys o.dst op s.eval) (E.out.mem.map (·.1)) (s.out o.dst E.out)
      | none => match effP P cod o.dst op s.eval s.blk with
        | some T => T.bind fun E => K (knPut kn o.dst none) (effKeys o.dst op s.eval) (E.mem.map (·.1)) (s.out o.dst E)
        | none => .fail 3

def execOps (ops : Array Oper) : List Oper -> Kn -> Log -> St -> (Kn -> Log -> St -> Tr ρ) -> Tr ρ
  | [], kn, log, s, K => K kn log s
  | o :: rest, kn, log, s, K =>
    match dstOk s o.dst with
    | false => .fail 4
    | true => match o.guard with
      | none => execOp P cod own call o kn s fun kn' R W s' => execOps ops rest kn' (log ++ [(R, W)]) s' K
      | some (j, want) => match (ops[j]?).bind (·.dst) with
        | none => .fail 5
        | some t => match look t kn with
          | some b => match b == want with
            | true => execOp P cod own call o kn s fun kn' R W s' => execOps ops rest kn' (log ++ [(R, W)]) s' K
            | false => execOps ops rest (knPut kn o.dst none) (log ++ [([], [])]) (s.put o.dst (.one .un)) K
          | none => match s.get t with
            | .one .un => execOps ops rest (knPut kn o.dst none) (log ++ [([], [])]) (s.put o.dst (.one .un)) K
            | .one (.d (.b c)) => match want with
              | true => .ite c (execOp P cod own call o ((t, true) :: kn) s fun kn' R W s' => execOps ops rest kn' (log ++ [(R, W)]) s' K)
                  (execOps ops rest (knPut ((t, false) :: kn) o.dst none) (log ++ [([], [])]) (s.put o.dst (.one .un)) K)
              | false => .ite c (execOps ops rest (knPut ((t, true) :: kn) o.dst none) (log ++ [([], [])]) (s.put o.dst (.one .un)) K)
                  (execOp P cod own call o ((t, false) :: kn) s fun kn' R W s' => execOps ops rest kn' (log ++ [(R, W)]) s' K)
            | _ => .fail 6

def lid : Code -> Nat
  | .region id _ _ => id
  | .seq a _ => lid a
  | .block _ b => lid b
  | .loop b => lid b
  | .cond _ a _ => lid a
  | .scope b => lid b
  | _ => 0

def normGet (ks : List (Nat × Nat)) (sp : SP) (s : St) : Option (Ob × sp.T) :=
  match s.norm false (sp.env.map (·.1)) ks with
  | some s1 => sp.get s1
  | none => none
def ghostSt : List (Nat × TypeId × Nat) -> St -> St
  | [], s => s
  | (t, e, c) :: r, s => match s.get t, s.blk t, Nat.blt t 1000000 with
    | .one .nil, none, true => ghostSt r { n := s.n, env := (t, .one (.own t 0 0)) :: s.env, mem := (t, .rowT 0 e c true true []) :: s.mem }
    | _, _, _ => ghostSt r s
structure EX where
  e : Option Nat
  ks : List (Nat × Nat)
  sp : SP
def EX.exit (x : EX) : Exit := match x.e with | some id => .exit id | none => .ret
def EX.hits (x : EX) (e : Exit) : Bool :=
  match x.e with
  | some id => match e with | .exit id' => Nat.beq id id' | _ => false
  | none => match e with | .ret => true | _ => false
structure LS where
  id : Nat
  ks : List (Nat × Nat)
  sp : SP
  es : List EX
  gs : List (Nat × TypeId × Nat)
def ExT : List EX -> Type
  | [] => Empty
  | [x] => x.sp.T
  | x :: y :: r => x.sp.T ⊕ ExT (y :: r)
def exInj : (es : List EX) -> Exit -> St -> Option (Tr (ExT es))
  | [], _, _ => none
  | [x], e, s => match x.hits e with
    | true => match normGet x.ks x.sp s with
      | some (g, y) => some (grdOb (x.sp.len y) g (.ret y))
      | none => some (.stuck 997 s)
    | false => none
  | x :: y :: r, e, s => match x.hits e with
    | true => match normGet x.ks x.sp s with
      | some (g, y) => some (grdOb (x.sp.len y) g (.ret (.inl y)))
      | none => some (.stuck 997 s)
    | false => match exInj (y :: r) e s with
      | some T => some (T.map .inr)
      | none => none
def exOut : (es : List EX) -> ExT es -> Tr (Exit × St)
  | [], o => nomatch o
  | [x], o => .ret (x.exit, x.sp.put o)
  | x :: y :: r, o => .sum o (fun a => .ret (x.exit, x.sp.put a)) (fun b => exOut (y :: r) b)
def loopO {A B : Type} (tag : Nat) (f : A -> Option (A ⊕ B)) : Nat -> A -> Option B
  | 0, _ => none
  | n + 1, a => match f a with
    | none => none
    | some (.inl a') => loopO tag f n a'
    | some (.inr b) => some b
def loopK (L : LS) (e : Exit) (s : St) : Tr (L.sp.T ⊕ ExT L.es) :=
  match (match e with | .normal => true | _ => false) with
  | true => match normGet L.ks L.sp (ghostSt L.gs s) with
    | some (g, y) => grdOb (L.sp.len y) g (.ret (.inl y))
    | none => .stuck 996 s
  | false => match exInj L.es e s with
    | some T => T.map .inr
    | none => .stuck (match e with | .exit id => 2000 + id | .ret => 1999 | _ => 1998) s
def findL (id : Nat) : List LS -> Option LS
  | [] => none
  | L :: r => match Nat.beq L.id id with | true => some L | false => findL id r

def jid : Code -> Nat
  | .region id _ _ => id
  | .block id _ => 20000 + id
  | .cond _ a b => 40000 + (match lid a with | 0 => lid b | n + 1 => n + 1)
  | .seq a _ => 60000 + lid a
  | _ => 80000
def joinK (fi j : Nat) (L : LS) (e : Exit) (s : St) : Tr (ExT L.es) :=
  match (match e with | .normal => some (Exit.exit 9998) | .exit id => (match Nat.beq id 9998 with | true => none | false => some (.exit id)) | e => some e) with
  | none => .fail 15
  | some e' => match exInj L.es e' s with
    | some T => T
    | none => .stuck (1000000000 + (fi * 100000 + j) * 10000 + (match e' with | .exit id => id | _ => 9999)) s
def unJ : Exit -> Exit
  | .exit id => match Nat.beq id 9998 with | true => .normal | false => .exit id
  | e => e
def bDsts : Code -> List Nat
  | .region _ ops _ => ops.toList.filterMap fun o => o.dst
  | .seq a b => bDsts a ++ bDsts b
  | .cond _ a b => bDsts a ++ bDsts b
  | .block _ b => bDsts b
  | .loop b => bDsts b
  | _ => []
def dedup : List Nat -> List Nat -> List Nat
  | [], acc => acc.reverse
  | k :: r, acc => match acc.contains k with | true => dedup r acc | false => dedup r (k :: acc)
def trimR (body : Code) (s : St) : Option St := s.norm false (List.range s.n) (((dedup (s.mem.map (·.1)) []).filter fun k => !(bDsts body).contains k).map fun k => (k, k))
def iterT {ρ : Type} : Nat -> ((Kn -> St -> Tr ρ) -> Kn -> St -> Tr ρ) -> Kn -> St -> Tr ρ
  | 0, _, _, _ => .fail 14
  | n + 1, F, kn, s => F (iterT n F) kn s

variable (Λ : List LS) (fi : Nat)

def exec : Code -> (ρ : Type) -> Kn -> St -> (Exit -> Kn -> St -> Tr ρ) -> Tr ρ
  | .skip, _, kn, s, K => K .normal kn s
  | .region _ ops draw, _, kn, s, K => match draw with
    | false => execOps P cod own call ops ops.toList kn [] s fun kn' _ s' => K .normal kn' s'
    | true => match P.follows .mixedOrders with
      | true => execOps P cod own call ops ops.toList kn [] s fun kn' log s' => match okOrder ops log with
        | true => K .normal kn' s'
        | false => .fail 7
      | false => .fail 7
  | .seq a b, ρ, kn, s, K => match findL (100000 + jid a) Λ with
    | none => exec a ρ kn s fun e kn' s' => match e with
      | .normal => exec b ρ kn' s' K
      | e => K e kn' s'
    | some L => .opt (exec a (ExT L.es) kn s fun e _ s' => joinK fi (jid a) L e s').eval fun o =>
        (exOut L.es o).bind fun es => match unJ es.1 with
          | .normal => exec b ρ [] es.2 K
          | e => K e [] es.2
  | .cond c a b, ρ, kn, s, K => match known kn c with
    | some t => match t with
      | true => exec a ρ kn s K
      | false => exec b ρ kn s K
    | none => match s.eval c with
      | .one (.d (.b t)) => match c with
        | .tmp j => .ite t (exec a ρ ((j, true) :: kn) s K) (exec b ρ ((j, false) :: kn) s K)
        | _ => .ite t (exec a ρ kn s K) (exec b ρ kn s K)
      | _ => .fail 8
  | .block id body, ρ, kn, s, K => exec body ρ kn s fun e kn' s' => match e with
    | .exit id' => match Nat.beq id' id with
      | true => K .normal kn' s'
      | false => K (.exit id') kn' s'
    | e => K e kn' s'
  | .loop body, ρ, kn, s, K => match findL (lid body) Λ with
    | none => .stuck (10000 * (fi + 1) + lid body) s
    | some L => match L.sp.n with
      | 0 => iterT 70 (fun again kn s => exec body ρ kn s fun e kn' s' => match e with
        | .normal => (match trimR body s' with | some s2 => again [] s2 | none => .fail 16)
        | e => K e kn' s') kn s
      | _ + 1 => match normGet L.ks L.sp (ghostSt L.gs s) with
        | none => .stuck (10000 * (fi + 1) + 5000 + lid body) s
        | some (g, x) => grdOb (L.sp.len x) g (.opt (loopO (10000 * fi + L.id) (fun x => (exec body (L.sp.T ⊕ ExT L.es) [] (L.sp.put x) fun e _ s' => loopK L e s').eval) 18446744073709551616 x) fun o =>
            (exOut L.es o).bind fun es => K es.1 [] es.2)
  | .exit id, _, kn, s, K => K (.exit id) kn s
  | .ret, _, kn, s, K => K .ret kn s
  | _, _, _, _, _ => .fail 9

def V.ptr1 : V -> List Nat
  | .one (.ptr k _) => [k]
  | .agg cs => cs.flatMap fun c => match c with | .ptr k _ => [k] | _ => []
  | _ => []
def V.ptrs : V -> List Nat
  | .tup vs => vs.flatMap V.ptr1
  | v => v.ptr1
def inKs (mem : Mem) (k : Nat) : List Nat := match look k mem with
  | some (.cells cs) => cs.flatMap fun c => match c with | .own k _ _ => [k] | .ptr k _ => [k] | _ => []
  | _ => []
def endKs (m mem : Mem) (v : V) : List (Nat × Nat) := m.map (fun p => (p.1, p.1)) ++ newNames (m.map (·.1)) 2000000 (v.owns ++ (v.ptrs ++ (v.ptrs ++ m.map (·.1)).flatMap (inKs mem)))

structure FS (P : Program) where
  f : FuncId
  ap : List VP1
  rp : SP
  fn : VPsT ap Unit -> Option rp.T
  ok : ∀ x r, fn x = some r -> ACall P f (putVs (fun _ => 0) ap x).1 [] fun r' m' => r' = (rp.put r).get 0 /\ m' = (rp.put r).mem
structure PF (P : Program) where
  f : FuncId
  own : List Nat
  tr : List V -> Mem -> Option (Tr (V × Mem))
  ok : ∀ ys m T r m', tr ys m = some T -> T.eval = some (r, m') -> ∃ ys' m2, WkVs ys ys' /\ WkM m m2 /\ ACall P f ys' m2 fun r' m'' => r' = r /\ m'' = m'
def findF {P : Program} (f : FuncId) (ys : List V) (m : Mem) : List (PF P) -> Option (Tr (V × Mem))
  | [] => none
  | F :: r => match Nat.beq F.f f with
    | true => match F.tr ys m with
      | some T => some T
      | none => findF f ys m r
    | false => findF f ys m r
def ownF {P : Program} : List (PF P) -> FuncId -> List Nat
  | [], _ => []
  | F :: r, f => match Nat.beq F.f f with
    | true => match F.own with
      | [] => ownF r f
      | m :: ms => m :: ms
    | false => ownF r f

variable (Γ : List (PF P)) (Λs : List (FuncId × LS))
def loopsOf (f : FuncId) : List (FuncId × LS) -> List LS
  | [] => []
  | (g, L) :: r => match Nat.beq g f with | true => L :: loopsOf f r | false => loopsOf f r

def execEnd (rs : List ResultVar) (m : Mem) (e : Exit) (s : St) : Tr (V × Mem) :=
  match (match e with | .normal | .ret => true | _ => false) with
  | true => match resA P rs s with
    | some v => match St.norm true (trimSt { n := 1, env := [(0, v)], mem := s.mem }) [0] (endKs m s.mem ((trimSt { n := 1, env := [(0, v)], mem := s.mem }).get 0)) with
      | some s1 => match s1.env with
        | [(_, r)] => .ret (r, s1.mem)
        | _ => .fail 20
      | none => .fail 21
    | none => .fail 22
  | false => .fail 23

def execBody (fn : Func) (f : FuncId) (ys : List V) (m : Mem) : Tr (V × Mem) :=
  match fn.body with
  | some c => match decide (fn.ntmps <= 900) && decide (ys.length <= fn.ntmps) with
    | true => exec P cod own call (loopsOf f Λs) f c (V × Mem) [] ⟨fn.ntmps, argsEnv 0 ys, m⟩ fun e _ s => execEnd P fn.results.toList m e s
    | false => .fail 24
  | none => .fail 25

def execSpec (F : FS P) (ys : List V) (m : Mem) : Option (Tr (V × Mem)) :=
  match m with
  | [] => match getVs F.ap ys with
    | some ([], g) => some (.opt (F.fn (g Unit ())) fun r => .ret ((F.rp.put r).get 0, (F.rp.put r).mem))
    | _ => none
  | _ => none

def execFn : Nat -> FuncId -> List V -> Mem -> Tr (V × Mem)
  | 0, _, _, _ => .fail 26
  | n + 1, f, ys, m => match findF f ys m Γ with
    | some T => T
    | none => match P.funcs[f]? with
      | some fn => execBody P cod (ownF Γ) (execFn n) Λs fn f ys m
      | none => .fail 27

def frzC (m : Mem) : C -> C
  | .own k ver len => match look k m with
    | some (.rowT ver' _ c _ fr xs) => if ver = ver' then stC fr c xs else .bad
    | _ => .bad
  | .sub _ _ _ _ _ => .bad
  | .ptr _ _ => .bad
  | .pr _ _ _ _ _ => .bad
  | .asl _ _ _ => .bad
  | .clp _ _ => .bad
  | .mp _ => .bad
  | .pre _ _ _ _ => .bad
  | c => c
def frzV1 (m : Mem) : V -> V
  | .one c => .one (frzC m c)
  | .agg cs => .agg (cs.map (frzC m))
  | .tup _ => .one .bad
def frzV (m : Mem) : V -> V
  | .tup vs => .tup (vs.map (frzV1 m))
  | v => frzV1 m v

def fnTr (n : Nat) (f : FuncId) (ap : List VP1) (rp : SP) (x : VPsT ap Unit) : Tr rp.T :=
  match P.funcs[f]? with
  | some fn => (execBody P cod (ownF Γ) (execFn P cod Γ Λs n) Λs fn f (putVs (fun _ => 0) ap x).1 []).bind fun rm => match rp.get ⟨1, [(0, frzV rm.2 rm.1)], []⟩ with
    | some (g, y) => grdOb (rp.len y) g (.ret y)
    | none => .stuck 994 ⟨1, [(0, frzV rm.2 rm.1)], rm.2⟩
  | none => .fail 28

def gsTr (n : Nat) (f : FuncId) (ap rp : SP) (x : ap.T) : Tr rp.T :=
  match P.funcs[f]? with
  | some fn => match fn.body with
    | some c => match Nat.beq fn.ntmps ap.n && decide (fn.ntmps <= 900) with
      | true => (exec P cod (ownF Γ) (execFn P cod Γ Λs n) (loopsOf f Λs) f c (V × Mem) [] (ap.put x) fun e _ s => execEnd P fn.results.toList (ap.put x).mem e s).bind fun rm =>
          match normGet (rm.2.map fun p => (p.1, p.1)) rp ⟨1, [(0, rm.1)], rm.2⟩ with
          | some (g, y) => grdOb (rp.len y) g (.ret y)
          | none => .stuck 993 ⟨1, [(0, rm.1)], rm.2⟩
      | false => .fail 24
    | none => .fail 25
  | none => .fail 28
def entryGet (ap : SP) (ys : List V) (m : Mem) : Option (Ob × ap.T) :=
  match decide (ys.length <= ap.n) with
  | true => normGet (m.map fun p => (p.1, p.1)) ap ⟨ap.n, argsEnv 0 ys, m⟩
  | false => none
def gsSpec (ap rp : SP) (fn : ap.T -> Option rp.T) (ys : List V) (m : Mem) : Option (Tr (V × Mem)) :=
  match entryGet ap ys m with
  | some (g, x) => some (grdOb (ap.len x) g (.opt (fn x) fun r => .ret ((rp.put r).get 0, (rp.put r).mem)))
  | none => none
end Go.Proofs.YthkhikdglmaiaaaDoor.Abs
namespace Go.Proofs.YthkhikdglmaiaaaDoor.Abs
open Go Go.RowKit
set_option linter.unusedVariables false
set_option linter.unusedSimpArgs false

variable {P : Program} {cod : TypeId -> Nat} {own : FuncId -> List Nat} {call : FuncId -> List V -> Mem -> Tr (V × Mem)} {ρ : Type}

theorem trimSt_n (s : St) : (trimSt s).n = s.n := by
  unfold trimSt
  split
  · split
    · split <;> rfl
    · rfl
  · rfl
def CallOk (P : Program) (call : FuncId -> List V -> Mem -> Tr (V × Mem)) : Prop :=
  ∀ f xs m r m', (call f xs m).eval = some (r, m') -> ∃ ys m2, WkVs xs ys /\ WkM m m2 /\ ACall P f ys m2 fun r' m'' => r' = r /\ m'' = m'

theorem look_unKn {d t : Nat} : ∀ {kn : Kn} {b : Bool}, look t (unKn d kn) = some b -> look t kn = some b /\ t ≠ d
  | [], b, h => by cases h
  | (j, c) :: r, b, h => by
    unfold unKn at h
    split at h
    · rename_i e
      have e : j = d := Nat.eq_of_beq_eq_true e
      obtain ⟨h1, h2⟩ := look_unKn h
      refine ⟨?_, h2⟩
      rw [look_cons, if_neg (by rw [e]; exact fun q => h2 q.symm)]; exact h1
    · rename_i e
      have e : j ≠ d := Nat.ne_of_beq_eq_false e
      rw [look_cons] at h ⊢
      split at h
      · rename_i q; rw [if_pos q]; exact ⟨h, by rw [<- q]; exact e⟩
      · rename_i q; rw [if_neg q]; exact look_unKn h

theorem KnOk.put {kn : Kn} {s s' : St} {dst : Option Nat} {v : V} {b : Option Bool} (h : KnOk kn s) (hs : ∀ t, s'.get t = (s.put dst v).get t) (hb : ∀ c, b = some c -> v = vb c) : KnOk (knPut kn dst b) s' := by
  intro t c ht
  rw [hs]
  cases dst with
  | none => exact h t c ht
  | some d =>
    rw [St.get_put]
    unfold knPut at ht
    cases b with
    | none =>
      simp only at ht
      obtain ⟨h1, h2⟩ := look_unKn ht
      rw [if_neg (fun e => h2 e.symm)]; exact h t c h1
    | some b =>
      simp only at ht
      rw [look_cons] at ht
      split at ht
      · rename_i e; rw [if_pos e]; cases ht; exact hb _ rfl
      · rename_i e
        obtain ⟨h1, h2⟩ := look_unKn ht
        rw [if_neg e]; exact h t c h1

theorem known_spec {kn : Kn} {s : St} (h : KnOk kn s) {x : Operand} {b : Bool} (hx : known kn x = some b) : s.eval x = vb b := by
  unfold known at hx
  split at hx
  · exact h _ _ hx
  · cases hx; rfl
  · cases hx

theorem KnOk.cons {kn : Kn} {s : St} (h : KnOk kn s) {t : Nat} {b : Bool} (ht : s.get t = vb b) : KnOk ((t, b) :: kn) s := by
  intro t' b' h'
  rw [look_cons] at h'
  split at h'
  · rename_i e; subst e; cases h'; exact ht
  · exact h t' b' h'
theorem KnOk.nil {s : St} : KnOk [] s := fun t b h => by cases h

theorem get_out (s : St) (dst : Option Nat) (E : Out) (t : Nat) : (s.out dst E).get t = (s.put dst E.val).get t := by
  cases dst <;> rfl

def OpOk (P : Program) (ops : Array Oper) (o : Oper) (s : St) (R W : List Nat) (s' : St) : Prop := ∃ E : Out, Loc P ops o s R E /\ W = E.mem.map (·.1) /\ s' = s.out o.dst E

theorem opOk_v {ops : Array Oper} {o : Oper} {s : St} {v : V} (hg : gcond ops s.get o = some true) (he : effQ P o.op s.eval = some v) {R : List Nat} (hR : effKeys o.dst o.op s.eval = R) : OpOk P ops o s R [] (s.put o.dst v) := by
  subst hR
  refine ⟨⟨v, []⟩, ?_, rfl, (put_out ..).symm⟩
  exact loc_ef (E := ⟨v, none⟩) hg (by unfold eff; rw [he])

theorem execCall_sound (hcall : CallOk P call) {ops : Array Oper} {o : Oper} {kn : Kn} {s : St} {K : Kn -> List Nat -> List Nat -> St -> Tr ρ} {f : FuncId} {caps : List V} {args : List Operand} {r : ρ}
    (hi : callInfo o s = some (f, caps, args)) (hg : gcond ops s.get o = some true) (hkn : KnOk kn s)
    (h : (execCall P own call o kn s K f caps args).eval = some r) : ∃ kn' R W s', KnOk kn' s' /\ (K kn' R W s').eval = some r /\ OpOk P ops o s R W s' := by
  unfold execCall at h
  split at h
  · cases h
  rename_i m1 hm1
  split at h
  case h_2 => cases h
  rename_i hc
  simp only [Bool.and_eq_true, decide_eq_true_eq] at hc
  obtain ⟨⟨hen, hok⟩, hfew⟩ := hc
  rw [Tr.eval_bind] at h
  obtain ⟨⟨r0, m0⟩, h1, h2⟩ := Option.bind_eq_some_iff.1 h
  simp only at h2
  split at h2
  case h_2 => cases h2
  rename_i E hE
  obtain ⟨ys, m2, hw, hwm, hac⟩ := hcall _ _ _ _ _ h1
  have hlen : ys.length = args.length + caps.length := by
    have : ∀ (a b : List V), WkVs a b -> a.length = b.length := by
      intro a
      induction a with
      | nil => intro b hb; cases b; rfl; exact hb.elim
      | cons x a ih => intro b hb; cases b; exact hb.elim; simp [ih _ hb.2]
    rw [<- this _ _ hw]; simp
  have hc : CallTo P o s (ksFor (own f) s.blk (args.map s.eval ++ caps)) (lockOf (ksFor (own f) s.blk (args.map s.eval ++ caps)) s.blk (args.map s.eval ++ caps)) f caps args ys m2 r0 m0 E := ⟨callInfo_spec hi, hen, hok, hw, ⟨m1, hm1, hwm⟩, by omega, hac, hE⟩
  refine ⟨_, _, _, _, ?_, h2, E, ?_, rfl, rfl⟩
  · exact hkn.put (v := E.val) (fun t => get_out s o.dst E t) (fun c hc => by cases hc)
  · exact .plain (plain_callI hi) fun s' ha => .call _ _ _ f caps args ys m2 r0 m0 E (by rw [agree_gcond ha, hg]) (agree_callK ha hc)

theorem pick_eff {o : Oper} {s : St} {c a b : Operand} {t : Bool} (ho : o.op = .pick c a b) (hc : s.eval c = vb t) : effQ P o.op s.eval = some (s.eval (if t then a else b)) := by
  rw [ho]
  simp only [effQ, hc]
  cases t <;> rfl

theorem execOp_sound (hcall : CallOk P call) {ops : Array Oper} {o : Oper} {kn : Kn} {s : St} {K : Kn -> List Nat -> List Nat -> St -> Tr ρ} {r : ρ} (hg : gcond ops s.get o = some true) (hkn : KnOk kn s)
    (h : (execOp P cod own call o kn s K).eval = some r) : ∃ kn' R W s', KnOk kn' s' /\ (K kn' R W s').eval = some r /\ OpOk P ops o s R W s' := by
  have pk : ∀ {c a b : Operand} {t : Bool} {kn : Kn}, KnOk kn s -> o.op = .pick c a b -> s.eval c = vb t -> (K (knPut kn o.dst (known kn (if t then a else b))) [] [] (s.put o.dst (s.eval (if t then a else b)))).eval = some r ->
      ∃ kn' R W s', KnOk kn' s' /\ (K kn' R W s').eval = some r /\ OpOk P ops o s R W s' := fun hk ho hc h =>
    ⟨_, _, _, _, hk.put (fun _ => rfl) (fun c hc => known_spec hk hc), h, opOk_v hg (pick_eff ho hc) (by rw [ho]; rfl)⟩
  unfold execOp at h
  split at h
  · rename_i c a b ho
    split at h
    · rename_i t hk
      have hc := known_spec hkn hk
      split at h
      · exact pk hkn ho hc h
      · exact pk hkn ho hc h
    · split at h
      · rename_i t hc
        rcases Tr.eval_ite h with ⟨rfl, h⟩ | ⟨rfl, h⟩
        · exact pk hkn ho hc h
        · exact pk hkn ho hc h
      · cases h
  · rename_i x ho
    exact ⟨_, _, _, _, hkn.put (fun _ => rfl) (fun c hc => known_spec hkn hc), h, opOk_v hg (by rw [ho]; rfl) (by rw [ho]; rfl)⟩
  · rename_i x ho
    exact ⟨_, _, _, _, hkn.put (fun _ => rfl) (fun c hc => known_spec hkn hc), h, opOk_v hg (by rw [ho]; rfl) (by rw [ho]; rfl)⟩
  · rename_i fo args ats ho
    split at h
    · rename_i f caps hf
      refine execCall_sound hcall (f := f) (caps := caps) (args := args.toList) ?_ hg hkn h
      unfold callInfo
      rw [ho]; simp only [hf]
    · cases h
  · cases h
  · cases h
  · rename_i n1 n2 n3 n4 n5 n6
    have hp : PlainO o := plain_of (fun t x i e => n5 t x i false e) (fun t x i e => n6 t x i e)
    split at h
    · rename_i T hT
      rw [Tr.eval_bind] at h
      obtain ⟨E, h1, h2⟩ := Option.bind_eq_some_iff.1 h
      refine ⟨_, _, _, _, hkn.put (v := E.val) (fun t => get_out s o.dst E t) (fun c hc => by cases hc), h2, E, .plain hp fun s' ha => .sem _ E (by rw [agree_gcond ha, hg]) fun hd => ?_, rfl, rfl⟩
      exact effS_sem (ρ := s.eval) (m := s.blk) (fun x hx => (agree_eval ha x hx).symm) (fun k hk => ha.blk hp (.inl hk)) hT h1
    · split at h
      · rename_i T hT
        rw [Tr.eval_bind] at h
        obtain ⟨E, h1, h2⟩ := Option.bind_eq_some_iff.1 h
        refine ⟨_, _, _, _, hkn.put (v := E.val) (fun t => get_out s o.dst E t) (fun c hc => by cases hc), h2, E, .plain hp fun s' ha => .sem _ E (by rw [agree_gcond ha, hg]) fun hd => ?_, rfl, rfl⟩
        exact effZ_sem (ρ := s.eval) (m := s.blk) (fun x hx => (agree_eval ha x hx).symm) (fun k hk => ha.blk hp (.inl hk)) hd hT h1
      · split at h
        · rename_i T hT
          rw [Tr.eval_bind] at h
          obtain ⟨E, h1, h2⟩ := Option.bind_eq_some_iff.1 h
          refine ⟨_, _, _, _, hkn.put (v := E.val) (fun t => get_out s o.dst E t) (fun c hc => by cases hc), h2, E, .plain hp fun s' ha => .sem _ E (by rw [agree_gcond ha, hg]) fun hd => ?_, rfl, rfl⟩
          obtain ⟨E0, he, hw⟩ := effX_out hT h1
          exact semOf hd (by rw [agree_eff hp ha rfl]; exact he) hw
        · split at h
          · rename_i T hT
            rw [Tr.eval_bind] at h
            obtain ⟨E, h1, h2⟩ := Option.bind_eq_some_iff.1 h
            refine ⟨_, _, _, _, hkn.put (v := E.val) (fun t => get_out s o.dst E t) (fun c hc => by cases hc), h2, E, .plain hp fun s' ha => .sem _ E (by rw [agree_gcond ha, hg]) fun hd => ?_, rfl, rfl⟩
            exact effP_sem (ρ := s.eval) (m := s.blk) (fun x hx => (agree_eval ha x hx).symm) (fun k hk => ha.blk hp (.inl hk)) hd (effPX_P hT) h1
          split at h
          · rename_i E he
            exact ⟨_, _, _, _, hkn.put (v := E.val) (fun t => get_out s o.dst E.out t) (fun c hc => by cases hc), h, E.out, loc_ef hg he, rfl, rfl⟩
          · split at h
            · rename_i T hT
              rw [Tr.eval_bind] at h
              obtain ⟨E, h1, h2⟩ := Option.bind_eq_some_iff.1 h
              refine ⟨_, _, _, _, hkn.put (v := E.val) (fun t => get_out s o.dst E t) (fun c hc => by cases hc), h2, E, .plain hp fun s' ha => .sem _ E (by rw [agree_gcond ha, hg]) fun hd => ?_, rfl, rfl⟩
              exact effP_sem (ρ := s.eval) (m := s.blk) (fun x hx => (agree_eval ha x hx).symm) (fun k hk => ha.blk hp (.inl hk)) hd hT h1
            · cases h

theorem execOps_sound (hcall : CallOk P call) {ops : Array Oper} : ∀ (rest : List Oper) {kn : Kn} {log : Log} {s : St} {K : Kn -> Log -> St -> Tr ρ} {r : ρ}, KnOk kn s -> (execOps P cod own call ops rest kn log s K).eval = some r ->
    ∃ kn' log' s', KnOk kn' s' /\ (K kn' log' s').eval = some r /\ ∀ (fin : Log -> Prop) (Kp : St -> Prop), fin log' -> Kp s' -> ARun P ops fin rest log s Kp
  | [], kn, log, s, K, r, hkn, h => ⟨kn, log, s, hkn, h, fun fin Kp h1 h2 => ⟨h1, h2⟩⟩
  | o :: rest, kn, log, s, K, r, hkn, h => by
    have run : ∀ {kn : Kn}, dstOk s o.dst = true -> KnOk kn s -> gcond ops s.get o = some true -> (execOp P cod own call o kn s fun kn' R W s' => execOps P cod own call ops rest kn' (log ++ [(R, W)]) s' K).eval = some r ->
        ∃ kn' log' s', KnOk kn' s' /\ (K kn' log' s').eval = some r /\ ∀ (fin : Log -> Prop) (Kp : St -> Prop), fin log' -> Kp s' -> ARun P ops fin (o :: rest) log s Kp := by
      intro kn hd hkn hg h
      obtain ⟨kn1, R, W, s1, hk1, h1, E, hl, hW, hs1⟩ := execOp_sound hcall hg hkn h
      obtain ⟨kn2, log2, s2, hk2, h2, hrun⟩ := execOps_sound hcall rest hk1 h1
      refine ⟨kn2, log2, s2, hk2, h2, fun fin Kp h3 h4 => ⟨dstOk_spec hd, R, E, hl, ?_⟩⟩
      rw [<- hs1, <- hW]
      exact hrun fin Kp h3 h4
    have skip : ∀ {kn : Kn}, dstOk s o.dst = true -> KnOk kn s -> gcond ops s.get o = some false -> (execOps P cod own call ops rest (knPut kn o.dst none) (log ++ [([], [])]) (s.put o.dst (.one .un)) K).eval = some r ->
        ∃ kn' log' s', KnOk kn' s' /\ (K kn' log' s').eval = some r /\ ∀ (fin : Log -> Prop) (Kp : St -> Prop), fin log' -> Kp s' -> ARun P ops fin (o :: rest) log s Kp := by
      intro kn hd hkn hg h
      obtain ⟨kn2, log2, s2, hk2, h2, hrun⟩ := execOps_sound hcall rest (hkn.put (fun _ => rfl) (fun c hc => by cases hc)) h
      refine ⟨kn2, log2, s2, hk2, h2, fun fin Kp h3 h4 => ⟨dstOk_spec hd, [], ⟨mkgd false (.one .un), []⟩, loc_no hg, ?_⟩⟩
      rw [put_out]
      exact hrun fin Kp h3 h4
    unfold execOps at h
    split at h
    · cases h
    rename_i hd
    split at h
    · rename_i hgd
      exact run hd hkn (by unfold gcond; rw [hgd]) h
    rename_i j want hgd
    split at h
    · cases h
    rename_i t ht
    have gc : ∀ (v : V) (b : Option Bool), s.get t = v -> yl v want = b -> gcond ops s.get o = b := by
      intro v b h1 h2
      unfold gcond
      rw [hgd]; simp only [ht, h1, h2]
    split at h
    · rename_i b hb
      have hv := hkn _ _ hb
      have hg := gc _ _ hv rfl
      rw [yl_b] at hg
      split at h
      · rename_i e; exact run hd hkn (by rw [hg, e]) h
      · rename_i e; exact skip hd hkn (by rw [hg, e]) h
    · split at h
      · rename_i hv
        exact skip hd hkn (gc _ _ hv rfl) h
      · rename_i c hv
        have hg := gc _ _ hv rfl
        rw [show yl (V.one (C.d (D.b c))) want = some (c == want) from rfl] at hg
        split at h
        · rcases Tr.eval_ite h with ⟨rfl, h⟩ | ⟨rfl, h⟩
          · exact run hd (hkn.cons hv) (by rw [hg]; rfl) h
          · exact skip hd (hkn.cons hv) (by rw [hg]; rfl) h
        · rcases Tr.eval_ite h with ⟨rfl, h⟩ | ⟨rfl, h⟩
          · exact skip hd (hkn.cons hv) (by rw [hg]; rfl) h
          · exact run hd (hkn.cons hv) (by rw [hg]; rfl) h
      · cases h

def Fwd (s s' : St) : Prop := ∀ (w0 : World) (U0 : Nat -> Prop) (X : Nat -> Nat -> Prop) (β0 : Nat -> Option Place) (a : Act) (w : World), Sim w0 U0 X β0 s a w -> Sim w0 U0 X β0 s' a w
theorem normGet_fwd {ks : List (Nat × Nat)} {sp : SP} {s : St} {l : Ob} {x : sp.T} (h : normGet ks sp s = some (l, x)) (ho : ObOk (sp.len x) l) : Fwd s (sp.put x) := by
  unfold normGet at h
  split at h
  · rename_i s1 hn
    intro w0 U0 X β0 a w hs
    exact (hs.norm hn).stWk (SP.wk h ho)
  · cases h
theorem SimB.ghost {w0 : World} {U0 : Nat -> Prop} {X : Nat -> Nat -> Prop} {β0 β : Nat -> Option Place} {U : Nat -> Prop} {s : St} {a : Act} {w : World} (h : SimB w0 U0 X β0 β U s a w) {t : Nat} {e : TypeId} {c : Nat} (ht : s.get t = .one .nil) (hk : s.blk t = none) (hk0 : t < 1000000) :
    Sim w0 U0 X β0 { n := s.n, env := (t, .one (.own t 0 0)) :: s.env, mem := (t, .rowT 0 e c true true []) :: s.mem } a w := by
  have hv : a.tmps.getD t undef = .slice none 0 0 := by
    have := h.env t; rw [ht] at this; exact this.toC
  obtain ⟨h1, h2⟩ := h.newKey (w' := w) (p := .row (.slice none 0 0) 0) (blk := .rowT 0 e c true true []) hk0 hk rfl rfl rfl (Nat.le_refl _) (fun _ _ => rfl) (fun b hb => by simp [Place.block, Value.ownBlock] at hb) ⟨rfl, fun r hr => by simp at hr, .inl ⟨rfl, rfl⟩⟩
  refine ⟨_, _, { h1 with env := fun t' => ?_ }⟩
  show RepV w _ U w0.heap.size _ ((look t' ((t, V.one (.own t 0 0)) :: s.env)).getD (.one .bad))
  rw [look_cons]
  by_cases q : t = t'
  · subst q
    rw [if_pos rfl, hv]
    exact .one _ _ ⟨none, 0, .slice none 0 0, 0, rfl, Nat.le_refl _, fun _ => ⟨rfl, rfl⟩, fun x hx => by (cases hx), upd_self _ _ _, Nat.le_refl _, fun _ => rfl⟩
  · rw [if_neg q]; exact h1.env t'
theorem ghost_fwd : ∀ (gs : List (Nat × TypeId × Nat)) (s : St), Fwd s (ghostSt gs s)
  | [], s => fun _ _ _ _ _ _ h => h
  | (t, e, c) :: r, s => by
    unfold ghostSt
    split
    · rename_i h1 h2 h3
      intro w0 U0 X β0 a w hs
      obtain ⟨β, U, hb⟩ := hs
      exact ghost_fwd r _ _ _ _ _ _ _ (hb.ghost h1 h2 (by simpa using h3))
    · exact ghost_fwd r s
theorem Fwd.trans {s1 s2 s3 : St} (h : Fwd s1 s2) (k : Fwd s2 s3) : Fwd s1 s3 := fun w0 U0 X β0 a w hs => k _ _ _ _ _ _ (h _ _ _ _ _ _ hs)
theorem awp_loopF {ι : Type} (I : ι -> St) (p : ι -> Prop) (μ : ι -> Nat) {c : Code} {Q : Exit -> St -> Prop} {s : St} (h0 : ∃ x, p x /\ Fwd s (I x))
    (hround : ∀ x, p x -> AWp P c (thenA (fun s1 => ∃ x', p x' /\ μ x' < μ x /\ Fwd s1 (I x')) Q) (I x)) : AWp P (.loop c) Q s := by
  intro w0 U0 X β0 a w hs
  obtain ⟨x0, hp0, hx0⟩ := h0
  refine wp_loop_ix (fun x a' w' => p x /\ Sim w0 U0 X β0 (I x) a' w') μ (fun x a w hI => ?_) (x0 := x0) ⟨hp0, hx0 _ _ _ _ _ _ hs⟩
  refine wp_mono (hround x hI.1 w0 U0 X β0 a w hI.2) ?_
  rintro e a' w' ⟨s', h1, h2⟩
  cases e with
  | normal =>
    obtain ⟨x', q1, q2, q3⟩ := h1
    exact ⟨x', q2, q1, q3 _ _ _ _ _ _ h2⟩
  | _ => exact ⟨s', h1, h2⟩
theorem awp_fwd {c : Code} {s s1 s2 : St} {e : Exit} (h : AWp P c (fun e1 s' => e1 = e /\ s' = s1) s) (hf : Fwd s1 s2) : AWp P c (fun e1 s' => e1 = e /\ s' = s2) s := by
  intro w0 U0 X β0 a w hs
  refine wp_mono (h w0 U0 X β0 a w hs) ?_
  rintro e1 a' w' ⟨s', ⟨rfl, rfl⟩, h2⟩
  exact ⟨s2, ⟨rfl, rfl⟩, hf _ _ _ _ _ _ h2⟩

theorem hits_exit {x : EX} {e : Exit} (h : x.hits e = true) : x.exit = e := by
  obtain ⟨xe, ks, sp⟩ := x
  cases xe with
  | some id =>
    cases e with
    | exit id' =>
      have h' : Nat.beq id id' = true := h
      rw [Nat.eq_of_beq_eq_true h']; rfl
    | _ => cases h
  | none =>
    cases e with
    | ret => rfl
    | _ => cases h
theorem exInj_out : ∀ (es : List EX) {e : Exit} {s : St} {T : Tr (ExT es)} {o : ExT es}, exInj es e s = some T -> T.eval = some o -> ∃ s2, (exOut es o).eval = some (e, s2) /\ Fwd s s2
  | [], e, s, T, o, h, ht => by cases h
  | [x], e, s, T, o, h, ht => by
    unfold exInj at h
    split at h
    · rename_i hh
      split at h
      · rename_i g y hg
        cases h
        obtain ⟨h1, h2⟩ := eval_grdOb ht
        cases h2
        exact ⟨x.sp.put o, by unfold exOut; rw [hits_exit hh]; rfl, normGet_fwd hg h1⟩
      · cases h; cases ht
    · cases h
  | x :: y :: r, e, s, T, o, h, ht => by
    unfold exInj at h
    split at h
    · rename_i hh
      split at h
      · rename_i g z hg
        cases h
        obtain ⟨h1, h2⟩ := eval_grdOb ht
        cases h2
        exact ⟨x.sp.put z, by show (Tr.ret (x.exit, x.sp.put z)).eval = _; rw [hits_exit hh]; rfl, normGet_fwd hg h1⟩
      · cases h; cases ht
    · split at h
      · rename_i T' hT
        cases h
        have ht' : T'.eval.map Sum.inr = some o := (Tr.eval_map (Sum.inr : ExT (y :: r) -> x.sp.T ⊕ ExT (y :: r)) T').symm.trans ht
        obtain ⟨b, hb, rfl⟩ := Option.map_eq_some_iff.1 ht'
        obtain ⟨s2, h1, h2⟩ := exInj_out (y :: r) hT hb
        exact ⟨s2, h1, h2⟩
      · cases h

theorem loop_sound {L : LS} {body : Code} {F : L.sp.T -> Option (L.sp.T ⊕ ExT L.es)}
    (hbody : ∀ x r, F x = some r -> ∃ e s', (loopK L e s').eval = some r /\ AWp P body (fun e1 s1 => e1 = e /\ s1 = s') (L.sp.put x)) {n tag : Nat} {x : L.sp.T} {o : ExT L.es} (h : loopO tag F n x = some o) {e : Exit} {s2 : St} (ho : (exOut L.es o).eval = some (e, s2))
    {s : St} (hs : Fwd s (L.sp.put x)) : AWp P (.loop body) (fun e1 s1 => e1 = e /\ s1 = s2) s := by
  refine awp_loopF (ι := Nat × L.sp.T) (fun z => L.sp.put z.2) (fun z => loopO tag F z.1 z.2 = some o) (fun z => z.1) ⟨(n, x), h, hs⟩ ?_
  rintro ⟨m, y⟩ hp
  simp only at hp ⊢
  cases m with
  | zero => cases hp
  | succ m =>
    unfold loopO at hp
    split at hp
    · cases hp
    · rename_i y' hy
      obtain ⟨e1, s1, h1, h2⟩ := hbody y _ hy
      unfold loopK at h1
      split at h1
      · rename_i he
        split at h1
        · rename_i g z hg
          obtain ⟨q1, q2⟩ := eval_grdOb h1
          cases q2
          refine awp_mono h2 ?_
          rintro e3 s3 ⟨rfl, rfl⟩
          cases e3 with
          | normal => exact ⟨(m, y'), hp, Nat.lt_succ_self m, (ghost_fwd L.gs _).trans (normGet_fwd hg q1)⟩
          | _ => cases he
        · cases h1
      · split at h1
        · rename_i T hT
          rw [Tr.eval_map] at h1
          obtain ⟨b, hb, hb2⟩ := Option.map_eq_some_iff.1 h1
          cases hb2
        · cases h1
    · rename_i b hy
      cases hp
      obtain ⟨e1, s1, h1, h2⟩ := hbody y _ hy
      unfold loopK at h1
      split at h1
      · split at h1
        · rename_i g z hg
          obtain ⟨q1, q2⟩ := eval_grdOb h1
          cases q2
        · cases h1
      · rename_i he
        split at h1
        · rename_i T hT
          rw [Tr.eval_map] at h1
          obtain ⟨b', hb, hb2⟩ := Option.map_eq_some_iff.1 h1
          cases hb2
          obtain ⟨s3, q1, q2⟩ := exInj_out L.es hT hb
          rw [ho] at q1
          cases q1
          have h3 := awp_fwd h2 q2
          refine awp_mono h3 ?_
          rintro e4 s4 ⟨rfl, rfl⟩
          cases e4 with
          | normal => cases he
          | _ => exact ⟨rfl, rfl⟩
        · cases h1

theorem iter_sound {Λ : List LS} {fi : Nat} {body : Code} {ρ : Type} {K : Exit -> Kn -> St -> Tr ρ} {r : ρ}
    (hb : ∀ {kn : Kn} {s : St} {K : Exit -> Kn -> St -> Tr ρ} {r : ρ}, KnOk kn s -> (exec P cod own call Λ fi body ρ kn s K).eval = some r -> ∃ e kn' s', KnOk kn' s' /\ (K e kn' s').eval = some r /\ AWp P body (fun e1 s1 => e1 = e /\ s1 = s') s) :
    ∀ (n : Nat) {kn : Kn} {s : St}, KnOk kn s -> (iterT n (fun again kn s => exec P cod own call Λ fi body ρ kn s fun e kn' s' => match e with
        | .normal => (match trimR body s' with | some s2 => again [] s2 | none => .fail 16)
        | e => K e kn' s') kn s).eval = some r ->
      ∃ e kn' s', KnOk kn' s' /\ (K e kn' s').eval = some r /\ ∀ (w0 : World) (U0 : Nat -> Prop) (X : Nat -> Nat -> Prop) (β0 : Nat -> Option Place) (a : Act) (w : World), Sim w0 U0 X β0 s a w -> Code.rounds P body (fun e1 a' w' => ∃ s1, (e1 = e /\ s1 = s') /\ Sim w0 U0 X β0 s1 a' w') n a w
  | 0, kn, s, hkn, h => by cases h
  | n + 1, kn, s, hkn, h => by
    obtain ⟨e1, kn1, s1, h1, h2, h3⟩ := hb hkn h
    cases e1 with
    | normal =>
      simp only at h2
      split at h2
      case h_2 => cases h2
      rename_i s3 hs3
      obtain ⟨e, kn', s', q1, q2, q3⟩ := iter_sound hb n KnOk.nil h2
      refine ⟨e, kn', s', q1, q2, fun w0 U0 X β0 a w hs => ?_⟩
      refine wp_mono (h3 w0 U0 X β0 a w hs) ?_
      rintro e2 a2 w2 ⟨s2, ⟨rfl, rfl⟩, hs2⟩
      exact q3 w0 U0 X β0 a2 w2 (hs2.norm hs3)
    | _ =>
      refine ⟨_, kn1, s1, h1, h2, fun w0 U0 X β0 a w hs => ?_⟩
      refine wp_mono (h3 w0 U0 X β0 a w hs) ?_
      rintro e2 a2 w2 ⟨s2, ⟨rfl, rfl⟩, hs2⟩
      exact ⟨_, ⟨rfl, rfl⟩, hs2⟩

theorem joinK_out {fi j : Nat} {L : LS} {e : Exit} {s : St} {o : ExT L.es} (h : (joinK fi j L e s).eval = some o) : ∃ e' s2, (exOut L.es o).eval = some (e', s2) /\ unJ e' = e /\ Fwd s s2 := by
  unfold joinK at h
  split at h
  · cases h
  rename_i e' he
  split at h
  · rename_i T hT
    obtain ⟨s2, h1, h2⟩ := exInj_out L.es hT h
    refine ⟨e', s2, h1, ?_, h2⟩
    cases e with
    | normal => cases he; rfl
    | exit id =>
      simp only at he
      split at he
      · cases he
      · rename_i hb
        cases he
        show (match Nat.beq id 9998 with | true => Exit.normal | false => .exit id) = _
        rw [hb]
    | _ => cases he; rfl
  · cases h

theorem exec_sound (hcall : CallOk P call) {Λ : List LS} {fi : Nat} : ∀ (c : Code) {ρ : Type} {kn : Kn} {s : St} {K : Exit -> Kn -> St -> Tr ρ} {r : ρ}, KnOk kn s -> (exec P cod own call Λ fi c ρ kn s K).eval = some r ->
    ∃ e kn' s', KnOk kn' s' /\ (K e kn' s').eval = some r /\ AWp P c (fun e1 s1 => e1 = e /\ s1 = s') s
  | .skip, ρ, kn, s, K, r, hkn, h => ⟨.normal, kn, s, hkn, h, awp_skip ⟨rfl, rfl⟩⟩
  | .region id ops draw, ρ, kn, s, K, r, hkn, h => by
    unfold exec at h
    split at h
    · obtain ⟨kn', log', s', h1, h2, h3⟩ := execOps_sound hcall _ hkn h
      refine ⟨.normal, kn', s', h1, h2, ?_⟩
      have := awp_region (P := P) (id := id) (l := ops.toList) (Q := fun e1 s1 => e1 = Exit.normal /\ s1 = s') (s := s) (by
        rw [show ops.toList.toArray = ops by simp]
        exact h3 _ _ trivial ⟨rfl, rfl⟩)
      rwa [show ops.toList.toArray = ops by simp] at this
    · split at h
      · rename_i hf
        obtain ⟨kn', log', s', h1, h2, h3⟩ := execOps_sound hcall _ hkn h
        split at h2
        · rename_i ho
          refine ⟨.normal, kn', s', h1, h2, ?_⟩
          have := awp_region_any (P := P) (id := id) (l := ops.toList) (Q := fun e1 s1 => e1 = Exit.normal /\ s1 = s') (s := s) hf (by
            rw [show ops.toList.toArray = ops by simp]
            exact h3 _ _ ho ⟨rfl, rfl⟩)
          rwa [show ops.toList.toArray = ops by simp] at this
        · cases h2
      · cases h
  | .seq a b, ρ, kn, s, K, r, hkn, h => by
    unfold exec at h
    have fin : ∀ {e kn1 s1}, KnOk kn1 s1 -> (match e with | Exit.normal => exec P cod own call Λ fi b ρ kn1 s1 K | e => K e kn1 s1).eval = some r -> AWp P a (fun e1 s2 => e1 = e /\ s2 = s1) s ->
        ∃ e kn' s', KnOk kn' s' /\ (K e kn' s').eval = some r /\ AWp P (.seq a b) (fun e1 s1 => e1 = e /\ s1 = s') s := by
      intro e kn1 s1 h1 h2 h3
      cases e with
      | normal =>
        obtain ⟨e2, kn2, s2, q1, q2, q3⟩ := exec_sound hcall b h1 h2
        refine ⟨e2, kn2, s2, q1, q2, awp_seq (awp_mono h3 ?_)⟩
        rintro e s ⟨rfl, rfl⟩
        exact q3
      | _ =>
        refine ⟨_, kn1, s1, h1, h2, awp_seq (awp_mono h3 ?_)⟩
        rintro e s ⟨rfl, rfl⟩
        exact ⟨rfl, rfl⟩
    split at h
    · obtain ⟨e, kn1, s1, h1, h2, h3⟩ := exec_sound hcall a hkn h
      exact fin h1 h2 h3
    · rename_i L hL
      obtain ⟨o, h1, h2⟩ := Option.bind_eq_some_iff.1 h
      simp only at h2
      rw [Tr.eval_bind] at h2
      obtain ⟨⟨e, s2⟩, h3, h4⟩ := Option.bind_eq_some_iff.1 h2
      obtain ⟨e1, kn1, s1, q1, q2, q3⟩ := exec_sound hcall a hkn h1
      obtain ⟨e', s3, p1, p2, p3⟩ := joinK_out q2
      rw [h3] at p1
      cases p1
      exact fin (e := e1) KnOk.nil (by rw [<- p2]; exact h4) (awp_fwd q3 p3)
  | .cond c a b, ρ, kn, s, K, r, hkn, h => by
    unfold exec at h
    have ha : ∀ {kn : Kn}, KnOk kn s -> s.eval c = vb true -> (exec P cod own call Λ fi a ρ kn s K).eval = some r -> ∃ e kn' s', KnOk kn' s' /\ (K e kn' s').eval = some r /\ AWp P (.cond c a b) (fun e1 s1 => e1 = e /\ s1 = s') s := by
      intro kn hk hc h
      obtain ⟨e, kn1, s1, h1, h2, h3⟩ := exec_sound hcall a hk h
      exact ⟨e, kn1, s1, h1, h2, awp_cond hc (fun _ => h3) (fun e => by cases e)⟩
    have hb : ∀ {kn : Kn}, KnOk kn s -> s.eval c = vb false -> (exec P cod own call Λ fi b ρ kn s K).eval = some r -> ∃ e kn' s', KnOk kn' s' /\ (K e kn' s').eval = some r /\ AWp P (.cond c a b) (fun e1 s1 => e1 = e /\ s1 = s') s := by
      intro kn hk hc h
      obtain ⟨e, kn1, s1, h1, h2, h3⟩ := exec_sound hcall b hk h
      exact ⟨e, kn1, s1, h1, h2, awp_cond hc (fun e => by cases e) (fun _ => h3)⟩
    split at h
    · rename_i t hk
      have hc := known_spec hkn hk
      split at h
      · exact ha hkn hc h
      · exact hb hkn hc h
    · split at h
      · rename_i t hc
        split at h
        · rename_i j
          rcases Tr.eval_ite h with ⟨rfl, h⟩ | ⟨rfl, h⟩
          · exact ha (hkn.cons hc) hc h
          · exact hb (hkn.cons hc) hc h
        · rcases Tr.eval_ite h with ⟨rfl, h⟩ | ⟨rfl, h⟩
          · exact ha hkn hc h
          · exact hb hkn hc h
      · cases h
  | .block id body, ρ, kn, s, K, r, hkn, h => by
    unfold exec at h
    obtain ⟨e, kn1, s1, h1, h2, h3⟩ := exec_sound hcall body hkn h
    cases e with
    | exit id' =>
      simp only at h2
      split at h2
      · rename_i e
        obtain rfl : id' = id := Nat.eq_of_beq_eq_true e
        refine ⟨.normal, kn1, s1, h1, h2, awp_block (awp_mono h3 ?_)⟩
        rintro e s ⟨rfl, rfl⟩
        exact block_exit ⟨rfl, rfl⟩
      · rename_i e
        have e : id' ≠ id := Nat.ne_of_beq_eq_false e
        refine ⟨_, kn1, s1, h1, h2, awp_block (awp_mono h3 ?_)⟩
        rintro e s ⟨rfl, rfl⟩
        exact block_other (by simpa using e) ⟨rfl, rfl⟩
    | _ =>
      refine ⟨_, kn1, s1, h1, h2, awp_block (awp_mono h3 ?_)⟩
      rintro e s ⟨rfl, rfl⟩
      exact ⟨rfl, rfl⟩
  | .loop body, ρ, kn, s, K, r, hkn, h => by
    unfold exec at h
    split at h
    · cases h
    rename_i L hL
    split at h
    · obtain ⟨e, kn', s', h1, h2, h3⟩ := iter_sound (fun hk he => exec_sound hcall body hk he) 70 hkn h
      exact ⟨e, kn', s', h1, h2, fun w0 U0 X β0 a w hs => wp_loop_rounds 70 (h3 w0 U0 X β0 a w hs)⟩
    split at h
    · cases h
    rename_i g x hg
    obtain ⟨q1, h⟩ := eval_grdOb h
    obtain ⟨o, h1, h2⟩ := Option.bind_eq_some_iff.1 h
    simp only at h2
    rw [Tr.eval_bind] at h2
    obtain ⟨⟨e, s2⟩, h3, h4⟩ := Option.bind_eq_some_iff.1 h2
    refine ⟨e, [], s2, KnOk.nil, h4, loop_sound (L := L) (fun x r hr => ?_) h1 h3 ((ghost_fwd L.gs _).trans (normGet_fwd hg q1))⟩
    obtain ⟨e, kn', s', a1, a2, a3⟩ := exec_sound hcall body (KnOk.nil) hr
    exact ⟨e, s', a2, a3⟩
  | .exit id, ρ, kn, s, K, r, hkn, h => ⟨.exit id, kn, s, hkn, h, awp_exit ⟨rfl, rfl⟩⟩
  | .ret, ρ, kn, s, K, r, hkn, h => ⟨.ret, kn, s, hkn, h, awp_ret ⟨rfl, rfl⟩⟩
  | .rangeFunc .., ρ, kn, s, K, r, hkn, h => by cases h
  | .scope .., ρ, kn, s, K, r, hkn, h => by cases h
  | .label .., ρ, kn, s, K, r, hkn, h => by cases h
  | .goto .., ρ, kn, s, K, r, hkn, h => by cases h
  | .refuse .., ρ, kn, s, K, r, hkn, h => by cases h

theorem execBody_sound (hcall : CallOk P call) {Λs : List (FuncId × LS)} {f : FuncId} {fn : Func} (hf : P.funcs[f]? = some fn)
    {ys : List V} {m : Mem} {r : V} {m' : Mem} (h : (execBody P cod own call Λs fn f ys m).eval = some (r, m')) : ACall P f ys m fun r' m'' => r' = r /\ m'' = m' := by
  unfold execBody at h
  split at h
  case h_2 => cases h
  rename_i c hb
  split at h
  case h_2 => cases h
  rename_i hn
  simp only [Bool.and_eq_true, decide_eq_true_eq] at hn
  obtain ⟨e, kn', s', h1, h2, h3⟩ := exec_sound hcall c KnOk.nil h
  unfold execEnd at h2
  split at h2
  case h_2 => cases h2
  rename_i he
  split at h2
  case h_2 => cases h2
  rename_i v hv
  split at h2
  case h_2 => cases h2
  rename_i s1 hs1
  split at h2
  case h_2 => cases h2
  rename_i q1 r1 hs2
  cases h2
  refine acall_enter (endKs m s'.mem ((trimSt { n := 1, env := [(0, v)], mem := s'.mem }).get 0)) hf hb rfl rfl hn.1 hn.2 (awp_mono h3 ?_)
  rintro e1 s2 ⟨rfl, rfl⟩
  refine ⟨?_, r, s1.mem, ?_, rfl, rfl⟩
  · cases e1 <;> first | exact .inl rfl | exact .inr rfl | cases he
  · simp only [hv]
    have hs3 := hs1
    unfold St.norm at hs3
    split at hs3
    · cases hs3
      simp only [List.map_cons, List.map_nil] at hs2 ⊢
      cases hs2
      rw [hs1, trimSt_n]; rfl
    · cases hs3

theorem WkVs_rfl : ∀ (l : List V), WkVs l l
  | [] => trivial
  | x :: r => ⟨by cases x; exact .inl rfl; exact WkCs_rfl _; exact rfl, WkVs_rfl r⟩

theorem findF_sound {f : FuncId} {ys : List V} {m : Mem} : ∀ {Γ : List (PF P)} {T : Tr (V × Mem)} {r : V} {m' : Mem}, findF f ys m Γ = some T -> T.eval = some (r, m') -> ∃ ys' m2, WkVs ys ys' /\ WkM m m2 /\ ACall P f ys' m2 fun r' m'' => r' = r /\ m'' = m'
  | [], T, r, m', h, hT => by cases h
  | F :: Γ, T, r, m', h, hT => by
    unfold findF at h
    split at h
    · rename_i e
      split at h
      · rename_i T' hF
        cases h
        have := F.ok ys m _ r m' hF hT
        rw [Nat.eq_of_beq_eq_true e] at this
        exact this
      · exact findF_sound h hT
    · exact findF_sound h hT
theorem execFn_sound {Γ : List (PF P)} {Λs : List (FuncId × LS)} : ∀ n, CallOk P (execFn P cod Γ Λs n)
  | 0 => fun f xs m r m' h => by cases h
  | n + 1 => fun f xs m r m' h => by
    unfold execFn at h
    split at h
    · rename_i T hT
      exact findF_sound hT h
    · split at h
      · rename_i fn hf
        exact ⟨xs, m, WkVs_rfl _, WkM_rfl _, execBody_sound (execFn_sound n) hf h⟩
      · cases h

theorem SimB.monoX {w0 : World} {U0 : Nat -> Prop} {X X' : Nat -> Nat -> Prop} {β0 β : Nat -> Option Place} {U : Nat -> Prop} {s : St} {a : Act} {w : World} (h : SimB w0 U0 X β0 β U s a w) (hX : ∀ b j, X b j -> X' b j) : SimB w0 U0 X' β0 β U s a w :=
  { h with
    chg := ⟨h.chg.os, h.chg.tape, h.chg.output, h.chg.size, fun b hb => by
      rcases h.chg.block b hb with e | ⟨c, c', e, f, e1, e2, e3, e4⟩ | e
      · exact .inl e
      · exact .inr (.inl ⟨c, c', e, f, e1, e2, e3, fun j hj => e4 j (fun q => hj (hX b j q))⟩)
      · exact .inr (.inr fun j => hX b j (e j))⟩
    may := fun k p blk b j h1 h2 h3 h4 => hX b j (h.may k p blk b j h1 h2 h3 h4) }

theorem SimB.freeze {w0 : World} {U0 : Nat -> Prop} {β0 β : Nat -> Option Place} {U : Nat -> Prop} {s : St} {a : Act} {w : World} (h : SimB w0 U0 (fun _ _ => False) β0 β U s a w) (hβ : ∀ k, β0 k = none) :
    Sim w0 U0 (fun _ _ => False) β0 ⟨s.n, s.env.map fun p => (p.1, frzV s.mem p.2), []⟩ a w := by
  let U' : Nat -> Prop := fun b => U b \/ ∃ k v ver, β k = some (.row v ver) /\ v.ownBlock = some b
  have hU : ∀ b, U b -> U' b := fun b hb => .inl hb
  have hnew : ∀ k v ver b, β k = some (.row v ver) -> v.ownBlock = some b -> w0.heap.size <= b := by
    intro k v ver b hk hb
    obtain ⟨blk, hblk⟩ := Option.isSome_iff_exists.1 (h.dom k _ hk)
    rcases Nat.lt_or_ge b w0.heap.size with hlt | hge
    · exact (h.may k _ blk b 0 hk hblk hb hlt).elim
    · exact hge
  have hC : ∀ (v : Value) (c : C), RepC w β U w0.heap.size v c -> RepC w (fun _ => none) U' w0.heap.size v (frzC s.mem c) := by
    intro v c hc
    cases c with
    | mp k => exact trivial
    | own k ver len =>
      simp only [frzC]
      split
      · rename_i ver' e c' ap fr xs hb
        split
        · rename_i hv
          subst hv
          obtain ⟨ao, cap, v0, ver0, rfl, hlc, hn0, hs0, hk, hv1, hv2⟩ := hc
          have hb' : (s.blk k).map Blk.std = some (.row ver e (esz c') ap fr (xs.map (enc c'))) := by
            show (look k s.mem).map Blk.std = _; rw [hb]; rfl
          obtain ⟨q1, q2, q3⟩ := h.placeStd hb' hk
          subst q1
          obtain rfl := hv2 rfl
          have main : ∀ UU : Nat -> Prop, (∀ g cap', (Value.slice ao len cap : Value) = .slice (some ⟨g, 0, none⟩) (xs.map (enc c')).length cap' -> UU g) -> (∀ b, (U b /\ (fr = true -> w0.heap.size <= b)) -> UU b) -> RepI w UU (.slice ao len cap) (.st c' xs) := by
            intro UU hg hsub
            refine RepI.toSt ?_
            rcases q3 with ⟨e1, e2⟩ | ⟨g, cap', cur, fz, e1, hgh, h3, h4, h5, h6, h7, h8⟩
            · cases e1; rw [e2]; exact .nil _ _ _ (fun _ => rfl)
            · have hgg := hg g cap' e1
              cases e1
              have := rows_view (w := w) (UU := UU) (g := g) (off := 0) (len := (xs.map (enc c')).length) (cap := cap) (sz := esz c') (rows := xs.map (enc c')) hgg q2 (by omega) (by omega) (fun i j r d hi hj => by
                obtain ⟨u, k1, k2, k3⟩ := h8 i j r d hi hj
                exact ⟨u, by simp only [World.cell?, hgh]; simpa using k1, k3.mono hsub (fun _ _ => rfl)⟩)
              rw [List.drop_zero, List.take_length, Nat.zero_mul] at this
              exact this
          have hown : ∀ g cap', (Value.slice ao len cap : Value) = .slice (some ⟨g, 0, none⟩) (xs.map (enc c')).length cap' -> (Value.slice ao len cap).ownBlock = some g := by
            intro g cap' e1; rw [e1]; rfl
          cases fr with
          | true => exact main (fun b => U' b /\ w0.heap.size <= b) (fun g cap' e1 => ⟨.inr ⟨k, _, _, hk, hown g cap' e1⟩, hnew k _ _ g hk (hown g cap' e1)⟩) (fun b hb => ⟨.inl hb.1, hb.2 rfl⟩)
          | false => exact main U' (fun g cap' e1 => .inr ⟨k, _, _, hk, hown g cap' e1⟩) (fun b hb => .inl hb.1)
        · trivial
      · trivial
    | sub => trivial
    | ptr => trivial
    | pr => trivial
    | asl => trivial
    | clp => trivial
    | pre => trivial
    | nn x => exact ⟨RepI.mono hc.1 hU (fun _ _ => rfl), hc.2⟩
    | d x => exact RepI.mono hc hU (fun _ _ => rfl)
    | f x => exact RepI.mono (U := fun b => U b /\ w0.heap.size <= b) hc (fun b hb => ⟨hU b hb.1, hb.2⟩) (fun _ _ => rfl)
    | nil => exact hc
    | pv cells =>
      obtain ⟨b, o, vals, h1, h2, h3⟩ := hc
      exact ⟨b, o, vals, h1, hU b h2, fun j d hj => ⟨(h3 j d hj).1, ((h3 j d hj).2).mono hU (fun _ _ => rfl)⟩⟩
    | clo f caps => obtain ⟨us, h1, h2, h3⟩ := hc; exact ⟨us, h1, h2, fun j u d hu hd => (h3 j u d hu hd).mono hU (fun _ _ => rfl)⟩
    | un => exact hc
    | bad => trivial
  have hV1 : ∀ (v : Value) (x : V), RepV w β U w0.heap.size v x -> RepV w (fun _ => none) U' w0.heap.size v (frzV1 s.mem x) := by
    intro v x hx
    cases hx with
    | one v c hc => exact .one _ _ (hC v c hc)
    | agg vs cs hl h1 hr =>
      refine .agg vs _ (by simpa using hl) h1 fun j u c hu hc => ?_
      rw [List.getElem?_map, Option.map_eq_some_iff] at hc
      obtain ⟨c0, hc0, rfl⟩ := hc
      exact hC _ _ (hr j u c0 hu hc0)
    | tup vs xs hl hr => exact .bad _
  have hV : ∀ (v : Value) (x : V), RepV w β U w0.heap.size v x -> RepV w (fun _ => none) U' w0.heap.size v (frzV s.mem x) := by
    intro v x hx
    cases hx with
    | one v c hc => exact hV1 v (.one c) (.one v c hc)
    | agg vs cs hl h1 hr => exact hV1 _ (.agg cs) (.agg vs cs hl h1 hr)
    | tup vs xs hl hr =>
      refine .tup vs _ (by simpa using hl) fun j u x hu hx => ?_
      rw [List.getElem?_map, Option.map_eq_some_iff] at hx
      obtain ⟨x0, hx0, rfl⟩ := hx
      exact hV1 _ _ (hr j u x0 hu hx0)
  refine ⟨fun _ => none, U', ?_⟩
  exact {
    n := h.n, small := h.small, args := h.args, ver0 := h.ver0, defers := h.defers, glob := h.glob.map hU (fun _ _ => rfl)
    hist := fun k p hp => by rw [hβ k] at hp; cases hp
    env := fun t => by
      have he := h.env t
      unfold St.get at he ⊢
      have : ∀ l : List (Nat × V), look t (l.map fun p => (p.1, frzV s.mem p.2)) = (look t l).map (frzV s.mem) := by
        intro l
        induction l with
        | nil => rfl
        | cons p l ih =>
          obtain ⟨j, v⟩ := p
          rw [List.map_cons, look_cons, look_cons]
          split
          · rfl
          · exact ih
      rw [this]
      cases hl : look t s.env with
      | none => exact .bad _
      | some x => rw [hl] at he; exact hV _ _ he
    mem := fun k blk hk => by cases hk
    dom := fun k p hp => by cases hp
    apart := fun k p b hp => by cases hp
    inj := fun k k' p p' b1 b2 b j hne hp => by cases hp
    stab := fun b hb => by
      rcases hb with hb | ⟨k, v, ver, hk, hv⟩
      · exact h.stab b hb
      · exact (h.apart k _ b hk hv).2
    old := fun b hb => .inl (h.old b hb)
    new := fun b hlt hb => by
      rcases hb with hb | ⟨k, v, ver, hk, hv⟩
      · exact h.new b hlt hb
      · have := hnew k v ver b hk hv; omega
    chg := h.chg
    may := fun k p blk b j hp => by cases hp }

theorem fnTr_sound {Γ : List (PF P)} {Λs : List (FuncId × LS)} {n : Nat} {f : FuncId} {ap : List VP1} {rp : SP} {x : VPsT ap Unit} {r : rp.T} (h : (fnTr P cod Γ Λs n f ap rp x).eval = some r) :
    ACall P f (putVs (fun _ => 0) ap x).1 [] fun r' m' => r' = (rp.put r).get 0 /\ m' = (rp.put r).mem := by
  unfold fnTr at h
  split at h
  case h_2 => cases h
  rename_i fn hf
  rw [Tr.eval_bind] at h
  obtain ⟨⟨r0, m0⟩, h1, h2⟩ := Option.bind_eq_some_iff.1 h
  simp only at h2
  split at h2
  case h_2 => cases h2
  rename_i g y hg
  obtain ⟨q1, q2⟩ := eval_grdOb h2
  cases q2
  have hc := execBody_sound (execFn_sound (cod := cod) (Γ := Γ) (Λs := Λs) n) hf h1
  have hw := SP.wk hg q1
  intro w U0 X β0 us hs
  have hβ : ∀ k, β0 k = none := by
    intro k
    cases hk : β0 k with
    | none => rfl
    | some p => have := hs.dom k p hk; cases this
  have hs0 : SimB w U0 (fun _ _ => False) β0 β0 U0 ⟨(putVs (fun _ => 0) ap x).1.length, argsEnv 0 (putVs (fun _ => 0) ap x).1, []⟩ ⟨us, []⟩ w :=
    { hs with chg := Chg.refl _ _ _, may := fun k p blk b j hp => by rw [hβ k] at hp; cases hp }
  refine (hc w U0 _ β0 us hs0).mono ?_
  rintro e w' ⟨v, r', m', rfl, ⟨rfl, rfl⟩, hsim⟩
  refine ⟨v, _, _, rfl, ⟨rfl, rfl⟩, ?_⟩
  obtain ⟨β1, U1, hb1⟩ := hsim
  have h3 := (hb1.freeze hβ).stWk hw
  obtain ⟨β, U, h4'⟩ := h3
  have h4 := h4'.monoX (X' := X) (fun _ _ e => e.elim)
  have hn : (rp.put r).n = 1 := hw.n.symm
  refine ⟨β, U, { h4 with n := by rw [h4.n, hn], small := by simp, env := fun t => ?_ }⟩
  have := h4.env t
  cases t with
  | zero => exact this
  | succ t =>
    have e : (#[v] : Array Value).getD (t + 1) undef = undef := by simp
    rw [e]
    show RepV _ _ _ _ undef ((look (t + 1) [(0, (rp.put r).get 0)]).getD (.one .bad))
    simp [look]
    exact .bad _

def FS.pf {P : Program} (F : FS P) : PF P := ⟨F.f, [], execSpec P F, fun ys m T r m' hT h => by
  unfold execSpec at hT
  split at hT
  · split at hT
    · rename_i g hg
      cases hT
      obtain ⟨y, h1, h2⟩ := Option.bind_eq_some_iff.1 h
      cases h2
      obtain ⟨_, hw⟩ := getVs_put (len := fun _ => 0) hg (fun q hq => by cases hq) Unit ()
      exact ⟨_, [], hw, trivial, F.ok _ _ h1⟩
    · cases hT
  · cases hT⟩

theorem acall_mono {P : Program} {f : FuncId} {args : List V} {m : List (Nat × Blk)} {K K' : V -> List (Nat × Blk) -> Prop} (h : ACall P f args m K)
    (hk : ∀ r m', K r m' -> ∃ r2 m2, K' r2 m2 /\ Fwd ⟨1, [(0, r)], m'⟩ ⟨1, [(0, r2)], m2⟩) : ACall P f args m K' := by
  intro w U0 X β0 us hs
  refine (h w U0 X β0 us hs).mono ?_
  rintro e w' ⟨v, r, m', rfl, hK, hsim⟩
  obtain ⟨r2, m2, h1, h2⟩ := hk r m' hK
  exact ⟨v, r2, m2, rfl, h1, h2 _ _ _ _ _ _ hsim⟩

theorem normGet_one {ks : List (Nat × Nat)} {sp : SP} {r : V} {m : Mem} {l : Ob} {y : sp.T} (h : normGet ks sp ⟨1, [(0, r)], m⟩ = some (l, y)) (ho : ObOk (sp.len y) l) : Fwd ⟨1, [(0, r)], m⟩ ⟨1, [(0, (sp.put y).get 0)], (sp.put y).mem⟩ := by
  have hf := normGet_fwd h ho
  have hn : (sp.put y).n = 1 := by
    unfold normGet at h
    split at h
    · rename_i s1 hs1
      have hw := SP.wk h ho
      rw [<- hw.n]
      unfold St.norm at hs1
      split at hs1
      · cases hs1; rfl
      · cases hs1
    · cases h
  intro w0 U0 X β0 a w hs
  have hs0 := hs
  obtain ⟨β1, U1, h1⟩ := hs0
  obtain ⟨β, U, h4⟩ := hf w0 U0 X β0 a w hs
  refine ⟨β, U, { h4 with n := by rw [h4.n, hn], small := by simp, env := fun t => ?_ }⟩
  have := h4.env t
  show RepV w β U w0.heap.size (a.tmps.getD t undef) ((look t [(0, (sp.put y).get 0)]).getD (.one .bad))
  cases t with
  | zero => exact this
  | succ t => simp [look]; exact .bad _

theorem gs_sound {Γ : List (PF P)} {Λs : List (FuncId × LS)} {n : Nat} {f : FuncId} {ap rp : SP} {x : ap.T} {r : rp.T} (h : (gsTr P cod Γ Λs n f ap rp x).eval = some r)
    {ys : List V} {m : Mem} {g : Ob} (he : entryGet ap ys m = some (g, x)) (hg : ObOk (ap.len x) g) : ACall P f ys m fun r' m' => r' = (rp.put r).get 0 /\ m' = (rp.put r).mem := by
  unfold entryGet at he
  split at he
  case h_2 => cases he
  rename_i hle
  simp only [decide_eq_true_eq] at hle
  unfold gsTr at h
  split at h
  case h_2 => cases h
  rename_i fn hf
  split at h
  case h_2 => cases h
  rename_i c hb
  split at h
  case h_2 => cases h
  rename_i hn
  simp only [Bool.and_eq_true, decide_eq_true_eq] at hn
  obtain ⟨hn1, hn2⟩ := hn
  have hn1 := Nat.eq_of_beq_eq_true hn1
  rw [Tr.eval_bind] at h
  obtain ⟨⟨r0, m0⟩, h1, h2⟩ := Option.bind_eq_some_iff.1 h
  simp only at h2
  split at h2
  case h_2 => cases h2
  rename_i g2 y hy
  obtain ⟨q1, q2⟩ := eval_grdOb h2
  cases q2
  obtain ⟨e, kn', s', h3, h4, h5⟩ := exec_sound (execFn_sound (cod := cod) (Γ := Γ) (Λs := Λs) n) c KnOk.nil h1
  unfold execEnd at h4
  split at h4
  case h_2 => cases h4
  rename_i he'
  split at h4
  case h_2 => cases h4
  rename_i v hv
  split at h4
  case h_2 => cases h4
  rename_i s1 hs1
  split at h4
  case h_2 => cases h4
  rename_i z1 z2 hs2
  cases h4
  have hfw : Fwd ⟨ap.n, argsEnv 0 ys, m⟩ (ap.put x) := normGet_fwd he hg
  have hac : ACall P f ys m fun r' m'' => r' = r0 /\ m'' = s1.mem := by
    refine acall_enter (endKs (ap.put x).mem s'.mem ((trimSt { n := 1, env := [(0, v)], mem := s'.mem }).get 0)) hf hb hn1 rfl (by omega) hle ?_
    have hA : AWp P c (fun e1 s1 => e1 = e /\ s1 = s') ⟨ap.n, argsEnv 0 ys, m⟩ := fun w0 U0 X β0 a w hs => h5 w0 U0 X β0 a w (hfw _ _ _ _ _ _ hs)
    refine awp_mono hA ?_
    rintro e1 s2 ⟨rfl, rfl⟩
    refine ⟨?_, r0, s1.mem, ?_, rfl, rfl⟩
    · cases e1 <;> first | exact .inl rfl | exact .inr rfl | cases he'
    · simp only [hv]
      have hs3 := hs1
      unfold St.norm at hs3
      split at hs3
      · cases hs3
        simp only [List.map_cons, List.map_nil] at hs2 ⊢
        cases hs2
        rw [hs1, trimSt_n]; rfl
      · cases hs3
  refine acall_mono hac ?_
  rintro r' m' ⟨rfl, rfl⟩
  exact ⟨_, _, ⟨rfl, rfl⟩, normGet_one hy q1⟩

structure GS (P : Program) where
  f : FuncId
  ms : List Nat
  ap : SP
  rp : SP
  fn : ap.T -> Option rp.T
  ok : ∀ x r, fn x = some r -> ∀ ys m g, entryGet ap ys m = some (g, x) -> ObOk (ap.len x) g -> ACall P f ys m fun r' m' => r' = (rp.put r).get 0 /\ m' = (rp.put r).mem
def GS.pf {P : Program} (G : GS P) : PF P := ⟨G.f, G.ms, gsSpec G.ap G.rp G.fn, fun ys m T r m' hT h => by
  unfold gsSpec at hT
  split at hT
  · rename_i g x hg
    cases hT
    obtain ⟨h1, h2⟩ := eval_grdOb h
    obtain ⟨y, h3, h4⟩ := Option.bind_eq_some_iff.1 h2
    cases h4
    exact ⟨ys, m, WkVs_rfl _, WkM_rfl _, G.ok x y h3 ys m g hg h1⟩
  · cases hT⟩

theorem SimB.ghostEnd {w0 : World} {U0 : Nat -> Prop} {X : Nat -> Nat -> Prop} {β0 β : Nat -> Option Place} {U : Nat -> Prop} {a : Act} {w : World} (h : SimB w0 U0 X β0 β U ⟨1, [(0, .one .nil)], []⟩ a w) (e : TypeId) (c : Nat) (fr : Bool) :
    Sim w0 U0 X β0 ⟨1, [(0, .one (.own 2000000 0 0))], [(2000000, .rowT 0 e c true fr [])]⟩ a w := by
  have hv : a.tmps.getD 0 undef = .slice none 0 0 := (h.env 0).toC
  have hno : ∀ k, β k = none := fun k => by
    cases hb : β k with
    | none => rfl
    | some p => have := h.dom k p hb; cases this
  refine ⟨upd β 2000000 (.row (.slice none 0 0) 0), U, ?_⟩
  have hget : ∀ k p, upd β 2000000 (.row (.slice none 0 0) 0) k = some p -> k = 2000000 /\ p = .row (.slice none 0 0) 0 := by
    intro k p hp
    by_cases e : 2000000 = k
    · subst e; rw [upd_self] at hp; exact ⟨rfl, by simpa using hp.symm⟩
    · rw [upd_ne β e, hno] at hp; cases hp
  have hblk : ∀ k b, look k [(2000000, Blk.rowT 0 e c true fr [])] = some b -> k = 2000000 /\ b = .rowT 0 e c true fr [] := by
    intro k b hb
    rw [look_cons] at hb
    split at hb
    · rename_i q; exact ⟨q.symm, by simpa using hb.symm⟩
    · cases hb
  exact {
    n := h.n, small := h.small, args := h.args, ver0 := h.ver0, defers := h.defers, glob := h.glob
    hist := fun k p hp hb => by
      obtain ⟨b, hb⟩ := Option.isSome_iff_exists.1 hb
      obtain ⟨rfl, _⟩ := hblk k b hb
      rw [h.args 2000000 (by omega)] at hp; cases hp
    env := fun t => by
      show RepV w _ U w0.heap.size (a.tmps.getD t undef) ((look t [(0, V.one (.own 2000000 0 0))]).getD (.one .bad))
      cases t with
      | zero =>
        rw [hv]
        exact .one _ _ ⟨none, 0, .slice none 0 0, 0, rfl, Nat.le_refl _, fun _ => ⟨rfl, rfl⟩, fun x hx => by (cases hx), upd_self _ _ _, Nat.le_refl _, fun _ => rfl⟩
      | succ t => simp [look]; exact .bad _
    mem := fun k b hb => by
      obtain ⟨rfl, rfl⟩ := hblk k b hb
      exact ⟨_, upd_self _ _ _, rfl, fun r hr => by simp at hr, .inl ⟨rfl, rfl⟩⟩
    dom := fun k p hp => by
      obtain ⟨rfl, _⟩ := hget k p hp
      rfl
    apart := fun k p b hp hb => by
      obtain ⟨rfl, rfl⟩ := hget k p hp
      simp [Place.block, Value.ownBlock] at hb
    inj := fun k1 k2 p1 p2 b1 b2 b j hne hp1 hp2 => by
      obtain ⟨rfl, _⟩ := hget k1 p1 hp1
      obtain ⟨rfl, _⟩ := hget k2 p2 hp2
      exact absurd rfl hne
    stab := h.stab, old := h.old, new := h.new, chg := h.chg
    may := fun k p blk b j hp hb hc => by
      obtain ⟨rfl, rfl⟩ := hget k p hp
      have := covers_block hc
      simp [Place.block, Value.ownBlock] at this }

def cloneRes (e c b : Nat) (xs : List (τ c)) : Tr (V × Mem) :=
  .grd (decide ((0 + xs.length) * b <= 140737488355328 /\ 0 + xs.length <= maxLen)) (.ret (.one (.own 2000000 0 xs.length), [(2000000, .rowT 0 e c true (flatT c) xs)]))
def cloneTr (e c b : Nat) (ys : List V) (m : Mem) : Option (Tr (V × Mem)) :=
  match ys, m with
  | [.one (.d (.st k xs))], [] => match castSt c k xs with
    | some xs => some (cloneRes e c b xs)
    | none => none
  | [.one .nil], [] => some (.ret (.one (.own 2000000 0 0), [(2000000, .rowT 0 e c true (flatT c) [])]))
  | _, _ => none
def bodyTr (P : Program) (cod : TypeId -> Nat) (f : FuncId) (ys : List V) : Tr (V × Mem) :=
  match P.funcs[f]? with
  | some fn => execBody P cod (fun _ => []) (fun _ _ _ => .fail 0) [] fn f ys []
  | none => .fail 0
theorem bodyTr_sound {P : Program} {cod : TypeId -> Nat} {f : FuncId} {ys : List V} {r : V} {m : Mem} (h : (bodyTr P cod f ys).eval = some (r, m)) : ACall P f ys [] fun r' m' => r' = r /\ m' = m := by
  unfold bodyTr at h
  split at h
  · rename_i fn hf
    exact execBody_sound (fun f xs m r m' h => by cases h) hf h
  · cases h

theorem cloneTr_cases {e c b : Nat} {ys : List V} {m : Mem} {T : Tr (V × Mem)} (h : cloneTr e c b ys m = some T) :
    (∃ xs : List (τ c), ys = [.one (.d (.st c xs))] /\ m = [] /\ T = cloneRes e c b xs) \/ (ys = [.one .nil] /\ m = [] /\ T = .ret (.one (.own 2000000 0 0), [(2000000, .rowT 0 e c true (flatT c) [])])) := by
  unfold cloneTr at h
  split at h
  · rename_i k xs
    split at h
    · rename_i xs' hc
      cases h
      refine .inl ⟨xs', ?_, rfl, rfl⟩
      rw [castSt_eq hc]
    · cases h
  · cases h; exact .inr ⟨rfl, rfl, rfl⟩
  · cases h

def clonePF (P : Program) (cod : TypeId -> Nat) (f e c b : Nat) (h1 : ∀ xs : List (τ c), (bodyTr P cod f [.one (.nn (.st c xs))]).eval = (cloneRes e c b xs).eval) (h2 : (bodyTr P cod f [.one .nil]).eval = some (.one .nil, [])) : PF P := ⟨f, [], cloneTr e c b, fun ys m T r m' hT h => by
  have hnil : ACall P f [.one .nil] [] fun r' m'' => r' = .one (.own 2000000 0 0) /\ m'' = [(2000000, .rowT 0 e c true (flatT c) [])] := by
    refine acall_mono (bodyTr_sound (cod := cod) (r := .one .nil) (m := []) h2) ?_
    rintro r' m' ⟨rfl, rfl⟩
    refine ⟨_, _, ⟨rfl, rfl⟩, ?_⟩
    rintro w0 U0 X β0 a w ⟨β, U, hs⟩
    exact hs.ghostEnd e c (flatT c)
  have hnn : ∀ (xs : List (τ c)) (r : V) (m' : Mem), (cloneRes e c b xs).eval = some (r, m') -> ACall P f [.one (.nn (.st c xs))] [] fun r' m'' => r' = r /\ m'' = m' := fun xs r m' h =>
    bodyTr_sound (cod := cod) (by rw [h1]; exact h)
  rcases cloneTr_cases hT with ⟨xs, rfl, rfl, rfl⟩ | ⟨rfl, rfl, rfl⟩
  · refine ⟨[.one (.d (.st c xs))], [], WkVs_rfl _, trivial, ?_⟩
    intro w U0 X β0 us hs
    have hv := (hs.env 0).toC
    have hst : RepI w U0 (us.getD 0 undef) (.st c xs) := hv
    have hun := RepI.unst hst
    -- what a value says is enough
    have up : ∀ {c' : C}, RepC w β0 U0 w.heap.size (us.getD 0 undef) c' -> SimB w U0 X β0 β0 U0 ⟨1, argsEnv 0 [.one c'], []⟩ ⟨us, []⟩ w := fun {c'} hc' => { hs with
      env := fun t => by
        show RepV w β0 U0 w.heap.size (us.getD t undef) ((look t [(0, V.one c')]).getD (.one .bad))
        cases t with
        | zero => exact .one _ _ hc'
        | succ t => simp [look]; exact .bad _ }
    have hsome : ∀ ad l cc, us.getD 0 undef = .slice (some ad) l cc -> Calls P f us w fun e' w' => ∃ v r' m'', e' = .returned v /\ (r' = r /\ m'' = m') /\ Sim w U0 X β0 ⟨1, [(0, r')], m''⟩ ⟨#[v], []⟩ w' :=
      fun ad l cc he => hnn xs r m' h w U0 X β0 us (up (c' := .nn (.st c xs)) ⟨hst, ad, l, cc, he⟩)
    generalize hu : us.getD 0 undef = u at hun hsome up
    have hlen : xs.length = (xs.map (enc c)).length := by simp
    generalize xs.map (enc c) = rows at hun hlen
    cases hun with
    | nil ao cap _ hn =>
      have hx0 : xs = [] := List.eq_nil_of_length_eq_zero (by simpa using hlen)
      subst hx0
      cases ao with
      | some ad => exact hsome ad 0 cap rfl
      | none =>
        have hc0 := hn rfl
        subst hc0
        obtain ⟨_, h3⟩ := Tr.eval_grd h
        cases h3
        exact hnil w U0 X β0 us (up (c' := .nil) rfl)
    | sl b' o cap _ _ vals => exact hsome _ _ _ rfl
  · cases h
    exact ⟨[.one .nil], [], WkVs_rfl _, trivial, hnil⟩⟩

def dataPF {P : Program} (F : PF P) : PF P := ⟨F.f, [], fun ys m => match m with
    | [] => match F.tr ys [] with
      | some T => some (T.bind fun rm => .ret (frzV rm.2 rm.1, []))
      | none => none
    | _ => none, fun ys m T r m' hT h => by
  split at hT
  case h_2 => cases hT
  split at hT
  case h_2 => cases hT
  rename_i T0 hT0
  cases hT
  rw [Tr.eval_bind] at h
  obtain ⟨⟨r0, m0⟩, h1, h2⟩ := Option.bind_eq_some_iff.1 h
  cases h2
  obtain ⟨ys', m2, hw, hwm, hc⟩ := F.ok _ _ _ _ _ hT0 h1
  have hm2 : m2 = [] := by cases m2; rfl; exact hwm.elim
  subst hm2
  refine ⟨ys', [], hw, trivial, ?_⟩
  intro w U0 X β0 us hs
  have hβ : ∀ k, β0 k = none := by
    intro k
    cases hk : β0 k with
    | none => rfl
    | some p => have := hs.dom k p hk; cases this
  have hs0 : SimB w U0 (fun _ _ => False) β0 β0 U0 ⟨ys'.length, argsEnv 0 ys', []⟩ ⟨us, []⟩ w :=
    { hs with chg := Chg.refl _ _ _, may := fun k p blk b j hp => by rw [hβ k] at hp; cases hp }
  refine (hc w U0 _ β0 us hs0).mono ?_
  rintro e w' ⟨v, r', m', rfl, ⟨rfl, rfl⟩, hsim⟩
  refine ⟨v, _, _, rfl, ⟨rfl, rfl⟩, ?_⟩
  obtain ⟨β1, U1, hb1⟩ := hsim
  obtain ⟨β, U, h4'⟩ := hb1.freeze hβ
  exact ⟨β, U, h4'.monoX (X' := X) (fun _ _ e => e.elim)⟩⟩
end Go.Proofs.YthkhikdglmaiaaaDoor.Abs
namespace Go.Proofs.YthkhikdglmaiaaaDoor.X
def cod : Go.TypeId -> Nat
  | 23 => 10
  | 26 => 19
  | 27 => 16
  | 28 => 16
  | 32 => 17
  | 50 => 24
  | 56 => 25
  | 79 => 4
  | 98 => 2
  | 182 => 2
  | 184 => 0
  | _ => 99
end Go.Proofs.YthkhikdglmaiaaaDoor.X
namespace Go.Proofs.YthkhikdglmaiaaaDoor.X
open Go Go.RowKit Go.Proofs.YthkhikdglmaiaaaDoor.Abs
set_option maxRecDepth 100000
set_option linter.unusedVariables false
theorem cdMeter_h1 (xs : List (τ 19)) : (bodyTr Go.Proofs.Tryd.prog cod 37 [.one (.nn (.st 19 xs))]).eval = (cloneRes 104 19 40 xs).eval := by kernel_rfl
theorem cdMeter_h2 : (bodyTr Go.Proofs.Tryd.prog cod 37 [.one .nil]).eval = some (.one .nil, []) := by kernel_rfl
def cdMeter : PF Go.Proofs.Tryd.prog := dataPF (clonePF Go.Proofs.Tryd.prog cod 37 104 19 40 cdMeter_h1 cdMeter_h2)
theorem cdRule_h1 (xs : List (τ 10)) : (bodyTr Go.Proofs.Tryd.prog cod 29 [.one (.nn (.st 10 xs))]).eval = (cloneRes 91 10 80 xs).eval := by kernel_rfl
theorem cdRule_h2 : (bodyTr Go.Proofs.Tryd.prog cod 29 [.one .nil]).eval = some (.one .nil, []) := by kernel_rfl
def cdRule : PF Go.Proofs.Tryd.prog := dataPF (clonePF Go.Proofs.Tryd.prog cod 29 91 10 80 cdRule_h1 cdRule_h2)
theorem cdTalk_h1 (xs : List (τ 16)) : (bodyTr Go.Proofs.Tryd.prog cod 38 [.one (.nn (.st 16 xs))]).eval = (cloneRes 109 16 48 xs).eval := by kernel_rfl
theorem cdTalk_h2 : (bodyTr Go.Proofs.Tryd.prog cod 38 [.one .nil]).eval = some (.one .nil, []) := by kernel_rfl
def cdTalk : PF Go.Proofs.Tryd.prog := dataPF (clonePF Go.Proofs.Tryd.prog cod 38 109 16 48 cdTalk_h1 cdTalk_h2)
theorem cdMap_h1 (xs : List (τ 17)) : (bodyTr Go.Proofs.Tryd.prog cod 39 [.one (.nn (.st 17 xs))]).eval = (cloneRes 112 17 40 xs).eval := by kernel_rfl
theorem cdMap_h2 : (bodyTr Go.Proofs.Tryd.prog cod 39 [.one .nil]).eval = some (.one .nil, []) := by kernel_rfl
def cdMap : PF Go.Proofs.Tryd.prog := dataPF (clonePF Go.Proofs.Tryd.prog cod 39 112 17 40 cdMap_h1 cdMap_h2)
def sumFold_L78_1 : LS := ⟨1, [], ⟨12, [(0, .v (.one (.i .u64)))], []⟩, [⟨some 0, [], ⟨12, [(0, .v (.one (.i .u64)))], []⟩⟩], []⟩
def sumFold_step78_1 : (Int × Unit) -> Tr ((Int × Unit) ⊕ (Int × Unit)) :=
 fun (a0, _) =>
 .ite (decide ((65535 : Int) < a0)) (
 .grd (true) (
 .ret (Sum.inl (IntKind.wrap IntKind.u64 (Int.fdiv a0 ((2 : Int) ^ (16 : Nat)) + bits BinOp.and IntKind.u64 a0 (65535 : Int)), ())))) (
 .ret (Sum.inr (a0, ())))
def sumFold_loop78_1 (x : (Int × Unit)) : Option (Int × Unit) := loopO 780001 (fun x => (sumFold_step78_1 x).eval) 18446744073709551616 x
def sumFold_ap : List VP1 := [.one (.i .u64)]
def sumFold_rp : SP := ⟨1, [(0, .v (.one (.i .u16)))], []⟩
def sumFold_tree : (Int × Unit) -> Tr (Int × Unit) :=
 fun (a0, _) =>
 .opt ((sumFold_loop78_1 (a0, ()))) (fun r0 =>
 .ret (IntKind.wrap IntKind.u16 r0.1, ()))
theorem sumFold_eq (x : (Int × Unit)) : fnTr Tryd.prog cod [] [(78, sumFold_L78_1)] 30 78 sumFold_ap sumFold_rp x = sumFold_tree x := by kernel_rfl
def sumFold_fn (x : (Int × Unit)) : Option (Int × Unit) := (sumFold_tree x).eval
def sumFold : FS Tryd.prog := ⟨78, sumFold_ap, sumFold_rp, sumFold_fn, fun x r h => fnTr_sound (cod := cod) (Γ := []) (Λs := [(78, sumFold_L78_1)]) (n := 30) ((congrArg Tr.eval (sumFold_eq x)).trans h)⟩
def sumAdd_L57_2 : LS := ⟨2, [], ⟨33, [(1, .v (.one (.s))), (5, .v (.one (.i .u64)))], []⟩, [⟨some 0, [], ⟨33, [(1, .v (.one (.s))), (5, .v (.one (.i .u64)))], []⟩⟩], []⟩
def sumAdd_step57_2 : ((List UInt8) × (Int × Unit)) -> Tr (((List UInt8) × (Int × Unit)) ⊕ ((List UInt8) × (Int × Unit))) :=
 fun (a0, a1, _) =>
 .ite (decide ((1 : Int) < (↑(List.length a0) : Int))) (
 .grd (decide ((0 : Int) <= (0 : Int) /\ (0 : Int) < (↑(List.length a0) : Int))) (
 .grd (true) (
 .grd (decide ((0 : Int) <= (1 : Int) /\ (1 : Int) < (↑(List.length a0) : Int))) (
 .grd (decide ((0 : Int) <= (2 : Int) /\ (2 : Int) <= (↑(List.length a0) : Int) /\ (↑(List.length a0) : Int) <= (↑(List.length a0) : Int))) (
 .ret (Sum.inl (List.drop (2 : Nat) (List.take (Int.toNat (↑(List.length a0) : Int)) a0), (IntKind.wrap IntKind.u64 (a1 + bits BinOp.or IntKind.u64 (IntKind.wrap IntKind.u64 (IntKind.wrap IntKind.u64 (↑(UInt8.toNat (List.getD a0 (0 : Nat) (0 : UInt8))) : Int) * (2 : Int) ^ (8 : Nat))) (IntKind.wrap IntKind.u64 (↑(UInt8.toNat (List.getD a0 (1 : Nat) (0 : UInt8))) : Int))), ())))))))) (
 .ret (Sum.inr (a0, (a1, ()))))
def sumAdd_loop57_2 (x : ((List UInt8) × (Int × Unit))) : Option ((List UInt8) × (Int × Unit)) := loopO 570002 (fun x => (sumAdd_step57_2 x).eval) 18446744073709551616 x
def sumAdd_ap : List VP1 := [.one (.i .u16), .one (.s)]
def sumAdd_rp : SP := ⟨1, [(0, .v (.one (.i .u16)))], []⟩
def sumAdd_tree : (Int × ((List UInt8) × Unit)) -> Tr (Int × Unit) :=
 fun (a0, a1, _) =>
 .opt ((sumAdd_loop57_2 (a1, (IntKind.wrap IntKind.u64 a0, ())))) (fun r0 =>
 .ite (!decide (r0.1 = [])) (
 .grd (decide ((0 : Int) <= (0 : Int) /\ (0 : Int) < (↑(List.length r0.1) : Int))) (
 .grd (true) (
 .opt ((sumFold_fn (IntKind.wrap IntKind.u64 (r0.2.1 + IntKind.wrap IntKind.u64 (IntKind.wrap IntKind.u64 (↑(UInt8.toNat (List.getD r0.1 (0 : Nat) (0 : UInt8))) : Int) * (2 : Int) ^ (8 : Nat))), ()))) (fun r1 =>
 .ret (r1.1, ()))))) (
 .opt ((sumFold_fn (r0.2.1, ()))) (fun r1 =>
 .ret (r1.1, ()))))
theorem sumAdd_eq (x : (Int × ((List UInt8) × Unit))) : fnTr Tryd.prog cod [FS.pf sumFold] [(57, sumAdd_L57_2)] 30 57 sumAdd_ap sumAdd_rp x = sumAdd_tree x := by kernel_rfl
def sumAdd_fn (x : (Int × ((List UInt8) × Unit))) : Option (Int × Unit) := (sumAdd_tree x).eval
def sumAdd : FS Tryd.prog := ⟨57, sumAdd_ap, sumAdd_rp, sumAdd_fn, fun x r h => fnTr_sound (cod := cod) (Γ := [FS.pf sumFold]) (Λs := [(57, sumAdd_L57_2)]) (n := 30) ((congrArg Tr.eval (sumAdd_eq x)).trans h)⟩
def sumOf_ap : List VP1 := [.one (.s)]
def sumOf_rp : SP := ⟨1, [(0, .v (.one (.i .u16)))], []⟩
def sumOf_tree : ((List UInt8) × Unit) -> Tr (Int × Unit) :=
 fun (a0, _) =>
 .opt ((sumAdd_fn ((0 : Int), (a0, ())))) (fun r0 =>
 .ret (bits BinOp.xor IntKind.u16 (if IntKind.signed IntKind.u16 = true then (-1 : Int) else IntKind.max IntKind.u16) r0.1, ()))
theorem sumOf_eq (x : ((List UInt8) × Unit)) : fnTr Tryd.prog cod [FS.pf sumFold, FS.pf sumAdd] [] 30 32 sumOf_ap sumOf_rp x = sumOf_tree x := by kernel_rfl
def sumOf_fn (x : ((List UInt8) × Unit)) : Option (Int × Unit) := (sumOf_tree x).eval
def sumOf : FS Tryd.prog := ⟨32, sumOf_ap, sumOf_rp, sumOf_fn, fun x r h => fnTr_sound (cod := cod) (Γ := [FS.pf sumFold, FS.pf sumAdd]) (Λs := []) (n := 30) ((congrArg Tr.eval (sumOf_eq x)).trans h)⟩
def sumRight_ap : List VP1 := [.one (.s)]
def sumRight_rp : SP := ⟨1, [(0, .v (.one (.b)))], []⟩
def sumRight_tree : ((List UInt8) × Unit) -> Tr (Bool × Unit) :=
 fun (a0, _) =>
 .opt ((sumAdd_fn ((0 : Int), (a0, ())))) (fun r0 =>
 .ret (decide (r0.1 = (65535 : Int)), ()))
theorem sumRight_eq (x : ((List UInt8) × Unit)) : fnTr Tryd.prog cod [FS.pf sumFold, FS.pf sumAdd, FS.pf sumOf] [] 30 50 sumRight_ap sumRight_rp x = sumRight_tree x := by kernel_rfl
def sumRight_fn (x : ((List UInt8) × Unit)) : Option (Bool × Unit) := (sumRight_tree x).eval
def sumRight : FS Tryd.prog := ⟨50, sumRight_ap, sumRight_rp, sumRight_fn, fun x r h => fnTr_sound (cod := cod) (Γ := [FS.pf sumFold, FS.pf sumAdd, FS.pf sumOf]) (Λs := []) (n := 30) ((congrArg Tr.eval (sumRight_eq x)).trans h)⟩
def sumFix_ap : List VP1 := [.one (.i .u16), .one (.i .u16), .one (.i .u16)]
def sumFix_rp : SP := ⟨1, [(0, .v (.one (.i .u16)))], []⟩
def sumFix_tree : (Int × (Int × (Int × Unit))) -> Tr (Int × Unit) :=
 fun (a0, a1, a2, _) =>
 .opt ((sumFold_fn (IntKind.wrap IntKind.u64 (IntKind.wrap IntKind.u64 (IntKind.wrap IntKind.u64 (bits BinOp.xor IntKind.u16 (if IntKind.signed IntKind.u16 = true then (-1 : Int) else IntKind.max IntKind.u16) a0) + IntKind.wrap IntKind.u64 (bits BinOp.xor IntKind.u16 (if IntKind.signed IntKind.u16 = true then (-1 : Int) else IntKind.max IntKind.u16) a1)) + IntKind.wrap IntKind.u64 a2), ()))) (fun r0 =>
 .ret (bits BinOp.xor IntKind.u16 (if IntKind.signed IntKind.u16 = true then (-1 : Int) else IntKind.max IntKind.u16) r0.1, ()))
theorem sumFix_eq (x : (Int × (Int × (Int × Unit)))) : fnTr Tryd.prog cod [FS.pf sumFold, FS.pf sumAdd, FS.pf sumOf, FS.pf sumRight] [] 30 67 sumFix_ap sumFix_rp x = sumFix_tree x := by kernel_rfl
def sumFix_fn (x : (Int × (Int × (Int × Unit)))) : Option (Int × Unit) := (sumFix_tree x).eval
def sumFix : FS Tryd.prog := ⟨67, sumFix_ap, sumFix_rp, sumFix_fn, fun x r h => fnTr_sound (cod := cod) (Γ := [FS.pf sumFold, FS.pf sumAdd, FS.pf sumOf, FS.pf sumRight]) (Λs := []) (n := 30) ((congrArg Tr.eval (sumFix_eq x)).trans h)⟩
def dgWord_ap : List VP1 := [.one (.i .i64)]
def dgWord_rp : SP := ⟨1, [(0, .v (.one (.s)))], []⟩
def dgWord_tree : (Int × Unit) -> Tr ((List UInt8) × Unit) :=
 fun (a0, _) =>
 .grd (true) (
 .grd (decide ((0 : Int) <= IntKind.wrap IntKind.u8 (Int.fdiv a0 ((2 : Int) ^ (8 : Nat))) /\ IntKind.wrap IntKind.u8 (Int.fdiv a0 ((2 : Int) ^ (8 : Nat))) < (256 : Int))) (
 .grd (decide ((0 : Int) <= IntKind.wrap IntKind.u8 a0 /\ IntKind.wrap IntKind.u8 a0 < (256 : Int))) (
 .ret ([UInt8.ofNat (Int.toNat (IntKind.wrap IntKind.u8 (Int.fdiv a0 ((2 : Int) ^ (8 : Nat))))), UInt8.ofNat (Int.toNat (IntKind.wrap IntKind.u8 a0))], ()))))
noncomputable def gm0 : List (PF Go.Proofs.Tryd.prog) := [FS.pf sumFold, FS.pf sumAdd, FS.pf sumOf, FS.pf sumRight, FS.pf sumFix]
theorem dgWord_eq (x : (Int × Unit)) : fnTr Tryd.prog cod gm0 [] 30 31 dgWord_ap dgWord_rp x = dgWord_tree x := by kernel_rfl
def dgWord_fn (x : (Int × Unit)) : Option ((List UInt8) × Unit) := (dgWord_tree x).eval
def dgWord : FS Tryd.prog := ⟨31, dgWord_ap, dgWord_rp, dgWord_fn, fun x r h => fnTr_sound (cod := cod) (Γ := gm0) (Λs := []) (n := 30) ((congrArg Tr.eval (dgWord_eq x)).trans h)⟩
def dgLong_ap : List VP1 := [.one (.i .u32)]
def dgLong_rp : SP := ⟨1, [(0, .v (.one (.s)))], []⟩
def dgLong_tree : (Int × Unit) -> Tr ((List UInt8) × Unit) :=
 fun (a0, _) =>
 .grd (true) (
 .opt ((dgWord_fn (IntKind.wrap IntKind.i64 (Int.fdiv a0 ((2 : Int) ^ (16 : Nat))), ()))) (fun r0 =>
 .opt ((dgWord_fn (IntKind.wrap IntKind.i64 a0, ()))) (fun r1 =>
 .grd (decide (List.length r0.1 + List.length r1.1 <= (9223372036854775807 : Nat))) (
 .ret (r0.1 ++ r1.1, ())))))
noncomputable def gm1 : List (PF Go.Proofs.Tryd.prog) := [FS.pf sumFold, FS.pf sumAdd, FS.pf sumOf, FS.pf sumRight, FS.pf sumFix, FS.pf dgWord]
theorem dgLong_eq (x : (Int × Unit)) : fnTr Tryd.prog cod gm1 [] 30 58 dgLong_ap dgLong_rp x = dgLong_tree x := by kernel_rfl
def dgLong_fn (x : (Int × Unit)) : Option ((List UInt8) × Unit) := (dgLong_tree x).eval
def dgLong : FS Tryd.prog := ⟨58, dgLong_ap, dgLong_rp, dgLong_fn, fun x r h => fnTr_sound (cod := cod) (Γ := gm1) (Λs := []) (n := 30) ((congrArg Tr.eval (dgLong_eq x)).trans h)⟩
def dgWordAt_ap : List VP1 := [.one (.s), .one (.i .i64)]
def dgWordAt_rp : SP := ⟨1, [(0, .v (.one (.i .i64)))], []⟩
def dgWordAt_tree : ((List UInt8) × (Int × Unit)) -> Tr (Int × Unit) :=
 fun (a0, a1, _) =>
 .grd (decide ((0 : Int) <= a1 /\ a1 < (↑(List.length a0) : Int))) (
 .grd (true) (
 .grd (decide ((0 : Int) <= IntKind.wrap IntKind.i64 (a1 + (1 : Int)) /\ IntKind.wrap IntKind.i64 (a1 + (1 : Int)) < (↑(List.length a0) : Int))) (
 .ret (bits BinOp.or IntKind.i64 (IntKind.wrap IntKind.i64 (IntKind.wrap IntKind.i64 (↑(UInt8.toNat (List.getD a0 (Int.toNat a1) (0 : UInt8))) : Int) * (2 : Int) ^ (8 : Nat))) (IntKind.wrap IntKind.i64 (↑(UInt8.toNat (List.getD a0 (Int.toNat (IntKind.wrap IntKind.i64 (a1 + (1 : Int)))) (0 : UInt8))) : Int)), ()))))
noncomputable def gm2 : List (PF Go.Proofs.Tryd.prog) := [FS.pf sumFold, FS.pf sumAdd, FS.pf sumOf, FS.pf sumRight, FS.pf sumFix, FS.pf dgWord, FS.pf dgLong]
theorem dgWordAt_eq (x : ((List UInt8) × (Int × Unit))) : fnTr Tryd.prog cod gm2 [] 30 54 dgWordAt_ap dgWordAt_rp x = dgWordAt_tree x := by kernel_rfl
def dgWordAt_fn (x : ((List UInt8) × (Int × Unit))) : Option (Int × Unit) := (dgWordAt_tree x).eval
def dgWordAt : FS Tryd.prog := ⟨54, dgWordAt_ap, dgWordAt_rp, dgWordAt_fn, fun x r h => fnTr_sound (cod := cod) (Γ := gm2) (Λs := []) (n := 30) ((congrArg Tr.eval (dgWordAt_eq x)).trans h)⟩
def dgUnder_ap : List VP1 := [.one (.i .u32), .one (.i .u32), .one (.i .i64), .one (.i .i64)]
def dgUnder_rp : SP := ⟨1, [(0, .v (.one (.s)))], []⟩
def dgUnder_tree : (Int × (Int × (Int × (Int × Unit)))) -> Tr ((List UInt8) × Unit) :=
 fun (a0, a1, a2, a3, _) =>
 .opt ((dgLong_fn (a0, ()))) (fun r0 =>
 .opt ((dgLong_fn (a1, ()))) (fun r1 =>
 .grd (decide (List.length r0.1 + List.length r1.1 <= (9223372036854775807 : Nat))) (
 .opt ((dgWord_fn (bits BinOp.and IntKind.i64 a2 (255 : Int), ()))) (fun r2 =>
 .grd (decide (List.length (r0.1 ++ r1.1) + List.length r2.1 <= (9223372036854775807 : Nat))) (
 .opt ((dgWord_fn (a3, ()))) (fun r3 =>
 .grd (decide (List.length (r0.1 ++ r1.1 ++ r2.1) + List.length r3.1 <= (9223372036854775807 : Nat))) (
 .ret (r0.1 ++ r1.1 ++ r2.1 ++ r3.1, ()))))))))
noncomputable def gm3 : List (PF Go.Proofs.Tryd.prog) := [FS.pf sumFold, FS.pf sumAdd, FS.pf sumOf, FS.pf sumRight, FS.pf sumFix, FS.pf dgWord, FS.pf dgLong, FS.pf dgWordAt]
theorem dgUnder_eq (x : (Int × (Int × (Int × (Int × Unit))))) : fnTr Tryd.prog cod gm3 [] 30 33 dgUnder_ap dgUnder_rp x = dgUnder_tree x := by kernel_rfl
def dgUnder_fn (x : (Int × (Int × (Int × (Int × Unit))))) : Option ((List UInt8) × Unit) := (dgUnder_tree x).eval
def dgUnder : FS Tryd.prog := ⟨33, dgUnder_ap, dgUnder_rp, dgUnder_fn, fun x r h => fnTr_sound (cod := cod) (Γ := gm3) (Λs := []) (n := 30) ((congrArg Tr.eval (dgUnder_eq x)).trans h)⟩
def dgPort_ap : List VP1 := [.one (.i .i64)]
def dgPort_rp : SP := ⟨1, [(0, .v (.one (.b)))], []⟩
def dgPort_tree : (Int × Unit) -> Tr (Bool × Unit) :=
 fun (a0, _) =>
 .ite (decide ((0 : Int) <= a0)) (
 .ret (decide (a0 <= (65535 : Int)), ())) (
 .ret (false, ()))
noncomputable def gm4 : List (PF Go.Proofs.Tryd.prog) := [FS.pf sumFold, FS.pf sumAdd, FS.pf sumOf, FS.pf sumRight, FS.pf sumFix, FS.pf dgWord, FS.pf dgLong, FS.pf dgWordAt, FS.pf dgUnder]
theorem dgPort_eq (x : (Int × Unit)) : fnTr Tryd.prog cod gm4 [] 30 30 dgPort_ap dgPort_rp x = dgPort_tree x := by kernel_rfl
def dgPort_fn (x : (Int × Unit)) : Option (Bool × Unit) := (dgPort_tree x).eval
def dgPort : FS Tryd.prog := ⟨30, dgPort_ap, dgPort_rp, dgPort_fn, fun x r h => fnTr_sound (cod := cod) (Γ := gm4) (Λs := []) (n := 30) ((congrArg Tr.eval (dgPort_eq x)).trans h)⟩
def dgWrite_ap : List VP1 := [.agg [.i .i64, .i .i64, .s], .one (.i .u32), .one (.i .u32)]
def dgWrite_rp : SP := ⟨1, [(0, .tup [.one (.s), .one (.i .i64)])], []⟩
def dgWrite_tree : (Int × (Int × ((List UInt8) × (Int × (Int × Unit))))) -> Tr ((List UInt8) × (Int × Unit)) :=
 fun (a0, a1, a2, a3, a4, _) =>
 .opt ((dgPort_fn (a0, ()))) (fun r0 =>
 .ite (!r0.1) (
 .ret ([], ((1 : Int), ()))) (
 .opt ((dgPort_fn (a1, ()))) (fun r1 =>
 .ite (!r1.1) (
 .ret ([], ((1 : Int), ()))) (
 .ite (decide ((65507 : Int) < (↑(List.length a2) : Int))) (
 .ret ([], ((2 : Int), ()))) (
 .opt ((dgWord_fn (a0, ()))) (fun r2 =>
 .opt ((dgWord_fn (a1, ()))) (fun r3 =>
 .grd (decide (List.length r2.1 + List.length r3.1 <= (9223372036854775807 : Nat))) (
 .opt ((dgWord_fn (IntKind.wrap IntKind.i64 ((8 : Int) + (↑(List.length a2) : Int)), ()))) (fun r4 =>
 .grd (decide (List.length (r2.1 ++ r3.1) + List.length r4.1 <= (9223372036854775807 : Nat))) (
 .opt ((dgUnder_fn (a3, (a4, ((17 : Int), (IntKind.wrap IntKind.i64 ((8 : Int) + (↑(List.length a2) : Int)), ())))))) (fun r5 =>
 .grd (decide (List.length r5.1 + List.length (r2.1 ++ r3.1 ++ r4.1) <= (9223372036854775807 : Nat))) (
 .grd (decide (List.length (r5.1 ++ (r2.1 ++ r3.1 ++ r4.1)) + List.length a2 <= (9223372036854775807 : Nat))) (
 .opt ((sumOf_fn (r5.1 ++ (r2.1 ++ r3.1 ++ r4.1) ++ a2, ()))) (fun r6 =>
 .ite (decide (r6.1 = (0 : Int))) (
 .opt ((dgWord_fn ((65535 : Int), ()))) (fun r7 =>
 .grd (decide (List.length (r2.1 ++ r3.1 ++ r4.1) + List.length r7.1 <= (9223372036854775807 : Nat))) (
 .grd (decide (List.length (r2.1 ++ r3.1 ++ r4.1 ++ r7.1) + List.length a2 <= (9223372036854775807 : Nat))) (
 .ret (r2.1 ++ r3.1 ++ r4.1 ++ r7.1 ++ a2, ((0 : Int), ())))))) (
 .opt ((dgWord_fn (IntKind.wrap IntKind.i64 r6.1, ()))) (fun r7 =>
 .grd (decide (List.length (r2.1 ++ r3.1 ++ r4.1) + List.length r7.1 <= (9223372036854775807 : Nat))) (
 .grd (decide (List.length (r2.1 ++ r3.1 ++ r4.1 ++ r7.1) + List.length a2 <= (9223372036854775807 : Nat))) (
 .ret (r2.1 ++ r3.1 ++ r4.1 ++ r7.1 ++ a2, ((0 : Int), ()))))))))))))))))))))
noncomputable def gm5 : List (PF Go.Proofs.Tryd.prog) := [FS.pf sumFold, FS.pf sumAdd, FS.pf sumOf, FS.pf sumRight, FS.pf sumFix, FS.pf dgWord, FS.pf dgLong, FS.pf dgWordAt, FS.pf dgUnder, FS.pf dgPort]
theorem dgWrite_eq (x : (Int × (Int × ((List UInt8) × (Int × (Int × Unit)))))) : fnTr Tryd.prog cod gm5 [] 30 18 dgWrite_ap dgWrite_rp x = dgWrite_tree x := by kernel_rfl
def dgWrite_fn (x : (Int × (Int × ((List UInt8) × (Int × (Int × Unit)))))) : Option ((List UInt8) × (Int × Unit)) := (dgWrite_tree x).eval
def dgWrite : FS Tryd.prog := ⟨18, dgWrite_ap, dgWrite_rp, dgWrite_fn, fun x r h => fnTr_sound (cod := cod) (Γ := gm5) (Λs := []) (n := 30) ((congrArg Tr.eval (dgWrite_eq x)).trans h)⟩
def dgRead_ap : List VP1 := [.one (.s), .one (.i .u32), .one (.i .u32)]
def dgRead_rp : SP := ⟨1, [(0, .tup [.agg [.i .i64, .i .i64, .s], .one (.i .i64)])], []⟩
def dgRead_tree : ((List UInt8) × (Int × (Int × Unit))) -> Tr (Int × (Int × ((List UInt8) × (Int × Unit)))) :=
 fun (a0, a1, a2, _) =>
 .ite (decide ((↑(List.length a0) : Int) < (8 : Int))) (
 .ret ((0 : Int), ((0 : Int), ([], ((3 : Int), ()))))) (
 .opt ((dgWordAt_fn (a0, ((4 : Int), ())))) (fun r0 =>
 .ite (decide ((↑(List.length a0) : Int) < r0.1)) (
 .ret ((0 : Int), ((0 : Int), ([], ((3 : Int), ()))))) (
 .ite (decide (r0.1 < (8 : Int))) (
 .ret ((0 : Int), ((0 : Int), ([], ((4 : Int), ()))))) (
 .ite (decide ((65515 : Int) < r0.1)) (
 .ret ((0 : Int), ((0 : Int), ([], ((4 : Int), ()))))) (
 .opt ((dgWordAt_fn (a0, ((6 : Int), ())))) (fun r1 =>
 .ite (!decide (r1.1 = (0 : Int))) (
 .opt ((dgUnder_fn (a1, (a2, ((17 : Int), (r0.1, ())))))) (fun r2 =>
 .grd (decide ((0 : Int) <= (0 : Int) /\ (0 : Int) <= r0.1 /\ r0.1 <= (↑(List.length a0) : Int))) (
 .grd (decide (List.length r2.1 + List.length (List.drop (0 : Nat) (List.take (Int.toNat r0.1) a0)) <= (9223372036854775807 : Nat))) (
 .opt ((sumRight_fn (r2.1 ++ List.drop (0 : Nat) (List.take (Int.toNat r0.1) a0), ()))) (fun r3 =>
 .ite (!r3.1) (
 .ret ((0 : Int), ((0 : Int), ([], ((5 : Int), ()))))) (
 .opt ((dgWordAt_fn (a0, ((0 : Int), ())))) (fun r4 =>
 .opt ((dgWordAt_fn (a0, ((2 : Int), ())))) (fun r5 =>
 .grd (decide ((0 : Int) <= (8 : Int) /\ (8 : Int) <= r0.1 /\ r0.1 <= (↑(List.length a0) : Int))) (
 .ret (r4.1, (r5.1, (List.drop (8 : Nat) (List.take (Int.toNat r0.1) a0), ((0 : Int), ()))))))))))))) (
 .opt ((dgWordAt_fn (a0, ((0 : Int), ())))) (fun r2 =>
 .opt ((dgWordAt_fn (a0, ((2 : Int), ())))) (fun r3 =>
 .grd (decide ((0 : Int) <= (8 : Int) /\ (8 : Int) <= r0.1 /\ r0.1 <= (↑(List.length a0) : Int))) (
 .ret (r2.1, (r3.1, (List.drop (8 : Nat) (List.take (Int.toNat r0.1) a0), ((0 : Int), ()))))))))))))))
noncomputable def gm6 : List (PF Go.Proofs.Tryd.prog) := [FS.pf sumFold, FS.pf sumAdd, FS.pf sumOf, FS.pf sumRight, FS.pf sumFix, FS.pf dgWord, FS.pf dgLong, FS.pf dgWordAt, FS.pf dgUnder, FS.pf dgPort, FS.pf dgWrite]
theorem dgRead_eq (x : ((List UInt8) × (Int × (Int × Unit)))) : fnTr Tryd.prog cod gm6 [] 30 26 dgRead_ap dgRead_rp x = dgRead_tree x := by kernel_rfl
def dgRead_fn (x : ((List UInt8) × (Int × (Int × Unit)))) : Option (Int × (Int × ((List UInt8) × (Int × Unit)))) := (dgRead_tree x).eval
def dgRead : FS Tryd.prog := ⟨26, dgRead_ap, dgRead_rp, dgRead_fn, fun x r h => fnTr_sound (cod := cod) (Γ := gm6) (Λs := []) (n := 30) ((congrArg Tr.eval (dgRead_eq x)).trans h)⟩
def ipWordAt_ap : List VP1 := [.one (.s), .one (.i .i64)]
def ipWordAt_rp : SP := ⟨1, [(0, .v (.one (.i .i64)))], []⟩
def ipWordAt_tree : ((List UInt8) × (Int × Unit)) -> Tr (Int × Unit) :=
 fun (a0, a1, _) =>
 .grd (decide ((0 : Int) <= a1 /\ a1 < (↑(List.length a0) : Int))) (
 .grd (true) (
 .grd (decide ((0 : Int) <= IntKind.wrap IntKind.i64 (a1 + (1 : Int)) /\ IntKind.wrap IntKind.i64 (a1 + (1 : Int)) < (↑(List.length a0) : Int))) (
 .ret (bits BinOp.or IntKind.i64 (IntKind.wrap IntKind.i64 (IntKind.wrap IntKind.i64 (↑(UInt8.toNat (List.getD a0 (Int.toNat a1) (0 : UInt8))) : Int) * (2 : Int) ^ (8 : Nat))) (IntKind.wrap IntKind.i64 (↑(UInt8.toNat (List.getD a0 (Int.toNat (IntKind.wrap IntKind.i64 (a1 + (1 : Int)))) (0 : UInt8))) : Int)), ()))))
noncomputable def gm7 : List (PF Go.Proofs.Tryd.prog) := [FS.pf sumFold, FS.pf sumAdd, FS.pf sumOf, FS.pf sumRight, FS.pf sumFix, FS.pf dgWord, FS.pf dgLong, FS.pf dgWordAt, FS.pf dgUnder, FS.pf dgPort, FS.pf dgWrite, FS.pf dgRead]
theorem ipWordAt_eq (x : ((List UInt8) × (Int × Unit))) : fnTr Tryd.prog cod gm7 [] 30 48 ipWordAt_ap ipWordAt_rp x = ipWordAt_tree x := by kernel_rfl
def ipWordAt_fn (x : ((List UInt8) × (Int × Unit))) : Option (Int × Unit) := (ipWordAt_tree x).eval
def ipWordAt : FS Tryd.prog := ⟨48, ipWordAt_ap, ipWordAt_rp, ipWordAt_fn, fun x r h => fnTr_sound (cod := cod) (Γ := gm7) (Λs := []) (n := 30) ((congrArg Tr.eval (ipWordAt_eq x)).trans h)⟩
def ipLongAt_ap : List VP1 := [.one (.s), .one (.i .i64)]
def ipLongAt_rp : SP := ⟨1, [(0, .v (.one (.i .u32)))], []⟩
def ipLongAt_tree : ((List UInt8) × (Int × Unit)) -> Tr (Int × Unit) :=
 fun (a0, a1, _) =>
 .opt ((ipWordAt_fn (a0, (a1, ())))) (fun r0 =>
 .grd (true) (
 .opt ((ipWordAt_fn (a0, (IntKind.wrap IntKind.i64 (a1 + (2 : Int)), ())))) (fun r1 =>
 .ret (bits BinOp.or IntKind.u32 (IntKind.wrap IntKind.u32 (IntKind.wrap IntKind.u32 r0.1 * (2 : Int) ^ (16 : Nat))) (IntKind.wrap IntKind.u32 r1.1), ()))))
noncomputable def gm8 : List (PF Go.Proofs.Tryd.prog) := [FS.pf sumFold, FS.pf sumAdd, FS.pf sumOf, FS.pf sumRight, FS.pf sumFix, FS.pf dgWord, FS.pf dgLong, FS.pf dgWordAt, FS.pf dgUnder, FS.pf dgPort, FS.pf dgWrite, FS.pf dgRead, FS.pf ipWordAt]
theorem ipLongAt_eq (x : ((List UInt8) × (Int × Unit))) : fnTr Tryd.prog cod gm8 [] 30 49 ipLongAt_ap ipLongAt_rp x = ipLongAt_tree x := by kernel_rfl
def ipLongAt_fn (x : ((List UInt8) × (Int × Unit))) : Option (Int × Unit) := (ipLongAt_tree x).eval
def ipLongAt : FS Tryd.prog := ⟨49, ipLongAt_ap, ipLongAt_rp, ipLongAt_fn, fun x r h => fnTr_sound (cod := cod) (Γ := gm8) (Λs := []) (n := 30) ((congrArg Tr.eval (ipLongAt_eq x)).trans h)⟩
def ipByt_ap : List VP1 := [.one (.i .i64)]
def ipByt_rp : SP := ⟨1, [(0, .v (.one (.b)))], []⟩
def ipByt_tree : (Int × Unit) -> Tr (Bool × Unit) :=
 fun (a0, _) =>
 .ite (decide ((0 : Int) <= a0)) (
 .ret (decide (a0 <= (255 : Int)), ())) (
 .ret (false, ()))
noncomputable def gm9 : List (PF Go.Proofs.Tryd.prog) := [FS.pf sumFold, FS.pf sumAdd, FS.pf sumOf, FS.pf sumRight, FS.pf sumFix, FS.pf dgWord, FS.pf dgLong, FS.pf dgWordAt, FS.pf dgUnder, FS.pf dgPort, FS.pf dgWrite, FS.pf dgRead, FS.pf ipWordAt, FS.pf ipLongAt]
theorem ipByt_eq (x : (Int × Unit)) : fnTr Tryd.prog cod gm9 [] 30 59 ipByt_ap ipByt_rp x = ipByt_tree x := by kernel_rfl
def ipByt_fn (x : (Int × Unit)) : Option (Bool × Unit) := (ipByt_tree x).eval
def ipByt : FS Tryd.prog := ⟨59, ipByt_ap, ipByt_rp, ipByt_fn, fun x r h => fnTr_sound (cod := cod) (Γ := gm9) (Λs := []) (n := 30) ((congrArg Tr.eval (ipByt_eq x)).trans h)⟩
def ipRefused_ap : List VP1 := [.agg [.i .i64, .i .i64, .b, .b, .i .i64, .i .i64, .i .i64, .i .u32, .i .u32, .s, .s]]
def ipRefused_rp : SP := ⟨1, [(0, .v (.one (.i .i64)))], []⟩
abbrev ty0_ : Type := (Int × (Int × (Bool × (Bool × (Int × (Int × (Int × (Int × (Int × ((List UInt8) × ((List UInt8) × Unit)))))))))))
def ipRefused_tree : ty0_ -> Tr (Int × Unit) :=
 fun (a0, a1, a2, a3, a4, a5, a6, a7, a8, a9, a10, _) =>
 .opt ((ipByt_fn (a0, ()))) (fun r0 =>
 .ite (!r0.1) (
 .ret ((1 : Int), ())) (
 .opt ((ipByt_fn (a5, ()))) (fun r1 =>
 .ite (!r1.1) (
 .ret ((1 : Int), ())) (
 .opt ((ipByt_fn (a6, ()))) (fun r2 =>
 .ite (!r2.1) (
 .ret ((1 : Int), ())) (
 .ite (decide (a1 < (0 : Int))) (
 .ret ((1 : Int), ())) (
 .ite (decide ((65535 : Int) < a1)) (
 .ret ((1 : Int), ())) (
 .ite (decide (a4 < (0 : Int))) (
 .ret ((1 : Int), ())) (
 .ite (decide ((8191 : Int) < a4)) (
 .ret ((1 : Int), ())) (
 .ite (decide ((40 : Int) < (↑(List.length a9) : Int))) (
 .ret ((1 : Int), ())) (
 .grd (true) (
 .ite (!decide (Int.tmod (↑(List.length a9) : Int) (4 : Int) = (0 : Int))) (
 .ret ((1 : Int), ())) (
 .ite (a2) (
 .ite (a3) (
 .ret ((4 : Int), ())) (
 .ite (!decide (a4 = (0 : Int))) (
 .ret ((4 : Int), ())) (
 .ite (decide (IntKind.wrap IntKind.i64 ((65515 : Int) - (↑(List.length a9) : Int)) < (↑(List.length a10) : Int))) (
 .ret ((2 : Int), ())) (
 .ret ((0 : Int), ()))))) (
 .ite (decide (IntKind.wrap IntKind.i64 ((65515 : Int) - (↑(List.length a9) : Int)) < (↑(List.length a10) : Int))) (
 .ret ((2 : Int), ())) (
 .ret ((0 : Int), ()))))))))))))))))
noncomputable def gm10 : List (PF Go.Proofs.Tryd.prog) := [FS.pf sumFold, FS.pf sumAdd, FS.pf sumOf, FS.pf sumRight, FS.pf sumFix, FS.pf dgWord, FS.pf dgLong, FS.pf dgWordAt, FS.pf dgUnder, FS.pf dgPort, FS.pf dgWrite, FS.pf dgRead, FS.pf ipWordAt, FS.pf ipLongAt, FS.pf ipByt]
theorem ipRefused_eq (x : ty0_) : fnTr Tryd.prog cod gm10 [] 30 34 ipRefused_ap ipRefused_rp x = ipRefused_tree x := by kernel_rfl
def ipRefused_fn (x : ty0_) : Option (Int × Unit) := (ipRefused_tree x).eval
def ipRefused : FS Tryd.prog := ⟨34, ipRefused_ap, ipRefused_rp, ipRefused_fn, fun x r h => fnTr_sound (cod := cod) (Γ := gm10) (Λs := []) (n := 30) ((congrArg Tr.eval (ipRefused_eq x)).trans h)⟩
def ipWord_ap : List VP1 := [.one (.i .i64)]
def ipWord_rp : SP := ⟨1, [(0, .v (.one (.s)))], []⟩
def ipWord_tree : (Int × Unit) -> Tr ((List UInt8) × Unit) :=
 fun (a0, _) =>
 .grd (true) (
 .grd (decide ((0 : Int) <= IntKind.wrap IntKind.u8 (Int.fdiv a0 ((2 : Int) ^ (8 : Nat))) /\ IntKind.wrap IntKind.u8 (Int.fdiv a0 ((2 : Int) ^ (8 : Nat))) < (256 : Int))) (
 .grd (decide ((0 : Int) <= IntKind.wrap IntKind.u8 a0 /\ IntKind.wrap IntKind.u8 a0 < (256 : Int))) (
 .ret ([UInt8.ofNat (Int.toNat (IntKind.wrap IntKind.u8 (Int.fdiv a0 ((2 : Int) ^ (8 : Nat))))), UInt8.ofNat (Int.toNat (IntKind.wrap IntKind.u8 a0))], ()))))
noncomputable def gm11 : List (PF Go.Proofs.Tryd.prog) := [FS.pf sumFold, FS.pf sumAdd, FS.pf sumOf, FS.pf sumRight, FS.pf sumFix, FS.pf dgWord, FS.pf dgLong, FS.pf dgWordAt, FS.pf dgUnder, FS.pf dgPort, FS.pf dgWrite, FS.pf dgRead, FS.pf ipWordAt, FS.pf ipLongAt, FS.pf ipByt, FS.pf ipRefused]
theorem ipWord_eq (x : (Int × Unit)) : fnTr Tryd.prog cod gm11 [] 30 35 ipWord_ap ipWord_rp x = ipWord_tree x := by kernel_rfl
def ipWord_fn (x : (Int × Unit)) : Option ((List UInt8) × Unit) := (ipWord_tree x).eval
def ipWord : FS Tryd.prog := ⟨35, ipWord_ap, ipWord_rp, ipWord_fn, fun x r h => fnTr_sound (cod := cod) (Γ := gm11) (Λs := []) (n := 30) ((congrArg Tr.eval (ipWord_eq x)).trans h)⟩
def ipLong_ap : List VP1 := [.one (.i .u32)]
def ipLong_rp : SP := ⟨1, [(0, .v (.one (.s)))], []⟩
def ipLong_tree : (Int × Unit) -> Tr ((List UInt8) × Unit) :=
 fun (a0, _) =>
 .grd (true) (
 .grd (true) (
 .grd (true) (
 .grd (decide ((0 : Int) <= IntKind.wrap IntKind.u8 (Int.fdiv a0 ((2 : Int) ^ (24 : Nat))) /\ IntKind.wrap IntKind.u8 (Int.fdiv a0 ((2 : Int) ^ (24 : Nat))) < (256 : Int))) (
 .grd (decide ((0 : Int) <= IntKind.wrap IntKind.u8 (Int.fdiv a0 ((2 : Int) ^ (16 : Nat))) /\ IntKind.wrap IntKind.u8 (Int.fdiv a0 ((2 : Int) ^ (16 : Nat))) < (256 : Int))) (
 .grd (decide ((0 : Int) <= IntKind.wrap IntKind.u8 (Int.fdiv a0 ((2 : Int) ^ (8 : Nat))) /\ IntKind.wrap IntKind.u8 (Int.fdiv a0 ((2 : Int) ^ (8 : Nat))) < (256 : Int))) (
 .grd (decide ((0 : Int) <= IntKind.wrap IntKind.u8 a0 /\ IntKind.wrap IntKind.u8 a0 < (256 : Int))) (
 .ret ([UInt8.ofNat (Int.toNat (IntKind.wrap IntKind.u8 (Int.fdiv a0 ((2 : Int) ^ (24 : Nat))))), UInt8.ofNat (Int.toNat (IntKind.wrap IntKind.u8 (Int.fdiv a0 ((2 : Int) ^ (16 : Nat))))), UInt8.ofNat (Int.toNat (IntKind.wrap IntKind.u8 (Int.fdiv a0 ((2 : Int) ^ (8 : Nat))))), UInt8.ofNat (Int.toNat (IntKind.wrap IntKind.u8 a0))], ()))))))))
noncomputable def gm12 : List (PF Go.Proofs.Tryd.prog) := [FS.pf sumFold, FS.pf sumAdd, FS.pf sumOf, FS.pf sumRight, FS.pf sumFix, FS.pf dgWord, FS.pf dgLong, FS.pf dgWordAt, FS.pf dgUnder, FS.pf dgPort, FS.pf dgWrite, FS.pf dgRead, FS.pf ipWordAt, FS.pf ipLongAt, FS.pf ipByt, FS.pf ipRefused, FS.pf ipWord]
theorem ipLong_eq (x : (Int × Unit)) : fnTr Tryd.prog cod gm12 [] 30 36 ipLong_ap ipLong_rp x = ipLong_tree x := by kernel_rfl
def ipLong_fn (x : (Int × Unit)) : Option ((List UInt8) × Unit) := (ipLong_tree x).eval
def ipLong : FS Tryd.prog := ⟨36, ipLong_ap, ipLong_rp, ipLong_fn, fun x r h => fnTr_sound (cod := cod) (Γ := gm12) (Λs := []) (n := 30) ((congrArg Tr.eval (ipLong_eq x)).trans h)⟩
def ipWrite_ap : List VP1 := [.agg [.i .i64, .i .i64, .b, .b, .i .i64, .i .i64, .i .i64, .i .u32, .i .u32, .s, .s]]
def ipWrite_rp : SP := ⟨1, [(0, .tup [.one (.s), .one (.i .i64)])], []⟩
def ipWrite_tree : ty0_ -> Tr ((List UInt8) × (Int × Unit)) :=
 fun (a0, a1, a2, a3, a4, a5, a6, a7, a8, a9, a10, _) =>
 .opt ((ipRefused_fn (a0, (a1, (a2, (a3, (a4, (a5, (a6, (a7, (a8, (a9, (a10, ()))))))))))))) (fun r0 =>
 .ite (!decide (r0.1 = (0 : Int))) (
 .ret ([], (r0.1, ()))) (
 .ite (a2) (
 .ite (a3) (
 .grd (true) (
 .grd (decide ((0 : Int) <= IntKind.wrap IntKind.u8 (bits BinOp.or IntKind.i64 (64 : Int) (IntKind.wrap IntKind.i64 (Int.tdiv (IntKind.wrap IntKind.i64 ((20 : Int) + (↑(List.length a9) : Int))) (4 : Int)))) /\ IntKind.wrap IntKind.u8 (bits BinOp.or IntKind.i64 (64 : Int) (IntKind.wrap IntKind.i64 (Int.tdiv (IntKind.wrap IntKind.i64 ((20 : Int) + (↑(List.length a9) : Int))) (4 : Int)))) < (256 : Int))) (
 .grd (decide ((0 : Int) <= IntKind.wrap IntKind.u8 a0 /\ IntKind.wrap IntKind.u8 a0 < (256 : Int))) (
 .opt ((ipWord_fn (IntKind.wrap IntKind.i64 (IntKind.wrap IntKind.i64 ((20 : Int) + (↑(List.length a9) : Int)) + (↑(List.length a10) : Int)), ()))) (fun r1 =>
 .grd (decide (List.length [UInt8.ofNat (Int.toNat (IntKind.wrap IntKind.u8 (bits BinOp.or IntKind.i64 (64 : Int) (IntKind.wrap IntKind.i64 (Int.tdiv (IntKind.wrap IntKind.i64 ((20 : Int) + (↑(List.length a9) : Int))) (4 : Int)))))), UInt8.ofNat (Int.toNat (IntKind.wrap IntKind.u8 a0))] + List.length r1.1 <= (9223372036854775807 : Nat))) (
 .opt ((ipWord_fn (a1, ()))) (fun r2 =>
 .grd (decide (List.length ([UInt8.ofNat (Int.toNat (IntKind.wrap IntKind.u8 (bits BinOp.or IntKind.i64 (64 : Int) (IntKind.wrap IntKind.i64 (Int.tdiv (IntKind.wrap IntKind.i64 ((20 : Int) + (↑(List.length a9) : Int))) (4 : Int)))))), UInt8.ofNat (Int.toNat (IntKind.wrap IntKind.u8 a0))] ++ r1.1) + List.length r2.1 <= (9223372036854775807 : Nat))) (
 .opt ((ipWord_fn (bits BinOp.or IntKind.i64 (bits BinOp.or IntKind.i64 a4 (16384 : Int)) (8192 : Int), ()))) (fun r3 =>
 .grd (decide (List.length ([UInt8.ofNat (Int.toNat (IntKind.wrap IntKind.u8 (bits BinOp.or IntKind.i64 (64 : Int) (IntKind.wrap IntKind.i64 (Int.tdiv (IntKind.wrap IntKind.i64 ((20 : Int) + (↑(List.length a9) : Int))) (4 : Int)))))), UInt8.ofNat (Int.toNat (IntKind.wrap IntKind.u8 a0))] ++ r1.1 ++ r2.1) + List.length r3.1 <= (9223372036854775807 : Nat))) (
 .grd (decide ((0 : Int) <= IntKind.wrap IntKind.u8 a5 /\ IntKind.wrap IntKind.u8 a5 < (256 : Int))) (
 .grd (decide ((0 : Int) <= IntKind.wrap IntKind.u8 a6 /\ IntKind.wrap IntKind.u8 a6 < (256 : Int))) (
 .grd (decide (List.length ([UInt8.ofNat (Int.toNat (IntKind.wrap IntKind.u8 (bits BinOp.or IntKind.i64 (64 : Int) (IntKind.wrap IntKind.i64 (Int.tdiv (IntKind.wrap IntKind.i64 ((20 : Int) + (↑(List.length a9) : Int))) (4 : Int)))))), UInt8.ofNat (Int.toNat (IntKind.wrap IntKind.u8 a0))] ++ r1.1 ++ r2.1 ++ r3.1) + List.length [UInt8.ofNat (Int.toNat (IntKind.wrap IntKind.u8 a5)), UInt8.ofNat (Int.toNat (IntKind.wrap IntKind.u8 a6))] <= (9223372036854775807 : Nat))) (
 .opt ((ipLong_fn (a7, ()))) (fun r4 =>
 .opt ((ipLong_fn (a8, ()))) (fun r5 =>
 .grd (decide (List.length r4.1 + List.length r5.1 <= (9223372036854775807 : Nat))) (
 .grd (decide (List.length (r4.1 ++ r5.1) + List.length a9 <= (9223372036854775807 : Nat))) (
 .grd (decide (List.length ([UInt8.ofNat (Int.toNat (IntKind.wrap IntKind.u8 (bits BinOp.or IntKind.i64 (64 : Int) (IntKind.wrap IntKind.i64 (Int.tdiv (IntKind.wrap IntKind.i64 ((20 : Int) + (↑(List.length a9) : Int))) (4 : Int)))))), UInt8.ofNat (Int.toNat (IntKind.wrap IntKind.u8 a0))] ++ r1.1 ++ r2.1 ++ r3.1 ++ [UInt8.ofNat (Int.toNat (IntKind.wrap IntKind.u8 a5)), UInt8.ofNat (Int.toNat (IntKind.wrap IntKind.u8 a6))]) + List.length (r4.1 ++ r5.1 ++ a9) <= (9223372036854775807 : Nat))) (
 .opt ((sumOf_fn ([UInt8.ofNat (Int.toNat (IntKind.wrap IntKind.u8 (bits BinOp.or IntKind.i64 (64 : Int) (IntKind.wrap IntKind.i64 (Int.tdiv (IntKind.wrap IntKind.i64 ((20 : Int) + (↑(List.length a9) : Int))) (4 : Int)))))), UInt8.ofNat (Int.toNat (IntKind.wrap IntKind.u8 a0))] ++ r1.1 ++ r2.1 ++ r3.1 ++ [UInt8.ofNat (Int.toNat (IntKind.wrap IntKind.u8 a5)), UInt8.ofNat (Int.toNat (IntKind.wrap IntKind.u8 a6))] ++ (r4.1 ++ r5.1 ++ a9), ()))) (fun r6 =>
 .opt ((ipWord_fn (IntKind.wrap IntKind.i64 r6.1, ()))) (fun r7 =>
 .grd (decide (List.length ([UInt8.ofNat (Int.toNat (IntKind.wrap IntKind.u8 (bits BinOp.or IntKind.i64 (64 : Int) (IntKind.wrap IntKind.i64 (Int.tdiv (IntKind.wrap IntKind.i64 ((20 : Int) + (↑(List.length a9) : Int))) (4 : Int)))))), UInt8.ofNat (Int.toNat (IntKind.wrap IntKind.u8 a0))] ++ r1.1 ++ r2.1 ++ r3.1 ++ [UInt8.ofNat (Int.toNat (IntKind.wrap IntKind.u8 a5)), UInt8.ofNat (Int.toNat (IntKind.wrap IntKind.u8 a6))]) + List.length r7.1 <= (9223372036854775807 : Nat))) (
 .grd (decide (List.length ([UInt8.ofNat (Int.toNat (IntKind.wrap IntKind.u8 (bits BinOp.or IntKind.i64 (64 : Int) (IntKind.wrap IntKind.i64 (Int.tdiv (IntKind.wrap IntKind.i64 ((20 : Int) + (↑(List.length a9) : Int))) (4 : Int)))))), UInt8.ofNat (Int.toNat (IntKind.wrap IntKind.u8 a0))] ++ r1.1 ++ r2.1 ++ r3.1 ++ [UInt8.ofNat (Int.toNat (IntKind.wrap IntKind.u8 a5)), UInt8.ofNat (Int.toNat (IntKind.wrap IntKind.u8 a6))] ++ r7.1) + List.length (r4.1 ++ r5.1 ++ a9) <= (9223372036854775807 : Nat))) (
 .grd (decide (List.length ([UInt8.ofNat (Int.toNat (IntKind.wrap IntKind.u8 (bits BinOp.or IntKind.i64 (64 : Int) (IntKind.wrap IntKind.i64 (Int.tdiv (IntKind.wrap IntKind.i64 ((20 : Int) + (↑(List.length a9) : Int))) (4 : Int)))))), UInt8.ofNat (Int.toNat (IntKind.wrap IntKind.u8 a0))] ++ r1.1 ++ r2.1 ++ r3.1 ++ [UInt8.ofNat (Int.toNat (IntKind.wrap IntKind.u8 a5)), UInt8.ofNat (Int.toNat (IntKind.wrap IntKind.u8 a6))] ++ r7.1 ++ (r4.1 ++ r5.1 ++ a9)) + List.length a10 <= (9223372036854775807 : Nat))) (
 .ret ([UInt8.ofNat (Int.toNat (IntKind.wrap IntKind.u8 (bits BinOp.or IntKind.i64 (64 : Int) (IntKind.wrap IntKind.i64 (Int.tdiv (IntKind.wrap IntKind.i64 ((20 : Int) + (↑(List.length a9) : Int))) (4 : Int)))))), UInt8.ofNat (Int.toNat (IntKind.wrap IntKind.u8 a0))] ++ r1.1 ++ r2.1 ++ r3.1 ++ [UInt8.ofNat (Int.toNat (IntKind.wrap IntKind.u8 a5)), UInt8.ofNat (Int.toNat (IntKind.wrap IntKind.u8 a6))] ++ r7.1 ++ (r4.1 ++ r5.1 ++ a9) ++ a10, ((0 : Int), ()))))))))))))))))))))))))) (
 .grd (true) (
 .grd (decide ((0 : Int) <= IntKind.wrap IntKind.u8 (bits BinOp.or IntKind.i64 (64 : Int) (IntKind.wrap IntKind.i64 (Int.tdiv (IntKind.wrap IntKind.i64 ((20 : Int) + (↑(List.length a9) : Int))) (4 : Int)))) /\ IntKind.wrap IntKind.u8 (bits BinOp.or IntKind.i64 (64 : Int) (IntKind.wrap IntKind.i64 (Int.tdiv (IntKind.wrap IntKind.i64 ((20 : Int) + (↑(List.length a9) : Int))) (4 : Int)))) < (256 : Int))) (
 .grd (decide ((0 : Int) <= IntKind.wrap IntKind.u8 a0 /\ IntKind.wrap IntKind.u8 a0 < (256 : Int))) (
 .opt ((ipWord_fn (IntKind.wrap IntKind.i64 (IntKind.wrap IntKind.i64 ((20 : Int) + (↑(List.length a9) : Int)) + (↑(List.length a10) : Int)), ()))) (fun r1 =>
 .grd (decide (List.length [UInt8.ofNat (Int.toNat (IntKind.wrap IntKind.u8 (bits BinOp.or IntKind.i64 (64 : Int) (IntKind.wrap IntKind.i64 (Int.tdiv (IntKind.wrap IntKind.i64 ((20 : Int) + (↑(List.length a9) : Int))) (4 : Int)))))), UInt8.ofNat (Int.toNat (IntKind.wrap IntKind.u8 a0))] + List.length r1.1 <= (9223372036854775807 : Nat))) (
 .opt ((ipWord_fn (a1, ()))) (fun r2 =>
 .grd (decide (List.length ([UInt8.ofNat (Int.toNat (IntKind.wrap IntKind.u8 (bits BinOp.or IntKind.i64 (64 : Int) (IntKind.wrap IntKind.i64 (Int.tdiv (IntKind.wrap IntKind.i64 ((20 : Int) + (↑(List.length a9) : Int))) (4 : Int)))))), UInt8.ofNat (Int.toNat (IntKind.wrap IntKind.u8 a0))] ++ r1.1) + List.length r2.1 <= (9223372036854775807 : Nat))) (
 .opt ((ipWord_fn (bits BinOp.or IntKind.i64 a4 (16384 : Int), ()))) (fun r3 =>
 .grd (decide (List.length ([UInt8.ofNat (Int.toNat (IntKind.wrap IntKind.u8 (bits BinOp.or IntKind.i64 (64 : Int) (IntKind.wrap IntKind.i64 (Int.tdiv (IntKind.wrap IntKind.i64 ((20 : Int) + (↑(List.length a9) : Int))) (4 : Int)))))), UInt8.ofNat (Int.toNat (IntKind.wrap IntKind.u8 a0))] ++ r1.1 ++ r2.1) + List.length r3.1 <= (9223372036854775807 : Nat))) (
 .grd (decide ((0 : Int) <= IntKind.wrap IntKind.u8 a5 /\ IntKind.wrap IntKind.u8 a5 < (256 : Int))) (
 .grd (decide ((0 : Int) <= IntKind.wrap IntKind.u8 a6 /\ IntKind.wrap IntKind.u8 a6 < (256 : Int))) (
 .grd (decide (List.length ([UInt8.ofNat (Int.toNat (IntKind.wrap IntKind.u8 (bits BinOp.or IntKind.i64 (64 : Int) (IntKind.wrap IntKind.i64 (Int.tdiv (IntKind.wrap IntKind.i64 ((20 : Int) + (↑(List.length a9) : Int))) (4 : Int)))))), UInt8.ofNat (Int.toNat (IntKind.wrap IntKind.u8 a0))] ++ r1.1 ++ r2.1 ++ r3.1) + List.length [UInt8.ofNat (Int.toNat (IntKind.wrap IntKind.u8 a5)), UInt8.ofNat (Int.toNat (IntKind.wrap IntKind.u8 a6))] <= (9223372036854775807 : Nat))) (
 .opt ((ipLong_fn (a7, ()))) (fun r4 =>
 .opt ((ipLong_fn (a8, ()))) (fun r5 =>
 .grd (decide (List.length r4.1 + List.length r5.1 <= (9223372036854775807 : Nat))) (
 .grd (decide (List.length (r4.1 ++ r5.1) + List.length a9 <= (9223372036854775807 : Nat))) (
 .grd (decide (List.length ([UInt8.ofNat (Int.toNat (IntKind.wrap IntKind.u8 (bits BinOp.or IntKind.i64 (64 : Int) (IntKind.wrap IntKind.i64 (Int.tdiv (IntKind.wrap IntKind.i64 ((20 : Int) + (↑(List.length a9) : Int))) (4 : Int)))))), UInt8.ofNat (Int.toNat (IntKind.wrap IntKind.u8 a0))] ++ r1.1 ++ r2.1 ++ r3.1 ++ [UInt8.ofNat (Int.toNat (IntKind.wrap IntKind.u8 a5)), UInt8.ofNat (Int.toNat (IntKind.wrap IntKind.u8 a6))]) + List.length (r4.1 ++ r5.1 ++ a9) <= (9223372036854775807 : Nat))) (
 .opt ((sumOf_fn ([UInt8.ofNat (Int.toNat (IntKind.wrap IntKind.u8 (bits BinOp.or IntKind.i64 (64 : Int) (IntKind.wrap IntKind.i64 (Int.tdiv (IntKind.wrap IntKind.i64 ((20 : Int) + (↑(List.length a9) : Int))) (4 : Int)))))), UInt8.ofNat (Int.toNat (IntKind.wrap IntKind.u8 a0))] ++ r1.1 ++ r2.1 ++ r3.1 ++ [UInt8.ofNat (Int.toNat (IntKind.wrap IntKind.u8 a5)), UInt8.ofNat (Int.toNat (IntKind.wrap IntKind.u8 a6))] ++ (r4.1 ++ r5.1 ++ a9), ()))) (fun r6 =>
 .opt ((ipWord_fn (IntKind.wrap IntKind.i64 r6.1, ()))) (fun r7 =>
 .grd (decide (List.length ([UInt8.ofNat (Int.toNat (IntKind.wrap IntKind.u8 (bits BinOp.or IntKind.i64 (64 : Int) (IntKind.wrap IntKind.i64 (Int.tdiv (IntKind.wrap IntKind.i64 ((20 : Int) + (↑(List.length a9) : Int))) (4 : Int)))))), UInt8.ofNat (Int.toNat (IntKind.wrap IntKind.u8 a0))] ++ r1.1 ++ r2.1 ++ r3.1 ++ [UInt8.ofNat (Int.toNat (IntKind.wrap IntKind.u8 a5)), UInt8.ofNat (Int.toNat (IntKind.wrap IntKind.u8 a6))]) + List.length r7.1 <= (9223372036854775807 : Nat))) (
 .grd (decide (List.length ([UInt8.ofNat (Int.toNat (IntKind.wrap IntKind.u8 (bits BinOp.or IntKind.i64 (64 : Int) (IntKind.wrap IntKind.i64 (Int.tdiv (IntKind.wrap IntKind.i64 ((20 : Int) + (↑(List.length a9) : Int))) (4 : Int)))))), UInt8.ofNat (Int.toNat (IntKind.wrap IntKind.u8 a0))] ++ r1.1 ++ r2.1 ++ r3.1 ++ [UInt8.ofNat (Int.toNat (IntKind.wrap IntKind.u8 a5)), UInt8.ofNat (Int.toNat (IntKind.wrap IntKind.u8 a6))] ++ r7.1) + List.length (r4.1 ++ r5.1 ++ a9) <= (9223372036854775807 : Nat))) (
 .grd (decide (List.length ([UInt8.ofNat (Int.toNat (IntKind.wrap IntKind.u8 (bits BinOp.or IntKind.i64 (64 : Int) (IntKind.wrap IntKind.i64 (Int.tdiv (IntKind.wrap IntKind.i64 ((20 : Int) + (↑(List.length a9) : Int))) (4 : Int)))))), UInt8.ofNat (Int.toNat (IntKind.wrap IntKind.u8 a0))] ++ r1.1 ++ r2.1 ++ r3.1 ++ [UInt8.ofNat (Int.toNat (IntKind.wrap IntKind.u8 a5)), UInt8.ofNat (Int.toNat (IntKind.wrap IntKind.u8 a6))] ++ r7.1 ++ (r4.1 ++ r5.1 ++ a9)) + List.length a10 <= (9223372036854775807 : Nat))) (
 .ret ([UInt8.ofNat (Int.toNat (IntKind.wrap IntKind.u8 (bits BinOp.or IntKind.i64 (64 : Int) (IntKind.wrap IntKind.i64 (Int.tdiv (IntKind.wrap IntKind.i64 ((20 : Int) + (↑(List.length a9) : Int))) (4 : Int)))))), UInt8.ofNat (Int.toNat (IntKind.wrap IntKind.u8 a0))] ++ r1.1 ++ r2.1 ++ r3.1 ++ [UInt8.ofNat (Int.toNat (IntKind.wrap IntKind.u8 a5)), UInt8.ofNat (Int.toNat (IntKind.wrap IntKind.u8 a6))] ++ r7.1 ++ (r4.1 ++ r5.1 ++ a9) ++ a10, ((0 : Int), ())))))))))))))))))))))))))) (
 .ite (a3) (
 .grd (true) (
 .grd (decide ((0 : Int) <= IntKind.wrap IntKind.u8 (bits BinOp.or IntKind.i64 (64 : Int) (IntKind.wrap IntKind.i64 (Int.tdiv (IntKind.wrap IntKind.i64 ((20 : Int) + (↑(List.length a9) : Int))) (4 : Int)))) /\ IntKind.wrap IntKind.u8 (bits BinOp.or IntKind.i64 (64 : Int) (IntKind.wrap IntKind.i64 (Int.tdiv (IntKind.wrap IntKind.i64 ((20 : Int) + (↑(List.length a9) : Int))) (4 : Int)))) < (256 : Int))) (
 .grd (decide ((0 : Int) <= IntKind.wrap IntKind.u8 a0 /\ IntKind.wrap IntKind.u8 a0 < (256 : Int))) (
 .opt ((ipWord_fn (IntKind.wrap IntKind.i64 (IntKind.wrap IntKind.i64 ((20 : Int) + (↑(List.length a9) : Int)) + (↑(List.length a10) : Int)), ()))) (fun r1 =>
 .grd (decide (List.length [UInt8.ofNat (Int.toNat (IntKind.wrap IntKind.u8 (bits BinOp.or IntKind.i64 (64 : Int) (IntKind.wrap IntKind.i64 (Int.tdiv (IntKind.wrap IntKind.i64 ((20 : Int) + (↑(List.length a9) : Int))) (4 : Int)))))), UInt8.ofNat (Int.toNat (IntKind.wrap IntKind.u8 a0))] + List.length r1.1 <= (9223372036854775807 : Nat))) (
 .opt ((ipWord_fn (a1, ()))) (fun r2 =>
 .grd (decide (List.length ([UInt8.ofNat (Int.toNat (IntKind.wrap IntKind.u8 (bits BinOp.or IntKind.i64 (64 : Int) (IntKind.wrap IntKind.i64 (Int.tdiv (IntKind.wrap IntKind.i64 ((20 : Int) + (↑(List.length a9) : Int))) (4 : Int)))))), UInt8.ofNat (Int.toNat (IntKind.wrap IntKind.u8 a0))] ++ r1.1) + List.length r2.1 <= (9223372036854775807 : Nat))) (
 .opt ((ipWord_fn (bits BinOp.or IntKind.i64 a4 (8192 : Int), ()))) (fun r3 =>
 .grd (decide (List.length ([UInt8.ofNat (Int.toNat (IntKind.wrap IntKind.u8 (bits BinOp.or IntKind.i64 (64 : Int) (IntKind.wrap IntKind.i64 (Int.tdiv (IntKind.wrap IntKind.i64 ((20 : Int) + (↑(List.length a9) : Int))) (4 : Int)))))), UInt8.ofNat (Int.toNat (IntKind.wrap IntKind.u8 a0))] ++ r1.1 ++ r2.1) + List.length r3.1 <= (9223372036854775807 : Nat))) (
 .grd (decide ((0 : Int) <= IntKind.wrap IntKind.u8 a5 /\ IntKind.wrap IntKind.u8 a5 < (256 : Int))) (
 .grd (decide ((0 : Int) <= IntKind.wrap IntKind.u8 a6 /\ IntKind.wrap IntKind.u8 a6 < (256 : Int))) (
 .grd (decide (List.length ([UInt8.ofNat (Int.toNat (IntKind.wrap IntKind.u8 (bits BinOp.or IntKind.i64 (64 : Int) (IntKind.wrap IntKind.i64 (Int.tdiv (IntKind.wrap IntKind.i64 ((20 : Int) + (↑(List.length a9) : Int))) (4 : Int)))))), UInt8.ofNat (Int.toNat (IntKind.wrap IntKind.u8 a0))] ++ r1.1 ++ r2.1 ++ r3.1) + List.length [UInt8.ofNat (Int.toNat (IntKind.wrap IntKind.u8 a5)), UInt8.ofNat (Int.toNat (IntKind.wrap IntKind.u8 a6))] <= (9223372036854775807 : Nat))) (
 .opt ((ipLong_fn (a7, ()))) (fun r4 =>
 .opt ((ipLong_fn (a8, ()))) (fun r5 =>
 .grd (decide (List.length r4.1 + List.length r5.1 <= (9223372036854775807 : Nat))) (
 .grd (decide (List.length (r4.1 ++ r5.1) + List.length a9 <= (9223372036854775807 : Nat))) (
 .grd (decide (List.length ([UInt8.ofNat (Int.toNat (IntKind.wrap IntKind.u8 (bits BinOp.or IntKind.i64 (64 : Int) (IntKind.wrap IntKind.i64 (Int.tdiv (IntKind.wrap IntKind.i64 ((20 : Int) + (↑(List.length a9) : Int))) (4 : Int)))))), UInt8.ofNat (Int.toNat (IntKind.wrap IntKind.u8 a0))] ++ r1.1 ++ r2.1 ++ r3.1 ++ [UInt8.ofNat (Int.toNat (IntKind.wrap IntKind.u8 a5)), UInt8.ofNat (Int.toNat (IntKind.wrap IntKind.u8 a6))]) + List.length (r4.1 ++ r5.1 ++ a9) <= (9223372036854775807 : Nat))) (
 .opt ((sumOf_fn ([UInt8.ofNat (Int.toNat (IntKind.wrap IntKind.u8 (bits BinOp.or IntKind.i64 (64 : Int) (IntKind.wrap IntKind.i64 (Int.tdiv (IntKind.wrap IntKind.i64 ((20 : Int) + (↑(List.length a9) : Int))) (4 : Int)))))), UInt8.ofNat (Int.toNat (IntKind.wrap IntKind.u8 a0))] ++ r1.1 ++ r2.1 ++ r3.1 ++ [UInt8.ofNat (Int.toNat (IntKind.wrap IntKind.u8 a5)), UInt8.ofNat (Int.toNat (IntKind.wrap IntKind.u8 a6))] ++ (r4.1 ++ r5.1 ++ a9), ()))) (fun r6 =>
 .opt ((ipWord_fn (IntKind.wrap IntKind.i64 r6.1, ()))) (fun r7 =>
 .grd (decide (List.length ([UInt8.ofNat (Int.toNat (IntKind.wrap IntKind.u8 (bits BinOp.or IntKind.i64 (64 : Int) (IntKind.wrap IntKind.i64 (Int.tdiv (IntKind.wrap IntKind.i64 ((20 : Int) + (↑(List.length a9) : Int))) (4 : Int)))))), UInt8.ofNat (Int.toNat (IntKind.wrap IntKind.u8 a0))] ++ r1.1 ++ r2.1 ++ r3.1 ++ [UInt8.ofNat (Int.toNat (IntKind.wrap IntKind.u8 a5)), UInt8.ofNat (Int.toNat (IntKind.wrap IntKind.u8 a6))]) + List.length r7.1 <= (9223372036854775807 : Nat))) (
 .grd (decide (List.length ([UInt8.ofNat (Int.toNat (IntKind.wrap IntKind.u8 (bits BinOp.or IntKind.i64 (64 : Int) (IntKind.wrap IntKind.i64 (Int.tdiv (IntKind.wrap IntKind.i64 ((20 : Int) + (↑(List.length a9) : Int))) (4 : Int)))))), UInt8.ofNat (Int.toNat (IntKind.wrap IntKind.u8 a0))] ++ r1.1 ++ r2.1 ++ r3.1 ++ [UInt8.ofNat (Int.toNat (IntKind.wrap IntKind.u8 a5)), UInt8.ofNat (Int.toNat (IntKind.wrap IntKind.u8 a6))] ++ r7.1) + List.length (r4.1 ++ r5.1 ++ a9) <= (9223372036854775807 : Nat))) (
 .grd (decide (List.length ([UInt8.ofNat (Int.toNat (IntKind.wrap IntKind.u8 (bits BinOp.or IntKind.i64 (64 : Int) (IntKind.wrap IntKind.i64 (Int.tdiv (IntKind.wrap IntKind.i64 ((20 : Int) + (↑(List.length a9) : Int))) (4 : Int)))))), UInt8.ofNat (Int.toNat (IntKind.wrap IntKind.u8 a0))] ++ r1.1 ++ r2.1 ++ r3.1 ++ [UInt8.ofNat (Int.toNat (IntKind.wrap IntKind.u8 a5)), UInt8.ofNat (Int.toNat (IntKind.wrap IntKind.u8 a6))] ++ r7.1 ++ (r4.1 ++ r5.1 ++ a9)) + List.length a10 <= (9223372036854775807 : Nat))) (
 .ret ([UInt8.ofNat (Int.toNat (IntKind.wrap IntKind.u8 (bits BinOp.or IntKind.i64 (64 : Int) (IntKind.wrap IntKind.i64 (Int.tdiv (IntKind.wrap IntKind.i64 ((20 : Int) + (↑(List.length a9) : Int))) (4 : Int)))))), UInt8.ofNat (Int.toNat (IntKind.wrap IntKind.u8 a0))] ++ r1.1 ++ r2.1 ++ r3.1 ++ [UInt8.ofNat (Int.toNat (IntKind.wrap IntKind.u8 a5)), UInt8.ofNat (Int.toNat (IntKind.wrap IntKind.u8 a6))] ++ r7.1 ++ (r4.1 ++ r5.1 ++ a9) ++ a10, ((0 : Int), ()))))))))))))))))))))))))) (
 .grd (true) (
 .grd (decide ((0 : Int) <= IntKind.wrap IntKind.u8 (bits BinOp.or IntKind.i64 (64 : Int) (IntKind.wrap IntKind.i64 (Int.tdiv (IntKind.wrap IntKind.i64 ((20 : Int) + (↑(List.length a9) : Int))) (4 : Int)))) /\ IntKind.wrap IntKind.u8 (bits BinOp.or IntKind.i64 (64 : Int) (IntKind.wrap IntKind.i64 (Int.tdiv (IntKind.wrap IntKind.i64 ((20 : Int) + (↑(List.length a9) : Int))) (4 : Int)))) < (256 : Int))) (
 .grd (decide ((0 : Int) <= IntKind.wrap IntKind.u8 a0 /\ IntKind.wrap IntKind.u8 a0 < (256 : Int))) (
 .opt ((ipWord_fn (IntKind.wrap IntKind.i64 (IntKind.wrap IntKind.i64 ((20 : Int) + (↑(List.length a9) : Int)) + (↑(List.length a10) : Int)), ()))) (fun r1 =>
 .grd (decide (List.length [UInt8.ofNat (Int.toNat (IntKind.wrap IntKind.u8 (bits BinOp.or IntKind.i64 (64 : Int) (IntKind.wrap IntKind.i64 (Int.tdiv (IntKind.wrap IntKind.i64 ((20 : Int) + (↑(List.length a9) : Int))) (4 : Int)))))), UInt8.ofNat (Int.toNat (IntKind.wrap IntKind.u8 a0))] + List.length r1.1 <= (9223372036854775807 : Nat))) (
 .opt ((ipWord_fn (a1, ()))) (fun r2 =>
 .grd (decide (List.length ([UInt8.ofNat (Int.toNat (IntKind.wrap IntKind.u8 (bits BinOp.or IntKind.i64 (64 : Int) (IntKind.wrap IntKind.i64 (Int.tdiv (IntKind.wrap IntKind.i64 ((20 : Int) + (↑(List.length a9) : Int))) (4 : Int)))))), UInt8.ofNat (Int.toNat (IntKind.wrap IntKind.u8 a0))] ++ r1.1) + List.length r2.1 <= (9223372036854775807 : Nat))) (
 .opt ((ipWord_fn (a4, ()))) (fun r3 =>
 .grd (decide (List.length ([UInt8.ofNat (Int.toNat (IntKind.wrap IntKind.u8 (bits BinOp.or IntKind.i64 (64 : Int) (IntKind.wrap IntKind.i64 (Int.tdiv (IntKind.wrap IntKind.i64 ((20 : Int) + (↑(List.length a9) : Int))) (4 : Int)))))), UInt8.ofNat (Int.toNat (IntKind.wrap IntKind.u8 a0))] ++ r1.1 ++ r2.1) + List.length r3.1 <= (9223372036854775807 : Nat))) (
 .grd (decide ((0 : Int) <= IntKind.wrap IntKind.u8 a5 /\ IntKind.wrap IntKind.u8 a5 < (256 : Int))) (
 .grd (decide ((0 : Int) <= IntKind.wrap IntKind.u8 a6 /\ IntKind.wrap IntKind.u8 a6 < (256 : Int))) (
 .grd (decide (List.length ([UInt8.ofNat (Int.toNat (IntKind.wrap IntKind.u8 (bits BinOp.or IntKind.i64 (64 : Int) (IntKind.wrap IntKind.i64 (Int.tdiv (IntKind.wrap IntKind.i64 ((20 : Int) + (↑(List.length a9) : Int))) (4 : Int)))))), UInt8.ofNat (Int.toNat (IntKind.wrap IntKind.u8 a0))] ++ r1.1 ++ r2.1 ++ r3.1) + List.length [UInt8.ofNat (Int.toNat (IntKind.wrap IntKind.u8 a5)), UInt8.ofNat (Int.toNat (IntKind.wrap IntKind.u8 a6))] <= (9223372036854775807 : Nat))) (
 .opt ((ipLong_fn (a7, ()))) (fun r4 =>
 .opt ((ipLong_fn (a8, ()))) (fun r5 =>
 .grd (decide (List.length r4.1 + List.length r5.1 <= (9223372036854775807 : Nat))) (
 .grd (decide (List.length (r4.1 ++ r5.1) + List.length a9 <= (9223372036854775807 : Nat))) (
 .grd (decide (List.length ([UInt8.ofNat (Int.toNat (IntKind.wrap IntKind.u8 (bits BinOp.or IntKind.i64 (64 : Int) (IntKind.wrap IntKind.i64 (Int.tdiv (IntKind.wrap IntKind.i64 ((20 : Int) + (↑(List.length a9) : Int))) (4 : Int)))))), UInt8.ofNat (Int.toNat (IntKind.wrap IntKind.u8 a0))] ++ r1.1 ++ r2.1 ++ r3.1 ++ [UInt8.ofNat (Int.toNat (IntKind.wrap IntKind.u8 a5)), UInt8.ofNat (Int.toNat (IntKind.wrap IntKind.u8 a6))]) + List.length (r4.1 ++ r5.1 ++ a9) <= (9223372036854775807 : Nat))) (
 .opt ((sumOf_fn ([UInt8.ofNat (Int.toNat (IntKind.wrap IntKind.u8 (bits BinOp.or IntKind.i64 (64 : Int) (IntKind.wrap IntKind.i64 (Int.tdiv (IntKind.wrap IntKind.i64 ((20 : Int) + (↑(List.length a9) : Int))) (4 : Int)))))), UInt8.ofNat (Int.toNat (IntKind.wrap IntKind.u8 a0))] ++ r1.1 ++ r2.1 ++ r3.1 ++ [UInt8.ofNat (Int.toNat (IntKind.wrap IntKind.u8 a5)), UInt8.ofNat (Int.toNat (IntKind.wrap IntKind.u8 a6))] ++ (r4.1 ++ r5.1 ++ a9), ()))) (fun r6 =>
 .opt ((ipWord_fn (IntKind.wrap IntKind.i64 r6.1, ()))) (fun r7 =>
 .grd (decide (List.length ([UInt8.ofNat (Int.toNat (IntKind.wrap IntKind.u8 (bits BinOp.or IntKind.i64 (64 : Int) (IntKind.wrap IntKind.i64 (Int.tdiv (IntKind.wrap IntKind.i64 ((20 : Int) + (↑(List.length a9) : Int))) (4 : Int)))))), UInt8.ofNat (Int.toNat (IntKind.wrap IntKind.u8 a0))] ++ r1.1 ++ r2.1 ++ r3.1 ++ [UInt8.ofNat (Int.toNat (IntKind.wrap IntKind.u8 a5)), UInt8.ofNat (Int.toNat (IntKind.wrap IntKind.u8 a6))]) + List.length r7.1 <= (9223372036854775807 : Nat))) (
 .grd (decide (List.length ([UInt8.ofNat (Int.toNat (IntKind.wrap IntKind.u8 (bits BinOp.or IntKind.i64 (64 : Int) (IntKind.wrap IntKind.i64 (Int.tdiv (IntKind.wrap IntKind.i64 ((20 : Int) + (↑(List.length a9) : Int))) (4 : Int)))))), UInt8.ofNat (Int.toNat (IntKind.wrap IntKind.u8 a0))] ++ r1.1 ++ r2.1 ++ r3.1 ++ [UInt8.ofNat (Int.toNat (IntKind.wrap IntKind.u8 a5)), UInt8.ofNat (Int.toNat (IntKind.wrap IntKind.u8 a6))] ++ r7.1) + List.length (r4.1 ++ r5.1 ++ a9) <= (9223372036854775807 : Nat))) (
 .grd (decide (List.length ([UInt8.ofNat (Int.toNat (IntKind.wrap IntKind.u8 (bits BinOp.or IntKind.i64 (64 : Int) (IntKind.wrap IntKind.i64 (Int.tdiv (IntKind.wrap IntKind.i64 ((20 : Int) + (↑(List.length a9) : Int))) (4 : Int)))))), UInt8.ofNat (Int.toNat (IntKind.wrap IntKind.u8 a0))] ++ r1.1 ++ r2.1 ++ r3.1 ++ [UInt8.ofNat (Int.toNat (IntKind.wrap IntKind.u8 a5)), UInt8.ofNat (Int.toNat (IntKind.wrap IntKind.u8 a6))] ++ r7.1 ++ (r4.1 ++ r5.1 ++ a9)) + List.length a10 <= (9223372036854775807 : Nat))) (
 .ret ([UInt8.ofNat (Int.toNat (IntKind.wrap IntKind.u8 (bits BinOp.or IntKind.i64 (64 : Int) (IntKind.wrap IntKind.i64 (Int.tdiv (IntKind.wrap IntKind.i64 ((20 : Int) + (↑(List.length a9) : Int))) (4 : Int)))))), UInt8.ofNat (Int.toNat (IntKind.wrap IntKind.u8 a0))] ++ r1.1 ++ r2.1 ++ r3.1 ++ [UInt8.ofNat (Int.toNat (IntKind.wrap IntKind.u8 a5)), UInt8.ofNat (Int.toNat (IntKind.wrap IntKind.u8 a6))] ++ r7.1 ++ (r4.1 ++ r5.1 ++ a9) ++ a10, ((0 : Int), ()))))))))))))))))))))))))))))
noncomputable def gm13 : List (PF Go.Proofs.Tryd.prog) := [FS.pf sumFold, FS.pf sumAdd, FS.pf sumOf, FS.pf sumRight, FS.pf sumFix, FS.pf dgWord, FS.pf dgLong, FS.pf dgWordAt, FS.pf dgUnder, FS.pf dgPort, FS.pf dgWrite, FS.pf dgRead, FS.pf ipWordAt, FS.pf ipLongAt, FS.pf ipByt, FS.pf ipRefused, FS.pf ipWord, FS.pf ipLong]
theorem ipWrite_eq (x : ty0_) : fnTr Tryd.prog cod gm13 [] 30 19 ipWrite_ap ipWrite_rp x = ipWrite_tree x := by kernel_rfl
def ipWrite_fn (x : ty0_) : Option ((List UInt8) × (Int × Unit)) := (ipWrite_tree x).eval
def ipWrite : FS Tryd.prog := ⟨19, ipWrite_ap, ipWrite_rp, ipWrite_fn, fun x r h => fnTr_sound (cod := cod) (Γ := gm13) (Λs := []) (n := 30) ((congrArg Tr.eval (ipWrite_eq x)).trans h)⟩
def ipRead_ap : List VP1 := [.one (.s)]
def ipRead_rp : SP := ⟨1, [(0, .tup [.agg [.i .i64, .i .i64, .b, .b, .i .i64, .i .i64, .i .i64, .i .u32, .i .u32, .s, .s], .one (.i .i64)])], []⟩
abbrev ty1_ : Type := (Int × (Int × (Bool × (Bool × (Int × (Int × (Int × (Int × (Int × ((List UInt8) × ((List UInt8) × (Int × Unit))))))))))))
def ipRead_tree : ((List UInt8) × Unit) -> Tr ty1_ :=
 fun (a0, _) =>
 .ite (decide ((↑(List.length a0) : Int) < (20 : Int))) (
 .ret ((0 : Int), ((0 : Int), (false, (false, ((0 : Int), ((0 : Int), ((0 : Int), ((0 : Int), ((0 : Int), ([], ([], ((3 : Int), ()))))))))))))) (
 .grd (decide ((0 : Int) <= (0 : Int) /\ (0 : Int) < (↑(List.length a0) : Int))) (
 .opt ((ipWordAt_fn (a0, ((2 : Int), ())))) (fun r0 =>
 .ite (decide ((↑(List.length a0) : Int) < IntKind.wrap IntKind.i64 (IntKind.wrap IntKind.i64 (bits BinOp.and IntKind.u8 (↑(UInt8.toNat (List.getD a0 (0 : Nat) (0 : UInt8))) : Int) (15 : Int)) * (4 : Int)))) (
 .ret ((0 : Int), ((0 : Int), (false, (false, ((0 : Int), ((0 : Int), ((0 : Int), ((0 : Int), ((0 : Int), ([], ([], ((3 : Int), ()))))))))))))) (
 .ite (decide ((↑(List.length a0) : Int) < r0.1)) (
 .ret ((0 : Int), ((0 : Int), (false, (false, ((0 : Int), ((0 : Int), ((0 : Int), ((0 : Int), ((0 : Int), ([], ([], ((3 : Int), ()))))))))))))) (
 .opt ((ipWordAt_fn (a0, ((6 : Int), ())))) (fun r1 =>
 .grd (decide ((0 : Int) <= (0 : Int) /\ (0 : Int) < (↑(List.length a0) : Int))) (
 .grd (true) (
 .ite (!decide (Int.fdiv (↑(UInt8.toNat (List.getD a0 (0 : Nat) (0 : UInt8))) : Int) ((2 : Int) ^ (4 : Nat)) = (4 : Int))) (
 .ret ((0 : Int), ((0 : Int), (false, (false, ((0 : Int), ((0 : Int), ((0 : Int), ((0 : Int), ((0 : Int), ([], ([], ((4 : Int), ()))))))))))))) (
 .ite (decide (IntKind.wrap IntKind.i64 (IntKind.wrap IntKind.i64 (bits BinOp.and IntKind.u8 (↑(UInt8.toNat (List.getD a0 (0 : Nat) (0 : UInt8))) : Int) (15 : Int)) * (4 : Int)) < (20 : Int))) (
 .ret ((0 : Int), ((0 : Int), (false, (false, ((0 : Int), ((0 : Int), ((0 : Int), ((0 : Int), ((0 : Int), ([], ([], ((4 : Int), ()))))))))))))) (
 .ite (decide (r0.1 < IntKind.wrap IntKind.i64 (IntKind.wrap IntKind.i64 (bits BinOp.and IntKind.u8 (↑(UInt8.toNat (List.getD a0 (0 : Nat) (0 : UInt8))) : Int) (15 : Int)) * (4 : Int)))) (
 .ret ((0 : Int), ((0 : Int), (false, (false, ((0 : Int), ((0 : Int), ((0 : Int), ((0 : Int), ((0 : Int), ([], ([], ((4 : Int), ()))))))))))))) (
 .grd (true) (
 .ite (decide (Int.fdiv r1.1 ((2 : Int) ^ (15 : Nat)) = (1 : Int))) (
 .ret ((0 : Int), ((0 : Int), (false, (false, ((0 : Int), ((0 : Int), ((0 : Int), ((0 : Int), ((0 : Int), ([], ([], ((4 : Int), ()))))))))))))) (
 .grd (decide ((0 : Int) <= (1 : Int) /\ (1 : Int) < (↑(List.length a0) : Int))) (
 .opt ((ipWordAt_fn (a0, ((4 : Int), ())))) (fun r2 =>
 .grd (true) (
 .grd (true) (
 .grd (decide ((0 : Int) <= (8 : Int) /\ (8 : Int) < (↑(List.length a0) : Int))) (
 .grd (decide ((0 : Int) <= (9 : Int) /\ (9 : Int) < (↑(List.length a0) : Int))) (
 .opt ((ipLongAt_fn (a0, ((12 : Int), ())))) (fun r3 =>
 .opt ((ipLongAt_fn (a0, ((16 : Int), ())))) (fun r4 =>
 .grd (decide ((0 : Int) <= (20 : Int) /\ (20 : Int) <= IntKind.wrap IntKind.i64 (IntKind.wrap IntKind.i64 (bits BinOp.and IntKind.u8 (↑(UInt8.toNat (List.getD a0 (0 : Nat) (0 : UInt8))) : Int) (15 : Int)) * (4 : Int)) /\ IntKind.wrap IntKind.i64 (IntKind.wrap IntKind.i64 (bits BinOp.and IntKind.u8 (↑(UInt8.toNat (List.getD a0 (0 : Nat) (0 : UInt8))) : Int) (15 : Int)) * (4 : Int)) <= (↑(List.length a0) : Int))) (
 .grd (decide ((0 : Int) <= IntKind.wrap IntKind.i64 (IntKind.wrap IntKind.i64 (bits BinOp.and IntKind.u8 (↑(UInt8.toNat (List.getD a0 (0 : Nat) (0 : UInt8))) : Int) (15 : Int)) * (4 : Int)) /\ IntKind.wrap IntKind.i64 (IntKind.wrap IntKind.i64 (bits BinOp.and IntKind.u8 (↑(UInt8.toNat (List.getD a0 (0 : Nat) (0 : UInt8))) : Int) (15 : Int)) * (4 : Int)) <= r0.1 /\ r0.1 <= (↑(List.length a0) : Int))) (
 .opt ((ipRefused_fn (IntKind.wrap IntKind.i64 (↑(UInt8.toNat (List.getD a0 (1 : Nat) (0 : UInt8))) : Int), (r2.1, (decide (bits BinOp.and IntKind.i64 (Int.fdiv r1.1 ((2 : Int) ^ (14 : Nat))) (1 : Int) = (1 : Int)), (decide (bits BinOp.and IntKind.i64 (Int.fdiv r1.1 ((2 : Int) ^ (13 : Nat))) (1 : Int) = (1 : Int)), (bits BinOp.and IntKind.i64 r1.1 (8191 : Int), (IntKind.wrap IntKind.i64 (↑(UInt8.toNat (List.getD a0 (8 : Nat) (0 : UInt8))) : Int), (IntKind.wrap IntKind.i64 (↑(UInt8.toNat (List.getD a0 (9 : Nat) (0 : UInt8))) : Int), (r3.1, (r4.1, (List.drop (20 : Nat) (List.take (Int.toNat (IntKind.wrap IntKind.i64 (IntKind.wrap IntKind.i64 (bits BinOp.and IntKind.u8 (↑(UInt8.toNat (List.getD a0 (0 : Nat) (0 : UInt8))) : Int) (15 : Int)) * (4 : Int)))) a0), (List.drop (Int.toNat (IntKind.wrap IntKind.i64 (IntKind.wrap IntKind.i64 (bits BinOp.and IntKind.u8 (↑(UInt8.toNat (List.getD a0 (0 : Nat) (0 : UInt8))) : Int) (15 : Int)) * (4 : Int)))) (List.take (Int.toNat r0.1) a0), ()))))))))))))) (fun r5 =>
 .ite (!decide (r5.1 = (0 : Int))) (
 .ret ((0 : Int), ((0 : Int), (false, (false, ((0 : Int), ((0 : Int), ((0 : Int), ((0 : Int), ((0 : Int), ([], ([], ((4 : Int), ()))))))))))))) (
 .grd (decide ((0 : Int) <= (0 : Int) /\ (0 : Int) <= IntKind.wrap IntKind.i64 (IntKind.wrap IntKind.i64 (bits BinOp.and IntKind.u8 (↑(UInt8.toNat (List.getD a0 (0 : Nat) (0 : UInt8))) : Int) (15 : Int)) * (4 : Int)) /\ IntKind.wrap IntKind.i64 (IntKind.wrap IntKind.i64 (bits BinOp.and IntKind.u8 (↑(UInt8.toNat (List.getD a0 (0 : Nat) (0 : UInt8))) : Int) (15 : Int)) * (4 : Int)) <= (↑(List.length a0) : Int))) (
 .opt ((sumRight_fn (List.drop (0 : Nat) (List.take (Int.toNat (IntKind.wrap IntKind.i64 (IntKind.wrap IntKind.i64 (bits BinOp.and IntKind.u8 (↑(UInt8.toNat (List.getD a0 (0 : Nat) (0 : UInt8))) : Int) (15 : Int)) * (4 : Int)))) a0), ()))) (fun r6 =>
 .ite (!r6.1) (
 .ret ((0 : Int), ((0 : Int), (false, (false, ((0 : Int), ((0 : Int), ((0 : Int), ((0 : Int), ((0 : Int), ([], ([], ((5 : Int), ()))))))))))))) (
 .ret (IntKind.wrap IntKind.i64 (↑(UInt8.toNat (List.getD a0 (1 : Nat) (0 : UInt8))) : Int), (r2.1, (decide (bits BinOp.and IntKind.i64 (Int.fdiv r1.1 ((2 : Int) ^ (14 : Nat))) (1 : Int) = (1 : Int)), (decide (bits BinOp.and IntKind.i64 (Int.fdiv r1.1 ((2 : Int) ^ (13 : Nat))) (1 : Int) = (1 : Int)), (bits BinOp.and IntKind.i64 r1.1 (8191 : Int), (IntKind.wrap IntKind.i64 (↑(UInt8.toNat (List.getD a0 (8 : Nat) (0 : UInt8))) : Int), (IntKind.wrap IntKind.i64 (↑(UInt8.toNat (List.getD a0 (9 : Nat) (0 : UInt8))) : Int), (r3.1, (r4.1, (List.drop (20 : Nat) (List.take (Int.toNat (IntKind.wrap IntKind.i64 (IntKind.wrap IntKind.i64 (bits BinOp.and IntKind.u8 (↑(UInt8.toNat (List.getD a0 (0 : Nat) (0 : UInt8))) : Int) (15 : Int)) * (4 : Int)))) a0), (List.drop (Int.toNat (IntKind.wrap IntKind.i64 (IntKind.wrap IntKind.i64 (bits BinOp.and IntKind.u8 (↑(UInt8.toNat (List.getD a0 (0 : Nat) (0 : UInt8))) : Int) (15 : Int)) * (4 : Int)))) (List.take (Int.toNat r0.1) a0), ((0 : Int), ()))))))))))))))))))))))))))))))))))))))))
noncomputable def gm14 : List (PF Go.Proofs.Tryd.prog) := [FS.pf sumFold, FS.pf sumAdd, FS.pf sumOf, FS.pf sumRight, FS.pf sumFix, FS.pf dgWord, FS.pf dgLong, FS.pf dgWordAt, FS.pf dgUnder, FS.pf dgPort, FS.pf dgWrite, FS.pf dgRead, FS.pf ipWordAt, FS.pf ipLongAt, FS.pf ipByt, FS.pf ipRefused, FS.pf ipWord, FS.pf ipLong, FS.pf ipWrite]
theorem ipRead_eq (x : ((List UInt8) × Unit)) : fnTr Tryd.prog cod gm14 [] 30 24 ipRead_ap ipRead_rp x = ipRead_tree x := by kernel_rfl
def ipRead_fn (x : ((List UInt8) × Unit)) : Option ty1_ := (ipRead_tree x).eval
def ipRead : FS Tryd.prog := ⟨24, ipRead_ap, ipRead_rp, ipRead_fn, fun x r h => fnTr_sound (cod := cod) (Γ := gm14) (Λs := []) (n := 30) ((congrArg Tr.eval (ipRead_eq x)).trans h)⟩
def ipHop_ap : List VP1 := [.one (.s)]
def ipHop_rp : SP := ⟨1, [(0, .tup [.one (.s), .one (.i .i64)])], []⟩
def ipHop_tree : ((List UInt8) × Unit) -> Tr ((List UInt8) × (Int × Unit)) :=
 fun (a0, _) =>
 .opt ((ipRead_fn (a0, ()))) (fun r0 =>
 .ite (!decide (r0.2.2.2.2.2.2.2.2.2.2.2.1 = (0 : Int))) (
 .ret ([], (r0.2.2.2.2.2.2.2.2.2.2.2.1, ()))) (
 .ite (decide (r0.2.2.2.2.2.1 < (2 : Int))) (
 .ret ([], ((7 : Int), ()))) (
 .opt ((ipWordAt_fn (a0, ((8 : Int), ())))) (fun r1 =>
 .grd (true) (
 .opt ((ipWordAt_fn (a0, ((10 : Int), ())))) (fun r2 =>
 .opt ((sumFix_fn (IntKind.wrap IntKind.u16 r2.1, (IntKind.wrap IntKind.u16 r1.1, (IntKind.wrap IntKind.u16 (bits BinOp.or IntKind.i64 (IntKind.wrap IntKind.i64 (IntKind.wrap IntKind.i64 (r0.2.2.2.2.2.1 - (1 : Int)) * (2 : Int) ^ (8 : Nat))) r0.2.2.2.2.2.2.1), ()))))) (fun r3 =>
 .grd (decide ((0 : Int) <= (0 : Int) /\ (0 : Int) <= (8 : Int) /\ (8 : Int) <= (↑(List.length a0) : Int))) (
 .opt ((ipWord_fn (IntKind.wrap IntKind.i64 (IntKind.wrap IntKind.u16 (bits BinOp.or IntKind.i64 (IntKind.wrap IntKind.i64 (IntKind.wrap IntKind.i64 (r0.2.2.2.2.2.1 - (1 : Int)) * (2 : Int) ^ (8 : Nat))) r0.2.2.2.2.2.2.1)), ()))) (fun r4 =>
 .grd (decide (List.length (List.drop (0 : Nat) (List.take (8 : Nat) a0)) + List.length r4.1 <= (9223372036854775807 : Nat))) (
 .opt ((ipWord_fn (IntKind.wrap IntKind.i64 r3.1, ()))) (fun r5 =>
 .grd (decide (List.length (List.drop (0 : Nat) (List.take (8 : Nat) a0) ++ r4.1) + List.length r5.1 <= (9223372036854775807 : Nat))) (
 .opt ((ipWordAt_fn (a0, ((2 : Int), ())))) (fun r6 =>
 .grd (decide ((0 : Int) <= (12 : Int) /\ (12 : Int) <= r6.1 /\ r6.1 <= (↑(List.length a0) : Int))) (
 .grd (decide (List.length (List.drop (0 : Nat) (List.take (8 : Nat) a0) ++ r4.1 ++ r5.1) + List.length (List.drop (12 : Nat) (List.take (Int.toNat r6.1) a0)) <= (9223372036854775807 : Nat))) (
 .ret (List.drop (0 : Nat) (List.take (8 : Nat) a0) ++ r4.1 ++ r5.1 ++ List.drop (12 : Nat) (List.take (Int.toNat r6.1) a0), ((0 : Int), ())))))))))))))))))
noncomputable def gm15 : List (PF Go.Proofs.Tryd.prog) := [FS.pf sumFold, FS.pf sumAdd, FS.pf sumOf, FS.pf sumRight, FS.pf sumFix, FS.pf dgWord, FS.pf dgLong, FS.pf dgWordAt, FS.pf dgUnder, FS.pf dgPort, FS.pf dgWrite, FS.pf dgRead, FS.pf ipWordAt, FS.pf ipLongAt, FS.pf ipByt, FS.pf ipRefused, FS.pf ipWord, FS.pf ipLong, FS.pf ipWrite, FS.pf ipRead]
theorem ipHop_eq (x : ((List UInt8) × Unit)) : fnTr Tryd.prog cod gm15 [] 30 44 ipHop_ap ipHop_rp x = ipHop_tree x := by kernel_rfl
def ipHop_fn (x : ((List UInt8) × Unit)) : Option ((List UInt8) × (Int × Unit)) := (ipHop_tree x).eval
def ipHop : FS Tryd.prog := ⟨44, ipHop_ap, ipHop_rp, ipHop_fn, fun x r h => fnTr_sound (cod := cod) (Γ := gm15) (Λs := []) (n := 30) ((congrArg Tr.eval (ipHop_eq x)).trans h)⟩
def tcWordAt_ap : List VP1 := [.one (.s), .one (.i .i64)]
def tcWordAt_rp : SP := ⟨1, [(0, .v (.one (.i .i64)))], []⟩
def tcWordAt_tree : ((List UInt8) × (Int × Unit)) -> Tr (Int × Unit) :=
 fun (a0, a1, _) =>
 .grd (decide ((0 : Int) <= a1 /\ a1 < (↑(List.length a0) : Int))) (
 .grd (true) (
 .grd (decide ((0 : Int) <= IntKind.wrap IntKind.i64 (a1 + (1 : Int)) /\ IntKind.wrap IntKind.i64 (a1 + (1 : Int)) < (↑(List.length a0) : Int))) (
 .ret (bits BinOp.or IntKind.i64 (IntKind.wrap IntKind.i64 (IntKind.wrap IntKind.i64 (↑(UInt8.toNat (List.getD a0 (Int.toNat a1) (0 : UInt8))) : Int) * (2 : Int) ^ (8 : Nat))) (IntKind.wrap IntKind.i64 (↑(UInt8.toNat (List.getD a0 (Int.toNat (IntKind.wrap IntKind.i64 (a1 + (1 : Int)))) (0 : UInt8))) : Int)), ()))))
theorem tcWordAt_eq (x : ((List UInt8) × (Int × Unit))) : fnTr Tryd.prog cod gm7 [] 30 52 tcWordAt_ap tcWordAt_rp x = tcWordAt_tree x := by kernel_rfl
def tcWordAt_fn (x : ((List UInt8) × (Int × Unit))) : Option (Int × Unit) := (tcWordAt_tree x).eval
def tcWordAt : FS Tryd.prog := ⟨52, tcWordAt_ap, tcWordAt_rp, tcWordAt_fn, fun x r h => fnTr_sound (cod := cod) (Γ := gm7) (Λs := []) (n := 30) ((congrArg Tr.eval (tcWordAt_eq x)).trans h)⟩
def tcLongAt_ap : List VP1 := [.one (.s), .one (.i .i64)]
def tcLongAt_rp : SP := ⟨1, [(0, .v (.one (.i .u32)))], []⟩
def tcLongAt_tree : ((List UInt8) × (Int × Unit)) -> Tr (Int × Unit) :=
 fun (a0, a1, _) =>
 .opt ((tcWordAt_fn (a0, (a1, ())))) (fun r0 =>
 .grd (true) (
 .opt ((tcWordAt_fn (a0, (IntKind.wrap IntKind.i64 (a1 + (2 : Int)), ())))) (fun r1 =>
 .ret (bits BinOp.or IntKind.u32 (IntKind.wrap IntKind.u32 (IntKind.wrap IntKind.u32 r0.1 * (2 : Int) ^ (16 : Nat))) (IntKind.wrap IntKind.u32 r1.1), ()))))
noncomputable def gm16 : List (PF Go.Proofs.Tryd.prog) := [FS.pf sumFold, FS.pf sumAdd, FS.pf sumOf, FS.pf sumRight, FS.pf sumFix, FS.pf dgWord, FS.pf dgLong, FS.pf dgWordAt, FS.pf dgUnder, FS.pf dgPort, FS.pf dgWrite, FS.pf dgRead, FS.pf tcWordAt]
theorem tcLongAt_eq (x : ((List UInt8) × (Int × Unit))) : fnTr Tryd.prog cod gm16 [] 30 53 tcLongAt_ap tcLongAt_rp x = tcLongAt_tree x := by kernel_rfl
def tcLongAt_fn (x : ((List UInt8) × (Int × Unit))) : Option (Int × Unit) := (tcLongAt_tree x).eval
def tcLongAt : FS Tryd.prog := ⟨53, tcLongAt_ap, tcLongAt_rp, tcLongAt_fn, fun x r h => fnTr_sound (cod := cod) (Γ := gm16) (Λs := []) (n := 30) ((congrArg Tr.eval (tcLongAt_eq x)).trans h)⟩
def tcParse_L51_10 : LS := ⟨10, [(4, 4)], ⟨66, [(57, .v (.one (.i .i64))), (0, .v (.one (.s))), (4, .v (.one (.own 4))), (56, .v (.one (.i .i64)))], [(4, .row 153 4 true true)]⟩, [⟨none, [], ⟨66, [(2, .v (.one (.nil))), (3, .v (.one (.b)))], []⟩⟩, ⟨some 2, [(4, 4)], ⟨66, [(4, .v (.one (.own 4)))], [(4, .row 153 4 true true)]⟩⟩], []⟩
def tcParse_step51_10 : (Int × ((List UInt8) × (Int × ((List TOption) × Unit)))) -> Tr ((Int × ((List UInt8) × (Int × ((List TOption) × Unit)))) ⊕ ((Bool × Unit) ⊕ ((List TOption) × Unit))) :=
 fun (a0, a1, a2, a3, _) =>
 .ite (decide (a0 < a2)) (
 .grd (decide ((0 : Int) <= a0 /\ a0 < (↑(List.length a1) : Int))) (
 .ite (!decide ((↑(UInt8.toNat (List.getD a1 (Int.toNat a0) (0 : UInt8))) : Int) = (0 : Int))) (
 .ret (Sum.inr (Sum.inl (false, ())))) (
 .grd (decide (List.length a3 = List.length a3)) (
 .ret (Sum.inl (IntKind.wrap IntKind.i64 (a0 + (1 : Int)), (a1, (a2, (a3, ()))))))))) (
 .grd (decide (List.length a3 = List.length a3)) (
 .ret (Sum.inr (Sum.inr (a3, ())))))
def tcParse_loop51_10 (x : (Int × ((List UInt8) × (Int × ((List TOption) × Unit))))) : Option ((Bool × Unit) ⊕ ((List TOption) × Unit)) := loopO 510010 (fun x => (tcParse_step51_10 x).eval) 18446744073709551616 x
def tcParse_L51_2 : LS := ⟨2, [(4, 4)], ⟨66, [(0, .v (.one (.s))), (4, .v (.one (.own 4)))], [(4, .row 153 4 true true)]⟩, [⟨none, [], ⟨66, [(2, .v (.one (.nil))), (3, .v (.one (.b)))], []⟩⟩, ⟨some 0, [(4, 4)], ⟨66, [(0, .v (.one (.s))), (4, .v (.one (.own 4)))], [(4, .row 153 4 true true)]⟩⟩], [(4, 153, 4)]⟩
def tcParse_step51_2 : ((List UInt8) × ((List TOption) × Unit)) -> Tr (((List UInt8) × ((List TOption) × Unit)) ⊕ ((Bool × Unit) ⊕ ((List UInt8) × ((List TOption) × Unit)))) :=
 fun (a0, a1, _) =>
 .ite (!decide (a0 = [])) (
 .grd (decide ((0 : Int) <= (0 : Int) /\ (0 : Int) < (↑(List.length a0) : Int))) (
 .ite (!decide ((↑(UInt8.toNat (List.getD a0 (0 : Nat) (0 : UInt8))) : Int) = (0 : Int))) (
 .grd (decide ((0 : Int) <= (0 : Int) /\ (0 : Int) < (↑(List.length a0) : Int))) (
 .ite (decide ((↑(UInt8.toNat (List.getD a0 (0 : Nat) (0 : UInt8))) : Int) = (1 : Int))) (
 .grd (decide ((List.length a1 + List.length [TOption.mk (1 : Int) []]) * (24 : Nat) <= (140737488355328 : Nat) /\ List.length a1 + List.length [TOption.mk (1 : Int) []] <= (9223372036854775807 : Nat))) (
 .grd (decide ((0 : Int) <= (1 : Int) /\ (1 : Int) <= (↑(List.length a0) : Int) /\ (↑(List.length a0) : Int) <= (↑(List.length a0) : Int))) (
 .grd (decide (List.length (a1 ++ [TOption.mk (1 : Int) []]) = List.length (a1 ++ [TOption.mk (1 : Int) []]))) (
 .ret (Sum.inl (List.drop (1 : Nat) (List.take (Int.toNat (↑(List.length a0) : Int)) a0), (a1 ++ [TOption.mk (1 : Int) []], ()))))))) (
 .ite (decide ((↑(List.length a0) : Int) < (2 : Int))) (
 .ret (Sum.inr (Sum.inl (false, ())))) (
 .grd (decide ((0 : Int) <= (1 : Int) /\ (1 : Int) < (↑(List.length a0) : Int))) (
 .ite (decide ((↑(UInt8.toNat (List.getD a0 (1 : Nat) (0 : UInt8))) : Int) < (2 : Int))) (
 .ret (Sum.inr (Sum.inl (false, ())))) (
 .grd (decide ((0 : Int) <= (1 : Int) /\ (1 : Int) < (↑(List.length a0) : Int))) (
 .ite (decide ((↑(List.length a0) : Int) < IntKind.wrap IntKind.i64 (↑(UInt8.toNat (List.getD a0 (1 : Nat) (0 : UInt8))) : Int))) (
 .ret (Sum.inr (Sum.inl (false, ())))) (
 .grd (decide ((0 : Int) <= (1 : Int) /\ (1 : Int) < (↑(List.length a0) : Int))) (
 .grd (decide ((0 : Int) <= (0 : Int) /\ (0 : Int) < (↑(List.length a0) : Int))) (
 .grd (decide ((0 : Int) <= (2 : Int) /\ (2 : Int) <= IntKind.wrap IntKind.i64 (↑(UInt8.toNat (List.getD a0 (1 : Nat) (0 : UInt8))) : Int) /\ IntKind.wrap IntKind.i64 (↑(UInt8.toNat (List.getD a0 (1 : Nat) (0 : UInt8))) : Int) <= (↑(List.length a0) : Int))) (
 .grd (decide ((List.length a1 + List.length [TOption.mk (IntKind.wrap IntKind.i64 (↑(UInt8.toNat (List.getD a0 (0 : Nat) (0 : UInt8))) : Int)) (List.drop (2 : Nat) (List.take (Int.toNat (IntKind.wrap IntKind.i64 (↑(UInt8.toNat (List.getD a0 (1 : Nat) (0 : UInt8))) : Int))) a0))]) * (24 : Nat) <= (140737488355328 : Nat) /\ List.length a1 + List.length [TOption.mk (IntKind.wrap IntKind.i64 (↑(UInt8.toNat (List.getD a0 (0 : Nat) (0 : UInt8))) : Int)) (List.drop (2 : Nat) (List.take (Int.toNat (IntKind.wrap IntKind.i64 (↑(UInt8.toNat (List.getD a0 (1 : Nat) (0 : UInt8))) : Int))) a0))] <= (9223372036854775807 : Nat))) (
 .grd (decide ((0 : Int) <= IntKind.wrap IntKind.i64 (↑(UInt8.toNat (List.getD a0 (1 : Nat) (0 : UInt8))) : Int) /\ IntKind.wrap IntKind.i64 (↑(UInt8.toNat (List.getD a0 (1 : Nat) (0 : UInt8))) : Int) <= (↑(List.length a0) : Int) /\ (↑(List.length a0) : Int) <= (↑(List.length a0) : Int))) (
 .grd (decide (List.length (a1 ++ [TOption.mk (IntKind.wrap IntKind.i64 (↑(UInt8.toNat (List.getD a0 (0 : Nat) (0 : UInt8))) : Int)) (List.drop (2 : Nat) (List.take (Int.toNat (IntKind.wrap IntKind.i64 (↑(UInt8.toNat (List.getD a0 (1 : Nat) (0 : UInt8))) : Int))) a0))]) = List.length (a1 ++ [TOption.mk (IntKind.wrap IntKind.i64 (↑(UInt8.toNat (List.getD a0 (0 : Nat) (0 : UInt8))) : Int)) (List.drop (2 : Nat) (List.take (Int.toNat (IntKind.wrap IntKind.i64 (↑(UInt8.toNat (List.getD a0 (1 : Nat) (0 : UInt8))) : Int))) a0))]))) (
 .ret (Sum.inl (List.drop (Int.toNat (IntKind.wrap IntKind.i64 (↑(UInt8.toNat (List.getD a0 (1 : Nat) (0 : UInt8))) : Int))) (List.take (Int.toNat (↑(List.length a0) : Int)) a0), (a1 ++ [TOption.mk (IntKind.wrap IntKind.i64 (↑(UInt8.toNat (List.getD a0 (0 : Nat) (0 : UInt8))) : Int)) (List.drop (2 : Nat) (List.take (Int.toNat (IntKind.wrap IntKind.i64 (↑(UInt8.toNat (List.getD a0 (1 : Nat) (0 : UInt8))) : Int))) a0))], ()))))))))))))))))) (
 .grd (decide (List.length a1 = List.length a1)) (
 .ret (Sum.inr (Sum.inr (a0, (a1, ())))))))) (
 .grd (decide (List.length a1 = List.length a1)) (
 .ret (Sum.inr (Sum.inr (a0, (a1, ()))))))
def tcParse_loop51_2 (x : ((List UInt8) × ((List TOption) × Unit))) : Option ((Bool × Unit) ⊕ ((List UInt8) × ((List TOption) × Unit))) := loopO 510002 (fun x => (tcParse_step51_2 x).eval) 18446744073709551616 x
def tcParse_ap : List VP1 := [.one (.s)]
def tcParse_rp : SP := ⟨1, [(0, .tup [.one (.st 4 true), .one (.b)])], []⟩
def tcParse_tree : ((List UInt8) × Unit) -> Tr ((List TOption) × (Bool × Unit)) :=
 fun (a0, _) =>
 .grd (true) (
 .opt ((tcParse_loop51_2 (a0, ([], ())))) (fun r0 =>
 .sum (r0) (fun r1 =>
 .ret ([], (r1.1, ()))) (fun r1 =>
 .grd (decide (List.length r1.2.fst = List.length r1.2.1)) (
 .opt ((tcParse_loop51_10 ((0 : Int), (r1.1, ((↑(List.length r1.1) : Int), (r1.2.1, ())))))) (fun r2 =>
 .sum (r2) (fun r3 =>
 .ret ([], (r3.1, ()))) (fun r3 =>
 .ret (r3.1, (true, ()))))))))
noncomputable def gm17 : List (PF Go.Proofs.Tryd.prog) := [FS.pf sumFold, FS.pf sumAdd, FS.pf sumOf, FS.pf sumRight, FS.pf sumFix, FS.pf dgWord, FS.pf dgLong, FS.pf dgWordAt, FS.pf dgUnder, FS.pf dgPort, FS.pf dgWrite, FS.pf dgRead, FS.pf tcWordAt, FS.pf tcLongAt]
theorem tcParse_eq (x : ((List UInt8) × Unit)) : fnTr Tryd.prog cod gm17 [(51, tcParse_L51_10), (51, tcParse_L51_2)] 30 51 tcParse_ap tcParse_rp x = tcParse_tree x := by kernel_rfl
def tcParse_fn (x : ((List UInt8) × Unit)) : Option ((List TOption) × (Bool × Unit)) := (tcParse_tree x).eval
def tcParse : FS Tryd.prog := ⟨51, tcParse_ap, tcParse_rp, tcParse_fn, fun x r h => fnTr_sound (cod := cod) (Γ := gm17) (Λs := [(51, tcParse_L51_10), (51, tcParse_L51_2)]) (n := 30) ((congrArg Tr.eval (tcParse_eq x)).trans h)⟩
def tcRead_ap : List VP1 := [.one (.s), .one (.i .u32), .one (.i .u32)]
def tcRead_rp : SP := ⟨1, [(0, .tup [.agg [.i .i64, .i .i64, .i .u32, .i .u32, .i .i64, .i .i64, .i .i64, .st 4 true, .s], .one (.i .i64)])], []⟩
abbrev ty2_ : Type := (Int × (Int × (Int × (Int × (Int × (Int × (Int × ((List TOption) × ((List UInt8) × (Int × Unit))))))))))
def tcRead_tree : ((List UInt8) × (Int × (Int × Unit))) -> Tr ty2_ :=
 fun (a0, a1, a2, _) =>
 .ite (decide ((↑(List.length a0) : Int) < (20 : Int))) (
 .ret ((0 : Int), ((0 : Int), ((0 : Int), ((0 : Int), ((0 : Int), ((0 : Int), ((0 : Int), ([], ([], ((3 : Int), ()))))))))))) (
 .grd (decide ((0 : Int) <= (12 : Int) /\ (12 : Int) < (↑(List.length a0) : Int))) (
 .grd (true) (
 .ite (decide ((↑(List.length a0) : Int) < IntKind.wrap IntKind.i64 (IntKind.wrap IntKind.i64 (Int.tdiv (IntKind.wrap IntKind.i64 (↑(UInt8.toNat (List.getD a0 (12 : Nat) (0 : UInt8))) : Int)) (16 : Int)) * (4 : Int)))) (
 .ret ((0 : Int), ((0 : Int), ((0 : Int), ((0 : Int), ((0 : Int), ((0 : Int), ((0 : Int), ([], ([], ((3 : Int), ()))))))))))) (
 .ite (decide (IntKind.wrap IntKind.i64 (IntKind.wrap IntKind.i64 (Int.tdiv (IntKind.wrap IntKind.i64 (↑(UInt8.toNat (List.getD a0 (12 : Nat) (0 : UInt8))) : Int)) (16 : Int)) * (4 : Int)) < (20 : Int))) (
 .ret ((0 : Int), ((0 : Int), ((0 : Int), ((0 : Int), ((0 : Int), ((0 : Int), ((0 : Int), ([], ([], ((4 : Int), ()))))))))))) (
 .grd (decide ((0 : Int) <= (12 : Int) /\ (12 : Int) < (↑(List.length a0) : Int))) (
 .grd (true) (
 .ite (!decide (Int.tmod (↑(UInt8.toNat (List.getD a0 (12 : Nat) (0 : UInt8))) : Int) (16 : Int) = (0 : Int))) (
 .ret ((0 : Int), ((0 : Int), ((0 : Int), ((0 : Int), ((0 : Int), ((0 : Int), ((0 : Int), ([], ([], ((4 : Int), ()))))))))))) (
 .ite (decide ((65455 : Int) < IntKind.wrap IntKind.i64 ((↑(List.length a0) : Int) - IntKind.wrap IntKind.i64 (IntKind.wrap IntKind.i64 (Int.tdiv (IntKind.wrap IntKind.i64 (↑(UInt8.toNat (List.getD a0 (12 : Nat) (0 : UInt8))) : Int)) (16 : Int)) * (4 : Int))))) (
 .ret ((0 : Int), ((0 : Int), ((0 : Int), ((0 : Int), ((0 : Int), ((0 : Int), ((0 : Int), ([], ([], ((2 : Int), ()))))))))))) (
 .grd (decide ((0 : Int) <= (20 : Int) /\ (20 : Int) <= IntKind.wrap IntKind.i64 (IntKind.wrap IntKind.i64 (Int.tdiv (IntKind.wrap IntKind.i64 (↑(UInt8.toNat (List.getD a0 (12 : Nat) (0 : UInt8))) : Int)) (16 : Int)) * (4 : Int)) /\ IntKind.wrap IntKind.i64 (IntKind.wrap IntKind.i64 (Int.tdiv (IntKind.wrap IntKind.i64 (↑(UInt8.toNat (List.getD a0 (12 : Nat) (0 : UInt8))) : Int)) (16 : Int)) * (4 : Int)) <= (↑(List.length a0) : Int))) (
 .opt ((tcParse_fn (List.drop (20 : Nat) (List.take (Int.toNat (IntKind.wrap IntKind.i64 (IntKind.wrap IntKind.i64 (Int.tdiv (IntKind.wrap IntKind.i64 (↑(UInt8.toNat (List.getD a0 (12 : Nat) (0 : UInt8))) : Int)) (16 : Int)) * (4 : Int)))) a0), ()))) (fun r0 =>
 .ite (!r0.2.1) (
 .ret ((0 : Int), ((0 : Int), ((0 : Int), ((0 : Int), ((0 : Int), ((0 : Int), ((0 : Int), ([], ([], ((4 : Int), ()))))))))))) (
 .opt ((dgUnder_fn (a1, (a2, ((6 : Int), ((↑(List.length a0) : Int), ())))))) (fun r1 =>
 .grd (decide (List.length r1.1 + List.length a0 <= (9223372036854775807 : Nat))) (
 .opt ((sumRight_fn (r1.1 ++ a0, ()))) (fun r2 =>
 .ite (!r2.1) (
 .ret ((0 : Int), ((0 : Int), ((0 : Int), ((0 : Int), ((0 : Int), ((0 : Int), ((0 : Int), ([], ([], ((5 : Int), ()))))))))))) (
 .opt ((tcWordAt_fn (a0, ((0 : Int), ())))) (fun r3 =>
 .opt ((tcWordAt_fn (a0, ((2 : Int), ())))) (fun r4 =>
 .opt ((tcLongAt_fn (a0, ((4 : Int), ())))) (fun r5 =>
 .opt ((tcLongAt_fn (a0, ((8 : Int), ())))) (fun r6 =>
 .grd (decide ((0 : Int) <= (13 : Int) /\ (13 : Int) < (↑(List.length a0) : Int))) (
 .opt ((tcWordAt_fn (a0, ((14 : Int), ())))) (fun r7 =>
 .opt ((tcWordAt_fn (a0, ((18 : Int), ())))) (fun r8 =>
 .grd (decide ((0 : Int) <= IntKind.wrap IntKind.i64 (IntKind.wrap IntKind.i64 (Int.tdiv (IntKind.wrap IntKind.i64 (↑(UInt8.toNat (List.getD a0 (12 : Nat) (0 : UInt8))) : Int)) (16 : Int)) * (4 : Int)) /\ IntKind.wrap IntKind.i64 (IntKind.wrap IntKind.i64 (Int.tdiv (IntKind.wrap IntKind.i64 (↑(UInt8.toNat (List.getD a0 (12 : Nat) (0 : UInt8))) : Int)) (16 : Int)) * (4 : Int)) <= (↑(List.length a0) : Int) /\ (↑(List.length a0) : Int) <= (↑(List.length a0) : Int))) (
 .ret (r3.1, (r4.1, (r5.1, (r6.1, (IntKind.wrap IntKind.i64 (↑(UInt8.toNat (List.getD a0 (13 : Nat) (0 : UInt8))) : Int), (r7.1, (r8.1, (r0.1, (List.drop (Int.toNat (IntKind.wrap IntKind.i64 (IntKind.wrap IntKind.i64 (Int.tdiv (IntKind.wrap IntKind.i64 (↑(UInt8.toNat (List.getD a0 (12 : Nat) (0 : UInt8))) : Int)) (16 : Int)) * (4 : Int)))) (List.take (Int.toNat (↑(List.length a0) : Int)) a0), ((0 : Int), ()))))))))))))))))))))))))))))))))))
noncomputable def gm18 : List (PF Go.Proofs.Tryd.prog) := [FS.pf sumFold, FS.pf sumAdd, FS.pf sumOf, FS.pf sumRight, FS.pf sumFix, FS.pf dgWord, FS.pf dgLong, FS.pf dgWordAt, FS.pf dgUnder, FS.pf dgPort, FS.pf dgWrite, FS.pf dgRead, FS.pf tcWordAt, FS.pf tcLongAt, FS.pf tcParse]
theorem tcRead_eq (x : ((List UInt8) × (Int × (Int × Unit)))) : fnTr Tryd.prog cod gm18 [] 30 25 tcRead_ap tcRead_rp x = tcRead_tree x := by kernel_rfl
def tcRead_fn (x : ((List UInt8) × (Int × (Int × Unit)))) : Option ty2_ := (tcRead_tree x).eval
def tcRead : FS Tryd.prog := ⟨25, tcRead_ap, tcRead_rp, tcRead_fn, fun x r h => fnTr_sound (cod := cod) (Γ := gm18) (Λs := []) (n := 30) ((congrArg Tr.eval (tcRead_eq x)).trans h)⟩
def swEnds_ap : List VP1 := [.one (.s)]
def swEnds_rp : SP := ⟨1, [(0, .tup [.agg [.i .u32, .i .u32, .i .i64, .i .i64, .i .i64], .one (.i .i64)])], []⟩
def swEnds_tree : ((List UInt8) × Unit) -> Tr (Int × (Int × (Int × (Int × (Int × (Int × Unit)))))) :=
 fun (a0, _) =>
 .opt ((ipRead_fn (a0, ()))) (fun r0 =>
 .ite (!decide (r0.2.2.2.2.2.2.2.2.2.2.2.1 = (0 : Int))) (
 .ret ((0 : Int), ((0 : Int), ((0 : Int), ((0 : Int), ((0 : Int), (r0.2.2.2.2.2.2.2.2.2.2.2.1, ()))))))) (
 .ite (!decide (r0.2.2.2.2.2.2.1 = (6 : Int))) (
 .ite (!decide (r0.2.2.2.2.2.2.1 = (17 : Int))) (
 .ret ((0 : Int), ((0 : Int), ((0 : Int), ((0 : Int), ((0 : Int), ((7 : Int), ()))))))) (
 .ite (r0.2.2.2.1) (
 .ret ((0 : Int), ((0 : Int), ((0 : Int), ((0 : Int), ((0 : Int), ((9 : Int), ()))))))) (
 .ite (!decide (r0.2.2.2.2.1 = (0 : Int))) (
 .ret ((0 : Int), ((0 : Int), ((0 : Int), ((0 : Int), ((0 : Int), ((9 : Int), ()))))))) (
 .ite (decide (r0.2.2.2.2.2.2.1 = (6 : Int))) (
 .opt ((tcRead_fn (r0.2.2.2.2.2.2.2.2.2.2.1, (r0.2.2.2.2.2.2.2.1, (r0.2.2.2.2.2.2.2.2.1, ()))))) (fun r1 =>
 .ite (!decide (r1.2.2.2.2.2.2.2.2.2.1 = (0 : Int))) (
 .ret ((0 : Int), ((0 : Int), ((0 : Int), ((0 : Int), ((0 : Int), (r1.2.2.2.2.2.2.2.2.2.1, ()))))))) (
 .ret (r0.2.2.2.2.2.2.2.1, (r0.2.2.2.2.2.2.2.2.1, (r0.2.2.2.2.2.2.1, (r1.1, (r1.2.1, ((0 : Int), ()))))))))) (
 .opt ((dgRead_fn (r0.2.2.2.2.2.2.2.2.2.2.1, (r0.2.2.2.2.2.2.2.1, (r0.2.2.2.2.2.2.2.2.1, ()))))) (fun r1 =>
 .ite (!decide (r1.2.2.2.1 = (0 : Int))) (
 .ret ((0 : Int), ((0 : Int), ((0 : Int), ((0 : Int), ((0 : Int), (r1.2.2.2.1, ()))))))) (
 .ret (r0.2.2.2.2.2.2.2.1, (r0.2.2.2.2.2.2.2.2.1, (r0.2.2.2.2.2.2.1, (r1.1, (r1.2.1, ((0 : Int), ()))))))))))))) (
 .ite (r0.2.2.2.1) (
 .ret ((0 : Int), ((0 : Int), ((0 : Int), ((0 : Int), ((0 : Int), ((9 : Int), ()))))))) (
 .ite (!decide (r0.2.2.2.2.1 = (0 : Int))) (
 .ret ((0 : Int), ((0 : Int), ((0 : Int), ((0 : Int), ((0 : Int), ((9 : Int), ()))))))) (
 .ite (decide (r0.2.2.2.2.2.2.1 = (6 : Int))) (
 .opt ((tcRead_fn (r0.2.2.2.2.2.2.2.2.2.2.1, (r0.2.2.2.2.2.2.2.1, (r0.2.2.2.2.2.2.2.2.1, ()))))) (fun r1 =>
 .ite (!decide (r1.2.2.2.2.2.2.2.2.2.1 = (0 : Int))) (
 .ret ((0 : Int), ((0 : Int), ((0 : Int), ((0 : Int), ((0 : Int), (r1.2.2.2.2.2.2.2.2.2.1, ()))))))) (
 .ret (r0.2.2.2.2.2.2.2.1, (r0.2.2.2.2.2.2.2.2.1, (r0.2.2.2.2.2.2.1, (r1.1, (r1.2.1, ((0 : Int), ()))))))))) (
 .opt ((dgRead_fn (r0.2.2.2.2.2.2.2.2.2.2.1, (r0.2.2.2.2.2.2.2.1, (r0.2.2.2.2.2.2.2.2.1, ()))))) (fun r1 =>
 .ite (!decide (r1.2.2.2.1 = (0 : Int))) (
 .ret ((0 : Int), ((0 : Int), ((0 : Int), ((0 : Int), ((0 : Int), (r1.2.2.2.1, ()))))))) (
 .ret (r0.2.2.2.2.2.2.2.1, (r0.2.2.2.2.2.2.2.2.1, (r0.2.2.2.2.2.2.1, (r1.1, (r1.2.1, ((0 : Int), ()))))))))))))))
noncomputable def gm19 : List (PF Go.Proofs.Tryd.prog) := [FS.pf sumFold, FS.pf sumAdd, FS.pf sumOf, FS.pf sumRight, FS.pf sumFix, FS.pf dgWord, FS.pf dgLong, FS.pf dgWordAt, FS.pf dgUnder, FS.pf dgPort, FS.pf dgWrite, FS.pf dgRead, FS.pf ipWordAt, FS.pf ipLongAt, FS.pf ipByt, FS.pf ipRefused, FS.pf ipWord, FS.pf ipLong, FS.pf ipWrite, FS.pf ipRead, FS.pf ipHop, FS.pf tcWordAt, FS.pf tcLongAt, FS.pf tcParse, FS.pf tcRead]
theorem swEnds_eq (x : ((List UInt8) × Unit)) : fnTr Tryd.prog cod gm19 [] 30 9 swEnds_ap swEnds_rp x = swEnds_tree x := by kernel_rfl
def swEnds_fn (x : ((List UInt8) × Unit)) : Option (Int × (Int × (Int × (Int × (Int × (Int × Unit)))))) := (swEnds_tree x).eval
def swEnds : FS Tryd.prog := ⟨9, swEnds_ap, swEnds_rp, swEnds_fn, fun x r h => fnTr_sound (cod := cod) (Γ := gm19) (Λs := []) (n := 30) ((congrArg Tr.eval (swEnds_eq x)).trans h)⟩
def swWord_ap : List VP1 := [.one (.st 2 false), .one (.i .i64)]
def swWord_rp : SP := ⟨1, [(0, .v (.one (.i .u16)))], []⟩
def swWord_tree : ((List UInt8) × (Int × Unit)) -> Tr (Int × Unit) :=
 fun (a0, a1, _) =>
 .grd (decide ((0 : Int) <= a1)) (
 .opt (a0[Int.toNat a1]?) (fun r0 =>
 .grd (true) (
 .grd (decide ((0 : Int) <= IntKind.wrap IntKind.i64 (a1 + (1 : Int)))) (
 .opt (a0[Int.toNat (IntKind.wrap IntKind.i64 (a1 + (1 : Int)))]?) (fun r1 =>
 .ret (bits BinOp.or IntKind.u16 (IntKind.wrap IntKind.u16 (IntKind.wrap IntKind.u16 (↑(UInt8.toNat r0) : Int) * (2 : Int) ^ (8 : Nat))) (IntKind.wrap IntKind.u16 (↑(UInt8.toNat r1) : Int)), ()))))))
noncomputable def gm20 : List (PF Go.Proofs.Tryd.prog) := [FS.pf sumFold, FS.pf sumAdd, FS.pf sumOf, FS.pf sumRight, FS.pf sumFix, FS.pf dgWord, FS.pf dgLong, FS.pf dgWordAt, FS.pf dgUnder, FS.pf dgPort, FS.pf dgWrite, FS.pf dgRead, FS.pf ipWordAt, FS.pf ipLongAt, FS.pf ipByt, FS.pf ipRefused, FS.pf ipWord, FS.pf ipLong, FS.pf ipWrite, FS.pf ipRead, FS.pf ipHop, FS.pf tcWordAt, FS.pf tcLongAt, FS.pf tcParse, FS.pf tcRead, FS.pf swEnds]
theorem swWord_eq (x : ((List UInt8) × (Int × Unit))) : fnTr Tryd.prog cod gm20 [] 30 105 swWord_ap swWord_rp x = swWord_tree x := by kernel_rfl
def swWord_fn (x : ((List UInt8) × (Int × Unit))) : Option (Int × Unit) := (swWord_tree x).eval
def swWord : FS Tryd.prog := ⟨105, swWord_ap, swWord_rp, swWord_fn, fun x r h => fnTr_sound (cod := cod) (Γ := gm20) (Λs := []) (n := 30) ((congrArg Tr.eval (swWord_eq x)).trans h)⟩
def swPut_ap : SP := ⟨18, [(0, .v (.one (.pre 1500100 1))), (1, .v (.one (.i .i64))), (2, .v (.one (.i .u16)))], [(1500100, .row 5 2 false true)]⟩
def swPut_rp : SP := ⟨1, [(0, .tup [])], [(1500100, .row 5 2 false true)]⟩
def swPut_tree : (Nat × (Int × (Int × ((List UInt8) × Unit)))) -> Tr ((List UInt8) × Unit) :=
 fun (a0, a1, a2, a3, _) =>
 .grd (true) (
 .grd (decide ((0 : Int) <= a1 /\ a1 < (↑a0 : Int))) (
 .opt (a3[(0 : Nat) + Int.toNat a1]?) (fun r0 =>
 .grd (decide ((0 : Int) <= IntKind.wrap IntKind.u8 (Int.fdiv a2 ((2 : Int) ^ (8 : Nat))) /\ IntKind.wrap IntKind.u8 (Int.fdiv a2 ((2 : Int) ^ (8 : Nat))) < (256 : Int))) (
 .grd (decide ((0 : Int) <= IntKind.wrap IntKind.i64 (a1 + (1 : Int)) /\ IntKind.wrap IntKind.i64 (a1 + (1 : Int)) < (↑a0 : Int))) (
 .opt ((List.set a3 ((0 : Nat) + Int.toNat a1) (UInt8.ofNat (Int.toNat (IntKind.wrap IntKind.u8 (Int.fdiv a2 ((2 : Int) ^ (8 : Nat)))))))[(0 : Nat) + Int.toNat (IntKind.wrap IntKind.i64 (a1 + (1 : Int)))]?) (fun r1 =>
 .grd (decide ((0 : Int) <= IntKind.wrap IntKind.u8 a2 /\ IntKind.wrap IntKind.u8 a2 < (256 : Int))) (
 .ret (List.set (List.set a3 ((0 : Nat) + Int.toNat a1) (UInt8.ofNat (Int.toNat (IntKind.wrap IntKind.u8 (Int.fdiv a2 ((2 : Int) ^ (8 : Nat))))))) ((0 : Nat) + Int.toNat (IntKind.wrap IntKind.i64 (a1 + (1 : Int)))) (UInt8.ofNat (Int.toNat (IntKind.wrap IntKind.u8 a2))), ()))))))))
noncomputable def gm21 : List (PF Go.Proofs.Tryd.prog) := [FS.pf sumFold, FS.pf sumAdd, FS.pf sumOf, FS.pf sumRight, FS.pf sumFix, FS.pf dgWord, FS.pf dgLong, FS.pf dgWordAt, FS.pf dgUnder, FS.pf dgPort, FS.pf dgWrite, FS.pf dgRead, FS.pf ipWordAt, FS.pf ipLongAt, FS.pf ipByt, FS.pf ipRefused, FS.pf ipWord, FS.pf ipLong, FS.pf ipWrite, FS.pf ipRead, FS.pf ipHop, FS.pf tcWordAt, FS.pf tcLongAt, FS.pf tcParse, FS.pf tcRead, FS.pf swEnds, FS.pf swWord]
theorem swPut_eq (x : (Nat × (Int × (Int × ((List UInt8) × Unit))))) : gsTr Tryd.prog cod gm21 [] 30 107 swPut_ap swPut_rp x = swPut_tree x := by kernel_rfl
def swPut_fn (x : (Nat × (Int × (Int × ((List UInt8) × Unit))))) : Option ((List UInt8) × Unit) := (swPut_tree x).eval
def swPut : GS Tryd.prog := ⟨107, [2, 0, 0], swPut_ap, swPut_rp, swPut_fn, fun x r h ys m g he hg => gs_sound (cod := cod) (Γ := gm21) (Λs := []) (n := 30) ((congrArg Tr.eval (swPut_eq x)).trans h) he hg⟩
def swChange_L106_3 : LS := ⟨3, [(1500100, 1500100)], ⟨34, [(20, .v (.one (.i .i64))), (2, .v (.one (.i .u16))), (8, .v (.one (.i .u16))), (0, .v (.one (.pre 1500100 1))), (18, .v (.one (.st 0 false))), (19, .v (.one (.i .i64)))], [(1500100, .row 5 2 false true)]⟩, [⟨some 0, [(1500100, 1500100)], ⟨34, [], [(1500100, .row 5 2 false true)]⟩⟩], []⟩
def swChange_step106_3 : (Int × (Int × (Int × (Nat × ((List Int) × (Int × ((List UInt8) × Unit))))))) -> Tr ((Int × (Int × (Int × (Nat × ((List Int) × (Int × ((List UInt8) × Unit))))))) ⊕ ((List UInt8) × Unit)) :=
 fun (a0, a1, a2, a3, a4, a5, a6, _) =>
 .ite (decide (a0 < a5)) (
 .grd (decide ((0 : Int) <= a0)) (
 .opt (a4[Int.toNat a0]?) (fun r0 =>
 .opt ((swWord_fn (List.take a3 a6, (r0, ())))) (fun r1 =>
 .opt ((sumFix_fn (r1.1, (a2, (a1, ()))))) (fun r2 =>
 .opt ((swPut_fn (a3, (r0, (r2.1, (a6, ())))))) (fun r3 =>
 .ret (Sum.inl (IntKind.wrap IntKind.i64 (a0 + (1 : Int)), (a1, (a2, (a3, (a4, (a5, (r3.1, ())))))))))))))) (
 .ret (Sum.inr (a6, ())))
def swChange_loop106_3 (x : (Int × (Int × (Int × (Nat × ((List Int) × (Int × ((List UInt8) × Unit)))))))) : Option ((List UInt8) × Unit) := loopO 1060003 (fun x => (swChange_step106_3 x).eval) 18446744073709551616 x
def swChange_ap : SP := ⟨34, [(0, .v (.one (.pre 1500100 1))), (1, .v (.one (.i .i64))), (2, .v (.one (.i .u16))), (3, .v (.one (.st 0 false)))], [(1500100, .row 5 2 false true)]⟩
def swChange_rp : SP := ⟨1, [(0, .tup [])], [(1500100, .row 5 2 false true)]⟩
def swChange_tree : (Nat × (Int × (Int × ((List Int) × ((List UInt8) × Unit))))) -> Tr ((List UInt8) × Unit) :=
 fun (a0, a1, a2, a3, a4, _) =>
 .opt ((swWord_fn (List.take a0 a4, (a1, ())))) (fun r0 =>
 .opt ((swPut_fn (a0, (a1, (a2, (a4, ())))))) (fun r1 =>
 .opt ((swChange_loop106_3 ((0 : Int), (a2, (r0.1, (a0, (a3, ((↑(List.length a3) : Int), (r1.1, ()))))))))) (fun r2 =>
 .ret (r2.1, ()))))
noncomputable def gm22 : List (PF Go.Proofs.Tryd.prog) := [FS.pf sumFold, FS.pf sumAdd, FS.pf sumOf, FS.pf sumRight, FS.pf sumFix, FS.pf dgWord, FS.pf dgLong, FS.pf dgWordAt, FS.pf dgUnder, FS.pf dgPort, FS.pf dgWrite, FS.pf dgRead, FS.pf ipWordAt, FS.pf ipLongAt, FS.pf ipByt, FS.pf ipRefused, FS.pf ipWord, FS.pf ipLong, FS.pf ipWrite, FS.pf ipRead, FS.pf ipHop, FS.pf tcWordAt, FS.pf tcLongAt, FS.pf tcParse, FS.pf tcRead, FS.pf swEnds, FS.pf swWord, GS.pf swPut]
theorem swChange_eq (x : (Nat × (Int × (Int × ((List Int) × ((List UInt8) × Unit)))))) : gsTr Tryd.prog cod gm22 [(106, swChange_L106_3)] 30 106 swChange_ap swChange_rp x = swChange_tree x := by kernel_rfl
def swChange_fn (x : (Nat × (Int × (Int × ((List Int) × ((List UInt8) × Unit)))))) : Option ((List UInt8) × Unit) := (swChange_tree x).eval
def swChange : GS Tryd.prog := ⟨106, [2, 0, 0, 0], swChange_ap, swChange_rp, swChange_fn, fun x r h ys m g he hg => gs_sound (cod := cod) (Γ := gm22) (Λs := [(106, swChange_L106_3)]) (n := 30) ((congrArg Tr.eval (swChange_eq x)).trans h) he hg⟩
def swSwapped_ap : List VP1 := [.one (.s), .one (.i .u32), .one (.i .i64), .one (.i .i64), .one (.i .i64)]
def swSwapped_rp : SP := ⟨1, [(0, .tup [.one (.s), .one (.i .i64)])], []⟩
def swSwapped_tree : ((List UInt8) × (Int × (Int × (Int × (Int × Unit))))) -> Tr ((List UInt8) × (Int × Unit)) :=
 fun (a0, a1, a2, a3, a4, _) =>
 .opt ((swEnds_fn (a0, ()))) (fun r0 =>
 .ite (!decide (r0.2.2.2.2.2.1 = (0 : Int))) (
 .ret ([], (r0.2.2.2.2.2.1, ()))) (
 .ite (decide (a2 < (0 : Int))) (
 .ret ([], ((1 : Int), ()))) (
 .ite (decide ((65535 : Int) < a2)) (
 .ret ([], ((1 : Int), ()))) (
 .grd (decide (List.length a0 <= (9223372036854775807 : Nat))) (
 .opt ((swWord_fn (a0, ((2 : Int), ())))) (fun r1 =>
 .grd (decide ((0 : Int) <= r1.1 /\ r1.1 <= (↑(List.length a0) : Int))) (
 .grd (decide ((0 : Int) <= (0 : Int) /\ (0 : Int) < (↑(Int.toNat r1.1) : Int))) (
 .opt (a0[(0 : Nat) + (0 : Nat)]?) (fun r2 =>
 .ite (decide (r0.2.2.1 = (17 : Int))) (
 .ite (decide (r0.2.2.1 = (17 : Int))) (
 .opt ((swWord_fn (List.take (Int.toNat r1.1) a0, (IntKind.wrap IntKind.i64 (IntKind.wrap IntKind.i64 (IntKind.wrap IntKind.i64 (bits BinOp.and IntKind.u8 (↑(UInt8.toNat r2) : Int) (15 : Int)) * (4 : Int)) + (6 : Int)), ())))) (fun r3 =>
 .ite (decide (r3.1 = (0 : Int))) (
 .grd (true) (
 .grd (true) (
 .opt ((swChange_fn (Int.toNat r1.1, (a3, (IntKind.wrap IntKind.u16 (Int.fdiv a1 ((2 : Int) ^ (16 : Nat))), (List.take (1 : Nat) [(10 : Int), IntKind.wrap IntKind.i64 (IntKind.wrap IntKind.i64 (IntKind.wrap IntKind.i64 (bits BinOp.and IntKind.u8 (↑(UInt8.toNat r2) : Int) (15 : Int)) * (4 : Int)) + (6 : Int))], (a0, ()))))))) (fun r4 =>
 .opt ((swChange_fn (Int.toNat r1.1, (IntKind.wrap IntKind.i64 (a3 + (2 : Int)), (IntKind.wrap IntKind.u16 a1, (List.take (1 : Nat) [(10 : Int), IntKind.wrap IntKind.i64 (IntKind.wrap IntKind.i64 (IntKind.wrap IntKind.i64 (bits BinOp.and IntKind.u8 (↑(UInt8.toNat r2) : Int) (15 : Int)) * (4 : Int)) + (6 : Int))], (r4.1, ()))))))) (fun r5 =>
 .grd (decide ((0 : Int) <= (1 : Int) /\ (1 : Int) <= (↑(1 : Nat) : Int) /\ (↑(1 : Nat) : Int) <= (↑(List.length [(10 : Int), IntKind.wrap IntKind.i64 (IntKind.wrap IntKind.i64 (IntKind.wrap IntKind.i64 (bits BinOp.and IntKind.u8 (↑(UInt8.toNat r2) : Int) (15 : Int)) * (4 : Int)) + (6 : Int))]) : Int))) (
 .opt ((swChange_fn (Int.toNat r1.1, (IntKind.wrap IntKind.i64 (IntKind.wrap IntKind.i64 (IntKind.wrap IntKind.i64 (bits BinOp.and IntKind.u8 (↑(UInt8.toNat r2) : Int) (15 : Int)) * (4 : Int)) + a4), (IntKind.wrap IntKind.u16 a2, (List.take (0 : Nat) (List.drop (1 : Nat) [(10 : Int), IntKind.wrap IntKind.i64 (IntKind.wrap IntKind.i64 (IntKind.wrap IntKind.i64 (bits BinOp.and IntKind.u8 (↑(UInt8.toNat r2) : Int) (15 : Int)) * (4 : Int)) + (6 : Int))]), (r5.1, ()))))))) (fun r6 =>
 .ite (decide (r0.2.2.1 = (17 : Int))) (
 .ite (!decide (r3.1 = (0 : Int))) (
 .opt ((swWord_fn (List.take (Int.toNat r1.1) r6.1, (IntKind.wrap IntKind.i64 (IntKind.wrap IntKind.i64 (IntKind.wrap IntKind.i64 (bits BinOp.and IntKind.u8 (↑(UInt8.toNat r2) : Int) (15 : Int)) * (4 : Int)) + (6 : Int)), ())))) (fun r7 =>
 .ite (decide (r7.1 = (0 : Int))) (
 .opt ((swPut_fn (Int.toNat r1.1, (IntKind.wrap IntKind.i64 (IntKind.wrap IntKind.i64 (IntKind.wrap IntKind.i64 (bits BinOp.and IntKind.u8 (↑(UInt8.toNat r2) : Int) (15 : Int)) * (4 : Int)) + (6 : Int)), ((65535 : Int), (r6.1, ())))))) (fun r8 =>
 .ret (List.take (Int.toNat r1.1) r8.1, ((0 : Int), ())))) (
 .ret (List.take (Int.toNat r1.1) r6.1, ((0 : Int), ()))))) (
 .ret (List.take (Int.toNat r1.1) r6.1, ((0 : Int), ())))) (
 .ret (List.take (Int.toNat r1.1) r6.1, ((0 : Int), ())))))))))) (
 .grd (true) (
 .opt ((swChange_fn (Int.toNat r1.1, (a3, (IntKind.wrap IntKind.u16 (Int.fdiv a1 ((2 : Int) ^ (16 : Nat))), ([(10 : Int), IntKind.wrap IntKind.i64 (IntKind.wrap IntKind.i64 (IntKind.wrap IntKind.i64 (bits BinOp.and IntKind.u8 (↑(UInt8.toNat r2) : Int) (15 : Int)) * (4 : Int)) + (6 : Int))], (a0, ()))))))) (fun r4 =>
 .opt ((swChange_fn (Int.toNat r1.1, (IntKind.wrap IntKind.i64 (a3 + (2 : Int)), (IntKind.wrap IntKind.u16 a1, ([(10 : Int), IntKind.wrap IntKind.i64 (IntKind.wrap IntKind.i64 (IntKind.wrap IntKind.i64 (bits BinOp.and IntKind.u8 (↑(UInt8.toNat r2) : Int) (15 : Int)) * (4 : Int)) + (6 : Int))], (r4.1, ()))))))) (fun r5 =>
 .grd (true) (
 .opt ((swChange_fn (Int.toNat r1.1, (IntKind.wrap IntKind.i64 (IntKind.wrap IntKind.i64 (IntKind.wrap IntKind.i64 (bits BinOp.and IntKind.u8 (↑(UInt8.toNat r2) : Int) (15 : Int)) * (4 : Int)) + a4), (IntKind.wrap IntKind.u16 a2, (List.take (1 : Nat) (List.drop (1 : Nat) [(10 : Int), IntKind.wrap IntKind.i64 (IntKind.wrap IntKind.i64 (IntKind.wrap IntKind.i64 (bits BinOp.and IntKind.u8 (↑(UInt8.toNat r2) : Int) (15 : Int)) * (4 : Int)) + (6 : Int))]), (r5.1, ()))))))) (fun r6 =>
 .ite (decide (r0.2.2.1 = (17 : Int))) (
 .ite (!decide (r3.1 = (0 : Int))) (
 .opt ((swWord_fn (List.take (Int.toNat r1.1) r6.1, (IntKind.wrap IntKind.i64 (IntKind.wrap IntKind.i64 (IntKind.wrap IntKind.i64 (bits BinOp.and IntKind.u8 (↑(UInt8.toNat r2) : Int) (15 : Int)) * (4 : Int)) + (6 : Int)), ())))) (fun r7 =>
 .ite (decide (r7.1 = (0 : Int))) (
 .opt ((swPut_fn (Int.toNat r1.1, (IntKind.wrap IntKind.i64 (IntKind.wrap IntKind.i64 (IntKind.wrap IntKind.i64 (bits BinOp.and IntKind.u8 (↑(UInt8.toNat r2) : Int) (15 : Int)) * (4 : Int)) + (6 : Int)), ((65535 : Int), (r6.1, ())))))) (fun r8 =>
 .ret (List.take (Int.toNat r1.1) r8.1, ((0 : Int), ())))) (
 .ret (List.take (Int.toNat r1.1) r6.1, ((0 : Int), ()))))) (
 .ret (List.take (Int.toNat r1.1) r6.1, ((0 : Int), ())))) (
 .ret (List.take (Int.toNat r1.1) r6.1, ((0 : Int), ()))))))))))) (
 .grd (true) (
 .opt ((swChange_fn (Int.toNat r1.1, (a3, (IntKind.wrap IntKind.u16 (Int.fdiv a1 ((2 : Int) ^ (16 : Nat))), ([(10 : Int), IntKind.wrap IntKind.i64 (IntKind.wrap IntKind.i64 (IntKind.wrap IntKind.i64 (bits BinOp.and IntKind.u8 (↑(UInt8.toNat r2) : Int) (15 : Int)) * (4 : Int)) + (6 : Int))], (a0, ()))))))) (fun r3 =>
 .opt ((swChange_fn (Int.toNat r1.1, (IntKind.wrap IntKind.i64 (a3 + (2 : Int)), (IntKind.wrap IntKind.u16 a1, ([(10 : Int), IntKind.wrap IntKind.i64 (IntKind.wrap IntKind.i64 (IntKind.wrap IntKind.i64 (bits BinOp.and IntKind.u8 (↑(UInt8.toNat r2) : Int) (15 : Int)) * (4 : Int)) + (6 : Int))], (r3.1, ()))))))) (fun r4 =>
 .grd (true) (
 .opt ((swChange_fn (Int.toNat r1.1, (IntKind.wrap IntKind.i64 (IntKind.wrap IntKind.i64 (IntKind.wrap IntKind.i64 (bits BinOp.and IntKind.u8 (↑(UInt8.toNat r2) : Int) (15 : Int)) * (4 : Int)) + a4), (IntKind.wrap IntKind.u16 a2, (List.take (1 : Nat) (List.drop (1 : Nat) [(10 : Int), IntKind.wrap IntKind.i64 (IntKind.wrap IntKind.i64 (IntKind.wrap IntKind.i64 (bits BinOp.and IntKind.u8 (↑(UInt8.toNat r2) : Int) (15 : Int)) * (4 : Int)) + (6 : Int))]), (r4.1, ()))))))) (fun r5 =>
 .ite (decide (r0.2.2.1 = (17 : Int))) (
 .ite (true) (
 .opt ((swWord_fn (List.take (Int.toNat r1.1) r5.1, (IntKind.wrap IntKind.i64 (IntKind.wrap IntKind.i64 (IntKind.wrap IntKind.i64 (bits BinOp.and IntKind.u8 (↑(UInt8.toNat r2) : Int) (15 : Int)) * (4 : Int)) + (6 : Int)), ())))) (fun r6 =>
 .ite (decide (r6.1 = (0 : Int))) (
 .opt ((swPut_fn (Int.toNat r1.1, (IntKind.wrap IntKind.i64 (IntKind.wrap IntKind.i64 (IntKind.wrap IntKind.i64 (bits BinOp.and IntKind.u8 (↑(UInt8.toNat r2) : Int) (15 : Int)) * (4 : Int)) + (6 : Int)), ((65535 : Int), (r5.1, ())))))) (fun r7 =>
 .ret (List.take (Int.toNat r1.1) r7.1, ((0 : Int), ())))) (
 .ret (List.take (Int.toNat r1.1) r5.1, ((0 : Int), ()))))) (
 .ret (List.take (Int.toNat r1.1) r5.1, ((0 : Int), ())))) (
 .ret (List.take (Int.toNat r1.1) r5.1, ((0 : Int), ())))))))))) (
 .ite (decide (r0.2.2.1 = (17 : Int))) (
 .opt ((swWord_fn (List.take (Int.toNat r1.1) a0, (IntKind.wrap IntKind.i64 (IntKind.wrap IntKind.i64 (IntKind.wrap IntKind.i64 (bits BinOp.and IntKind.u8 (↑(UInt8.toNat r2) : Int) (15 : Int)) * (4 : Int)) + (16 : Int)), ())))) (fun r3 =>
 .ite (decide (r3.1 = (0 : Int))) (
 .grd (true) (
 .grd (true) (
 .opt ((swChange_fn (Int.toNat r1.1, (a3, (IntKind.wrap IntKind.u16 (Int.fdiv a1 ((2 : Int) ^ (16 : Nat))), (List.take (1 : Nat) [(10 : Int), IntKind.wrap IntKind.i64 (IntKind.wrap IntKind.i64 (IntKind.wrap IntKind.i64 (bits BinOp.and IntKind.u8 (↑(UInt8.toNat r2) : Int) (15 : Int)) * (4 : Int)) + (16 : Int))], (a0, ()))))))) (fun r4 =>
 .opt ((swChange_fn (Int.toNat r1.1, (IntKind.wrap IntKind.i64 (a3 + (2 : Int)), (IntKind.wrap IntKind.u16 a1, (List.take (1 : Nat) [(10 : Int), IntKind.wrap IntKind.i64 (IntKind.wrap IntKind.i64 (IntKind.wrap IntKind.i64 (bits BinOp.and IntKind.u8 (↑(UInt8.toNat r2) : Int) (15 : Int)) * (4 : Int)) + (16 : Int))], (r4.1, ()))))))) (fun r5 =>
 .grd (decide ((0 : Int) <= (1 : Int) /\ (1 : Int) <= (↑(1 : Nat) : Int) /\ (↑(1 : Nat) : Int) <= (↑(List.length [(10 : Int), IntKind.wrap IntKind.i64 (IntKind.wrap IntKind.i64 (IntKind.wrap IntKind.i64 (bits BinOp.and IntKind.u8 (↑(UInt8.toNat r2) : Int) (15 : Int)) * (4 : Int)) + (16 : Int))]) : Int))) (
 .opt ((swChange_fn (Int.toNat r1.1, (IntKind.wrap IntKind.i64 (IntKind.wrap IntKind.i64 (IntKind.wrap IntKind.i64 (bits BinOp.and IntKind.u8 (↑(UInt8.toNat r2) : Int) (15 : Int)) * (4 : Int)) + a4), (IntKind.wrap IntKind.u16 a2, (List.take (0 : Nat) (List.drop (1 : Nat) [(10 : Int), IntKind.wrap IntKind.i64 (IntKind.wrap IntKind.i64 (IntKind.wrap IntKind.i64 (bits BinOp.and IntKind.u8 (↑(UInt8.toNat r2) : Int) (15 : Int)) * (4 : Int)) + (16 : Int))]), (r5.1, ()))))))) (fun r6 =>
 .ite (decide (r0.2.2.1 = (17 : Int))) (
 .ite (!decide (r3.1 = (0 : Int))) (
 .opt ((swWord_fn (List.take (Int.toNat r1.1) r6.1, (IntKind.wrap IntKind.i64 (IntKind.wrap IntKind.i64 (IntKind.wrap IntKind.i64 (bits BinOp.and IntKind.u8 (↑(UInt8.toNat r2) : Int) (15 : Int)) * (4 : Int)) + (16 : Int)), ())))) (fun r7 =>
 .ite (decide (r7.1 = (0 : Int))) (
 .opt ((swPut_fn (Int.toNat r1.1, (IntKind.wrap IntKind.i64 (IntKind.wrap IntKind.i64 (IntKind.wrap IntKind.i64 (bits BinOp.and IntKind.u8 (↑(UInt8.toNat r2) : Int) (15 : Int)) * (4 : Int)) + (16 : Int)), ((65535 : Int), (r6.1, ())))))) (fun r8 =>
 .ret (List.take (Int.toNat r1.1) r8.1, ((0 : Int), ())))) (
 .ret (List.take (Int.toNat r1.1) r6.1, ((0 : Int), ()))))) (
 .ret (List.take (Int.toNat r1.1) r6.1, ((0 : Int), ())))) (
 .ret (List.take (Int.toNat r1.1) r6.1, ((0 : Int), ())))))))))) (
 .grd (true) (
 .opt ((swChange_fn (Int.toNat r1.1, (a3, (IntKind.wrap IntKind.u16 (Int.fdiv a1 ((2 : Int) ^ (16 : Nat))), ([(10 : Int), IntKind.wrap IntKind.i64 (IntKind.wrap IntKind.i64 (IntKind.wrap IntKind.i64 (bits BinOp.and IntKind.u8 (↑(UInt8.toNat r2) : Int) (15 : Int)) * (4 : Int)) + (16 : Int))], (a0, ()))))))) (fun r4 =>
 .opt ((swChange_fn (Int.toNat r1.1, (IntKind.wrap IntKind.i64 (a3 + (2 : Int)), (IntKind.wrap IntKind.u16 a1, ([(10 : Int), IntKind.wrap IntKind.i64 (IntKind.wrap IntKind.i64 (IntKind.wrap IntKind.i64 (bits BinOp.and IntKind.u8 (↑(UInt8.toNat r2) : Int) (15 : Int)) * (4 : Int)) + (16 : Int))], (r4.1, ()))))))) (fun r5 =>
 .grd (true) (
 .opt ((swChange_fn (Int.toNat r1.1, (IntKind.wrap IntKind.i64 (IntKind.wrap IntKind.i64 (IntKind.wrap IntKind.i64 (bits BinOp.and IntKind.u8 (↑(UInt8.toNat r2) : Int) (15 : Int)) * (4 : Int)) + a4), (IntKind.wrap IntKind.u16 a2, (List.take (1 : Nat) (List.drop (1 : Nat) [(10 : Int), IntKind.wrap IntKind.i64 (IntKind.wrap IntKind.i64 (IntKind.wrap IntKind.i64 (bits BinOp.and IntKind.u8 (↑(UInt8.toNat r2) : Int) (15 : Int)) * (4 : Int)) + (16 : Int))]), (r5.1, ()))))))) (fun r6 =>
 .ite (decide (r0.2.2.1 = (17 : Int))) (
 .ite (!decide (r3.1 = (0 : Int))) (
 .opt ((swWord_fn (List.take (Int.toNat r1.1) r6.1, (IntKind.wrap IntKind.i64 (IntKind.wrap IntKind.i64 (IntKind.wrap IntKind.i64 (bits BinOp.and IntKind.u8 (↑(UInt8.toNat r2) : Int) (15 : Int)) * (4 : Int)) + (16 : Int)), ())))) (fun r7 =>
 .ite (decide (r7.1 = (0 : Int))) (
 .opt ((swPut_fn (Int.toNat r1.1, (IntKind.wrap IntKind.i64 (IntKind.wrap IntKind.i64 (IntKind.wrap IntKind.i64 (bits BinOp.and IntKind.u8 (↑(UInt8.toNat r2) : Int) (15 : Int)) * (4 : Int)) + (16 : Int)), ((65535 : Int), (r6.1, ())))))) (fun r8 =>
 .ret (List.take (Int.toNat r1.1) r8.1, ((0 : Int), ())))) (
 .ret (List.take (Int.toNat r1.1) r6.1, ((0 : Int), ()))))) (
 .ret (List.take (Int.toNat r1.1) r6.1, ((0 : Int), ())))) (
 .ret (List.take (Int.toNat r1.1) r6.1, ((0 : Int), ()))))))))))) (
 .grd (true) (
 .opt ((swChange_fn (Int.toNat r1.1, (a3, (IntKind.wrap IntKind.u16 (Int.fdiv a1 ((2 : Int) ^ (16 : Nat))), ([(10 : Int), IntKind.wrap IntKind.i64 (IntKind.wrap IntKind.i64 (IntKind.wrap IntKind.i64 (bits BinOp.and IntKind.u8 (↑(UInt8.toNat r2) : Int) (15 : Int)) * (4 : Int)) + (16 : Int))], (a0, ()))))))) (fun r3 =>
 .opt ((swChange_fn (Int.toNat r1.1, (IntKind.wrap IntKind.i64 (a3 + (2 : Int)), (IntKind.wrap IntKind.u16 a1, ([(10 : Int), IntKind.wrap IntKind.i64 (IntKind.wrap IntKind.i64 (IntKind.wrap IntKind.i64 (bits BinOp.and IntKind.u8 (↑(UInt8.toNat r2) : Int) (15 : Int)) * (4 : Int)) + (16 : Int))], (r3.1, ()))))))) (fun r4 =>
 .grd (true) (
 .opt ((swChange_fn (Int.toNat r1.1, (IntKind.wrap IntKind.i64 (IntKind.wrap IntKind.i64 (IntKind.wrap IntKind.i64 (bits BinOp.and IntKind.u8 (↑(UInt8.toNat r2) : Int) (15 : Int)) * (4 : Int)) + a4), (IntKind.wrap IntKind.u16 a2, (List.take (1 : Nat) (List.drop (1 : Nat) [(10 : Int), IntKind.wrap IntKind.i64 (IntKind.wrap IntKind.i64 (IntKind.wrap IntKind.i64 (bits BinOp.and IntKind.u8 (↑(UInt8.toNat r2) : Int) (15 : Int)) * (4 : Int)) + (16 : Int))]), (r4.1, ()))))))) (fun r5 =>
 .ite (decide (r0.2.2.1 = (17 : Int))) (
 .ite (true) (
 .opt ((swWord_fn (List.take (Int.toNat r1.1) r5.1, (IntKind.wrap IntKind.i64 (IntKind.wrap IntKind.i64 (IntKind.wrap IntKind.i64 (bits BinOp.and IntKind.u8 (↑(UInt8.toNat r2) : Int) (15 : Int)) * (4 : Int)) + (16 : Int)), ())))) (fun r6 =>
 .ite (decide (r6.1 = (0 : Int))) (
 .opt ((swPut_fn (Int.toNat r1.1, (IntKind.wrap IntKind.i64 (IntKind.wrap IntKind.i64 (IntKind.wrap IntKind.i64 (bits BinOp.and IntKind.u8 (↑(UInt8.toNat r2) : Int) (15 : Int)) * (4 : Int)) + (16 : Int)), ((65535 : Int), (r5.1, ())))))) (fun r7 =>
 .ret (List.take (Int.toNat r1.1) r7.1, ((0 : Int), ())))) (
 .ret (List.take (Int.toNat r1.1) r5.1, ((0 : Int), ()))))) (
 .ret (List.take (Int.toNat r1.1) r5.1, ((0 : Int), ())))) (
 .ret (List.take (Int.toNat r1.1) r5.1, ((0 : Int), ())))))))))))))))))))
noncomputable def gm23 : List (PF Go.Proofs.Tryd.prog) := [FS.pf sumFold, FS.pf sumAdd, FS.pf sumOf, FS.pf sumRight, FS.pf sumFix, FS.pf dgWord, FS.pf dgLong, FS.pf dgWordAt, FS.pf dgUnder, FS.pf dgPort, FS.pf dgWrite, FS.pf dgRead, FS.pf ipWordAt, FS.pf ipLongAt, FS.pf ipByt, FS.pf ipRefused, FS.pf ipWord, FS.pf ipLong, FS.pf ipWrite, FS.pf ipRead, FS.pf ipHop, FS.pf tcWordAt, FS.pf tcLongAt, FS.pf tcParse, FS.pf tcRead, FS.pf swEnds, FS.pf swWord, GS.pf swPut, GS.pf swChange]
theorem swSwapped_eq (x : ((List UInt8) × (Int × (Int × (Int × (Int × Unit)))))) : fnTr Tryd.prog cod gm23 [] 30 95 swSwapped_ap swSwapped_rp x = swSwapped_tree x := by kernel_rfl
def swSwapped_fn (x : ((List UInt8) × (Int × (Int × (Int × (Int × Unit)))))) : Option ((List UInt8) × (Int × Unit)) := (swSwapped_tree x).eval
def swSwapped : FS Tryd.prog := ⟨95, swSwapped_ap, swSwapped_rp, swSwapped_fn, fun x r h => fnTr_sound (cod := cod) (Γ := gm23) (Λs := []) (n := 30) ((congrArg Tr.eval (swSwapped_eq x)).trans h)⟩
def swFrom_ap : List VP1 := [.one (.s), .one (.i .u32), .one (.i .i64)]
def swFrom_rp : SP := ⟨1, [(0, .tup [.one (.s), .one (.i .i64)])], []⟩
def swFrom_tree : ((List UInt8) × (Int × (Int × Unit))) -> Tr ((List UInt8) × (Int × Unit)) :=
 fun (a0, a1, a2, _) =>
 .opt ((swSwapped_fn (a0, (a1, (a2, ((12 : Int), ((0 : Int), ()))))))) (fun r0 =>
 .ret (r0.1, (r0.2.1, ())))
noncomputable def gm24 : List (PF Go.Proofs.Tryd.prog) := [FS.pf sumFold, FS.pf sumAdd, FS.pf sumOf, FS.pf sumRight, FS.pf sumFix, FS.pf dgWord, FS.pf dgLong, FS.pf dgWordAt, FS.pf dgUnder, FS.pf dgPort, FS.pf dgWrite, FS.pf dgRead, FS.pf ipWordAt, FS.pf ipLongAt, FS.pf ipByt, FS.pf ipRefused, FS.pf ipWord, FS.pf ipLong, FS.pf ipWrite, FS.pf ipRead, FS.pf ipHop, FS.pf tcWordAt, FS.pf tcLongAt, FS.pf tcParse, FS.pf tcRead, FS.pf swEnds, FS.pf swWord, GS.pf swPut, GS.pf swChange, FS.pf swSwapped]
theorem swFrom_eq (x : ((List UInt8) × (Int × (Int × Unit)))) : fnTr Tryd.prog cod gm24 [] 30 74 swFrom_ap swFrom_rp x = swFrom_tree x := by kernel_rfl
def swFrom_fn (x : ((List UInt8) × (Int × (Int × Unit)))) : Option ((List UInt8) × (Int × Unit)) := (swFrom_tree x).eval
def swFrom : FS Tryd.prog := ⟨74, swFrom_ap, swFrom_rp, swFrom_fn, fun x r h => fnTr_sound (cod := cod) (Γ := gm24) (Λs := []) (n := 30) ((congrArg Tr.eval (swFrom_eq x)).trans h)⟩
def swTo_ap : List VP1 := [.one (.s), .one (.i .u32), .one (.i .i64)]
def swTo_rp : SP := ⟨1, [(0, .tup [.one (.s), .one (.i .i64)])], []⟩
def swTo_tree : ((List UInt8) × (Int × (Int × Unit))) -> Tr ((List UInt8) × (Int × Unit)) :=
 fun (a0, a1, a2, _) =>
 .opt ((swSwapped_fn (a0, (a1, (a2, ((16 : Int), ((2 : Int), ()))))))) (fun r0 =>
 .ret (r0.1, (r0.2.1, ())))
noncomputable def gm25 : List (PF Go.Proofs.Tryd.prog) := [FS.pf sumFold, FS.pf sumAdd, FS.pf sumOf, FS.pf sumRight, FS.pf sumFix, FS.pf dgWord, FS.pf dgLong, FS.pf dgWordAt, FS.pf dgUnder, FS.pf dgPort, FS.pf dgWrite, FS.pf dgRead, FS.pf ipWordAt, FS.pf ipLongAt, FS.pf ipByt, FS.pf ipRefused, FS.pf ipWord, FS.pf ipLong, FS.pf ipWrite, FS.pf ipRead, FS.pf ipHop, FS.pf tcWordAt, FS.pf tcLongAt, FS.pf tcParse, FS.pf tcRead, FS.pf swEnds, FS.pf swWord, GS.pf swPut, GS.pf swChange, FS.pf swSwapped, FS.pf swFrom]
theorem swTo_eq (x : ((List UInt8) × (Int × (Int × Unit)))) : fnTr Tryd.prog cod gm25 [] 30 76 swTo_ap swTo_rp x = swTo_tree x := by kernel_rfl
def swTo_fn (x : ((List UInt8) × (Int × (Int × Unit)))) : Option ((List UInt8) × (Int × Unit)) := (swTo_tree x).eval
def swTo : FS Tryd.prog := ⟨76, swTo_ap, swTo_rp, swTo_fn, fun x r h => fnTr_sound (cod := cod) (Γ := gm25) (Λs := []) (n := 30) ((congrArg Tr.eval (swTo_eq x)).trans h)⟩
theorem clTalk_h1 (xs : List (τ 16)) : (bodyTr Go.Proofs.Tryd.prog cod 38 [.one (.nn (.st 16 xs))]).eval = (cloneRes 109 16 48 xs).eval := by kernel_rfl
theorem clTalk_h2 : (bodyTr Go.Proofs.Tryd.prog cod 38 [.one .nil]).eval = some (.one .nil, []) := by kernel_rfl
def clTalk : PF Go.Proofs.Tryd.prog := clonePF Go.Proofs.Tryd.prog cod 38 109 16 48 clTalk_h1 clTalk_h2
def delTalk_ap : SP := ⟨33, [(0, .v (.one (.own 1000100))), (1, .v (.one (.i .i64))), (2, .v (.one (.i .i64)))], [(1000100, .row 109 16 true true)]⟩
def delTalk_rp : SP := ⟨1, [(0, .v (.one (.own 1000100)))], [(1000100, .row 109 16 true true)]⟩
def delTalk_tree : (Int × (Int × ((List TTalk) × Unit))) -> Tr ((List TTalk) × Unit) :=
 fun (a0, a1, a2, _) =>
 .grd (decide ((0 : Int) <= a0 /\ a0 <= a1 /\ a1 <= (↑(List.length a2) : Int) /\ (↑(List.length a2) : Int) <= (↑(List.length a2) : Int))) (
 .ite (decide (a0 = a1)) (
 .grd (decide (List.length a2 = List.length a2)) (
 .ret (a2, ()))) (
 .grd (decide ((0 : Int) <= a0 /\ a0 <= (↑(List.length a2) : Int))) (
 .grd (decide ((0 : Int) <= a1 /\ a1 <= (↑(List.length a2) : Int) /\ (↑(List.length a2) : Int) <= (↑(List.length a2) : Int))) (
 .grd (decide (Int.toNat a1 + Int.toNat ((↑(List.length a2) : Int) - a1) <= List.length a2)) (
 .grd (decide (Int.toNat a0 + List.length (List.take (Int.toNat ((↑(List.length a2) : Int) - a1)) (List.drop (Int.toNat a1) a2)) <= List.length a2)) (
 .grd (decide ((0 : Int) <= (↑(Int.toNat a0 + List.length (List.take (Int.toNat ((↑(List.length a2) : Int) - a1)) (List.drop (Int.toNat a1) a2))) : Int) /\ (↑(Int.toNat a0 + List.length (List.take (Int.toNat ((↑(List.length a2) : Int) - a1)) (List.drop (Int.toNat a1) a2))) : Int) <= (↑(List.length a2) : Int) /\ (↑(List.length a2) : Int) <= (↑(List.length (List.take (Int.toNat a0) a2 ++ List.take (Int.toNat ((↑(List.length a2) : Int) - a1)) (List.drop (Int.toNat a1) a2) ++ List.drop (Int.toNat a0 + List.length (List.take (Int.toNat ((↑(List.length a2) : Int) - a1)) (List.drop (Int.toNat a1) a2))) a2)) : Int))) (
 .grd (decide (Int.toNat (↑(Int.toNat a0 + List.length (List.take (Int.toNat ((↑(List.length a2) : Int) - a1)) (List.drop (Int.toNat a1) a2))) : Int) + Int.toNat ((↑(List.length a2) : Int) - (↑(Int.toNat a0 + List.length (List.take (Int.toNat ((↑(List.length a2) : Int) - a1)) (List.drop (Int.toNat a1) a2))) : Int)) <= List.length (List.take (Int.toNat a0) a2 ++ List.take (Int.toNat ((↑(List.length a2) : Int) - a1)) (List.drop (Int.toNat a1) a2) ++ List.drop (Int.toNat a0 + List.length (List.take (Int.toNat ((↑(List.length a2) : Int) - a1)) (List.drop (Int.toNat a1) a2))) a2))) (
 .grd (decide (Int.toNat a0 + List.length (List.take (Int.toNat ((↑(List.length a2) : Int) - a1)) (List.drop (Int.toNat a1) a2)) = List.length (List.take (Int.toNat a0 + List.length (List.take (Int.toNat ((↑(List.length a2) : Int) - a1)) (List.drop (Int.toNat a1) a2))) (List.take (Int.toNat (↑(Int.toNat a0 + List.length (List.take (Int.toNat ((↑(List.length a2) : Int) - a1)) (List.drop (Int.toNat a1) a2))) : Int)) (List.take (Int.toNat a0) a2 ++ List.take (Int.toNat ((↑(List.length a2) : Int) - a1)) (List.drop (Int.toNat a1) a2) ++ List.drop (Int.toNat a0 + List.length (List.take (Int.toNat ((↑(List.length a2) : Int) - a1)) (List.drop (Int.toNat a1) a2))) a2) ++ List.replicate (Int.toNat ((↑(List.length a2) : Int) - (↑(Int.toNat a0 + List.length (List.take (Int.toNat ((↑(List.length a2) : Int) - a1)) (List.drop (Int.toNat a1) a2))) : Int))) (TTalk.mk (0 : Int) (0 : Int) (0 : Int) (0 : Int) (0 : Int) (0 : Int) (0 : Int)) ++ List.drop (Int.toNat (↑(Int.toNat a0 + List.length (List.take (Int.toNat ((↑(List.length a2) : Int) - a1)) (List.drop (Int.toNat a1) a2))) : Int) + List.length (List.replicate (Int.toNat ((↑(List.length a2) : Int) - (↑(Int.toNat a0 + List.length (List.take (Int.toNat ((↑(List.length a2) : Int) - a1)) (List.drop (Int.toNat a1) a2))) : Int))) (TTalk.mk (0 : Int) (0 : Int) (0 : Int) (0 : Int) (0 : Int) (0 : Int) (0 : Int)))) (List.take (Int.toNat a0) a2 ++ List.take (Int.toNat ((↑(List.length a2) : Int) - a1)) (List.drop (Int.toNat a1) a2) ++ List.drop (Int.toNat a0 + List.length (List.take (Int.toNat ((↑(List.length a2) : Int) - a1)) (List.drop (Int.toNat a1) a2))) a2))))) (
 .ret (List.take (Int.toNat a0 + List.length (List.take (Int.toNat ((↑(List.length a2) : Int) - a1)) (List.drop (Int.toNat a1) a2))) (List.take (Int.toNat (↑(Int.toNat a0 + List.length (List.take (Int.toNat ((↑(List.length a2) : Int) - a1)) (List.drop (Int.toNat a1) a2))) : Int)) (List.take (Int.toNat a0) a2 ++ List.take (Int.toNat ((↑(List.length a2) : Int) - a1)) (List.drop (Int.toNat a1) a2) ++ List.drop (Int.toNat a0 + List.length (List.take (Int.toNat ((↑(List.length a2) : Int) - a1)) (List.drop (Int.toNat a1) a2))) a2) ++ List.replicate (Int.toNat ((↑(List.length a2) : Int) - (↑(Int.toNat a0 + List.length (List.take (Int.toNat ((↑(List.length a2) : Int) - a1)) (List.drop (Int.toNat a1) a2))) : Int))) (TTalk.mk (0 : Int) (0 : Int) (0 : Int) (0 : Int) (0 : Int) (0 : Int) (0 : Int)) ++ List.drop (Int.toNat (↑(Int.toNat a0 + List.length (List.take (Int.toNat ((↑(List.length a2) : Int) - a1)) (List.drop (Int.toNat a1) a2))) : Int) + List.length (List.replicate (Int.toNat ((↑(List.length a2) : Int) - (↑(Int.toNat a0 + List.length (List.take (Int.toNat ((↑(List.length a2) : Int) - a1)) (List.drop (Int.toNat a1) a2))) : Int))) (TTalk.mk (0 : Int) (0 : Int) (0 : Int) (0 : Int) (0 : Int) (0 : Int) (0 : Int)))) (List.take (Int.toNat a0) a2 ++ List.take (Int.toNat ((↑(List.length a2) : Int) - a1)) (List.drop (Int.toNat a1) a2) ++ List.drop (Int.toNat a0 + List.length (List.take (Int.toNat ((↑(List.length a2) : Int) - a1)) (List.drop (Int.toNat a1) a2))) a2)), ()))))))))))
theorem delTalk_eq (x : (Int × (Int × ((List TTalk) × Unit)))) : gsTr Tryd.prog cod [clTalk] [] 30 103 delTalk_ap delTalk_rp x = delTalk_tree x := by kernel_rfl
def delTalk_fn (x : (Int × (Int × ((List TTalk) × Unit)))) : Option ((List TTalk) × Unit) := (delTalk_tree x).eval
def delTalk : GS Tryd.prog := ⟨103, [1, 0, 0], delTalk_ap, delTalk_rp, delTalk_fn, fun x r h ys m g he hg => gs_sound (cod := cod) (Γ := [clTalk]) (Λs := []) (n := 30) ((congrArg Tr.eval (delTalk_eq x)).trans h) he hg⟩
def trTurned_ap : List VP1 := [.agg [.i .u32, .i .u32, .i .i64, .i .i64]]
def trTurned_rp : SP := ⟨1, [(0, .v (.agg [.i .u32, .i .u32, .i .i64, .i .i64]))], []⟩
def trTurned_tree : (Int × (Int × (Int × (Int × Unit)))) -> Tr (Int × (Int × (Int × (Int × Unit)))) :=
 fun (a0, a1, a2, a3, _) =>
 .ret (a1, (a0, (a3, (a2, ()))))
theorem trTurned_eq (x : (Int × (Int × (Int × (Int × Unit))))) : fnTr Tryd.prog cod [clTalk, GS.pf delTalk] [] 30 82 trTurned_ap trTurned_rp x = trTurned_tree x := by kernel_rfl
def trTurned_fn (x : (Int × (Int × (Int × (Int × Unit))))) : Option (Int × (Int × (Int × (Int × Unit)))) := (trTurned_tree x).eval
def trTurned : FS Tryd.prog := ⟨82, trTurned_ap, trTurned_rp, trTurned_fn, fun x r h => fnTr_sound (cod := cod) (Γ := [clTalk, GS.pf delTalk]) (Λs := []) (n := 30) ((congrArg Tr.eval (trTurned_eq x)).trans h)⟩
def trPort_ap : List VP1 := [.one (.i .i64)]
def trPort_rp : SP := ⟨1, [(0, .v (.one (.b)))], []⟩
def trPort_tree : (Int × Unit) -> Tr (Bool × Unit) :=
 fun (a0, _) =>
 .ite (decide ((0 : Int) <= a0)) (
 .ret (decide (a0 <= (65535 : Int)), ())) (
 .ret (false, ()))
theorem trPort_eq (x : (Int × Unit)) : fnTr Tryd.prog cod [clTalk, GS.pf delTalk, FS.pf trTurned] [] 30 97 trPort_ap trPort_rp x = trPort_tree x := by kernel_rfl
def trPort_fn (x : (Int × Unit)) : Option (Bool × Unit) := (trPort_tree x).eval
def trPort : FS Tryd.prog := ⟨97, trPort_ap, trPort_rp, trPort_fn, fun x r h => fnTr_sound (cod := cod) (Γ := [clTalk, GS.pf delTalk, FS.pf trTurned]) (Λs := []) (n := 30) ((congrArg Tr.eval (trPort_eq x)).trans h)⟩
def trRoad_ap : List VP1 := [.agg [.i .u32, .i .u32, .i .i64, .i .i64]]
def trRoad_rp : SP := ⟨1, [(0, .v (.one (.b)))], []⟩
def trRoad_tree : (Int × (Int × (Int × (Int × Unit)))) -> Tr (Bool × Unit) :=
 fun (a0, a1, a2, a3, _) =>
 .opt ((trPort_fn (a2, ()))) (fun r0 =>
 .ite (r0.1) (
 .opt ((trPort_fn (a3, ()))) (fun r1 =>
 .ite (r1.1) (
 .opt ((trTurned_fn (a0, (a1, (a2, (a3, ())))))) (fun r2 =>
 .ret (!(decide (a0 = r2.1) && (decide (a1 = r2.2.1) && (decide (a2 = r2.2.2.1) && (decide (a3 = r2.2.2.2.1) && true)))), ()))) (
 .ret (false, ())))) (
 .ret (false, ())))
theorem trRoad_eq (x : (Int × (Int × (Int × (Int × Unit))))) : fnTr Tryd.prog cod [clTalk, GS.pf delTalk, FS.pf trTurned, FS.pf trPort] [] 30 79 trRoad_ap trRoad_rp x = trRoad_tree x := by kernel_rfl
def trRoad_fn (x : (Int × (Int × (Int × (Int × Unit))))) : Option (Bool × Unit) := (trRoad_tree x).eval
def trRoad : FS Tryd.prog := ⟨79, trRoad_ap, trRoad_rp, trRoad_fn, fun x r h => fnTr_sound (cod := cod) (Γ := [clTalk, GS.pf delTalk, FS.pf trTurned, FS.pf trPort]) (Λs := []) (n := 30) ((congrArg Tr.eval (trRoad_eq x)).trans h)⟩
def trForm_ap : List VP1 := [.agg [.i .u32, .i .u32, .i .i64, .i .i64, .i .i64, .i .i64, .i .i64]]
def trForm_rp : SP := ⟨1, [(0, .v (.one (.b)))], []⟩
def trForm_tree : (Int × (Int × (Int × (Int × (Int × (Int × (Int × Unit))))))) -> Tr (Bool × Unit) :=
 fun (a0, a1, a2, a3, a4, a5, a6, _) =>
 .opt ((trRoad_fn (a0, (a1, (a2, (a3, ())))))) (fun r0 =>
 .ite (!r0.1) (
 .ret (false, ())) (
 .ite (decide (a6 < (0 : Int))) (
 .ret (false, ())) (
 .ite (decide ((1099511627776 : Int) < a6)) (
 .ret (false, ())) (
 .ite (decide (a4 = (1 : Int))) (
 .ret (decide (a5 = (0 : Int)), ())) (
 .ite (decide (a4 = (2 : Int))) (
 .ret (decide (a5 = (0 : Int)), ())) (
 .ite (decide (a4 = (3 : Int))) (
 .ite (decide ((0 : Int) <= a5)) (
 .ret (decide (a5 <= (2 : Int)), ())) (
 .ret (false, ()))) (
 .ite (decide (a4 = (4 : Int))) (
 .ret (decide (a5 = (3 : Int)), ())) (
 .ret (false, ())))))))))
noncomputable def gm26 : List (PF Go.Proofs.Tryd.prog) := [clTalk, GS.pf delTalk, FS.pf trTurned, FS.pf trPort, FS.pf trRoad]
theorem trForm_eq (x : (Int × (Int × (Int × (Int × (Int × (Int × (Int × Unit)))))))) : fnTr Tryd.prog cod gm26 [] 30 60 trForm_ap trForm_rp x = trForm_tree x := by kernel_rfl
def trForm_fn (x : (Int × (Int × (Int × (Int × (Int × (Int × (Int × Unit)))))))) : Option (Bool × Unit) := (trForm_tree x).eval
def trForm : FS Tryd.prog := ⟨60, trForm_ap, trForm_rp, trForm_fn, fun x r h => fnTr_sound (cod := cod) (Γ := gm26) (Λs := []) (n := 30) ((congrArg Tr.eval (trForm_eq x)).trans h)⟩
def trPlace_L80_2 : LS := ⟨2, [(1000200, 1000200)], ⟨19, [(8, .v (.one (.i .i64))), (0, .v (.one (.st 16 false))), (1, .v (.one (.clp 81 [(1000200, 0)]))), (7, .v (.one (.i .i64)))], [(1000200, .cells [.i .u32, .i .u32, .i .i64, .i .i64])]⟩, [⟨none, [(1000200, 1000200)], ⟨19, [(4, .v (.one (.i .i64)))], [(1000200, .cells [.i .u32, .i .u32, .i .i64, .i .i64])]⟩⟩, ⟨some 0, [(1000200, 1000200)], ⟨19, [], [(1000200, .cells [.i .u32, .i .u32, .i .i64, .i .i64])]⟩⟩], []⟩
def trPlace_step80_2 : (Int × ((List TTalk) × (Int × (Int × (Int × (Int × (Int × Unit))))))) -> Tr ((Int × ((List TTalk) × (Int × (Int × (Int × (Int × (Int × Unit))))))) ⊕ ((Int × (Int × (Int × (Int × (Int × Unit))))) ⊕ (Int × (Int × (Int × (Int × Unit)))))) :=
 fun (a0, a1, a2, a3, a4, a5, a6, _) =>
 .ite (decide (a0 < a2)) (
 .grd (decide ((0 : Int) <= a0)) (
 .opt (a1[Int.toNat a0]?) (fun r0 =>
 .ite (decide (r0.from' = a3) && (decide (r0.to = a4) && (decide (r0.fromPort = a5) && (decide (r0.toPort = a6) && true)))) (
 .ite (true) (
 .ret (Sum.inr (Sum.inl (a0, (a3, (a4, (a5, (a6, ())))))))) (
 .ret (Sum.inl (IntKind.wrap IntKind.i64 (a0 + (1 : Int)), (a1, (a2, (a3, (a4, (a5, (a6, ())))))))))) (
 .opt ((trTurned_fn (a3, (a4, (a5, (a6, ())))))) (fun r1 =>
 .ite (decide (r0.from' = r1.1) && (decide (r0.to = r1.2.1) && (decide (r0.fromPort = r1.2.2.1) && (decide (r0.toPort = r1.2.2.2.1) && true)))) (
 .ret (Sum.inr (Sum.inl (a0, (a3, (a4, (a5, (a6, ())))))))) (
 .ret (Sum.inl (IntKind.wrap IntKind.i64 (a0 + (1 : Int)), (a1, (a2, (a3, (a4, (a5, (a6, ())))))))))))))) (
 .ret (Sum.inr (Sum.inr (a3, (a4, (a5, (a6, ())))))))
def trPlace_loop80_2 (x : (Int × ((List TTalk) × (Int × (Int × (Int × (Int × (Int × Unit)))))))) : Option ((Int × (Int × (Int × (Int × (Int × Unit))))) ⊕ (Int × (Int × (Int × (Int × Unit))))) := loopO 800002 (fun x => (trPlace_step80_2 x).eval) 18446744073709551616 x
def trPlace_ap : List VP1 := [.one (.st 16 false), .agg [.i .u32, .i .u32, .i .i64, .i .i64]]
def trPlace_rp : SP := ⟨1, [(0, .v (.one (.i .i64)))], []⟩
def trPlace_tree : ((List TTalk) × (Int × (Int × (Int × (Int × Unit))))) -> Tr (Int × Unit) :=
 fun (a0, a1, a2, a3, a4, _) =>
 .opt ((trPlace_loop80_2 ((0 : Int), (a0, ((↑(List.length a0) : Int), (a1, (a2, (a3, (a4, ()))))))))) (fun r0 =>
 .sum (r0) (fun r1 =>
 .ret (r1.1, ())) (fun r1 =>
 .ret ((-1 : Int), ())))
noncomputable def gm27 : List (PF Go.Proofs.Tryd.prog) := [clTalk, GS.pf delTalk, FS.pf trTurned, FS.pf trPort, FS.pf trRoad, FS.pf trForm]
theorem trPlace_eq (x : ((List TTalk) × (Int × (Int × (Int × (Int × Unit)))))) : fnTr Tryd.prog cod gm27 [(80, trPlace_L80_2)] 30 61 trPlace_ap trPlace_rp x = trPlace_tree x := by kernel_rfl
def trPlace_fn (x : ((List TTalk) × (Int × (Int × (Int × (Int × Unit)))))) : Option (Int × Unit) := (trPlace_tree x).eval
def trPlace : FS Tryd.prog := ⟨61, trPlace_ap, trPlace_rp, trPlace_fn, fun x r h => fnTr_sound (cod := cod) (Γ := gm27) (Λs := [(80, trPlace_L80_2)]) (n := 30) ((congrArg Tr.eval (trPlace_eq x)).trans h)⟩
def trCheck_L40_4 : LS := ⟨4, [], ⟨42, [(10, .v (.one (.i .i64))), (0, .v (.one (.st 16 false))), (8, .v (.one (.st 16 false))), (9, .v (.one (.i .i64)))], []⟩, [⟨none, [], ⟨42, [(2, .v (.one (.i .i64)))], []⟩⟩, ⟨some 0, [], ⟨42, [], []⟩⟩], []⟩
def trCheck_step40_4 : (Int × ((List TTalk) × ((List TTalk) × (Int × Unit)))) -> Tr ((Int × ((List TTalk) × ((List TTalk) × (Int × Unit)))) ⊕ ((Int × Unit) ⊕ Unit)) :=
 fun (a0, a1, a2, a3, _) =>
 .ite (decide (a0 < a3)) (
 .grd (decide ((0 : Int) <= a0)) (
 .opt (a2[Int.toNat a0]?) (fun r0 =>
 .opt ((trForm_fn (r0.from', (r0.to, (r0.fromPort, (r0.toPort, (r0.state, (r0.over, (r0.at', ()))))))))) (fun r1 =>
 .ite (!r1.1) (
 .ret (Sum.inr (Sum.inl ((4 : Int), ())))) (
 .ite (decide ((0 : Int) < a0)) (
 .grd (decide ((0 : Int) <= IntKind.wrap IntKind.i64 (a0 - (1 : Int)))) (
 .opt (a1[Int.toNat (IntKind.wrap IntKind.i64 (a0 - (1 : Int)))]?) (fun r2 =>
 .ite (decide (r0.at' < r2.at')) (
 .ret (Sum.inr (Sum.inl ((4 : Int), ())))) (
 .opt ((trPlace_fn (a1, (r0.from', (r0.to, (r0.fromPort, (r0.toPort, ()))))))) (fun r3 =>
 .ite (!decide (r3.1 = a0)) (
 .ret (Sum.inr (Sum.inl ((4 : Int), ())))) (
 .ret (Sum.inl (IntKind.wrap IntKind.i64 (a0 + (1 : Int)), (a1, (a2, (a3, ()))))))))))) (
 .opt ((trPlace_fn (a1, (r0.from', (r0.to, (r0.fromPort, (r0.toPort, ()))))))) (fun r2 =>
 .ite (!decide (r2.1 = a0)) (
 .ret (Sum.inr (Sum.inl ((4 : Int), ())))) (
 .ret (Sum.inl (IntKind.wrap IntKind.i64 (a0 + (1 : Int)), (a1, (a2, (a3, ()))))))))))))) (
 .ret (Sum.inr (Sum.inr ())))
def trCheck_loop40_4 (x : (Int × ((List TTalk) × ((List TTalk) × (Int × Unit))))) : Option ((Int × Unit) ⊕ Unit) := loopO 400004 (fun x => (trCheck_step40_4 x).eval) 18446744073709551616 x
def trCheck_ap : List VP1 := [.one (.st 16 false)]
def trCheck_rp : SP := ⟨1, [(0, .v (.one (.i .i64)))], []⟩
def trCheck_tree : ((List TTalk) × Unit) -> Tr (Int × Unit) :=
 fun (a0, _) =>
 .ite (decide ((64 : Int) < (↑(List.length a0) : Int))) (
 .ret ((2 : Int), ())) (
 .opt ((trCheck_loop40_4 ((0 : Int), (a0, (a0, ((↑(List.length a0) : Int), ())))))) (fun r0 =>
 .sum (r0) (fun r1 =>
 .ret (r1.1, ())) (fun r1 =>
 .ret ((0 : Int), ()))))
noncomputable def gm28 : List (PF Go.Proofs.Tryd.prog) := [clTalk, GS.pf delTalk, FS.pf trTurned, FS.pf trPort, FS.pf trRoad, FS.pf trForm, FS.pf trPlace]
theorem trCheck_eq (x : ((List TTalk) × Unit)) : fnTr Tryd.prog cod gm28 [(40, trCheck_L40_4)] 30 40 trCheck_ap trCheck_rp x = trCheck_tree x := by kernel_rfl
def trCheck_fn (x : ((List TTalk) × Unit)) : Option (Int × Unit) := (trCheck_tree x).eval
def trCheck : FS Tryd.prog := ⟨40, trCheck_ap, trCheck_rp, trCheck_fn, fun x r h => fnTr_sound (cod := cod) (Γ := gm28) (Λs := [(40, trCheck_L40_4)]) (n := 30) ((congrArg Tr.eval (trCheck_eq x)).trans h)⟩
def trOld_ap : List VP1 := [.agg [.i .u32, .i .u32, .i .i64, .i .i64, .i .i64, .i .i64, .i .i64], .one (.i .i64)]
def trOld_rp : SP := ⟨1, [(0, .v (.one (.b)))], []⟩
def trOld_tree : (Int × (Int × (Int × (Int × (Int × (Int × (Int × (Int × Unit)))))))) -> Tr (Bool × Unit) :=
 fun (a0, a1, a2, a3, a4, a5, a6, a7, _) =>
 .ite (decide (a4 = (3 : Int))) (
 .ret (decide ((3000 : Int) < IntKind.wrap IntKind.i64 (a7 - a6)), ())) (
 .ite (decide (a4 = (4 : Int))) (
 .ret (decide ((60 : Int) < IntKind.wrap IntKind.i64 (a7 - a6)), ())) (
 .ret (decide ((30 : Int) < IntKind.wrap IntKind.i64 (a7 - a6)), ())))
noncomputable def gm29 : List (PF Go.Proofs.Tryd.prog) := [clTalk, GS.pf delTalk, FS.pf trTurned, FS.pf trPort, FS.pf trRoad, FS.pf trForm, FS.pf trPlace, FS.pf trCheck]
theorem trOld_eq (x : (Int × (Int × (Int × (Int × (Int × (Int × (Int × (Int × Unit))))))))) : fnTr Tryd.prog cod gm29 [] 30 98 trOld_ap trOld_rp x = trOld_tree x := by kernel_rfl
def trOld_fn (x : (Int × (Int × (Int × (Int × (Int × (Int × (Int × (Int × Unit))))))))) : Option (Bool × Unit) := (trOld_tree x).eval
def trOld : FS Tryd.prog := ⟨98, trOld_ap, trOld_rp, trOld_fn, fun x r h => fnTr_sound (cod := cod) (Γ := gm29) (Λs := []) (n := 30) ((congrArg Tr.eval (trOld_eq x)).trans h)⟩
def dfTalk_L100_5 : LS := ⟨5, [(1000100, 1000100), (1000200, 1000200)], ⟨42, [(6, .v (.one (.i .i64))), (5, .v (.one (.i .i64))), (0, .v (.one (.own 1000100))), (1, .v (.one (.clp 101 [(1000200, 0)])))], [(1000100, .row 109 16 true true), (1000200, .cells [.i .i64])]⟩, [⟨some 0, [(1000100, 1000100), (1000200, 1000200)], ⟨42, [(5, .v (.one (.i .i64))), (0, .v (.one (.own 1000100)))], [(1000100, .row 109 16 true true), (1000200, .cells [.i .i64])]⟩⟩], []⟩
def dfTalk_step100_5 : (Int × (Int × ((List TTalk) × (Int × Unit)))) -> Tr ((Int × (Int × ((List TTalk) × (Int × Unit)))) ⊕ (Int × ((List TTalk) × (Int × Unit)))) :=
 fun (a0, a1, a2, a3, _) =>
 .ite (decide (a0 < (↑(List.length a2) : Int))) (
 .grd (decide ((0 : Int) <= a0 /\ a0 < (↑(List.length a2) : Int))) (
 .opt (a2[Int.toNat a0]?) (fun r0 =>
 .opt ((trOld_fn (r0.from', (r0.to, (r0.fromPort, (r0.toPort, (r0.state, (r0.over, (r0.at', (a3, ())))))))))) (fun r1 =>
 .ite (!r1.1) (
 .grd (decide ((0 : Int) <= a1 /\ a1 < (↑(List.length a2) : Int))) (
 .opt (a2[Int.toNat a1]?) (fun r2 =>
 .grd (decide (List.length a2 = List.length (List.set a2 (Int.toNat a1) (TTalk.mk r0.from' r0.to r0.fromPort r0.toPort r0.state r0.over r0.at')))) (
 .ret (Sum.inl (IntKind.wrap IntKind.i64 (a0 + (1 : Int)), (IntKind.wrap IntKind.i64 (a1 + (1 : Int)), (List.set a2 (Int.toNat a1) (TTalk.mk r0.from' r0.to r0.fromPort r0.toPort r0.state r0.over r0.at'), (a3, ()))))))))) (
 .grd (decide (List.length a2 = List.length a2)) (
 .ret (Sum.inl (IntKind.wrap IntKind.i64 (a0 + (1 : Int)), (a1, (a2, (a3, ()))))))))))) (
 .grd (decide (List.length a2 = List.length a2)) (
 .ret (Sum.inr (a1, (a2, (a3, ()))))))
def dfTalk_loop100_5 (x : (Int × (Int × ((List TTalk) × (Int × Unit))))) : Option (Int × ((List TTalk) × (Int × Unit))) := loopO 1000005 (fun x => (dfTalk_step100_5 x).eval) 18446744073709551616 x
def dfTalk_L80_2 : LS := ⟨2, [(1000200, 1000200)], ⟨19, [(8, .v (.one (.i .i64))), (0, .v (.one (.st 16 false))), (1, .v (.one (.clp 101 [(1000200, 0)]))), (7, .v (.one (.i .i64)))], [(1000200, .cells [.i .i64])]⟩, [⟨none, [(1000200, 1000200)], ⟨19, [(4, .v (.one (.i .i64)))], [(1000200, .cells [.i .i64])]⟩⟩, ⟨some 0, [(1000200, 1000200)], ⟨19, [], [(1000200, .cells [.i .i64])]⟩⟩], []⟩
def dfTalk_step80_2 : (Int × ((List TTalk) × (Int × (Int × Unit)))) -> Tr ((Int × ((List TTalk) × (Int × (Int × Unit)))) ⊕ ((Int × (Int × Unit)) ⊕ (Int × Unit))) :=
 fun (a0, a1, a2, a3, _) =>
 .ite (decide (a0 < a2)) (
 .grd (decide ((0 : Int) <= a0)) (
 .opt (a1[Int.toNat a0]?) (fun r0 =>
 .opt ((trOld_fn (r0.from', (r0.to, (r0.fromPort, (r0.toPort, (r0.state, (r0.over, (r0.at', (a3, ())))))))))) (fun r1 =>
 .ite (r1.1) (
 .ret (Sum.inr (Sum.inl (a0, (a3, ()))))) (
 .ret (Sum.inl (IntKind.wrap IntKind.i64 (a0 + (1 : Int)), (a1, (a2, (a3, ())))))))))) (
 .ret (Sum.inr (Sum.inr (a3, ()))))
def dfTalk_loop80_2 (x : (Int × ((List TTalk) × (Int × (Int × Unit))))) : Option ((Int × (Int × Unit)) ⊕ (Int × Unit)) := loopO 800002 (fun x => (dfTalk_step80_2 x).eval) 18446744073709551616 x
def dfTalk_ap : SP := ⟨42, [(0, .v (.one (.own 1000100))), (1, .v (.one (.clp 101 [(1000200, 0)])))], [(1000200, .cells [.i .i64]), (1000100, .row 109 16 true true)]⟩
def dfTalk_rp : SP := ⟨1, [(0, .v (.one (.own 1000100)))], [(1000200, .cells [.i .i64]), (1000100, .row 109 16 true true)]⟩
def dfTalk_tree : (Int × ((List TTalk) × Unit)) -> Tr (Int × ((List TTalk) × Unit)) :=
 fun (a0, a1, _) =>
 .opt ((dfTalk_loop80_2 ((0 : Int), (a1, ((↑(List.length a1) : Int), (a0, ())))))) (fun r0 =>
 .sum (r0) (fun r1 =>
 .ite (decide (r1.1 = (-1 : Int))) (
 .grd (decide (List.length a1 = List.length a1)) (
 .ret (r1.2.1, (a1, ())))) (
 .grd (decide (List.length a1 = List.length a1)) (
 .opt ((dfTalk_loop100_5 (IntKind.wrap IntKind.i64 (r1.1 + (1 : Int)), (r1.1, (a1, (r1.2.1, ())))))) (fun r2 =>
 .grd (decide ((0 : Int) <= r2.1 /\ r2.1 <= (↑(List.length r2.2.fst) : Int) /\ (↑(List.length r2.2.fst) : Int) <= (↑(List.length r2.2.fst) : Int))) (
 .grd (decide (Int.toNat r2.1 + Int.toNat ((↑(List.length r2.2.fst) : Int) - r2.1) <= List.length r2.2.1)) (
 .grd (decide ((0 : Int) <= r2.1 /\ r2.1 <= (↑(List.length r2.2.fst) : Int))) (
 .grd (decide (Int.toNat r2.1 = List.length (List.take (Int.toNat r2.1) (List.take (Int.toNat r2.1) r2.2.1 ++ List.replicate (Int.toNat ((↑(List.length r2.2.fst) : Int) - r2.1)) (TTalk.mk (0 : Int) (0 : Int) (0 : Int) (0 : Int) (0 : Int) (0 : Int) (0 : Int)) ++ List.drop (Int.toNat r2.1 + List.length (List.replicate (Int.toNat ((↑(List.length r2.2.fst) : Int) - r2.1)) (TTalk.mk (0 : Int) (0 : Int) (0 : Int) (0 : Int) (0 : Int) (0 : Int) (0 : Int)))) r2.2.1)))) (
 .ret (r2.2.2.1, (List.take (Int.toNat r2.1) (List.take (Int.toNat r2.1) r2.2.1 ++ List.replicate (Int.toNat ((↑(List.length r2.2.fst) : Int) - r2.1)) (TTalk.mk (0 : Int) (0 : Int) (0 : Int) (0 : Int) (0 : Int) (0 : Int) (0 : Int)) ++ List.drop (Int.toNat r2.1 + List.length (List.replicate (Int.toNat ((↑(List.length r2.2.fst) : Int) - r2.1)) (TTalk.mk (0 : Int) (0 : Int) (0 : Int) (0 : Int) (0 : Int) (0 : Int) (0 : Int)))) r2.2.1), ())))))))))) (fun r1 =>
 .ite (true) (
 .grd (decide (List.length a1 = List.length a1)) (
 .ret (r1.1, (a1, ())))) (
 .grd (decide (List.length a1 = List.length a1)) (
 .opt ((dfTalk_loop100_5 ((0 : Int), ((-1 : Int), (a1, (r1.1, ())))))) (fun r2 =>
 .grd (decide ((0 : Int) <= r2.1 /\ r2.1 <= (↑(List.length r2.2.fst) : Int) /\ (↑(List.length r2.2.fst) : Int) <= (↑(List.length r2.2.fst) : Int))) (
 .grd (decide (Int.toNat r2.1 + Int.toNat ((↑(List.length r2.2.fst) : Int) - r2.1) <= List.length r2.2.1)) (
 .grd (decide ((0 : Int) <= r2.1 /\ r2.1 <= (↑(List.length r2.2.fst) : Int))) (
 .grd (decide (Int.toNat r2.1 = List.length (List.take (Int.toNat r2.1) (List.take (Int.toNat r2.1) r2.2.1 ++ List.replicate (Int.toNat ((↑(List.length r2.2.fst) : Int) - r2.1)) (TTalk.mk (0 : Int) (0 : Int) (0 : Int) (0 : Int) (0 : Int) (0 : Int) (0 : Int)) ++ List.drop (Int.toNat r2.1 + List.length (List.replicate (Int.toNat ((↑(List.length r2.2.fst) : Int) - r2.1)) (TTalk.mk (0 : Int) (0 : Int) (0 : Int) (0 : Int) (0 : Int) (0 : Int) (0 : Int)))) r2.2.1)))) (
 .ret (r2.2.2.1, (List.take (Int.toNat r2.1) (List.take (Int.toNat r2.1) r2.2.1 ++ List.replicate (Int.toNat ((↑(List.length r2.2.fst) : Int) - r2.1)) (TTalk.mk (0 : Int) (0 : Int) (0 : Int) (0 : Int) (0 : Int) (0 : Int) (0 : Int)) ++ List.drop (Int.toNat r2.1 + List.length (List.replicate (Int.toNat ((↑(List.length r2.2.fst) : Int) - r2.1)) (TTalk.mk (0 : Int) (0 : Int) (0 : Int) (0 : Int) (0 : Int) (0 : Int) (0 : Int)))) r2.2.1), ())))))))))))
noncomputable def gm30 : List (PF Go.Proofs.Tryd.prog) := [clTalk, GS.pf delTalk, FS.pf trTurned, FS.pf trPort, FS.pf trRoad, FS.pf trForm, FS.pf trPlace, FS.pf trCheck, FS.pf trOld]
theorem dfTalk_eq (x : (Int × ((List TTalk) × Unit))) : gsTr Tryd.prog cod gm30 [(100, dfTalk_L100_5), (80, dfTalk_L80_2)] 30 100 dfTalk_ap dfTalk_rp x = dfTalk_tree x := by kernel_rfl
def dfTalk_fn (x : (Int × ((List TTalk) × Unit))) : Option (Int × ((List TTalk) × Unit)) := (dfTalk_tree x).eval
def dfTalk : GS Tryd.prog := ⟨100, [1, 0], dfTalk_ap, dfTalk_rp, dfTalk_fn, fun x r h ys m g he hg => gs_sound (cod := cod) (Γ := gm30) (Λs := [(100, dfTalk_L100_5), (80, dfTalk_L80_2)]) (n := 30) ((congrArg Tr.eval (dfTalk_eq x)).trans h) he hg⟩
def trOpen_ap : SP := ⟨52, [(0, .v (.one (.ptr 1000000 0))), (1, .v (.agg [.b, .b, .b, .b, .b]))], [(1000000, .cells [.i .u32, .i .u32, .i .i64, .i .i64, .i .i64, .i .i64, .i .i64])]⟩
def trOpen_rp : SP := ⟨1, [(0, .v (.one (.b)))], [(1000000, .cells [.i .u32, .i .u32, .i .i64, .i .i64, .i .i64, .i .i64, .i .i64])]⟩
abbrev ty3_ : Type := (Bool × (Bool × (Bool × (Bool × (Bool × (Int × (Int × (Int × (Int × (Int × (Int × (Int × Unit))))))))))))
def trOpen_tree : ty3_ -> Tr (Bool × (Int × (Int × (Int × (Int × (Int × (Int × (Int × Unit)))))))) :=
 fun (a0, a1, a2, a3, a4, a5, a6, a7, a8, a9, a10, a11, _) =>
 .ite (!a1) (
 .ret (false, (a5, (a6, (a7, (a8, (a9, (a10, (a11, ()))))))))) (
 .ite (a0) (
 .ret (false, (a5, (a6, (a7, (a8, (a9, (a10, (a11, ()))))))))) (
 .ite (a2) (
 .ite (a4) (
 .ite (decide (bits BinOp.or IntKind.i64 a10 (1 : Int) = (3 : Int))) (
 .ret (true, (a5, (a6, (a7, (a8, ((4 : Int), (bits BinOp.or IntKind.i64 a10 (1 : Int), (a11, ()))))))))) (
 .ret (true, (a5, (a6, (a7, (a8, (if false = true then if (3 : Int) < a9 then (3 : Int) else a9 else if (3 : Int) > a9 then (3 : Int) else a9, (bits BinOp.or IntKind.i64 a10 (1 : Int), (a11, ())))))))))) (
 .ite (a2) (
 .ite (decide (bits BinOp.or IntKind.i64 a10 (2 : Int) = (3 : Int))) (
 .ret (true, (a5, (a6, (a7, (a8, ((4 : Int), (bits BinOp.or IntKind.i64 a10 (2 : Int), (a11, ()))))))))) (
 .ret (true, (a5, (a6, (a7, (a8, (if false = true then if (3 : Int) < a9 then (3 : Int) else a9 else if (3 : Int) > a9 then (3 : Int) else a9, (bits BinOp.or IntKind.i64 a10 (2 : Int), (a11, ())))))))))) (
 .ite (decide (a10 = (3 : Int))) (
 .ret (true, (a5, (a6, (a7, (a8, ((4 : Int), (a10, (a11, ()))))))))) (
 .ret (true, (a5, (a6, (a7, (a8, (if false = true then if (3 : Int) < a9 then (3 : Int) else a9 else if (3 : Int) > a9 then (3 : Int) else a9, (a10, (a11, ())))))))))))) (
 .ite (a2) (
 .ite (decide (bits BinOp.or IntKind.i64 a10 (2 : Int) = (3 : Int))) (
 .ret (true, (a5, (a6, (a7, (a8, ((4 : Int), (bits BinOp.or IntKind.i64 a10 (2 : Int), (a11, ()))))))))) (
 .ret (true, (a5, (a6, (a7, (a8, (if false = true then if (3 : Int) < a9 then (3 : Int) else a9 else if (3 : Int) > a9 then (3 : Int) else a9, (bits BinOp.or IntKind.i64 a10 (2 : Int), (a11, ())))))))))) (
 .ite (decide (a10 = (3 : Int))) (
 .ret (true, (a5, (a6, (a7, (a8, ((4 : Int), (a10, (a11, ()))))))))) (
 .ret (true, (a5, (a6, (a7, (a8, (if false = true then if (3 : Int) < a9 then (3 : Int) else a9 else if (3 : Int) > a9 then (3 : Int) else a9, (a10, (a11, ())))))))))))))
noncomputable def gm31 : List (PF Go.Proofs.Tryd.prog) := [clTalk, GS.pf delTalk, FS.pf trTurned, FS.pf trPort, FS.pf trRoad, FS.pf trForm, FS.pf trPlace, FS.pf trCheck, FS.pf trOld, GS.pf dfTalk]
theorem trOpen_eq (x : ty3_) : gsTr Tryd.prog cod gm31 [] 30 108 trOpen_ap trOpen_rp x = trOpen_tree x := by kernel_rfl
def trOpen_fn (x : ty3_) : Option (Bool × (Int × (Int × (Int × (Int × (Int × (Int × (Int × Unit)))))))) := (trOpen_tree x).eval
def trOpen : GS Tryd.prog := ⟨108, [0, 0], trOpen_ap, trOpen_rp, trOpen_fn, fun x r h ys m g he hg => gs_sound (cod := cod) (Γ := gm31) (Λs := []) (n := 30) ((congrArg Tr.eval (trOpen_eq x)).trans h) he hg⟩
def trPasses_L102_100002 : LS := ⟨100002, [], ⟨0, [], []⟩, [⟨some 9998, [(1000000, 1000000), (3, 3)], ⟨79, [(0, .v (.one (.ptr 1000000 0))), (3, .v (.one (.ptr 3 0))), (6, .v (.one (.b))), (5, .v (.one (.b)))], [(1000000, .cells [.i .u32, .i .u32, .i .i64, .i .i64, .i .i64, .i .i64, .i .i64]), (3, .cells [.b, .b, .b, .b, .b])]⟩⟩], []⟩
def trPasses_L102_100001 : LS := ⟨100001, [], ⟨0, [], []⟩, [⟨some 9998, [(1000000, 1000000), (3, 3)], ⟨79, [(0, .v (.one (.ptr 1000000 0))), (3, .v (.one (.ptr 3 0))), (5, .v (.one (.b)))], [(1000000, .cells [.i .u32, .i .u32, .i .i64, .i .i64, .i .i64, .i .i64, .i .i64]), (3, .cells [.b, .b, .b, .b, .b])]⟩⟩], []⟩
def trPasses_ap : SP := ⟨79, [(0, .v (.one (.ptr 1000000 0))), (1, .v (.agg [.b, .b, .b, .b, .b]))], [(1000000, .cells [.i .u32, .i .u32, .i .i64, .i .i64, .i .i64, .i .i64, .i .i64])]⟩
def trPasses_rp : SP := ⟨1, [(0, .v (.one (.b)))], [(1000000, .cells [.i .u32, .i .u32, .i .i64, .i .i64, .i .i64, .i .i64, .i .i64])]⟩
abbrev ty4_ : Type := (Bool × (Int × (Int × (Int × (Int × (Int × (Int × (Int × (Bool × (Bool × (Bool × (Bool × (Bool × Unit)))))))))))))
abbrev ty5_ : Type := (Bool × (Bool × (Int × (Int × (Int × (Int × (Int × (Int × (Int × (Bool × (Bool × (Bool × (Bool × (Bool × Unit))))))))))))))
def trPasses_tree : ty3_ -> Tr (Bool × (Int × (Int × (Int × (Int × (Int × (Int × (Int × Unit)))))))) :=
 fun (a0, a1, a2, a3, a4, a5, a6, a7, a8, a9, a10, a11, _) =>
 .opt (Tr.eval (α := ty4_) (
 .ite (a4) (
 .ite (a0) (
 .ite (!a1) (
 .ret (!a2, (a5, (a6, (a7, (a8, (a9, (a10, (a11, (a0, (a1, (a2, (a3, (a4, ())))))))))))))) (
 .ret (false, (a5, (a6, (a7, (a8, (a9, (a10, (a11, (a0, (a1, (a2, (a3, (a4, ()))))))))))))))) (
 .ret (false, (a5, (a6, (a7, (a8, (a9, (a10, (a11, (a0, (a1, (a2, (a3, (a4, ()))))))))))))))) (
 .ret (false, (a5, (a6, (a7, (a8, (a9, (a10, (a11, (a0, (a1, (a2, (a3, (a4, ())))))))))))))))) (fun r0 =>
 .opt (Tr.eval (α := ty5_) (
 .ite (!r0.2.2.2.2.2.2.2.2.2.2.2.2.1) (
 .ite (r0.2.2.2.2.2.2.2.2.1) (
 .ite (r0.2.2.2.2.2.2.2.2.2.1) (
 .ret (!r0.2.2.2.2.2.2.2.2.2.2.1, (r0.1, (r0.2.1, (r0.2.2.1, (r0.2.2.2.1, (r0.2.2.2.2.1, (r0.2.2.2.2.2.1, (r0.2.2.2.2.2.2.1, (r0.2.2.2.2.2.2.2.1, (r0.2.2.2.2.2.2.2.2.1, (r0.2.2.2.2.2.2.2.2.2.1, (r0.2.2.2.2.2.2.2.2.2.2.1, (r0.2.2.2.2.2.2.2.2.2.2.2.1, (r0.2.2.2.2.2.2.2.2.2.2.2.2.1, ()))))))))))))))) (
 .ret (false, (r0.1, (r0.2.1, (r0.2.2.1, (r0.2.2.2.1, (r0.2.2.2.2.1, (r0.2.2.2.2.2.1, (r0.2.2.2.2.2.2.1, (r0.2.2.2.2.2.2.2.1, (r0.2.2.2.2.2.2.2.2.1, (r0.2.2.2.2.2.2.2.2.2.1, (r0.2.2.2.2.2.2.2.2.2.2.1, (r0.2.2.2.2.2.2.2.2.2.2.2.1, (r0.2.2.2.2.2.2.2.2.2.2.2.2.1, ())))))))))))))))) (
 .ret (false, (r0.1, (r0.2.1, (r0.2.2.1, (r0.2.2.2.1, (r0.2.2.2.2.1, (r0.2.2.2.2.2.1, (r0.2.2.2.2.2.2.1, (r0.2.2.2.2.2.2.2.1, (r0.2.2.2.2.2.2.2.2.1, (r0.2.2.2.2.2.2.2.2.2.1, (r0.2.2.2.2.2.2.2.2.2.2.1, (r0.2.2.2.2.2.2.2.2.2.2.2.1, (r0.2.2.2.2.2.2.2.2.2.2.2.2.1, ())))))))))))))))) (
 .ret (false, (r0.1, (r0.2.1, (r0.2.2.1, (r0.2.2.2.1, (r0.2.2.2.2.1, (r0.2.2.2.2.2.1, (r0.2.2.2.2.2.2.1, (r0.2.2.2.2.2.2.2.1, (r0.2.2.2.2.2.2.2.2.1, (r0.2.2.2.2.2.2.2.2.2.1, (r0.2.2.2.2.2.2.2.2.2.2.1, (r0.2.2.2.2.2.2.2.2.2.2.2.1, (r0.2.2.2.2.2.2.2.2.2.2.2.2.1, ()))))))))))))))))) (fun r1 =>
 .ite (decide (r1.2.2.2.2.2.2.1 <= (2 : Int))) (
 .ite (r1.2.1) (
 .ret (true, (r1.2.2.1, (r1.2.2.2.1, (r1.2.2.2.2.1, (r1.2.2.2.2.2.1, (r1.2.2.2.2.2.2.1, (r1.2.2.2.2.2.2.2.1, (r1.2.2.2.2.2.2.2.2.1, ()))))))))) (
 .ite (decide (r1.2.2.2.2.2.2.1 <= (2 : Int))) (
 .ite (r1.1) (
 .ret (true, (r1.2.2.1, (r1.2.2.2.1, (r1.2.2.2.2.1, (r1.2.2.2.2.2.1, ((2 : Int), (r1.2.2.2.2.2.2.2.1, (r1.2.2.2.2.2.2.2.2.1, ()))))))))) (
 .ite (decide (r1.2.2.2.2.2.2.1 = (1 : Int))) (
 .ret (false, (r1.2.2.1, (r1.2.2.2.1, (r1.2.2.2.2.1, (r1.2.2.2.2.2.1, (r1.2.2.2.2.2.2.1, (r1.2.2.2.2.2.2.2.1, (r1.2.2.2.2.2.2.2.2.1, ()))))))))) (
 .ite (decide (r1.2.2.2.2.2.2.1 = (2 : Int))) (
 .ite (!r1.2.2.2.2.2.2.2.2.2.2.2.2.2.1) (
 .ret (false, (r1.2.2.1, (r1.2.2.2.1, (r1.2.2.2.2.1, (r1.2.2.2.2.2.1, (r1.2.2.2.2.2.2.1, (r1.2.2.2.2.2.2.2.1, (r1.2.2.2.2.2.2.2.2.1, ()))))))))) (
 .opt ((trOpen_fn (r1.2.2.2.2.2.2.2.2.2.1, (r1.2.2.2.2.2.2.2.2.2.2.1, (r1.2.2.2.2.2.2.2.2.2.2.2.1, (r1.2.2.2.2.2.2.2.2.2.2.2.2.1, (r1.2.2.2.2.2.2.2.2.2.2.2.2.2.1, (r1.2.2.1, (r1.2.2.2.1, (r1.2.2.2.2.1, (r1.2.2.2.2.2.1, (r1.2.2.2.2.2.2.1, (r1.2.2.2.2.2.2.2.1, (r1.2.2.2.2.2.2.2.2.1, ())))))))))))))) (fun r2 =>
 .ret (r2.1, (r2.2.1, (r2.2.2.1, (r2.2.2.2.1, (r2.2.2.2.2.1, (r2.2.2.2.2.2.1, (r2.2.2.2.2.2.2.1, (r2.2.2.2.2.2.2.2.1, ()))))))))))) (
 .opt ((trOpen_fn (r1.2.2.2.2.2.2.2.2.2.1, (r1.2.2.2.2.2.2.2.2.2.2.1, (r1.2.2.2.2.2.2.2.2.2.2.2.1, (r1.2.2.2.2.2.2.2.2.2.2.2.2.1, (r1.2.2.2.2.2.2.2.2.2.2.2.2.2.1, (r1.2.2.1, (r1.2.2.2.1, (r1.2.2.2.2.1, (r1.2.2.2.2.2.1, (r1.2.2.2.2.2.2.1, (r1.2.2.2.2.2.2.2.1, (r1.2.2.2.2.2.2.2.2.1, ())))))))))))))) (fun r2 =>
 .ret (r2.1, (r2.2.1, (r2.2.2.1, (r2.2.2.2.1, (r2.2.2.2.2.1, (r2.2.2.2.2.2.1, (r2.2.2.2.2.2.2.1, (r2.2.2.2.2.2.2.2.1, ()))))))))))))) (
 .ite (decide (r1.2.2.2.2.2.2.1 = (1 : Int))) (
 .ret (false, (r1.2.2.1, (r1.2.2.2.1, (r1.2.2.2.2.1, (r1.2.2.2.2.2.1, (r1.2.2.2.2.2.2.1, (r1.2.2.2.2.2.2.2.1, (r1.2.2.2.2.2.2.2.2.1, ()))))))))) (
 .ite (decide (r1.2.2.2.2.2.2.1 = (2 : Int))) (
 .ite (!r1.2.2.2.2.2.2.2.2.2.2.2.2.2.1) (
 .ret (false, (r1.2.2.1, (r1.2.2.2.1, (r1.2.2.2.2.1, (r1.2.2.2.2.2.1, (r1.2.2.2.2.2.2.1, (r1.2.2.2.2.2.2.2.1, (r1.2.2.2.2.2.2.2.2.1, ()))))))))) (
 .opt ((trOpen_fn (r1.2.2.2.2.2.2.2.2.2.1, (r1.2.2.2.2.2.2.2.2.2.2.1, (r1.2.2.2.2.2.2.2.2.2.2.2.1, (r1.2.2.2.2.2.2.2.2.2.2.2.2.1, (r1.2.2.2.2.2.2.2.2.2.2.2.2.2.1, (r1.2.2.1, (r1.2.2.2.1, (r1.2.2.2.2.1, (r1.2.2.2.2.2.1, (r1.2.2.2.2.2.2.1, (r1.2.2.2.2.2.2.2.1, (r1.2.2.2.2.2.2.2.2.1, ())))))))))))))) (fun r2 =>
 .ret (r2.1, (r2.2.1, (r2.2.2.1, (r2.2.2.2.1, (r2.2.2.2.2.1, (r2.2.2.2.2.2.1, (r2.2.2.2.2.2.2.1, (r2.2.2.2.2.2.2.2.1, ()))))))))))) (
 .opt ((trOpen_fn (r1.2.2.2.2.2.2.2.2.2.1, (r1.2.2.2.2.2.2.2.2.2.2.1, (r1.2.2.2.2.2.2.2.2.2.2.2.1, (r1.2.2.2.2.2.2.2.2.2.2.2.2.1, (r1.2.2.2.2.2.2.2.2.2.2.2.2.2.1, (r1.2.2.1, (r1.2.2.2.1, (r1.2.2.2.2.1, (r1.2.2.2.2.2.1, (r1.2.2.2.2.2.2.1, (r1.2.2.2.2.2.2.2.1, (r1.2.2.2.2.2.2.2.2.1, ())))))))))))))) (fun r2 =>
 .ret (r2.1, (r2.2.1, (r2.2.2.1, (r2.2.2.2.1, (r2.2.2.2.2.1, (r2.2.2.2.2.2.1, (r2.2.2.2.2.2.2.1, (r2.2.2.2.2.2.2.2.1, ())))))))))))))) (
 .ite (decide (r1.2.2.2.2.2.2.1 <= (2 : Int))) (
 .ite (r1.1) (
 .ret (true, (r1.2.2.1, (r1.2.2.2.1, (r1.2.2.2.2.1, (r1.2.2.2.2.2.1, ((2 : Int), (r1.2.2.2.2.2.2.2.1, (r1.2.2.2.2.2.2.2.2.1, ()))))))))) (
 .ite (decide (r1.2.2.2.2.2.2.1 = (1 : Int))) (
 .ret (false, (r1.2.2.1, (r1.2.2.2.1, (r1.2.2.2.2.1, (r1.2.2.2.2.2.1, (r1.2.2.2.2.2.2.1, (r1.2.2.2.2.2.2.2.1, (r1.2.2.2.2.2.2.2.2.1, ()))))))))) (
 .ite (decide (r1.2.2.2.2.2.2.1 = (2 : Int))) (
 .ite (!r1.2.2.2.2.2.2.2.2.2.2.2.2.2.1) (
 .ret (false, (r1.2.2.1, (r1.2.2.2.1, (r1.2.2.2.2.1, (r1.2.2.2.2.2.1, (r1.2.2.2.2.2.2.1, (r1.2.2.2.2.2.2.2.1, (r1.2.2.2.2.2.2.2.2.1, ()))))))))) (
 .opt ((trOpen_fn (r1.2.2.2.2.2.2.2.2.2.1, (r1.2.2.2.2.2.2.2.2.2.2.1, (r1.2.2.2.2.2.2.2.2.2.2.2.1, (r1.2.2.2.2.2.2.2.2.2.2.2.2.1, (r1.2.2.2.2.2.2.2.2.2.2.2.2.2.1, (r1.2.2.1, (r1.2.2.2.1, (r1.2.2.2.2.1, (r1.2.2.2.2.2.1, (r1.2.2.2.2.2.2.1, (r1.2.2.2.2.2.2.2.1, (r1.2.2.2.2.2.2.2.2.1, ())))))))))))))) (fun r2 =>
 .ret (r2.1, (r2.2.1, (r2.2.2.1, (r2.2.2.2.1, (r2.2.2.2.2.1, (r2.2.2.2.2.2.1, (r2.2.2.2.2.2.2.1, (r2.2.2.2.2.2.2.2.1, ()))))))))))) (
 .opt ((trOpen_fn (r1.2.2.2.2.2.2.2.2.2.1, (r1.2.2.2.2.2.2.2.2.2.2.1, (r1.2.2.2.2.2.2.2.2.2.2.2.1, (r1.2.2.2.2.2.2.2.2.2.2.2.2.1, (r1.2.2.2.2.2.2.2.2.2.2.2.2.2.1, (r1.2.2.1, (r1.2.2.2.1, (r1.2.2.2.2.1, (r1.2.2.2.2.2.1, (r1.2.2.2.2.2.2.1, (r1.2.2.2.2.2.2.2.1, (r1.2.2.2.2.2.2.2.2.1, ())))))))))))))) (fun r2 =>
 .ret (r2.1, (r2.2.1, (r2.2.2.1, (r2.2.2.2.1, (r2.2.2.2.2.1, (r2.2.2.2.2.2.1, (r2.2.2.2.2.2.2.1, (r2.2.2.2.2.2.2.2.1, ()))))))))))))) (
 .ite (decide (r1.2.2.2.2.2.2.1 = (1 : Int))) (
 .ret (false, (r1.2.2.1, (r1.2.2.2.1, (r1.2.2.2.2.1, (r1.2.2.2.2.2.1, (r1.2.2.2.2.2.2.1, (r1.2.2.2.2.2.2.2.1, (r1.2.2.2.2.2.2.2.2.1, ()))))))))) (
 .ite (decide (r1.2.2.2.2.2.2.1 = (2 : Int))) (
 .ite (!r1.2.2.2.2.2.2.2.2.2.2.2.2.2.1) (
 .ret (false, (r1.2.2.1, (r1.2.2.2.1, (r1.2.2.2.2.1, (r1.2.2.2.2.2.1, (r1.2.2.2.2.2.2.1, (r1.2.2.2.2.2.2.2.1, (r1.2.2.2.2.2.2.2.2.1, ()))))))))) (
 .opt ((trOpen_fn (r1.2.2.2.2.2.2.2.2.2.1, (r1.2.2.2.2.2.2.2.2.2.2.1, (r1.2.2.2.2.2.2.2.2.2.2.2.1, (r1.2.2.2.2.2.2.2.2.2.2.2.2.1, (r1.2.2.2.2.2.2.2.2.2.2.2.2.2.1, (r1.2.2.1, (r1.2.2.2.1, (r1.2.2.2.2.1, (r1.2.2.2.2.2.1, (r1.2.2.2.2.2.2.1, (r1.2.2.2.2.2.2.2.1, (r1.2.2.2.2.2.2.2.2.1, ())))))))))))))) (fun r2 =>
 .ret (r2.1, (r2.2.1, (r2.2.2.1, (r2.2.2.2.1, (r2.2.2.2.2.1, (r2.2.2.2.2.2.1, (r2.2.2.2.2.2.2.1, (r2.2.2.2.2.2.2.2.1, ()))))))))))) (
 .opt ((trOpen_fn (r1.2.2.2.2.2.2.2.2.2.1, (r1.2.2.2.2.2.2.2.2.2.2.1, (r1.2.2.2.2.2.2.2.2.2.2.2.1, (r1.2.2.2.2.2.2.2.2.2.2.2.2.1, (r1.2.2.2.2.2.2.2.2.2.2.2.2.2.1, (r1.2.2.1, (r1.2.2.2.1, (r1.2.2.2.2.1, (r1.2.2.2.2.2.1, (r1.2.2.2.2.2.2.1, (r1.2.2.2.2.2.2.2.1, (r1.2.2.2.2.2.2.2.2.1, ())))))))))))))) (fun r2 =>
 .ret (r2.1, (r2.2.1, (r2.2.2.1, (r2.2.2.2.1, (r2.2.2.2.2.1, (r2.2.2.2.2.2.1, (r2.2.2.2.2.2.2.1, (r2.2.2.2.2.2.2.2.1, ())))))))))))))))
noncomputable def gm32 : List (PF Go.Proofs.Tryd.prog) := [clTalk, GS.pf delTalk, FS.pf trTurned, FS.pf trPort, FS.pf trRoad, FS.pf trForm, FS.pf trPlace, FS.pf trCheck, FS.pf trOld, GS.pf dfTalk, GS.pf trOpen]
theorem trPasses_eq (x : ty3_) : gsTr Tryd.prog cod gm32 [(102, trPasses_L102_100002), (102, trPasses_L102_100001)] 30 102 trPasses_ap trPasses_rp x = trPasses_tree x := by kernel_rfl
def trPasses_fn (x : ty3_) : Option (Bool × (Int × (Int × (Int × (Int × (Int × (Int × (Int × Unit)))))))) := (trPasses_tree x).eval
def trPasses : GS Tryd.prog := ⟨102, [0, 0], trPasses_ap, trPasses_rp, trPasses_fn, fun x r h ys m g he hg => gs_sound (cod := cod) (Γ := gm32) (Λs := [(102, trPasses_L102_100002), (102, trPasses_L102_100001)]) (n := 30) ((congrArg Tr.eval (trPasses_eq x)).trans h) he hg⟩
def trHear_ap : List VP1 := [.one (.st 16 false), .agg [.i .u32, .i .u32, .i .i64, .i .i64], .one (.i .i64), .one (.i .i64)]
def trHear_rp : SP := ⟨1, [(0, .tup [.one (.st 16 true), .one (.b), .one (.i .i64)])], []⟩
def trHear_tree : ((List TTalk) × (Int × (Int × (Int × (Int × (Int × (Int × Unit))))))) -> Tr ((List TTalk) × (Bool × (Int × Unit))) :=
 fun (a0, a1, a2, a3, a4, a5, a6, _) =>
 .grd (decide (((0 : Nat) + List.length a0) * (48 : Nat) <= (140737488355328 : Nat) /\ (0 : Nat) + List.length a0 <= (9223372036854775807 : Nat))) (
 .opt ((trCheck_fn (a0, ()))) (fun r0 =>
 .ite (!decide (r0.1 = (0 : Int))) (
 .ret (a0, (false, (r0.1, ())))) (
 .ite (decide ((0 : Int) < (↑(List.length a0) : Int))) (
 .grd (decide ((0 : Int) <= IntKind.wrap IntKind.i64 ((↑(List.length a0) : Int) - (1 : Int)) /\ IntKind.wrap IntKind.i64 ((↑(List.length a0) : Int) - (1 : Int)) < (↑(List.length a0) : Int))) (
 .opt (a0[Int.toNat (IntKind.wrap IntKind.i64 ((↑(List.length a0) : Int) - (1 : Int)))]?) (fun r1 =>
 .opt ((trRoad_fn (a1, (a2, (a3, (a4, ())))))) (fun r2 =>
 .ite (!r2.1) (
 .ret (a0, (false, ((1 : Int), ())))) (
 .ite (decide (a5 < (0 : Int))) (
 .ret (a0, (false, ((1 : Int), ())))) (
 .ite (decide ((255 : Int) < a5)) (
 .ret (a0, (false, ((1 : Int), ())))) (
 .ite (decide (a6 < r1.at')) (
 .ret (a0, (false, ((1 : Int), ())))) (
 .ite (decide ((1099511627776 : Int) < a6)) (
 .ret (a0, (false, ((1 : Int), ())))) (
 .grd (decide (((0 : Nat) + List.length a0) * (48 : Nat) <= (140737488355328 : Nat) /\ (0 : Nat) + List.length a0 <= (9223372036854775807 : Nat))) (
 .grd (decide (List.length a0 = List.length a0)) (
 .opt ((dfTalk_fn (a6, (a0, ())))) (fun r3 =>
 .opt ((trPlace_fn (r3.2.1, (a1, (a2, (a3, (a4, ()))))))) (fun r4 =>
 .ite (decide (r4.1 < (0 : Int))) (
 .ite (!((!decide (bits BinOp.and IntKind.i64 a5 (2 : Int) = (0 : Int))) == true && ((!decide (bits BinOp.and IntKind.i64 a5 (16 : Int) = (0 : Int))) == false && ((!decide (bits BinOp.and IntKind.i64 a5 (1 : Int) = (0 : Int))) == false && ((!decide (bits BinOp.and IntKind.i64 a5 (4 : Int) = (0 : Int))) == false && true))))) (
 .ret (r3.2.1, (false, ((0 : Int), ())))) (
 .ite (decide ((↑(List.length r3.2.fst) : Int) = (64 : Int))) (
 .ret (a0, (false, ((6 : Int), ())))) (
 .grd (decide ((List.length r3.2.1 + List.length [TTalk.mk a1 a2 a3 a4 (1 : Int) (0 : Int) r3.1]) * (48 : Nat) <= (140737488355328 : Nat) /\ List.length r3.2.1 + List.length [TTalk.mk a1 a2 a3 a4 (1 : Int) (0 : Int) r3.1] <= (9223372036854775807 : Nat))) (
 .ret (r3.2.1 ++ [TTalk.mk a1 a2 a3 a4 (1 : Int) (0 : Int) r3.1], (true, ((0 : Int), ()))))))) (
 .grd (decide ((0 : Int) <= r4.1 /\ r4.1 < (↑(List.length r3.2.fst) : Int))) (
 .opt (r3.2.1[Int.toNat r4.1]?) (fun r5 =>
 .ite (!!decide (bits BinOp.and IntKind.i64 a5 (4 : Int) = (0 : Int))) (
 .opt ((trPasses_fn (!decide (bits BinOp.and IntKind.i64 a5 (2 : Int) = (0 : Int)), (!decide (bits BinOp.and IntKind.i64 a5 (16 : Int) = (0 : Int)), (!decide (bits BinOp.and IntKind.i64 a5 (1 : Int) = (0 : Int)), (!decide (bits BinOp.and IntKind.i64 a5 (4 : Int) = (0 : Int)), (decide (r5.from' = a1) && (decide (r5.to = a2) && (decide (r5.fromPort = a3) && (decide (r5.toPort = a4) && true))), (r5.from', (r5.to, (r5.fromPort, (r5.toPort, (r5.state, (r5.over, (r5.at', ())))))))))))))) (fun r6 =>
 .ite (!r6.1) (
 .ret (r3.2.1, (false, ((0 : Int), ())))) (
 .grd (decide (List.length r3.2.fst = List.length r3.2.1)) (
 .opt ((delTalk_fn (r4.1, (IntKind.wrap IntKind.i64 (r4.1 + (1 : Int)), (r3.2.1, ()))))) (fun r7 =>
 .ite (!decide (bits BinOp.and IntKind.i64 a5 (4 : Int) = (0 : Int))) (
 .ret (r7.1, (true, ((0 : Int), ())))) (
 .grd (decide ((List.length r7.1 + List.length [TTalk.mk r6.2.1 r6.2.2.1 r6.2.2.2.1 r6.2.2.2.2.1 r6.2.2.2.2.2.1 r6.2.2.2.2.2.2.1 r3.1]) * (48 : Nat) <= (140737488355328 : Nat) /\ List.length r7.1 + List.length [TTalk.mk r6.2.1 r6.2.2.1 r6.2.2.2.1 r6.2.2.2.2.1 r6.2.2.2.2.2.1 r6.2.2.2.2.2.2.1 r3.1] <= (9223372036854775807 : Nat))) (
 .ret (r7.1 ++ [TTalk.mk r6.2.1 r6.2.2.1 r6.2.2.2.1 r6.2.2.2.2.1 r6.2.2.2.2.2.1 r6.2.2.2.2.2.2.1 r3.1], (true, ((0 : Int), ())))))))))) (
 .grd (decide (List.length r3.2.fst = List.length r3.2.1)) (
 .opt ((delTalk_fn (r4.1, (IntKind.wrap IntKind.i64 (r4.1 + (1 : Int)), (r3.2.1, ()))))) (fun r6 =>
 .ite (!decide (bits BinOp.and IntKind.i64 a5 (4 : Int) = (0 : Int))) (
 .ret (r6.1, (true, ((0 : Int), ())))) (
 .grd (decide ((List.length r6.1 + List.length [TTalk.mk r5.from' r5.to r5.fromPort r5.toPort r5.state r5.over r3.1]) * (48 : Nat) <= (140737488355328 : Nat) /\ List.length r6.1 + List.length [TTalk.mk r5.from' r5.to r5.fromPort r5.toPort r5.state r5.over r3.1] <= (9223372036854775807 : Nat))) (
 .ret (r6.1 ++ [TTalk.mk r5.from' r5.to r5.fromPort r5.toPort r5.state r5.over r3.1], (true, ((0 : Int), ())))))))))))))))))))))))) (
 .opt ((trRoad_fn (a1, (a2, (a3, (a4, ())))))) (fun r1 =>
 .ite (!r1.1) (
 .ret (a0, (false, ((1 : Int), ())))) (
 .ite (decide (a5 < (0 : Int))) (
 .ret (a0, (false, ((1 : Int), ())))) (
 .ite (decide ((255 : Int) < a5)) (
 .ret (a0, (false, ((1 : Int), ())))) (
 .ite (decide (a6 < (0 : Int))) (
 .ret (a0, (false, ((1 : Int), ())))) (
 .ite (decide ((1099511627776 : Int) < a6)) (
 .ret (a0, (false, ((1 : Int), ())))) (
 .grd (decide (((0 : Nat) + List.length a0) * (48 : Nat) <= (140737488355328 : Nat) /\ (0 : Nat) + List.length a0 <= (9223372036854775807 : Nat))) (
 .grd (decide (List.length a0 = List.length a0)) (
 .opt ((dfTalk_fn (a6, (a0, ())))) (fun r2 =>
 .opt ((trPlace_fn (r2.2.1, (a1, (a2, (a3, (a4, ()))))))) (fun r3 =>
 .ite (decide (r3.1 < (0 : Int))) (
 .ite (!((!decide (bits BinOp.and IntKind.i64 a5 (2 : Int) = (0 : Int))) == true && ((!decide (bits BinOp.and IntKind.i64 a5 (16 : Int) = (0 : Int))) == false && ((!decide (bits BinOp.and IntKind.i64 a5 (1 : Int) = (0 : Int))) == false && ((!decide (bits BinOp.and IntKind.i64 a5 (4 : Int) = (0 : Int))) == false && true))))) (
 .ret (r2.2.1, (false, ((0 : Int), ())))) (
 .ite (decide ((↑(List.length r2.2.fst) : Int) = (64 : Int))) (
 .ret (a0, (false, ((6 : Int), ())))) (
 .grd (decide ((List.length r2.2.1 + List.length [TTalk.mk a1 a2 a3 a4 (1 : Int) (0 : Int) r2.1]) * (48 : Nat) <= (140737488355328 : Nat) /\ List.length r2.2.1 + List.length [TTalk.mk a1 a2 a3 a4 (1 : Int) (0 : Int) r2.1] <= (9223372036854775807 : Nat))) (
 .ret (r2.2.1 ++ [TTalk.mk a1 a2 a3 a4 (1 : Int) (0 : Int) r2.1], (true, ((0 : Int), ()))))))) (
 .grd (decide ((0 : Int) <= r3.1 /\ r3.1 < (↑(List.length r2.2.fst) : Int))) (
 .opt (r2.2.1[Int.toNat r3.1]?) (fun r4 =>
 .ite (!!decide (bits BinOp.and IntKind.i64 a5 (4 : Int) = (0 : Int))) (
 .opt ((trPasses_fn (!decide (bits BinOp.and IntKind.i64 a5 (2 : Int) = (0 : Int)), (!decide (bits BinOp.and IntKind.i64 a5 (16 : Int) = (0 : Int)), (!decide (bits BinOp.and IntKind.i64 a5 (1 : Int) = (0 : Int)), (!decide (bits BinOp.and IntKind.i64 a5 (4 : Int) = (0 : Int)), (decide (r4.from' = a1) && (decide (r4.to = a2) && (decide (r4.fromPort = a3) && (decide (r4.toPort = a4) && true))), (r4.from', (r4.to, (r4.fromPort, (r4.toPort, (r4.state, (r4.over, (r4.at', ())))))))))))))) (fun r5 =>
 .ite (!r5.1) (
 .ret (r2.2.1, (false, ((0 : Int), ())))) (
 .grd (decide (List.length r2.2.fst = List.length r2.2.1)) (
 .opt ((delTalk_fn (r3.1, (IntKind.wrap IntKind.i64 (r3.1 + (1 : Int)), (r2.2.1, ()))))) (fun r6 =>
 .ite (!decide (bits BinOp.and IntKind.i64 a5 (4 : Int) = (0 : Int))) (
 .ret (r6.1, (true, ((0 : Int), ())))) (
 .grd (decide ((List.length r6.1 + List.length [TTalk.mk r5.2.1 r5.2.2.1 r5.2.2.2.1 r5.2.2.2.2.1 r5.2.2.2.2.2.1 r5.2.2.2.2.2.2.1 r2.1]) * (48 : Nat) <= (140737488355328 : Nat) /\ List.length r6.1 + List.length [TTalk.mk r5.2.1 r5.2.2.1 r5.2.2.2.1 r5.2.2.2.2.1 r5.2.2.2.2.2.1 r5.2.2.2.2.2.2.1 r2.1] <= (9223372036854775807 : Nat))) (
 .ret (r6.1 ++ [TTalk.mk r5.2.1 r5.2.2.1 r5.2.2.2.1 r5.2.2.2.2.1 r5.2.2.2.2.2.1 r5.2.2.2.2.2.2.1 r2.1], (true, ((0 : Int), ())))))))))) (
 .grd (decide (List.length r2.2.fst = List.length r2.2.1)) (
 .opt ((delTalk_fn (r3.1, (IntKind.wrap IntKind.i64 (r3.1 + (1 : Int)), (r2.2.1, ()))))) (fun r5 =>
 .ite (!decide (bits BinOp.and IntKind.i64 a5 (4 : Int) = (0 : Int))) (
 .ret (r5.1, (true, ((0 : Int), ())))) (
 .grd (decide ((List.length r5.1 + List.length [TTalk.mk r4.from' r4.to r4.fromPort r4.toPort r4.state r4.over r2.1]) * (48 : Nat) <= (140737488355328 : Nat) /\ List.length r5.1 + List.length [TTalk.mk r4.from' r4.to r4.fromPort r4.toPort r4.state r4.over r2.1] <= (9223372036854775807 : Nat))) (
 .ret (r5.1 ++ [TTalk.mk r4.from' r4.to r4.fromPort r4.toPort r4.state r4.over r2.1], (true, ((0 : Int), ())))))))))))))))))))))))))
noncomputable def gm33 : List (PF Go.Proofs.Tryd.prog) := [clTalk, GS.pf delTalk, FS.pf trTurned, FS.pf trPort, FS.pf trRoad, FS.pf trForm, FS.pf trPlace, FS.pf trCheck, FS.pf trOld, GS.pf dfTalk, GS.pf trOpen, GS.pf trPasses]
theorem trHear_eq (x : ((List TTalk) × (Int × (Int × (Int × (Int × (Int × (Int × Unit)))))))) : fnTr Tryd.prog cod gm33 [] 30 91 trHear_ap trHear_rp x = trHear_tree x := by kernel_rfl
def trHear_fn (x : ((List TTalk) × (Int × (Int × (Int × (Int × (Int × (Int × Unit)))))))) : Option ((List TTalk) × (Bool × (Int × Unit))) := (trHear_tree x).eval
def trHear : FS Tryd.prog := ⟨91, trHear_ap, trHear_rp, trHear_fn, fun x r h => fnTr_sound (cod := cod) (Γ := gm33) (Λs := []) (n := 30) ((congrArg Tr.eval (trHear_eq x)).trans h)⟩
def trFind_ap : List VP1 := [.one (.st 16 false), .agg [.i .u32, .i .u32, .i .i64, .i .i64], .one (.i .i64)]
def trFind_rp : SP := ⟨1, [(0, .tup [.agg [.i .u32, .i .u32, .i .i64, .i .i64, .i .i64, .i .i64, .i .i64], .one (.b), .one (.i .i64)])], []⟩
def trFind_tree : ((List TTalk) × (Int × (Int × (Int × (Int × (Int × Unit)))))) -> Tr (Int × (Int × (Int × (Int × (Int × (Int × (Int × (Bool × (Int × Unit))))))))) :=
 fun (a0, a1, a2, a3, a4, a5, _) =>
 .opt ((trCheck_fn (a0, ()))) (fun r0 =>
 .ite (!decide (r0.1 = (0 : Int))) (
 .ret ((0 : Int), ((0 : Int), ((0 : Int), ((0 : Int), ((0 : Int), ((0 : Int), ((0 : Int), (false, (r0.1, ())))))))))) (
 .ite (decide (a5 < (0 : Int))) (
 .ret ((0 : Int), ((0 : Int), ((0 : Int), ((0 : Int), ((0 : Int), ((0 : Int), ((0 : Int), (false, ((1 : Int), ())))))))))) (
 .ite (decide ((1099511627776 : Int) < a5)) (
 .ret ((0 : Int), ((0 : Int), ((0 : Int), ((0 : Int), ((0 : Int), ((0 : Int), ((0 : Int), (false, ((1 : Int), ())))))))))) (
 .opt ((trPlace_fn (a0, (a1, (a2, (a3, (a4, ()))))))) (fun r1 =>
 .ite (decide (r1.1 < (0 : Int))) (
 .ret ((0 : Int), ((0 : Int), ((0 : Int), ((0 : Int), ((0 : Int), ((0 : Int), ((0 : Int), (false, ((0 : Int), ())))))))))) (
 .grd (decide ((0 : Int) <= r1.1)) (
 .opt (a0[Int.toNat r1.1]?) (fun r2 =>
 .opt ((trOld_fn (r2.from', (r2.to, (r2.fromPort, (r2.toPort, (r2.state, (r2.over, (r2.at', (a5, ())))))))))) (fun r3 =>
 .ite (r3.1) (
 .ret ((0 : Int), ((0 : Int), ((0 : Int), ((0 : Int), ((0 : Int), ((0 : Int), ((0 : Int), (false, ((0 : Int), ())))))))))) (
 .grd (decide ((0 : Int) <= r1.1)) (
 .opt (a0[Int.toNat r1.1]?) (fun r4 =>
 .ret (r4.from', (r4.to, (r4.fromPort, (r4.toPort, (r4.state, (r4.over, (r4.at', (true, ((0 : Int), ())))))))))))))))))))))
noncomputable def gm34 : List (PF Go.Proofs.Tryd.prog) := [clTalk, GS.pf delTalk, FS.pf trTurned, FS.pf trPort, FS.pf trRoad, FS.pf trForm, FS.pf trPlace, FS.pf trCheck, FS.pf trOld, GS.pf dfTalk, GS.pf trOpen, GS.pf trPasses, FS.pf trHear]
theorem trFind_eq (x : ((List TTalk) × (Int × (Int × (Int × (Int × (Int × Unit))))))) : fnTr Tryd.prog cod gm34 [] 30 86 trFind_ap trFind_rp x = trFind_tree x := by kernel_rfl
def trFind_fn (x : ((List TTalk) × (Int × (Int × (Int × (Int × (Int × Unit))))))) : Option (Int × (Int × (Int × (Int × (Int × (Int × (Int × (Bool × (Int × Unit))))))))) := (trFind_tree x).eval
def trFind : FS Tryd.prog := ⟨86, trFind_ap, trFind_rp, trFind_fn, fun x r h => fnTr_sound (cod := cod) (Γ := gm34) (Λs := []) (n := 30) ((congrArg Tr.eval (trFind_eq x)).trans h)⟩
end Go.Proofs.YthkhikdglmaiaaaDoor.X
