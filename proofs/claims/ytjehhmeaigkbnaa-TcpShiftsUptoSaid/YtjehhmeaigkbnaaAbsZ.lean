/- Patterns of states: what varies in them, as a tuple. For whatever program. Conditions: none. -/
import Derived.Test.YtjehhmeaigkbnaaAbsX3
namespace Go.Proofs.Ytjehhmeaigkbnaa.Abs
open Go Go.RowKit
set_option linter.unusedVariables false
set_option linter.unusedSimpArgs false

abbrev Mem := List (Nat × Blk)

/-- What a captured value may be. -/
inductive PD where
  | i (k : IntKind)
  | b
  | s
  | st (c : Nat)
def PdsT : List PD → Type → Type
  | [], R => R
  | .i _ :: ps, R => Int × PdsT ps R
  | .b :: ps, R => Bool × PdsT ps R
  | .s :: ps, R => List UInt8 × PdsT ps R
  | .st c :: ps, R => List (τ c) × PdsT ps R
def putDs : (ps : List PD) → {R : Type} → PdsT ps R → List D × R
  | [], _, r => ([], r)
  | .i k :: ps, _, (n, x) => (.i k n :: (putDs ps x).1, (putDs ps x).2)
  | .b :: ps, _, (n, x) => (.b n :: (putDs ps x).1, (putDs ps x).2)
  | .s :: ps, _, (n, x) => (.s n :: (putDs ps x).1, (putDs ps x).2)
  | .st c :: ps, _, (n, x) => (.st c n :: (putDs ps x).1, (putDs ps x).2)
def castSt (c k : Nat) (xs : List (τ k)) : Option (List (τ c)) := if h : k = c then some (h ▸ xs) else none
theorem castSt_eq {c k : Nat} {xs : List (τ k)} {ys : List (τ c)} (h : castSt c k xs = some ys) : D.st k xs = D.st c ys := by
  unfold castSt at h
  split at h
  · rename_i e; subst e; cases h; rfl
  · cases h
def getDs : (ps : List PD) → List D → Option (∀ R : Type, R → PdsT ps R)
  | [], [] => some fun _ r => r
  | .i k :: ps, d :: ds => match d, getDs ps ds with
    | .i k' n, some g => if k = k' then some fun R r => (n, g R r) else none
    | _, _ => none
  | .b :: ps, d :: ds => match d, getDs ps ds with
    | .b n, some g => some fun R r => (n, g R r)
    | _, _ => none
  | .s :: ps, d :: ds => match d, getDs ps ds with
    | .s n, some g => some fun R r => (n, g R r)
    | _, _ => none
  | .st c :: ps, d :: ds => match d, getDs ps ds with
    | .st k xs, some g => match castSt c k xs with
      | some ys => some fun R r => (ys, g R r)
      | none => none
    | _, _ => none
  | _, _ => none
theorem getDs_put : ∀ {ps : List PD} {ds : List D} {g : ∀ R : Type, R → PdsT ps R}, getDs ps ds = some g → ∀ (R : Type) (r : R), putDs ps (g R r) = (ds, r)
  | [], [], g, h, R, r => by cases h; rfl
  | [], _ :: _, g, h, R, r => by cases h
  | .i k :: ps, [], g, h, R, r => by cases h
  | .b :: ps, [], g, h, R, r => by cases h
  | .s :: ps, [], g, h, R, r => by cases h
  | .st c :: ps, [], g, h, R, r => by cases h
  | .i k :: ps, d :: ds, g, h, R, r => by
    unfold getDs at h
    split at h
    · rename_i k' n g' hg
      split at h
      · rename_i e; subst e; cases h
        simp only [putDs, getDs_put hg R r]
      · cases h
    · cases h
  | .b :: ps, d :: ds, g, h, R, r => by
    unfold getDs at h
    split at h
    · rename_i n g' hg
      cases h
      simp only [putDs, getDs_put hg R r]
    · cases h
  | .s :: ps, d :: ds, g, h, R, r => by
    unfold getDs at h
    split at h
    · rename_i n g' hg
      cases h
      simp only [putDs, getDs_put hg R r]
    · cases h
  | .st c :: ps, d :: ds, g, h, R, r => by
    unfold getDs at h
    split at h
    · rename_i k xs g' hg
      split at h
      · rename_i ys hy
        cases h
        simp only [putDs, getDs_put hg R r, castSt_eq hy]
      · cases h
    · cases h

/-- What a cell may be. -/
inductive Pt where
  | i (k : IntKind)
  | b
  | s
  | st (c : Nat) (fr : Bool)
  | nil
  | un
  | bad
  | own (k : Nat)
  | ptr (k off : Nat)
  | clo (f : FuncId) (ps : List PD)
  | clp (f : FuncId) (ks : List (Nat × Nat))
def Pt.T : Pt → Type → Type
  | .i _, R => Int × R
  | .b, R => Bool × R
  | .s, R => List UInt8 × R
  | .st c _, R => List (τ c) × R
  | .clo _ ps, R => PdsT ps R
  | .nil, R | .un, R | .bad, R | .own _, R | .ptr _ _, R | .clp _ _, R => R
def stC (fr : Bool) (c : Nat) (xs : List (τ c)) : C := match fr with | true => .f (.st c xs) | false => .d (.st c xs)
/-- A row's version in a pattern: those that are handed in bear another one. -/
def vk (k : Nat) : Nat := match Nat.ble 1000000 k && Nat.blt k 2000000 with | true => 1 | false => 0
def Pt.put (len : Nat → Nat) : (p : Pt) → {R : Type} → p.T R → C × R
  | .i k, _, (n, r) => (.d (.i k n), r)
  | .b, _, (x, r) => (.d (.b x), r)
  | .s, _, (l, r) => (.d (.s l), r)
  | .st c fr, _, (xs, r) => (stC fr c xs, r)
  | .nil, _, r => (.nil, r)
  | .un, _, r => (.un, r)
  | .bad, _, r => (.bad, r)
  | .own k, _, r => (.own k (vk k) (len k), r)
  | .ptr k o, _, r => (.ptr k o, r)
  | .clo f ps, _, x => (.clo f (putDs ps x).1, (putDs ps x).2)
  | .clp f ks, _, r => (.clp f ks, r)
def getSt (c : Nat) (fr : Bool) : C → Option (List (τ c))
  | .d (.st k xs) => match fr with | true => none | false => castSt c k xs
  | .f (.st k xs) => castSt c k xs
  | .nil => some []
  | _ => none
theorem getSt_wk {c : Nat} {fr : Bool} {x : C} {xs : List (τ c)} (h : getSt c fr x = some xs) : WkC x (stC fr c xs) := by
  cases x with
  | d d =>
    cases d with
    | st k ys =>
      cases fr with
      | true => cases h
      | false => exact .inl (by rw [castSt_eq (show castSt c k ys = some xs from h)]; rfl)
    | _ => cases h
  | f d =>
    cases d with
    | st k ys =>
      have := castSt_eq (show castSt c k ys = some xs from h)
      cases fr with
      | true => exact .inl (by rw [this]; rfl)
      | false => exact .inr (.inr (.inr ⟨_, rfl, by rw [this]; rfl⟩))
    | _ => cases h
  | nil =>
    have : xs = [] := by cases h; rfl
    subst this
    cases fr with
    | true => exact .inr (.inr (.inl ⟨rfl, .inr (.inr ⟨c, rfl⟩)⟩))
    | false => exact .inr (.inr (.inl ⟨rfl, .inr (.inl ⟨c, rfl⟩)⟩))
  | _ => cases h
/-- What is said of lengths of rows. -/
abbrev Ob := List (Nat × Nat)
def Pt.get : (p : Pt) → C → Option (Ob × ∀ R : Type, R → p.T R)
  | .i k, c => match c with
    | .d (.i k' n) => if k = k' then some ([], fun _ r => (n, r)) else none
    | _ => none
  | .b, c => match c with
    | .d (.b x) => some ([], fun _ r => (x, r))
    | _ => none
  | .s, c => match c with
    | .d (.s l) => some ([], fun _ r => (l, r))
    | _ => none
  | .st q fr, c => match getSt q fr c with
    | some xs => some ([], fun _ r => (xs, r))
    | none => none
  | .nil, c => match c with
    | .nil => some ([], fun _ r => r)
    | _ => none
  | .un, c => match c with
    | .un => some ([], fun _ r => r)
    | _ => none
  | .bad, _ => some ([], fun _ r => r)
  | .own k, c => match c with
    | .own k' ver len => if k = k' ∧ ver = vk k then some ([(k, len)], fun _ r => r) else none
    | _ => none
  | .ptr k o, c => match c with
    | .ptr k' o' => if k = k' ∧ o = o' then some ([], fun _ r => r) else none
    | _ => none
  | .clo f ps, c => match c with
    | .clo f' ds => if f = f' then match getDs ps ds with
      | some g => some ([], g)
      | none => none
      else none
    | _ => none
  | .clp f ks, c => match c with
    | .clp f' ks' => if f = f' ∧ ks = ks' then some ([], fun _ r => r) else none
    | _ => none
def ObOk (len : Nat → Nat) (l : Ob) : Prop := ∀ q ∈ l, q.2 = len q.1
theorem Pt.get_put {len : Nat → Nat} {p : Pt} {c : C} {l : Ob} {g : ∀ R : Type, R → p.T R} (h : p.get c = some (l, g)) (ho : ObOk len l) (R : Type) (r : R) : (p.put len (g R r)).2 = r ∧ WkC c (p.put len (g R r)).1 := by
  cases p with
  | i k =>
    simp only [Pt.get] at h
    split at h
    · split at h
      · rename_i e; subst e; cases h; exact ⟨rfl, .inl rfl⟩
      · cases h
    · cases h
  | b => simp only [Pt.get] at h; split at h; (cases h; exact ⟨rfl, .inl rfl⟩); cases h
  | s => simp only [Pt.get] at h; split at h; (cases h; exact ⟨rfl, .inl rfl⟩); cases h
  | st q fr =>
    simp only [Pt.get] at h
    split at h
    · rename_i xs hx; cases h; exact ⟨rfl, getSt_wk hx⟩
    · cases h
  | nil => simp only [Pt.get] at h; split at h; (cases h; exact ⟨rfl, .inl rfl⟩); cases h
  | un => simp only [Pt.get] at h; split at h; (cases h; exact ⟨rfl, .inl rfl⟩); cases h
  | bad => simp only [Pt.get] at h; cases h; exact ⟨rfl, .inr (.inl rfl)⟩
  | own k =>
    simp only [Pt.get] at h
    split at h
    · split at h
      · rename_i k' ver n e
        obtain ⟨rfl, rfl⟩ := e
        cases h
        refine ⟨rfl, .inl ?_⟩
        have := ho (k, n) (by simp)
        simp only at this
        rw [this]; rfl
      · cases h
    · cases h
  | ptr k o =>
    simp only [Pt.get] at h
    split at h
    · split at h
      · rename_i e; obtain ⟨rfl, rfl⟩ := e; cases h; exact ⟨rfl, .inl rfl⟩
      · cases h
    · cases h
  | clp f ks =>
    simp only [Pt.get] at h
    split at h
    · split at h
      · rename_i e; obtain ⟨rfl, rfl⟩ := e; cases h; exact ⟨rfl, .inl rfl⟩
      · cases h
    · cases h
  | clo f ps =>
    simp only [Pt.get] at h
    split at h
    · split at h
      · rename_i e; subst e
        split at h
        · rename_i g' hg; cases h
          have := getDs_put hg R r
          refine ⟨by simp only [Pt.put]; rw [this], .inl ?_⟩
          simp only [Pt.put]; rw [this]
        · cases h
      · cases h
    · cases h

def PtsT : List Pt → Type → Type
  | [], R => R
  | p :: ps, R => p.T (PtsT ps R)
def putPts (len : Nat → Nat) : (ps : List Pt) → {R : Type} → PtsT ps R → List C × R
  | [], _, r => ([], r)
  | p :: ps, _, x => ((p.put len x).1 :: (putPts len ps (p.put len x).2).1, (putPts len ps (p.put len x).2).2)
def getPts : (ps : List Pt) → List C → Option (Ob × ∀ R : Type, R → PtsT ps R)
  | [], [] => some ([], fun _ r => r)
  | p :: ps, c :: cs => match p.get c, getPts ps cs with
    | some (l1, g1), some (l2, g2) => some (l1 ++ l2, fun R r => g1 _ (g2 R r))
    | _, _ => none
  | _, _ => none
theorem ObOk.left {len : Nat → Nat} {l1 l2 : Ob} (h : ObOk len (l1 ++ l2)) : ObOk len l1 := fun q hq => h q (List.mem_append_left _ hq)
theorem ObOk.right {len : Nat → Nat} {l1 l2 : Ob} (h : ObOk len (l1 ++ l2)) : ObOk len l2 := fun q hq => h q (List.mem_append_right _ hq)
theorem getPts_put {len : Nat → Nat} : ∀ {ps : List Pt} {cs : List C} {l : Ob} {g : ∀ R : Type, R → PtsT ps R}, getPts ps cs = some (l, g) → ObOk len l → ∀ (R : Type) (r : R), (putPts len ps (g R r)).2 = r ∧ WkCs cs (putPts len ps (g R r)).1
  | [], [], l, g, h, ho, R, r => by cases h; exact ⟨rfl, trivial⟩
  | [], _ :: _, l, g, h, ho, R, r => by cases h
  | _ :: _, [], l, g, h, ho, R, r => by cases h
  | p :: ps, c :: cs, l, g, h, ho, R, r => by
    unfold getPts at h
    split at h
    · rename_i l1 g1 l2 g2 h1 h2
      cases h
      obtain ⟨a1, a2⟩ := Pt.get_put h1 ho.left _ (g2 R r)
      obtain ⟨b1, b2⟩ := getPts_put h2 ho.right R r
      simp only [putPts]
      rw [a1]
      exact ⟨b1, a2, b2⟩
    · cases h
def skipPts : (ps : List Pt) → {R : Type} → PtsT ps R → R := fun ps _ x => (putPts (fun _ => 0) ps x).2

/-- What a value may be. -/
inductive VP1 where
  | one (p : Pt)
  | agg (ps : List Pt)
inductive VP where
  | v (x : VP1)
  | tup (xs : List VP1)
def VP1.T : VP1 → Type → Type
  | .one p, R => p.T R
  | .agg ps, R => PtsT ps R
def VP1.put (len : Nat → Nat) : (p : VP1) → {R : Type} → p.T R → V × R
  | .one p, _, x => (.one (p.put len x).1, (p.put len x).2)
  | .agg ps, _, x => (.agg (putPts len ps x).1, (putPts len ps x).2)
def VP1.get : (p : VP1) → V → Option (Ob × ∀ R : Type, R → p.T R)
  | .one p, v => match v with
    | .one c => p.get c
    | _ => none
  | .agg ps, v => match v with
    | .agg cs => getPts ps cs
    | _ => none
theorem VP1.get_put {len : Nat → Nat} {p : VP1} {u : V} {l : Ob} {g : ∀ R : Type, R → p.T R} (h : p.get u = some (l, g)) (ho : ObOk len l) (R : Type) (r : R) : (p.put len (g R r)).2 = r ∧ WkV u (p.put len (g R r)).1 := by
  cases p with
  | one p =>
    cases u with
    | one c =>
      have h' : p.get c = some (l, g) := h
      have := Pt.get_put (len := len) h' ho R r
      exact ⟨this.1, this.2⟩
    | agg => cases h
    | tup => cases h
  | agg ps =>
    cases u with
    | agg cs =>
      have h' : getPts ps cs = some (l, g) := h
      have := getPts_put (len := len) h' ho R r
      exact ⟨this.1, this.2⟩
    | one => cases h
    | tup => cases h
def VPsT : List VP1 → Type → Type
  | [], R => R
  | p :: ps, R => p.T (VPsT ps R)
def putVs (len : Nat → Nat) : (ps : List VP1) → {R : Type} → VPsT ps R → List V × R
  | [], _, r => ([], r)
  | p :: ps, _, x => ((p.put len x).1 :: (putVs len ps (p.put len x).2).1, (putVs len ps (p.put len x).2).2)
def getVs : (ps : List VP1) → List V → Option (Ob × ∀ R : Type, R → VPsT ps R)
  | [], [] => some ([], fun _ r => r)
  | p :: ps, c :: cs => match p.get c, getVs ps cs with
    | some (l1, g1), some (l2, g2) => some (l1 ++ l2, fun R r => g1 _ (g2 R r))
    | _, _ => none
  | _, _ => none
theorem getVs_put {len : Nat → Nat} : ∀ {ps : List VP1} {cs : List V} {l : Ob} {g : ∀ R : Type, R → VPsT ps R}, getVs ps cs = some (l, g) → ObOk len l → ∀ (R : Type) (r : R), (putVs len ps (g R r)).2 = r ∧ WkVs cs (putVs len ps (g R r)).1
  | [], [], l, g, h, ho, R, r => by cases h; exact ⟨rfl, trivial⟩
  | [], _ :: _, l, g, h, ho, R, r => by cases h
  | _ :: _, [], l, g, h, ho, R, r => by cases h
  | p :: ps, c :: cs, l, g, h, ho, R, r => by
    unfold getVs at h
    split at h
    · rename_i l1 g1 l2 g2 h1 h2
      cases h
      obtain ⟨a1, a2⟩ := VP1.get_put h1 ho.left _ (g2 R r)
      obtain ⟨b1, b2⟩ := getVs_put h2 ho.right R r
      simp only [putVs]
      rw [a1]
      exact ⟨b1, a2, b2⟩
    · cases h
/-- One value says as much as another one, also in tuples. -/
def WkX (x y : V) : Prop := WkV x y ∨ ∃ vs vs', x = .tup vs ∧ y = .tup vs' ∧ WkVs vs vs'
def VP.T : VP → Type → Type
  | .v p, R => p.T R
  | .tup ps, R => VPsT ps R
def VP.put (len : Nat → Nat) : (p : VP) → {R : Type} → p.T R → V × R
  | .v p, _, x => p.put len x
  | .tup ps, _, x => (.tup (putVs len ps x).1, (putVs len ps x).2)
def VP.get : (p : VP) → V → Option (Ob × ∀ R : Type, R → p.T R)
  | .v p, u => p.get u
  | .tup ps, u => match u with
    | .tup vs => getVs ps vs
    | _ => none
theorem VP.get_put {len : Nat → Nat} {p : VP} {u : V} {l : Ob} {g : ∀ R : Type, R → p.T R} (h : p.get u = some (l, g)) (ho : ObOk len l) (R : Type) (r : R) : (p.put len (g R r)).2 = r ∧ WkX u (p.put len (g R r)).1 := by
  cases p with
  | v p =>
    have h' : p.get u = some (l, g) := h
    have := VP1.get_put (len := len) h' ho R r
    exact ⟨this.1, .inl this.2⟩
  | tup ps =>
    cases u with
    | tup us =>
      have h' : getVs ps us = some (l, g) := h
      have := getVs_put (len := len) h' ho R r
      exact ⟨this.1, .inr ⟨_, _, rfl, rfl, this.2⟩⟩
    | one => cases h
    | agg => cases h

/-! ### States -/
def EnvT : List (Nat × VP) → Type → Type
  | [], R => R
  | p :: ps, R => p.2.T (EnvT ps R)
def putEnv (len : Nat → Nat) : (ps : List (Nat × VP)) → {R : Type} → EnvT ps R → List (Nat × V) × R
  | [], _, r => ([], r)
  | p :: ps, _, x => ((p.1, (p.2.put len x).1) :: (putEnv len ps (p.2.put len x).2).1, (putEnv len ps (p.2.put len x).2).2)
def getEnv : (ps : List (Nat × VP)) → List (Nat × V) → Option (Ob × ∀ R : Type, R → EnvT ps R)
  | [], [] => some ([], fun _ r => r)
  | p :: ps, c :: cs => match Nat.beq p.1 c.1, p.2.get c.2, getEnv ps cs with
    | true, some (l1, g1), some (l2, g2) => some (l1 ++ l2, fun R r => g1 _ (g2 R r))
    | _, _, _ => none
  | _, _ => none
def EnvWk : List (Nat × V) → List (Nat × V) → Prop
  | [], [] => True
  | c :: cs, d :: ds => c.1 = d.1 ∧ WkX c.2 d.2 ∧ EnvWk cs ds
  | _, _ => False
theorem getEnv_put {len : Nat → Nat} : ∀ {ps : List (Nat × VP)} {cs : List (Nat × V)} {l : Ob} {g : ∀ R : Type, R → EnvT ps R}, getEnv ps cs = some (l, g) → ObOk len l → ∀ (R : Type) (r : R), (putEnv len ps (g R r)).2 = r ∧ EnvWk cs (putEnv len ps (g R r)).1
  | [], [], l, g, h, ho, R, r => by cases h; exact ⟨rfl, trivial⟩
  | [], _ :: _, l, g, h, ho, R, r => by cases h
  | _ :: _, [], l, g, h, ho, R, r => by cases h
  | p :: ps, c :: cs, l, g, h, ho, R, r => by
    unfold getEnv at h
    split at h
    · rename_i l1 g1 l2 g2 h0 h1 h2
      cases h
      obtain ⟨a1, a2⟩ := VP.get_put h1 ho.left _ (g2 R r)
      obtain ⟨b1, b2⟩ := getEnv_put h2 ho.right R r
      simp only [putEnv]
      rw [a1]
      exact ⟨b1, (Nat.eq_of_beq_eq_true h0).symm, a2, b2⟩
    · cases h
/-- What a block may be. -/
inductive BP where
  | cells (ps : List Pt)
  | row (e : TypeId) (c : Nat) (ap fr : Bool)
def BP.T : BP → Type → Type
  | .cells ps, R => PtsT ps R
  | .row _ c _ _, R => List (τ c) × R
def BP.put (len : Nat → Nat) (k : Nat) : (p : BP) → {R : Type} → p.T R → Blk × R
  | .cells ps, _, x => (.cells (putPts len ps x).1, (putPts len ps x).2)
  | .row e c ap fr, _, (xs, r) => (.rowT (vk k) e c ap fr xs, r)
def getRow (k : Nat) (e : TypeId) (c : Nat) (ap fr : Bool) : Blk → Option (List (τ c))
  | .rowT ver e' c' ap' fr' xs => if ver = vk k ∧ e = e' ∧ ap = ap' ∧ fr = fr' then castSt c c' xs else none
  | _ => none
theorem getRow_wk {k : Nat} {e : TypeId} {c : Nat} {ap fr : Bool} {b : Blk} {ys : List (τ c)} (h : getRow k e c ap fr b = some ys) : b = .rowT (vk k) e c ap fr ys := by
  cases b with
  | rowT ver e' c' ap' fr' xs =>
    have h' : (if ver = vk k ∧ e = e' ∧ ap = ap' ∧ fr = fr' then castSt c c' xs else none) = some ys := h
    by_cases e1 : ver = vk k ∧ e = e' ∧ ap = ap' ∧ fr = fr'
    · rw [if_pos e1] at h'
      obtain ⟨rfl, rfl, rfl, rfl⟩ := e1
      unfold castSt at h'
      split at h'
      · rename_i e; subst e; cases h'; rfl
      · cases h'
    · rw [if_neg e1] at h'; cases h'
  | cells => exact absurd (show (none : Option (List (τ c))) = some ys from h) (by simp)
  | row => exact absurd (show (none : Option (List (τ c))) = some ys from h) (by simp)
def BP.get (k : Nat) : (p : BP) → Blk → Option (Ob × ∀ R : Type, R → p.T R)
  | .cells ps, b => match b with
    | .cells cs => getPts ps cs
    | _ => none
  | .row e c ap fr, b => match getRow k e c ap fr b with
    | some ys => some ([], fun _ r => (ys, r))
    | none => none
theorem WkB.blk {b b' : Blk} (h : WkB b b') : BlkWk b b' := by
  refine ⟨?_, fun p x j => WkB_covers h, fun w β U base p hr => hr.wk h⟩
  cases b with
  | cells cs => cases b' with
    | cells => rfl
    | row => cases h
    | rowT => cases h
  | row => cases h; rfl
  | rowT => cases h; rfl
theorem BP.get_put {len : Nat → Nat} {k : Nat} {p : BP} {b : Blk} {l : Ob} {g : ∀ R : Type, R → p.T R} (h : p.get k b = some (l, g)) (ho : ObOk len l) (R : Type) (r : R) : (p.put len k (g R r)).2 = r ∧ BlkWk b (p.put len k (g R r)).1 := by
  cases p with
  | cells ps =>
    cases b with
    | cells cs =>
      have h' : getPts ps cs = some (l, g) := h
      have := getPts_put (len := len) h' ho R r
      exact ⟨this.1, WkB.blk (show WkB (.cells _) (.cells _) from this.2)⟩
    | row => cases h
    | rowT => cases h
  | row e c ap fr =>
    cases hr : getRow k e c ap fr b with
    | none =>
      have h' : (match getRow k e c ap fr b with | some ys => some (([] : Ob), fun (R : Type) (r : R) => ((ys, r) : List (τ c) × R)) | none => none) = some (l, g) := h
      rw [hr] at h'
      exact absurd h' (by simp)
    | some ys =>
      have h' : (match getRow k e c ap fr b with | some ys => some (([] : Ob), fun (R : Type) (r : R) => ((ys, r) : List (τ c) × R)) | none => none) = some (l, g) := h
      rw [hr] at h'
      have h2 := congrArg Prod.snd (Option.some.inj h')
      have h3 : g = fun R r => (ys, r) := h2.symm
      subst h3
      refine ⟨rfl, ?_⟩
      rw [getRow_wk hr]
      exact BlkWk.rfl _
def MemT : List (Nat × BP) → Type → Type
  | [], R => R
  | p :: ps, R => p.2.T (MemT ps R)
def putMem (len : Nat → Nat) : (ps : List (Nat × BP)) → {R : Type} → MemT ps R → List (Nat × Blk) × R
  | [], _, r => ([], r)
  | p :: ps, _, x => ((p.1, (p.2.put len p.1 x).1) :: (putMem len ps (p.2.put len p.1 x).2).1, (putMem len ps (p.2.put len p.1 x).2).2)
def getMem : (ps : List (Nat × BP)) → List (Nat × Blk) → Option (Ob × ∀ R : Type, R → MemT ps R)
  | [], [] => some ([], fun _ r => r)
  | p :: ps, c :: cs => match Nat.beq p.1 c.1, p.2.get p.1 c.2, getMem ps cs with
    | true, some (l1, g1), some (l2, g2) => some (l1 ++ l2, fun R r => g1 _ (g2 R r))
    | _, _, _ => none
  | _, _ => none
def MemWk : List (Nat × Blk) → List (Nat × Blk) → Prop
  | [], [] => True
  | c :: cs, d :: ds => c.1 = d.1 ∧ BlkWk c.2 d.2 ∧ MemWk cs ds
  | _, _ => False
theorem getMem_put {len : Nat → Nat} : ∀ {ps : List (Nat × BP)} {cs : List (Nat × Blk)} {l : Ob} {g : ∀ R : Type, R → MemT ps R}, getMem ps cs = some (l, g) → ObOk len l → ∀ (R : Type) (r : R), (putMem len ps (g R r)).2 = r ∧ MemWk cs (putMem len ps (g R r)).1
  | [], [], l, g, h, ho, R, r => by cases h; exact ⟨rfl, trivial⟩
  | [], _ :: _, l, g, h, ho, R, r => by cases h
  | _ :: _, [], l, g, h, ho, R, r => by cases h
  | p :: ps, c :: cs, l, g, h, ho, R, r => by
    unfold getMem at h
    split at h
    · rename_i l1 g1 l2 g2 h0 h1 h2
      cases h
      obtain ⟨a1, a2⟩ := BP.get_put h1 ho.left _ (g2 R r)
      obtain ⟨b1, b2⟩ := getMem_put h2 ho.right R r
      simp only [putMem]
      rw [a1]
      exact ⟨b1, (Nat.eq_of_beq_eq_true h0).symm, a2, b2⟩
    · cases h
/-- Lengths of rows. -/
def memLen : (ps : List (Nat × BP)) → {R : Type} → MemT ps R → Nat → Nat
  | [], _, _, _ => 0
  | (q, .row e c ap fr) :: ps, _, (xs, x), k => match Nat.beq q k with | true => xs.length | false => memLen ps x k
  | (q, .cells cs) :: ps, _, x, k => memLen ps (skipPts cs x) k

structure SP where
  n : Nat
  env : List (Nat × VP)
  mem : List (Nat × BP)
def SP.T (sp : SP) : Type := EnvT sp.env (MemT sp.mem Unit)
def SP.len (sp : SP) (x : sp.T) : Nat → Nat := memLen sp.mem (putEnv (fun _ => 0) sp.env x).2
def SP.put (sp : SP) (x : sp.T) : St :=
  ⟨sp.n, (putEnv (sp.len x) sp.env x).1, (putMem (sp.len x) sp.mem (putEnv (sp.len x) sp.env x).2).1⟩
def SP.get (sp : SP) (s : St) : Option (Ob × sp.T) :=
  match Nat.beq s.n sp.n, getEnv sp.env s.env, getMem sp.mem s.mem with
  | true, some (l1, g1), some (l2, g2) => some (l1 ++ l2, g1 _ (g2 Unit ()))
  | _, _, _ => none
/-- A tree under what is said of lengths. -/
def grdOb {α : Type} (len : Nat → Nat) : Ob → Tr α → Tr α
  | [], T => T
  | (k, n) :: r, T => .grd (decide (n = len k)) (grdOb len r T)
theorem eval_grdOb {α : Type} {len : Nat → Nat} : ∀ {l : Ob} {T : Tr α} {a : α}, (grdOb len l T).eval = some a → ObOk len l ∧ T.eval = some a
  | [], T, a, h => ⟨fun q hq => (by cases hq), h⟩
  | (k, n) :: r, T, a, h => by
    obtain ⟨h1, h2⟩ := Tr.eval_grd h
    obtain ⟨h3, h4⟩ := eval_grdOb h2
    refine ⟨fun q hq => ?_, h4⟩
    rcases List.mem_cons.1 hq with rfl | hq
    · simpa using h1
    · exact h3 q hq

theorem SP.get_put {sp : SP} {s : St} {l : Ob} {x : sp.T} (h : sp.get s = some (l, x)) (hob0 : ObOk (sp.len x) l) : s.n = (sp.put x).n ∧ EnvWk s.env (sp.put x).env ∧ MemWk s.mem (sp.put x).mem := by
  unfold SP.get at h
  split at h
  · rename_i l1 g1 l2 g2 h0 h1 h2
    have ho := congrArg Prod.fst (Option.some.inj h)
    have hx := congrArg Prod.snd (Option.some.inj h)
    simp only at ho hx
    subst hx
    subst ho
    have skip0 : ∀ (len : Nat → Nat), ObOk len l1 → (putEnv len sp.env (g1 _ (g2 Unit ()))).2 = g2 Unit () := fun len hl => (getEnv_put h1 hl _ _).1
    have skip : ∀ (len : Nat → Nat), (putEnv len sp.env (g1 _ (g2 Unit ()))).2 = g2 Unit () := by
      intro len
      have e : ∀ len len' : Nat → Nat, (putEnv len sp.env (g1 _ (g2 Unit ()))).2 = (putEnv len' sp.env (g1 _ (g2 Unit ()))).2 := by
        intro len len'
        have ePt : ∀ (p : Pt) {R : Type} (x : p.T R), (p.put len x).2 = (p.put len' x).2 := by
          intro p R x; cases p <;> rfl
        have ePts : ∀ (ps : List Pt) {R : Type} (x : PtsT ps R), (putPts len ps x).2 = (putPts len' ps x).2 := by
          intro ps
          induction ps with
          | nil => intro R x; rfl
          | cons p ps ih => intro R x; simp only [putPts]; rw [ePt p x]; exact ih _
        have eV1 : ∀ (p : VP1) {R : Type} (x : p.T R), (p.put len x).2 = (p.put len' x).2 := by
          intro p R x
          cases p with
          | one p => exact ePt p x
          | agg ps => exact ePts ps x
        have eVs : ∀ (ps : List VP1) {R : Type} (x : VPsT ps R), (putVs len ps x).2 = (putVs len' ps x).2 := by
          intro ps
          induction ps with
          | nil => intro R x; rfl
          | cons p ps ih => intro R x; simp only [putVs]; rw [eV1 p x]; exact ih _
        have eV : ∀ (p : VP) {R : Type} (x : p.T R), (p.put len x).2 = (p.put len' x).2 := by
          intro p R x
          cases p with
          | v p => exact eV1 p x
          | tup ps => exact eVs ps x
        have eE : ∀ (ps : List (Nat × VP)) {R : Type} (x : EnvT ps R), (putEnv len ps x).2 = (putEnv len' ps x).2 := by
          intro ps
          induction ps with
          | nil => intro R x; rfl
          | cons p ps ih => intro R x; simp only [putEnv]; rw [eV p.2 x]; exact ih _
        exact eE _ _
      rw [e len (sp.len (g1 _ (g2 Unit ())))]
      exact skip0 _ (fun q hq => hob0 q (List.mem_append_left _ hq))
    have hob : ∀ q ∈ l1 ++ l2, q.2 = sp.len (g1 _ (g2 Unit ())) q.1 := hob0
    refine ⟨Nat.eq_of_beq_eq_true h0, (getEnv_put h1 (fun q hq => hob q (List.mem_append_left _ hq)) _ _).2, ?_⟩
    unfold SP.put
    simp only
    rw [skip]
    exact (getMem_put h2 (fun q hq => hob q (List.mem_append_right _ hq)) _ _).2
  · cases h

theorem EnvWk.get : ∀ {cs ds : List (Nat × V)}, EnvWk cs ds → ∀ t, (look t cs = none ∧ look t ds = none) ∨ ∃ x y, look t cs = some x ∧ look t ds = some y ∧ WkX x y
  | [], [], h, t => .inl ⟨rfl, rfl⟩
  | c :: cs, d :: ds, h, t => by
    obtain ⟨h1, h2, h3⟩ := h
    obtain ⟨a, b⟩ := c; obtain ⟨a', b'⟩ := d
    simp only at h1 h2; subst h1
    rw [look_cons, look_cons]
    by_cases e : a = t
    · rw [if_pos e, if_pos e]; exact .inr ⟨_, _, rfl, rfl, h2⟩
    · rw [if_neg e, if_neg e]; exact EnvWk.get h3 t
  | [], _ :: _, h, t => h.elim
  | _ :: _, [], h, t => h.elim
theorem MemWk.get : ∀ {cs ds : List (Nat × Blk)}, MemWk cs ds → ∀ t, OptWk (look t cs) (look t ds)
  | [], [], h, t => trivial
  | c :: cs, d :: ds, h, t => by
    obtain ⟨h1, h2, h3⟩ := h
    obtain ⟨a, b⟩ := c; obtain ⟨a', b'⟩ := d
    simp only at h1 h2; subst h1
    rw [look_cons, look_cons]
    by_cases e : a = t
    · rw [if_pos e, if_pos e]; exact h2
    · rw [if_neg e, if_neg e]; exact MemWk.get h3 t
  | [], _ :: _, h, t => h.elim
  | _ :: _, [], h, t => h.elim

theorem RepV.wkX {w : World} {β : Nat → Option Place} {U : Nat → Prop} {base : Nat} {v : Value} {x y : V} (h : RepV w β U base v x) (hw : WkX x y) : RepV w β U base v y := by
  rcases hw with hw | ⟨vs, vs', rfl, rfl, hw⟩
  · exact h.wk hw
  · cases h with
    | tup us _ hl h =>
      obtain ⟨h1, h2⟩ := WkVs_get hw
      refine .tup us vs' (by omega) fun j u x hu hx => ?_
      have hj : j < vs.length := by have := (List.getElem?_eq_some_iff.1 hx).1; omega
      exact (h j u _ hu (List.getElem?_eq_getElem hj)).wk (h2 j _ x (List.getElem?_eq_getElem hj) hx)

/-- A state that says as much as another one. -/
structure StWk (s s' : St) : Prop where
  n : s.n = s'.n
  env : EnvWk s.env s'.env
  mem : MemWk s.mem s'.mem
theorem SP.wk {sp : SP} {s : St} {l : Ob} {x : sp.T} (h : sp.get s = some (l, x)) (ho : ObOk (sp.len x) l) : StWk s (sp.put x) := ⟨(SP.get_put h ho).1, (SP.get_put h ho).2.1, (SP.get_put h ho).2.2⟩

theorem SimB.stWk {w0 : World} {U0 : Nat → Prop} {X : Nat → Nat → Prop} {β0 β : Nat → Option Place} {U : Nat → Prop} {s s' : St} {a : Act} {w : World} (h : SimB w0 U0 X β0 β U s a w) (hw : StWk s s') : SimB w0 U0 X β0 β U s' a w := by
  have h1 : SimB w0 U0 X β0 β U { s with env := s'.env } a w := { h with
    env := fun t => by
      rcases hw.env.get t with ⟨e1, e2⟩ | ⟨x, y, e1, e2, e3⟩
      · have := h.env t
        unfold St.get at this ⊢
        rw [e2]; exact .bad _
      · have := h.env t
        unfold St.get at this ⊢
        rw [e1] at this; rw [e2]
        exact this.wkX e3 }
  exact h1.blkWk hw.n.symm rfl (fun k => hw.mem.get k)
theorem Sim.stWk {w0 : World} {U0 : Nat → Prop} {X : Nat → Nat → Prop} {β0 : Nat → Option Place} {s s' : St} {a : Act} {w : World} (h : Sim w0 U0 X β0 s a w) (hw : StWk s s') : Sim w0 U0 X β0 s' a w := by
  obtain ⟨β, U, hb⟩ := h
  exact ⟨β, U, hb.stWk hw⟩
end Go.Proofs.Ytjehhmeaigkbnaa.Abs
