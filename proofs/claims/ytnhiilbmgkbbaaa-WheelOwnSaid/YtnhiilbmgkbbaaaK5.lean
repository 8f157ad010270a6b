/- Texts towards the law WheelOwn, put together (part 5): an abstract walk and its proof, functions of the program as trees, and plain laws. Conditions: none. -/
import Derived.LoopN
import Derived.Test.YtnhiilbmgkbbaaaProg
import Derived.KernelRfl
import Derived.Test.YtnhiilbmgkbbaaaK4
namespace Go.Proofs.Ytnhiilbmgkbbaaa.Abs
open Go Go.RowKit
set_option linter.unusedVariables false
set_option linter.unusedSimpArgs false
abbrev Mem := List (Nat × Blk)

inductive PD where
 | i (k : IntKind)
 | b
 | s
 | st (c : Nat)
def PdsT : List PD -> Type -> Type
 | [], R => R
 | .i _ :: ps, R => Int × PdsT ps R
 | .b :: ps, R => Bool × PdsT ps R
 | .s :: ps, R => List UInt8 × PdsT ps R
 | .st c :: ps, R => List (τ c) × PdsT ps R
def putDs : (ps : List PD) -> {R : Type} -> PdsT ps R -> List D × R
 | [], _, r => ([], r)
 | .i k :: ps, _, (n, x) => (.i k n :: (putDs ps x).1, (putDs ps x).2)
 | .b :: ps, _, (n, x) => (.b n :: (putDs ps x).1, (putDs ps x).2)
 | .s :: ps, _, (n, x) => (.s n :: (putDs ps x).1, (putDs ps x).2)
 | .st c :: ps, _, (n, x) => (.st c n :: (putDs ps x).1, (putDs ps x).2)
def castSt (c k : Nat) (xs : List (τ k)) : Option (List (τ c)) := if h : k = c then some (h ▸ xs) else none
theorem castSt_eq {c k : Nat} {xs : List (τ k)} {ys : List (τ c)} (h : castSt c k xs = some ys) : D.st k xs = D.st c ys := by
 unfold castSt at h
 split at h
 . rename_i e; subst e; cases h; rfl
 . cases h
def getDs : (ps : List PD) -> List D -> Option (∀ R : Type, R -> PdsT ps R)
 | [], [] => some fun _ r => r
 | .i k :: ps, d :: ds => match d, getDs ps ds with
  | .i k' n, some g => if k = k' then some fun R r => (n, g R r) else none
  | _, _ => none
 | .b :: ps, d :: ds => match d, getDs ps ds with
  | .b n, some g => some fun R r => (n, g R r)
  | _, _ => none
 | .s :: ps, d :: ds => match d, getDs ps ds with
  | .s n, some g => some fun R r => (n, g R r)
  | _, _ => none
 | .st c :: ps, d :: ds => match d, getDs ps ds with
  | .st k xs, some g => match castSt c k xs with
   | some ys => some fun R r => (ys, g R r)
   | none => none
  | _, _ => none
 | _, _ => none
theorem getDs_put : ∀ {ps : List PD} {ds : List D} {g : ∀ R : Type, R -> PdsT ps R}, getDs ps ds = some g -> ∀ (R : Type) (r : R), putDs ps (g R r) = (ds, r)
 | [], [], g, h, R, r => by cases h; rfl
 | [], _ :: _, g, h, R, r => by cases h
 | .i k :: ps, [], g, h, R, r => by cases h
 | .b :: ps, [], g, h, R, r => by cases h
 | .s :: ps, [], g, h, R, r => by cases h
 | .st c :: ps, [], g, h, R, r => by cases h
 | .i k :: ps, d :: ds, g, h, R, r => by
  unfold getDs at h
  split at h
  . rename_i k' n g' hg
    split at h
    . rename_i e; subst e; cases h
      simp only [putDs, getDs_put hg R r]
    . cases h
  . cases h
 | .b :: ps, d :: ds, g, h, R, r => by
  unfold getDs at h
  split at h
  . rename_i n g' hg
    cases h
    simp only [putDs, getDs_put hg R r]
  . cases h
 | .s :: ps, d :: ds, g, h, R, r => by
  unfold getDs at h
  split at h
  . rename_i n g' hg
    cases h
    simp only [putDs, getDs_put hg R r]
  . cases h
 | .st c :: ps, d :: ds, g, h, R, r => by
  unfold getDs at h
  split at h
  . rename_i k xs g' hg
    split at h
    . rename_i ys hy
      cases h
      simp only [putDs, getDs_put hg R r, castSt_eq hy]
    . cases h
  . cases h

inductive Pt where
 | i (k : IntKind)
 | kn (k : IntKind) (n : Nat)
 | b
 | s
 | st (c : Nat) (fr : Bool)
 | nil
 | un
 | ne
 | bad
 | own (k : Nat)
 | pre (k sz : Nat)
 | sub (k sz : Nat)
 | pr (k sz off : Nat)
 | mp (k : Nat)
 | ptr (k off : Nat)
 | clo (f : FuncId) (ps : List PD)
 | clp (f : FuncId) (ks : List (Nat × Nat))
 | tr
 | dp (k : Nat)
 | dpr (k sz off : Nat)
 | gr (k j : Nat)
 | ui
def Pt.T : Pt -> Type -> Type
 | .i _, R => Int × R
 | .b, R => Bool × R
 | .s, R => List UInt8 × R
 | .st c _, R => List (τ c) × R
 | .clo _ ps, R => PdsT ps R
 | .pre _ _, R => Nat × R
 | .sub _ _, R => Nat × (Nat × R)
 | .pr _ _ _, R => Nat × R
 | .kn _ _, R => R
 | .tr, R => TT × R
 | .dp _, R => Nat × R
 | .dpr _ _ _, R => Nat × R
 | .nil, R | .un, R | .ne, R | .bad, R | .own _, R | .ptr _ _, R | .clp _ _, R | .mp _, R | .gr _ _, R | .ui, R => R
def stC (fr : Bool) (c : Nat) (xs : List (τ c)) : C := match fr with | true => .f (.st c xs) | false => .d (.st c xs)
def vk (k : Nat) : Nat := match Nat.ble 1000000 k && Nat.blt k 1500000 with | true => 1 | false => 0
def Pt.put (len : Nat -> Nat) : (p : Pt) -> {R : Type} -> p.T R -> C × R
 | .i k, _, (n, r) => (.d (.i k n), r)
 | .kn k n, _, r => (.d (.i k (n : Int)), r)
 | .b, _, (x, r) => (.d (.b x), r)
 | .s, _, (l, r) => (.d (.s l), r)
 | .st c fr, _, (xs, r) => (stC fr c xs, r)
 | .nil, _, r => (.nil, r)
 | .un, _, r => (.un, r)
 | .ne, _, r => (.ne, r)
 | .bad, _, r => (.bad, r)
 | .own k, _, r => (.own k (vk k) (len k), r)
 | .pre k sz, _, (n, r) => (.pre k (vk k) sz n, r)
 | .sub k sz, _, (o, n, r) => (.sub k (vk k) sz o n, r)
 | .pr k sz off, _, (n, r) => (.pr k (vk k) sz n off, r)
 | .mp k, _, r => (.mp k, r)
 | .ptr k o, _, r => (.ptr k o, r)
 | .clo f ps, _, x => (.clo f (putDs ps x).1, (putDs ps x).2)
 | .clp f ks, _, r => (.clp f ks, r)
 | .tr, _, (t, r) => (.d (.tr t), r)
 | .dp k, _, (n, r) => (.dp k (vk k) (len k) n, r)
 | .dpr k sz off, _, (n, r) => (.dpr k (vk k) sz n off, r)
 | .gr k j, _, r => (.gr k (vk k) j, r)
 | .ui, _, r => (.ui, r)
def getSt (c : Nat) (fr : Bool) : C -> Option (List (τ c))
 | .d (.st k xs) => match fr with | true => none | false => castSt c k xs
 | .f (.st k xs) => castSt c k xs
 | .nil => some []
 | _ => none
theorem getSt_wk {c : Nat} {fr : Bool} {x : C} {xs : List (τ c)} (h : getSt c fr x = some xs) : WkC x (stC fr c xs) := by
 cases x with
 | d d =>
  cases d with
  | st k ys =>
   cases fr with
   | true => cases h
   | false => exact .inl (by rw [castSt_eq (show castSt c k ys = some xs from h)]; rfl)
  | _ => cases h
 | f d =>
  cases d with
  | st k ys =>
   have := castSt_eq (show castSt c k ys = some xs from h)
   cases fr with
   | true => exact .inl (by rw [this]; rfl)
   | false => exact .inr (.inr (.inr (.inl ⟨_, rfl, by rw [this]; rfl⟩)))
  | _ => cases h
 | nil =>
  have : xs = [] := by cases h; rfl
  subst this
  cases fr with
  | true => exact .inr (.inr (.inl ⟨rfl, .inr (.inr ⟨c, rfl⟩)⟩))
  | false => exact .inr (.inr (.inl ⟨rfl, .inr (.inl ⟨c, rfl⟩)⟩))
 | _ => cases h
abbrev Ob := List (Option Nat × Nat)
def obLen (len : Nat -> Nat) : Option Nat -> Nat
 | some k => len k
 | none => 0
def obB (b : Bool) : Nat := match b with | true => 0 | false => 1
theorem obB_eq {b : Bool} (h : obB b = 0) : b = true := by cases b; cases h; rfl
def Pt.get : (p : Pt) -> C -> Option (Ob × ∀ R : Type, R -> p.T R)
 | .i k, c => match c with
  | .d (.i k' n) => if k = k' then some ([], fun _ r => (n, r)) else none
  | _ => none
 | .kn k n, c => match c with
  | .d (.i k' m) => if k = k' /\ m = (n : Int) then some ([], fun _ r => r) else none
  | _ => none
 | .b, c => match c with
  | .d (.b x) => some ([], fun _ r => (x, r))
  | _ => none
 | .s, c => match c with
  | .d (.s l) => some ([], fun _ r => (l, r))
  | _ => none
 | .st q fr, c => match getSt q fr c with
  | some xs => some ([], fun _ r => (xs, r))
  | none => none
 | .nil, c => match c with
  | .nil => some ([], fun _ r => r)
  | _ => none
 | .un, c => match c with
  | .un => some ([], fun _ r => r)
  | _ => none
 | .ne, c => match c with
  | .ne => some ([], fun _ r => r)
  | _ => none
 | .bad, _ => some ([], fun _ r => r)
 | .own k, c => match c with
  | .own k' ver len => if k = k' /\ ver = vk k then some ([(some k, len)], fun _ r => r) else none
  | _ => none
 | .pre k sz, c => match c with
  | .pre k' ver sz' len => if k = k' /\ ver = vk k /\ sz = sz' then some ([], fun _ r => (len, r)) else none
  | _ => none
 | .sub k sz, c => match c with
  | .sub k' ver sz' o len => if k = k' /\ ver = vk k /\ sz = sz' then some ([], fun _ r => (o, len, r)) else none
  | .own k' ver len => if k = k' /\ ver = vk k then some ([], fun _ r => (0, len, r)) else none
  | _ => none
 | .pr k sz off, c => match c with
  | .pr k' ver sz' ix off' => if k = k' /\ ver = vk k /\ sz = sz' /\ off = off' then some ([], fun _ r => (ix, r)) else none
  | _ => none
 | .mp k, c => match c with
  | .mp k' => if k = k' then some ([], fun _ r => r) else none
  | _ => none
 | .ptr k o, c => match c with
  | .ptr k' o' => if k = k' /\ o = o' then some ([], fun _ r => r) else none
  | _ => none
 | .clo f ps, c => match c with
  | .clo f' ds => if f = f' then match getDs ps ds with
   | some g => some ([], g)
   | none => none
   else none
  | _ => none
 | .clp f ks, c => match c with
  | .clp f' ks' => if f = f' /\ ks = ks' then some ([], fun _ r => r) else none
  | _ => none
 | .tr, c => match c with
  | .d (.tr t) => some ([], fun _ r => (t, r))
  | _ => none
 | .dp k, c => match c with
  | .dp k' ver len room => if k = k' /\ ver = vk k then some ([(some k, len)], fun _ r => (room, r)) else none
  | _ => none
 | .dpr k sz off, c => match c with
  | .dpr k' ver sz' ix off' => if k = k' /\ ver = vk k /\ sz = sz' /\ off = off' then some ([], fun _ r => (ix, r)) else none
  | _ => none
 | .gr k j, c => match c with
  | .gr k' ver j' => if k = k' /\ ver = vk k /\ j = j' then some ([], fun _ r => r) else none
  | _ => none
 | .ui, c => match c with
  | .ui => some ([], fun _ r => r)
  | _ => none
def grs (k n : Nat) : List Pt := (List.range n).map (Pt.gr k)
def ObOk (len : Nat -> Nat) (l : Ob) : Prop := ∀ q ∈ l, q.2 = obLen len q.1
theorem Pt.get_put {len : Nat -> Nat} {p : Pt} {c : C} {l : Ob} {g : ∀ R : Type, R -> p.T R} (h : p.get c = some (l, g)) (ho : ObOk len l) (R : Type) (r : R) : (p.put len (g R r)).2 = r /\ WkC c (p.put len (g R r)).1 := by
 cases p with
 | i k =>
  simp only [Pt.get] at h
  split at h
  . split at h
    . rename_i e; subst e; cases h; exact ⟨rfl, .inl rfl⟩
    . cases h
  . cases h
 | kn k n =>
  simp only [Pt.get] at h
  split at h
  . split at h
    . rename_i e; obtain ⟨rfl, rfl⟩ := e; cases h; exact ⟨rfl, .inl rfl⟩
    . cases h
  . cases h
 | b => simp only [Pt.get] at h; split at h; (cases h; exact ⟨rfl, .inl rfl⟩); cases h
 | s => simp only [Pt.get] at h; split at h; (cases h; exact ⟨rfl, .inl rfl⟩); cases h
 | tr => simp only [Pt.get] at h; split at h; (cases h; exact ⟨rfl, .inl rfl⟩); cases h
 | st q fr =>
  simp only [Pt.get] at h
  split at h
  . rename_i xs hx; cases h; exact ⟨rfl, getSt_wk hx⟩
  . cases h
 | nil => simp only [Pt.get] at h; split at h; (cases h; exact ⟨rfl, .inl rfl⟩); cases h
 | un => simp only [Pt.get] at h; split at h; (cases h; exact ⟨rfl, .inl rfl⟩); cases h
 | ne => simp only [Pt.get] at h; split at h; (cases h; exact ⟨rfl, .inl rfl⟩); cases h
 | ui => simp only [Pt.get] at h; split at h; (cases h; exact ⟨rfl, .inl rfl⟩); cases h
 | gr k j =>
  simp only [Pt.get] at h
  split at h
  . split at h
    . rename_i e; obtain ⟨rfl, rfl, rfl⟩ := e; cases h; exact ⟨rfl, .inl rfl⟩
    . cases h
  . cases h
 | bad => simp only [Pt.get] at h; cases h; exact ⟨rfl, .inr (.inl rfl)⟩
 | own k =>
  simp only [Pt.get] at h
  split at h
  . split at h
    . rename_i k' ver n e
      obtain ⟨rfl, rfl⟩ := e
      cases h
      refine ⟨rfl, .inl ?_⟩
      have : n = len k := ho (some k, n) (by simp)
      rw [this]; rfl
    . cases h
  . cases h
 | dp k =>
  simp only [Pt.get] at h
  split at h
  . split at h
    . rename_i k' ver n room e
      obtain ⟨rfl, rfl⟩ := e
      cases h
      refine ⟨rfl, .inl ?_⟩
      have : n = len k := ho (some k, n) (by simp)
      rw [this]; rfl
    . cases h
  . cases h
 | dpr k sz off =>
  simp only [Pt.get] at h
  split at h
  . split at h
    . rename_i e; obtain ⟨rfl, rfl, rfl, rfl⟩ := e; cases h; exact ⟨rfl, .inl rfl⟩
    . cases h
  . cases h
 | pre k sz =>
  simp only [Pt.get] at h
  split at h
  . split at h
    . rename_i e; obtain ⟨rfl, rfl, rfl⟩ := e; cases h; exact ⟨rfl, .inl rfl⟩
    . cases h
  . cases h
 | sub k sz =>
  simp only [Pt.get] at h
  split at h
  . split at h
    . rename_i e; obtain ⟨rfl, rfl, rfl⟩ := e; cases h; exact ⟨rfl, .inl rfl⟩
    . cases h
  . split at h
    . rename_i e; obtain ⟨rfl, rfl⟩ := e; cases h; exact ⟨rfl, .inr (.inr (.inr (.inr (.inl ⟨_, _, _, sz, rfl, rfl⟩))))⟩
    . cases h
  . cases h
 | pr k sz off =>
  simp only [Pt.get] at h
  split at h
  . split at h
    . rename_i e; obtain ⟨rfl, rfl, rfl, rfl⟩ := e; cases h; exact ⟨rfl, .inl rfl⟩
    . cases h
  . cases h
 | mp k =>
  simp only [Pt.get] at h
  split at h
  . split at h
    . rename_i e; subst e; cases h; exact ⟨rfl, .inl rfl⟩
    . cases h
  . cases h
 | ptr k o =>
  simp only [Pt.get] at h
  split at h
  . split at h
    . rename_i e; obtain ⟨rfl, rfl⟩ := e; cases h; exact ⟨rfl, .inl rfl⟩
    . cases h
  . cases h
 | clp f ks =>
  simp only [Pt.get] at h
  split at h
  . split at h
    . rename_i e; obtain ⟨rfl, rfl⟩ := e; cases h; exact ⟨rfl, .inl rfl⟩
    . cases h
  . cases h
 | clo f ps =>
  simp only [Pt.get] at h
  split at h
  . split at h
    . rename_i e; subst e
      split at h
      . rename_i g' hg; cases h
        have := getDs_put hg R r
        refine ⟨by simp only [Pt.put]; rw [this], .inl ?_⟩
        simp only [Pt.put]; rw [this]
      . cases h
    . cases h
  . cases h

def PtsT : List Pt -> Type -> Type
 | [], R => R
 | p :: ps, R => p.T (PtsT ps R)
def putPts (len : Nat -> Nat) : (ps : List Pt) -> {R : Type} -> PtsT ps R -> List C × R
 | [], _, r => ([], r)
 | p :: ps, _, x => ((p.put len x).1 :: (putPts len ps (p.put len x).2).1, (putPts len ps (p.put len x).2).2)
def getPts : (ps : List Pt) -> List C -> Option (Ob × ∀ R : Type, R -> PtsT ps R)
 | [], [] => some ([], fun _ r => r)
 | p :: ps, c :: cs => match p.get c, getPts ps cs with
  | some (l1, g1), some (l2, g2) => some (l1 ++ l2, fun R r => g1 _ (g2 R r))
  | _, _ => none
 | _, _ => none
theorem ObOk.left {len : Nat -> Nat} {l1 l2 : Ob} (h : ObOk len (l1 ++ l2)) : ObOk len l1 := fun q hq => h q (List.mem_append_left _ hq)
theorem ObOk.right {len : Nat -> Nat} {l1 l2 : Ob} (h : ObOk len (l1 ++ l2)) : ObOk len l2 := fun q hq => h q (List.mem_append_right _ hq)
theorem getPts_put {len : Nat -> Nat} : ∀ {ps : List Pt} {cs : List C} {l : Ob} {g : ∀ R : Type, R -> PtsT ps R}, getPts ps cs = some (l, g) -> ObOk len l -> ∀ (R : Type) (r : R), (putPts len ps (g R r)).2 = r /\ WkCs cs (putPts len ps (g R r)).1
 | [], [], l, g, h, ho, R, r => by cases h; exact ⟨rfl, trivial⟩
 | [], _ :: _, l, g, h, ho, R, r => by cases h
 | _ :: _, [], l, g, h, ho, R, r => by cases h
 | p :: ps, c :: cs, l, g, h, ho, R, r => by
  unfold getPts at h
  split at h
  . rename_i l1 g1 l2 g2 h1 h2
    cases h
    obtain ⟨a1, a2⟩ := Pt.get_put h1 ho.left _ (g2 R r)
    obtain ⟨b1, b2⟩ := getPts_put h2 ho.right R r
    simp only [putPts]
    rw [a1]
    exact ⟨b1, a2, b2⟩
  . cases h
def skipPts : (ps : List Pt) -> {R : Type} -> PtsT ps R -> R := fun ps _ x => (putPts (fun _ => 0) ps x).2

def collG (c : Nat) : List C -> Option (List (List (τ c)))
 | [] => some []
 | x :: r => match getSt c false x, collG c r with
  | some xs, some L => some (xs :: L)
  | _, _ => none
def gcs (c n : Nat) (L : List (List (τ c))) : List C := (List.range n).map fun j => .gd c L j
def getGd (c : Nat) (cs : List C) : Option (Bool × List (List (τ c))) := match gdLs c cs 0 with
 | some (L :: Ls) => some (sameAll c L Ls, L)
 | _ => match collG c cs with
  | some L => some (true, L)
  | none => none
theorem WkCs.of : ∀ {cs cs' : List C}, cs.length = cs'.length -> (∀ (i : Nat) (x x' : C), cs[i]? = some x -> cs'[i]? = some x' -> WkC x x') -> WkCs cs cs'
 | [], [], _, _ => trivial
 | [], _ :: _, h, _ => by cases h
 | _ :: _, [], h, _ => by cases h
 | x :: r, x' :: r', h, h2 => ⟨h2 0 x x' rfl rfl, WkCs.of (by simpa using h) fun i y y' hy hy' => h2 (i + 1) y y' (by simpa using hy) (by simpa using hy')⟩
theorem getSt_gd {c : Nat} {x : C} {xs : List (τ c)} (h : getSt c false x = some xs) {L : List (List (τ c))} {j : Nat} (hj : L.getD j [] = xs) : WkC x (.gd c L j) := by
 subst hj
 cases x with
 | d d =>
  cases d with
  | st k ys => exact .inr (.inr (.inr (.inr (.inr ⟨c, L, j, rfl, .inl (by rw [castSt_eq (show castSt c k ys = some _ from h)])⟩))))
  | _ => cases h
 | f d =>
  cases d with
  | st k ys => exact .inr (.inr (.inr (.inr (.inr ⟨c, L, j, rfl, .inr (.inl (by rw [castSt_eq (show castSt c k ys = some _ from h)]))⟩))))
  | _ => cases h
 | nil =>
  have : [] = L.getD j [] := Option.some.inj h
  exact .inr (.inr (.inr (.inr (.inr ⟨c, L, j, rfl, .inr (.inr ⟨rfl, this.symm⟩)⟩))))
 | _ => cases h
theorem collG_get {c : Nat} : ∀ {cs : List C} {L : List (List (τ c))}, collG c cs = some L -> cs.length = L.length /\ ∀ (i : Nat) (x : C), cs[i]? = some x -> getSt c false x = some (L.getD i [])
 | [], L, h => by cases h; exact ⟨rfl, fun i x hi => by cases hi⟩
 | y :: r, L, h => by
  unfold collG at h
  split at h
  . rename_i xs L' h1 h2
    cases h
    obtain ⟨q1, q2⟩ := collG_get h2
    refine ⟨by simp [q1], fun i x hi => ?_⟩
    cases i with
    | zero => cases hi; exact h1
    | succ i => exact q2 i x hi
  . cases h
theorem getGd_wk {c : Nat} {cs : List C} {b : Bool} {L : List (List (τ c))} (h : getGd c cs = some (b, L)) (hb : b = true) : WkCs cs (gcs c cs.length L) := by
 refine WkCs.of (by simp [gcs]) fun i x x' hx hx' => ?_
 have hi := (List.getElem?_eq_some_iff.1 hx).1
 have hx' : x' = .gd c L i := by
   unfold gcs at hx'
   rw [List.getElem?_map, List.getElem?_range hi] at hx'
   exact (Option.some.inj hx').symm
 subst hx'
 unfold getGd at h
 split at h
 . rename_i L' Ls hg
   cases h
   have := gdLs_one hg hb hi
   rw [hx] at this
   exact .inl (Option.some.inj this).symm
 . split at h
   . rename_i L' hL
     cases h
     exact getSt_gd ((collG_get hL).2 i x hx) rfl
   . cases h
theorem WkCs.app : ∀ {a a' b b' : List C}, WkCs a a' -> WkCs b b' -> WkCs (a ++ b) (a' ++ b')
 | [], [], _, _, _, h => h
 | [], _ :: _, _, _, h, _ => h.elim
 | _ :: _, [], _, _, h, _ => h.elim
 | _ :: _, _ :: _, _, _, h, h2 => ⟨h.1, WkCs.app h.2 h2⟩
def putG (len : Nat -> Nat) (ps : List Pt) (c n : Nat) {R : Type} (x : PtsT ps (List (List (τ c)) × R)) : List C × R := match putPts len ps x with
 | (cs, (L, r)) => (cs ++ gcs c n L, r)
theorem putG_eq (len : Nat -> Nat) (ps : List Pt) (c n : Nat) {R : Type} (x : PtsT ps (List (List (τ c)) × R)) : putG len ps c n x = ((putPts len ps x).1 ++ gcs c n (putPts len ps x).2.1, (putPts len ps x).2.2) := rfl
def getG (ps : List Pt) (c n : Nat) (cs : List C) : Option (Ob × ∀ R : Type, R -> PtsT ps (List (List (τ c)) × R)) := match getPts ps (cs.take ps.length), getGd c (cs.drop ps.length) with
 | some (l, g), some (b, L) => match Nat.beq (cs.drop ps.length).length n with
  | true => some (l ++ [(none, obB b)], fun R r => g _ (L, r))
  | false => none
 | _, _ => none
theorem getG_put {len : Nat -> Nat} {ps : List Pt} {c n : Nat} {cs : List C} {l : Ob} {g : ∀ R : Type, R -> PtsT ps (List (List (τ c)) × R)} (h : getG ps c n cs = some (l, g)) (ho : ObOk len l) (R : Type) (r : R) : (putG len ps c n (g R r)).2 = r /\ WkCs cs (putG len ps c n (g R r)).1 := by
 unfold getG at h
 split at h
 . rename_i l' g' b L h1 h2
   split at h
   . rename_i hn
     cases h
     have hb : b = true := obB_eq (ho (none, obB b) (by simp))
     obtain ⟨a1, a2⟩ := getPts_put h1 ho.left _ (L, r)
     rw [putG_eq, a1]
     refine ⟨rfl, ?_⟩
     have := WkCs.app a2 (getGd_wk h2 hb)
     rw [List.take_append_drop, Nat.eq_of_beq_eq_true hn] at this
     exact this
   . cases h
 . cases h

inductive VP1 where
 | one (p : Pt)
 | agg (ps : List Pt)
 | aggG (ps : List Pt) (c n : Nat)
inductive VP where
 | v (x : VP1)
 | tup (xs : List VP1)
def VP1.T : VP1 -> Type -> Type
 | .one p, R => p.T R
 | .agg ps, R => PtsT ps R
 | .aggG ps c _, R => PtsT ps (List (List (τ c)) × R)
def VP1.put (len : Nat -> Nat) : (p : VP1) -> {R : Type} -> p.T R -> V × R
 | .one p, _, x => (.one (p.put len x).1, (p.put len x).2)
 | .agg ps, _, x => (.agg (putPts len ps x).1, (putPts len ps x).2)
 | .aggG ps c n, _, x => (.agg (putG len ps c n x).1, (putG len ps c n x).2)
def VP1.get : (p : VP1) -> V -> Option (Ob × ∀ R : Type, R -> p.T R)
 | .one p, v => match v with
  | .one c => p.get c
  | _ => none
 | .agg ps, v => match v with
  | .agg cs => getPts ps cs
  | _ => none
 | .aggG ps c n, v => match v with
  | .agg cs => getG ps c n cs
  | _ => none
theorem VP1.get_put {len : Nat -> Nat} {p : VP1} {u : V} {l : Ob} {g : ∀ R : Type, R -> p.T R} (h : p.get u = some (l, g)) (ho : ObOk len l) (R : Type) (r : R) : (p.put len (g R r)).2 = r /\ WkV u (p.put len (g R r)).1 := by
 cases p with
 | one p =>
  cases u with
  | one c =>
   have h' : p.get c = some (l, g) := h
   have := Pt.get_put (len := len) h' ho R r
   exact ⟨this.1, this.2⟩
  | agg => cases h
  | tup => cases h
 | agg ps =>
  cases u with
  | agg cs =>
   have h' : getPts ps cs = some (l, g) := h
   have := getPts_put (len := len) h' ho R r
   exact ⟨this.1, this.2⟩
  | one => cases h
  | tup => cases h
 | aggG ps c n =>
  cases u with
  | agg cs =>
   have h' : getG ps c n cs = some (l, g) := h
   have := getG_put (len := len) h' ho R r
   exact ⟨this.1, this.2⟩
  | one => cases h
  | tup => cases h
def VPsT : List VP1 -> Type -> Type
 | [], R => R
 | p :: ps, R => p.T (VPsT ps R)
def putVs (len : Nat -> Nat) : (ps : List VP1) -> {R : Type} -> VPsT ps R -> List V × R
 | [], _, r => ([], r)
 | p :: ps, _, x => ((p.put len x).1 :: (putVs len ps (p.put len x).2).1, (putVs len ps (p.put len x).2).2)
def getVs : (ps : List VP1) -> List V -> Option (Ob × ∀ R : Type, R -> VPsT ps R)
 | [], [] => some ([], fun _ r => r)
 | p :: ps, c :: cs => match p.get c, getVs ps cs with
  | some (l1, g1), some (l2, g2) => some (l1 ++ l2, fun R r => g1 _ (g2 R r))
  | _, _ => none
 | _, _ => none
theorem getVs_put {len : Nat -> Nat} : ∀ {ps : List VP1} {cs : List V} {l : Ob} {g : ∀ R : Type, R -> VPsT ps R}, getVs ps cs = some (l, g) -> ObOk len l -> ∀ (R : Type) (r : R), (putVs len ps (g R r)).2 = r /\ WkVs cs (putVs len ps (g R r)).1
 | [], [], l, g, h, ho, R, r => by cases h; exact ⟨rfl, trivial⟩
 | [], _ :: _, l, g, h, ho, R, r => by cases h
 | _ :: _, [], l, g, h, ho, R, r => by cases h
 | p :: ps, c :: cs, l, g, h, ho, R, r => by
  unfold getVs at h
  split at h
  . rename_i l1 g1 l2 g2 h1 h2
    cases h
    obtain ⟨a1, a2⟩ := VP1.get_put h1 ho.left _ (g2 R r)
    obtain ⟨b1, b2⟩ := getVs_put h2 ho.right R r
    simp only [putVs]
    rw [a1]
    exact ⟨b1, a2, b2⟩
  . cases h
def WkX (x y : V) : Prop := WkV x y \/ ∃ vs vs', x = .tup vs /\ y = .tup vs' /\ WkVs vs vs'
def VP.T : VP -> Type -> Type
 | .v p, R => p.T R
 | .tup ps, R => VPsT ps R
def VP.put (len : Nat -> Nat) : (p : VP) -> {R : Type} -> p.T R -> V × R
 | .v p, _, x => p.put len x
 | .tup ps, _, x => (.tup (putVs len ps x).1, (putVs len ps x).2)
def VP.get : (p : VP) -> V -> Option (Ob × ∀ R : Type, R -> p.T R)
 | .v p, u => p.get u
 | .tup ps, u => match u with
  | .tup vs => getVs ps vs
  | _ => none
theorem VP.get_put {len : Nat -> Nat} {p : VP} {u : V} {l : Ob} {g : ∀ R : Type, R -> p.T R} (h : p.get u = some (l, g)) (ho : ObOk len l) (R : Type) (r : R) : (p.put len (g R r)).2 = r /\ WkX u (p.put len (g R r)).1 := by
 cases p with
 | v p =>
  have h' : p.get u = some (l, g) := h
  have := VP1.get_put (len := len) h' ho R r
  exact ⟨this.1, .inl this.2⟩
 | tup ps =>
  cases u with
  | tup us =>
   have h' : getVs ps us = some (l, g) := h
   have := getVs_put (len := len) h' ho R r
   exact ⟨this.1, .inr ⟨_, _, rfl, rfl, this.2⟩⟩
  | one => cases h
  | agg => cases h

def EnvT : List (Nat × VP) -> Type -> Type
 | [], R => R
 | p :: ps, R => p.2.T (EnvT ps R)
def putEnv (len : Nat -> Nat) : (ps : List (Nat × VP)) -> {R : Type} -> EnvT ps R -> List (Nat × V) × R
 | [], _, r => ([], r)
 | p :: ps, _, x => ((p.1, (p.2.put len x).1) :: (putEnv len ps (p.2.put len x).2).1, (putEnv len ps (p.2.put len x).2).2)
def getEnv : (ps : List (Nat × VP)) -> List (Nat × V) -> Option (Ob × ∀ R : Type, R -> EnvT ps R)
 | [], [] => some ([], fun _ r => r)
 | p :: ps, c :: cs => match Nat.beq p.1 c.1, p.2.get c.2, getEnv ps cs with
  | true, some (l1, g1), some (l2, g2) => some (l1 ++ l2, fun R r => g1 _ (g2 R r))
  | _, _, _ => none
 | _, _ => none
def EnvWk : List (Nat × V) -> List (Nat × V) -> Prop
 | [], [] => True
 | c :: cs, d :: ds => c.1 = d.1 /\ WkX c.2 d.2 /\ EnvWk cs ds
 | _, _ => False
theorem getEnv_put {len : Nat -> Nat} : ∀ {ps : List (Nat × VP)} {cs : List (Nat × V)} {l : Ob} {g : ∀ R : Type, R -> EnvT ps R}, getEnv ps cs = some (l, g) -> ObOk len l -> ∀ (R : Type) (r : R), (putEnv len ps (g R r)).2 = r /\ EnvWk cs (putEnv len ps (g R r)).1
 | [], [], l, g, h, ho, R, r => by cases h; exact ⟨rfl, trivial⟩
 | [], _ :: _, l, g, h, ho, R, r => by cases h
 | _ :: _, [], l, g, h, ho, R, r => by cases h
 | p :: ps, c :: cs, l, g, h, ho, R, r => by
  unfold getEnv at h
  split at h
  . rename_i l1 g1 l2 g2 h0 h1 h2
    cases h
    obtain ⟨a1, a2⟩ := VP.get_put h1 ho.left _ (g2 R r)
    obtain ⟨b1, b2⟩ := getEnv_put h2 ho.right R r
    simp only [putEnv]
    rw [a1]
    exact ⟨b1, (Nat.eq_of_beq_eq_true h0).symm, a2, b2⟩
  . cases h
inductive BP where
 | cells (ps : List Pt)
 | row (e : TypeId) (c : Nat) (ap fr : Bool)
 | map (kt : Nat)
 | junk (e : TypeId) (sz : Nat)
 | bx (T : TypeId) (q : Nat)
 | buf (e : TypeId)
 | deep (e ei : TypeId) (c : Nat)
 | deepH (e ei : TypeId) (c q : Nat)
 | jk (e : TypeId) (sz : Nat)
 | jd (e ei : TypeId) (sz ic szi : Nat)
 | jdH (e ei : TypeId) (sz ic szi q : Nat)
 | jo (e ei : TypeId) (sz ic szi : Nat)
 | cellsG (ps : List Pt) (c n : Nat)
 | grp (ei : TypeId) (c : Nat) (o : Bool)
def BP.T : BP -> Type -> Type
 | .bx _ _, R => R
 | .buf _, R => List UInt8 × R
 | .deep _ _ c, R => List (τ c) × R
 | .deepH _ _ c _, R => Nat × (List (τ c) × R)
 | .jk _ _, R => Nat × (Nat × R)
 | .jd _ _ _ _ _, R => List (Nat × Nat) × R
 | .jdH _ _ _ _ _ _, R => Nat × (List (Nat × Nat) × R)
 | .jo _ _ _ _ _, R => Nat × R
 | .cellsG ps c _, R => PtsT ps (List (List (τ c)) × R)
 | .grp _ c _, R => Nat × (List (List (τ c)) × R)
 | .junk _ _, R => Nat × R
 | .map kt, R => List (τ kt × Int) × R
 | .cells ps, R => PtsT ps R
 | .row _ c _ _, R => List (τ c) × R
def BP.put (len : Nat -> Nat) (k : Nat) : (p : BP) -> {R : Type} -> p.T R -> Blk × R
 | .cells ps, _, x => (.cells (putPts len ps x).1, (putPts len ps x).2)
 | .row e c ap fr, _, (xs, r) => (.rowT (vk k) e c ap fr xs, r)
 | .map kt, _, (es, r) => (.mp kt es, r)
 | .junk e sz, _, (n, r) => (.junk (vk k) e sz (len k) n, r)
 | .bx T q, _, r => (.bx T (some (q, vk q)), r)
 | .buf e, _, (xs, r) => (.buf (vk k) e xs, r)
 | .deep e ei c, _, (xs, r) => (.deep (vk k) e ei c none xs, r)
 | .deepH e ei c q, _, (i, xs, r) => (.deep (vk k) e ei c (some (i, some (q, vk q))) xs, r)
 | .jk e sz, _, (l, n, r) => (.junk (vk k) e sz l n, r)
 | .jd e ei sz ic szi, _, (ls, r) => (.jd (vk k) e ei sz ic szi none none ls, r)
 | .jdH e ei sz ic szi q, _, (i, ls, r) => (.jd (vk k) e ei sz ic szi none (some (i, some (q, vk q))) ls, r)
 | .jo e ei sz ic szi, _, (n, r) => (.jd (vk k) e ei sz ic szi (some (len k, n)) none [], r)
 | .cellsG ps c n, _, x => (.cells (putG len ps c n x).1, (putG len ps c n x).2)
 | .grp ei c o, _, (m, L, r) => (.grp (vk k) ei c m o none L, r)
def getGr (k : Nat) (ei : TypeId) (c : Nat) : Blk -> Option (Nat × Bool × List (List (τ c)))
 | .grp ver ei' c' m o none L => match decide (ver = vk k /\ ei = ei') with
  | true => if h : c' = c then some (m, o, h ▸ L) else none
  | false => none
 | _ => none
theorem getGr_eq {k : Nat} {ei : TypeId} {c : Nat} {b : Blk} {m : Nat} {o : Bool} {L : List (List (τ c))} (h : getGr k ei c b = some (m, o, L)) : b = .grp (vk k) ei c m o none L := by
 unfold getGr at h
 split at h
 . split at h
   . rename_i q
     obtain ⟨rfl, rfl⟩ := of_decide_eq_true q
     split at h
     . rename_i q; subst q; cases h; rfl
     . cases h
   . cases h
 . cases h
def getJd (k : Nat) (e ei sz ic szi : Nat) : Blk -> Option (List (Nat × Nat))
 | .jd ver e' ei' sz' ic' szi' none none ls => match decide (ver = vk k /\ e = e' /\ ei = ei' /\ sz = sz' /\ ic = ic' /\ szi = szi') with | true => some ls | false => none
 | _ => none
theorem getJd_eq {k e ei sz ic szi : Nat} {b : Blk} {ls : List (Nat × Nat)} (h : getJd k e ei sz ic szi b = some ls) : b = .jd (vk k) e ei sz ic szi none none ls := by
 unfold getJd at h
 split at h
 . split at h
   . rename_i q; obtain ⟨rfl, rfl, rfl, rfl, rfl, rfl⟩ := of_decide_eq_true q; cases h; rfl
   . cases h
 . cases h
def getJh (k : Nat) (e ei sz ic szi q : Nat) : Blk -> Option (Nat × List (Nat × Nat))
 | .jd ver e' ei' sz' ic' szi' none (some (i, some (q', v))) ls => match decide (ver = vk k /\ e = e' /\ ei = ei' /\ sz = sz' /\ ic = ic' /\ szi = szi' /\ q = q' /\ v = vk q) with | true => some (i, ls) | false => none
 | _ => none
theorem getJh_eq {k e ei sz ic szi q : Nat} {b : Blk} {i : Nat} {ls : List (Nat × Nat)} (h : getJh k e ei sz ic szi q b = some (i, ls)) : b = .jd (vk k) e ei sz ic szi none (some (i, some (q, vk q))) ls := by
 unfold getJh at h
 split at h
 . split at h
   . rename_i z; obtain ⟨rfl, rfl, rfl, rfl, rfl, rfl, rfl, rfl⟩ := of_decide_eq_true z; cases h; rfl
   . cases h
 . cases h
def getJo (k : Nat) (e ei sz ic szi : Nat) : Blk -> Option (Nat × Nat)
 | .jd ver e' ei' sz' ic' szi' (some (l, n)) none [] => match decide (ver = vk k /\ e = e' /\ ei = ei' /\ sz = sz' /\ ic = ic' /\ szi = szi') with | true => some (l, n) | false => none
 | _ => none
theorem getJo_eq {k e ei sz ic szi : Nat} {b : Blk} {l n : Nat} (h : getJo k e ei sz ic szi b = some (l, n)) : b = .jd (vk k) e ei sz ic szi (some (l, n)) none [] := by
 unfold getJo at h
 split at h
 . split at h
   . rename_i q; obtain ⟨rfl, rfl, rfl, rfl, rfl, rfl⟩ := of_decide_eq_true q; cases h; rfl
   . cases h
 . cases h
def getDp (k : Nat) (e ei : TypeId) (c : Nat) : Blk -> Option (List (τ c))
 | .deep ver e' ei' c' none xs => if ver = vk k /\ e = e' /\ ei = ei' then castSt c c' xs else none
 | _ => none
theorem getDp_eq {k : Nat} {e ei : TypeId} {c : Nat} {b : Blk} {ys : List (τ c)} (h : getDp k e ei c b = some ys) : b = .deep (vk k) e ei c none ys := by
 unfold getDp at h
 split at h
 . rename_i ver e' ei' c' xs
   split at h
   . rename_i q
     obtain ⟨rfl, rfl, rfl⟩ := q
     unfold castSt at h
     split at h
     . rename_i q; subst q; cases h; rfl
     . cases h
   . cases h
 . cases h
def getDh (k : Nat) (e ei : TypeId) (c q : Nat) : Blk -> Option (Nat × List (τ c))
 | .deep ver e' ei' c' (some (i, some (q', v))) xs => if ver = vk k /\ e = e' /\ ei = ei' /\ q = q' /\ v = vk q then (castSt c c' xs).map fun ys => (i, ys) else none
 | _ => none
theorem getDh_eq {k : Nat} {e ei : TypeId} {c q : Nat} {b : Blk} {i : Nat} {ys : List (τ c)} (h : getDh k e ei c q b = some (i, ys)) : b = .deep (vk k) e ei c (some (i, some (q, vk q))) ys := by
 unfold getDh at h
 split at h
 . rename_i ver e' ei' c' i' q' v xs
   split at h
   . rename_i z
     obtain ⟨rfl, rfl, rfl, rfl, rfl⟩ := z
     unfold castSt at h
     split at h
     . rename_i z; subst z; cases h; rfl
     . cases h
   . cases h
 . cases h
def getBf (k : Nat) (e : TypeId) : Blk -> Option (List UInt8)
 | .buf ver e' xs => if ver = vk k /\ e = e' then some xs else none
 | _ => none
theorem getBf_eq {k : Nat} {e : TypeId} {b : Blk} {xs : List UInt8} (h : getBf k e b = some xs) : b = .buf (vk k) e xs := by
 unfold getBf at h
 split at h
 . split at h
   . rename_i q; obtain ⟨rfl, rfl⟩ := q; cases h; rfl
   . cases h
 . cases h
def isBx (T : TypeId) (q : Nat) : Blk -> Bool
 | .bx T' (some (q', v)) => decide (T = T' /\ q = q' /\ v = vk q)
 | _ => false
theorem isBx_eq {T : TypeId} {q : Nat} {b : Blk} (h : isBx T q b = true) : b = .bx T (some (q, vk q)) := by
 unfold isBx at h
 split at h
 . obtain ⟨rfl, rfl, rfl⟩ := of_decide_eq_true h; rfl
 . cases h
def getJk (k : Nat) (e : TypeId) (sz : Nat) : Blk -> Option (Nat × Nat)
 | .junk ver e' sz' l n => if ver = vk k /\ e = e' /\ sz = sz' then some (l, n) else none
 | _ => none
theorem getJk_eq {k : Nat} {e : TypeId} {sz : Nat} {b : Blk} {l n : Nat} (h : getJk k e sz b = some (l, n)) : b = .junk (vk k) e sz l n := by
 cases b with
 | junk ver e' sz' l' n' =>
  have h' : (if ver = vk k /\ e = e' /\ sz = sz' then some (l', n') else none) = some (l, n) := h
  split at h'
  . rename_i q; obtain ⟨rfl, rfl, rfl⟩ := q; cases h'; rfl
  . cases h'
 | cells => exact absurd (show (none : Option (Nat × Nat)) = some (l, n) from h) (by simp)
 | row => exact absurd (show (none : Option (Nat × Nat)) = some (l, n) from h) (by simp)
 | bx => exact absurd (show (none : Option (Nat × Nat)) = some (l, n) from h) (by simp)
 | buf => exact absurd (show (none : Option (Nat × Nat)) = some (l, n) from h) (by simp)
 | deep => exact absurd (show (none : Option (Nat × Nat)) = some (l, n) from h) (by simp)
 | jd => exact absurd (show (none : Option (Nat × Nat)) = some (l, n) from h) (by simp)
 | grp => exact absurd (show (none : Option (Nat × Nat)) = some (l, n) from h) (by simp)
 | rowT => exact absurd (show (none : Option (Nat × Nat)) = some (l, n) from h) (by simp)
 | mp => exact absurd (show (none : Option (Nat × Nat)) = some (l, n) from h) (by simp)
def getMp (kt : Nat) : Blk -> Option (List (τ kt × Int))
 | .mp kt' es => if h : kt' = kt then some (h ▸ es) else none
 | _ => none
theorem getMp_eq {kt : Nat} {b : Blk} {es : List (τ kt × Int)} (h : getMp kt b = some es) : b = .mp kt es := by
 cases b with
 | mp kt' es' =>
  have h' : (if h : kt' = kt then some (h ▸ es') else none) = some es := h
  split at h'
  . rename_i e; subst e; cases h'; rfl
  . cases h'
 | cells => exact absurd (show (none : Option (List (τ kt × Int))) = some es from h) (by simp)
 | row => exact absurd (show (none : Option (List (τ kt × Int))) = some es from h) (by simp)
 | bx => exact absurd (show (none : Option (List (τ kt × Int))) = some es from h) (by simp)
 | buf => exact absurd (show (none : Option (List (τ kt × Int))) = some es from h) (by simp)
 | deep => exact absurd (show (none : Option (List (τ kt × Int))) = some es from h) (by simp)
 | jd => exact absurd (show (none : Option (List (τ kt × Int))) = some es from h) (by simp)
 | grp => exact absurd (show (none : Option (List (τ kt × Int))) = some es from h) (by simp)
 | rowT => exact absurd (show (none : Option (List (τ kt × Int))) = some es from h) (by simp)
 | junk => exact absurd (show (none : Option (List (τ kt × Int))) = some es from h) (by simp)
def getRow (k : Nat) (e : TypeId) (c : Nat) (ap fr : Bool) : Blk -> Option (List (τ c))
 | .rowT ver e' c' ap' fr' xs => if ver = vk k /\ e = e' /\ ap = ap' /\ fr = fr' then castSt c c' xs else none
 | _ => none
theorem getRow_wk {k : Nat} {e : TypeId} {c : Nat} {ap fr : Bool} {b : Blk} {ys : List (τ c)} (h : getRow k e c ap fr b = some ys) : b = .rowT (vk k) e c ap fr ys := by
 cases b with
 | rowT ver e' c' ap' fr' xs =>
  have h' : (if ver = vk k /\ e = e' /\ ap = ap' /\ fr = fr' then castSt c c' xs else none) = some ys := h
  by_cases e1 : ver = vk k /\ e = e' /\ ap = ap' /\ fr = fr'
  . rw [if_pos e1] at h'
    obtain ⟨rfl, rfl, rfl, rfl⟩ := e1
    unfold castSt at h'
    split at h'
    . rename_i e; subst e; cases h'; rfl
    . cases h'
  . rw [if_neg e1] at h'; cases h'
 | cells => exact absurd (show (none : Option (List (τ c))) = some ys from h) (by simp)
 | mp => exact absurd (show (none : Option (List (τ c))) = some ys from h) (by simp)
 | row => exact absurd (show (none : Option (List (τ c))) = some ys from h) (by simp)
 | bx => exact absurd (show (none : Option (List (τ c))) = some ys from h) (by simp)
 | buf => exact absurd (show (none : Option (List (τ c))) = some ys from h) (by simp)
 | deep => exact absurd (show (none : Option (List (τ c))) = some ys from h) (by simp)
 | jd => exact absurd (show (none : Option (List (τ c))) = some ys from h) (by simp)
 | grp => exact absurd (show (none : Option (List (τ c))) = some ys from h) (by simp)
 | junk => exact absurd (show (none : Option (List (τ c))) = some ys from h) (by simp)
def BP.get (k : Nat) : (p : BP) -> Blk -> Option (Ob × ∀ R : Type, R -> p.T R)
 | .cells ps, b => match b with
  | .cells cs => getPts ps cs
  | _ => none
 | .row e c ap fr, b => match getRow k e c ap fr b with
  | some ys => some ([], fun _ r => (ys, r))
  | none => none
 | .map kt, b => match getMp kt b with
  | some es => some ([], fun _ r => (es, r))
  | none => none
 | .junk e sz, b => match getJk k e sz b with
  | some (l, n) => some ([(some k, l)], fun _ r => (n, r))
  | none => none
 | .bx T q, b => match isBx T q b with
  | true => some ([], fun _ r => r)
  | false => none
 | .buf e, b => match getBf k e b with
  | some xs => some ([], fun _ r => (xs, r))
  | none => none
 | .deep e ei c, b => match getDp k e ei c b with
  | some xs => some ([], fun _ r => (xs, r))
  | none => none
 | .deepH e ei c q, b => match getDh k e ei c q b with
  | some (i, xs) => some ([], fun _ r => (i, xs, r))
  | none => none
 | .jk e sz, b => match getJk k e sz b with
  | some (l, n) => some ([], fun _ r => (l, n, r))
  | none => none
 | .jd e ei sz ic szi, b => match getJd k e ei sz ic szi b with
  | some ls => some ([], fun _ r => (ls, r))
  | none => none
 | .jdH e ei sz ic szi q, b => match getJh k e ei sz ic szi q b with
  | some (i, ls) => some ([], fun _ r => (i, ls, r))
  | none => none
 | .jo e ei sz ic szi, b => match getJo k e ei sz ic szi b with
  | some (l, n) => some ([(some k, l)], fun _ r => (n, r))
  | none => none
 | .cellsG ps c n, b => match b with
  | .cells cs => getG ps c n cs
  | _ => none
 | .grp ei c _, b => match getGr k ei c b with
  | some (m, _, L) => some ([], fun _ r => (m, L, r))
  | none => none
theorem WkB.blk {b b' : Blk} (h : WkB b b') : BlkWk b b' := by
 refine ⟨?_, fun p x j => WkB_covers h, fun w β U base p hr => hr.wk h⟩
 cases b with
 | cells cs => cases b' with
  | cells => rfl
  | mp => cases h
  | row => cases h
  | rowT => cases h
  | junk => cases h
  | bx => cases h
  | buf => cases h
  | deep => cases h
  | jd => cases h
  | grp => cases h
 | jd => cases h; rfl
 | grp => cases h; rfl
 | deep => cases h; rfl
 | mp => cases h; rfl
 | bx => cases h; rfl
 | buf => cases h; rfl
 | junk => cases h; rfl
 | row => cases h; rfl
 | rowT => cases h; rfl
theorem BlkWk.grp {ver : Nat} {ei : TypeId} {c m : Nat} {o o' : Bool} {hole : Option (Nat × Option (Nat × Nat))} {L : List (List (τ c))} : BlkWk (.grp ver ei c m o hole L) (.grp ver ei c m o' hole L) := by
 refine ⟨Eq.refl _, fun p x j => ?_, fun w β U base p hr => ?_⟩
 . cases p <;> exact Iff.rfl
 . cases p with
   | cells => exact hr.elim
   | row => exact hr.elim
   | deep => exact hr
theorem BP.get_put {len : Nat -> Nat} {k : Nat} {p : BP} {b : Blk} {l : Ob} {g : ∀ R : Type, R -> p.T R} (h : p.get k b = some (l, g)) (ho : ObOk len l) (R : Type) (r : R) : (p.put len k (g R r)).2 = r /\ BlkWk b (p.put len k (g R r)).1 := by
 cases p with
 | cells ps =>
  cases b with
  | cells cs =>
   have h' : getPts ps cs = some (l, g) := h
   have := getPts_put (len := len) h' ho R r
   exact ⟨this.1, WkB.blk (show WkB (.cells _) (.cells _) from this.2)⟩
  | mp => cases h
  | row => cases h
  | rowT => cases h
  | junk => cases h
  | bx => cases h
  | buf => cases h
  | deep => cases h
  | jd => cases h
  | grp => cases h
 | deep e ei c =>
  cases hr : getDp k e ei c b with
  | none =>
   have h' : (match getDp k e ei c b with | some xs => some (([] : Ob), fun (R : Type) (r : R) => ((xs, r) : List (τ c) × R)) | none => none) = some (l, g) := h
   rw [hr] at h'
   exact absurd h' (by simp)
  | some xs =>
   have h' : (match getDp k e ei c b with | some xs => some (([] : Ob), fun (R : Type) (r : R) => ((xs, r) : List (τ c) × R)) | none => none) = some (l, g) := h
   rw [hr] at h'
   have h3 : g = fun R r => (xs, r) := (congrArg Prod.snd (Option.some.inj h')).symm
   subst h3
   refine ⟨rfl, ?_⟩
   rw [getDp_eq hr]
   exact BlkWk.rfl _
 | deepH e ei c q =>
  cases hr : getDh k e ei c q b with
  | none =>
   have h' : (match getDh k e ei c q b with | some (i, xs) => some (([] : Ob), fun (R : Type) (r : R) => ((i, xs, r) : Nat × (List (τ c) × R))) | none => none) = some (l, g) := h
   rw [hr] at h'
   exact absurd h' (by simp)
  | some z =>
   obtain ⟨i, xs⟩ := z
   have h' : (match getDh k e ei c q b with | some (i, xs) => some (([] : Ob), fun (R : Type) (r : R) => ((i, xs, r) : Nat × (List (τ c) × R))) | none => none) = some (l, g) := h
   rw [hr] at h'
   have h3 : g = fun R r => (i, xs, r) := (congrArg Prod.snd (Option.some.inj h')).symm
   subst h3
   refine ⟨rfl, ?_⟩
   rw [getDh_eq hr]
   exact BlkWk.rfl _
 | jk e sz =>
  cases hr : getJk k e sz b with
  | none =>
   have h' : (match getJk k e sz b with | some (l, n) => some (([] : Ob), fun (R : Type) (r : R) => ((l, n, r) : Nat × (Nat × R))) | none => none) = some (l, g) := h
   rw [hr] at h'
   exact absurd h' (by simp)
  | some z =>
   obtain ⟨i, n⟩ := z
   have h' : (match getJk k e sz b with | some (l, n) => some (([] : Ob), fun (R : Type) (r : R) => ((l, n, r) : Nat × (Nat × R))) | none => none) = some (l, g) := h
   rw [hr] at h'
   have h3 : g = fun R r => (i, n, r) := (congrArg Prod.snd (Option.some.inj h')).symm
   subst h3
   refine ⟨rfl, ?_⟩
   rw [getJk_eq hr]
   exact BlkWk.rfl _
 | jd e ei sz ic szi =>
  cases hr : getJd k e ei sz ic szi b with
  | none =>
   have h' : (match getJd k e ei sz ic szi b with | some ls => some (([] : Ob), fun (R : Type) (r : R) => ((ls, r) : List (Nat × Nat) × R)) | none => none) = some (l, g) := h
   rw [hr] at h'
   exact absurd h' (by simp)
  | some ls =>
   have h' : (match getJd k e ei sz ic szi b with | some ls => some (([] : Ob), fun (R : Type) (r : R) => ((ls, r) : List (Nat × Nat) × R)) | none => none) = some (l, g) := h
   rw [hr] at h'
   have h3 : g = fun R r => (ls, r) := (congrArg Prod.snd (Option.some.inj h')).symm
   subst h3
   refine ⟨rfl, ?_⟩
   rw [getJd_eq hr]
   exact BlkWk.rfl _
 | jdH e ei sz ic szi q =>
  cases hr : getJh k e ei sz ic szi q b with
  | none =>
   have h' : (match getJh k e ei sz ic szi q b with | some (i, ls) => some (([] : Ob), fun (R : Type) (r : R) => ((i, ls, r) : Nat × (List (Nat × Nat) × R))) | none => none) = some (l, g) := h
   rw [hr] at h'
   exact absurd h' (by simp)
  | some z =>
   obtain ⟨i, ls⟩ := z
   have h' : (match getJh k e ei sz ic szi q b with | some (i, ls) => some (([] : Ob), fun (R : Type) (r : R) => ((i, ls, r) : Nat × (List (Nat × Nat) × R))) | none => none) = some (l, g) := h
   rw [hr] at h'
   have h3 : g = fun R r => (i, ls, r) := (congrArg Prod.snd (Option.some.inj h')).symm
   subst h3
   refine ⟨rfl, ?_⟩
   rw [getJh_eq hr]
   exact BlkWk.rfl _
 | jo e ei sz ic szi =>
  cases hr : getJo k e ei sz ic szi b with
  | none =>
   have h' : (match getJo k e ei sz ic szi b with | some (l, n) => some (([(some k, l)] : Ob), fun (R : Type) (r : R) => ((n, r) : Nat × R)) | none => none) = some (l, g) := h
   rw [hr] at h'
   exact absurd h' (by simp)
  | some q =>
   obtain ⟨l0, n0⟩ := q
   have h' : (match getJo k e ei sz ic szi b with | some (l, n) => some (([(some k, l)] : Ob), fun (R : Type) (r : R) => ((n, r) : Nat × R)) | none => none) = some (l, g) := h
   rw [hr] at h'
   have h1 : [(some k, l0)] = l := congrArg Prod.fst (Option.some.inj h')
   have h3 : g = fun R r => (n0, r) := (congrArg Prod.snd (Option.some.inj h')).symm
   subst h1; subst h3
   refine ⟨rfl, ?_⟩
   have h4 : l0 = len k := ho (some k, l0) (by simp)
   rw [getJo_eq hr, h4]
   exact BlkWk.rfl _
 | cellsG ps c n =>
  cases b with
  | cells cs =>
   have h' : getG ps c n cs = some (l, g) := h
   have := getG_put (len := len) h' ho R r
   exact ⟨this.1, WkB.blk (show WkB (.cells _) (.cells _) from this.2)⟩
  | mp => cases h
  | row => cases h
  | rowT => cases h
  | junk => cases h
  | bx => cases h
  | buf => cases h
  | deep => cases h
  | jd => cases h
  | grp => cases h
 | grp ei c o =>
  cases hr : getGr k ei c b with
  | none =>
   have h' : (match getGr k ei c b with | some (m, _, L) => some (([] : Ob), fun (R : Type) (r : R) => ((m, L, r) : Nat × (List (List (τ c)) × R))) | none => none) = some (l, g) := h
   rw [hr] at h'
   exact absurd h' (by simp)
  | some z =>
   obtain ⟨m, o', L⟩ := z
   have h' : (match getGr k ei c b with | some (m, _, L) => some (([] : Ob), fun (R : Type) (r : R) => ((m, L, r) : Nat × (List (List (τ c)) × R))) | none => none) = some (l, g) := h
   rw [hr] at h'
   have h3 : g = fun R r => (m, L, r) := (congrArg Prod.snd (Option.some.inj h')).symm
   subst h3
   refine ⟨rfl, ?_⟩
   rw [getGr_eq hr]
   exact BlkWk.grp
 | bx T q =>
  cases hr : isBx T q b with
  | false =>
   have h' : (match isBx T q b with | true => some (([] : Ob), fun (R : Type) (r : R) => r) | false => none) = some (l, g) := h
   rw [hr] at h'
   exact absurd h' (by simp)
  | true =>
   have h' : (match isBx T q b with | true => some (([] : Ob), fun (R : Type) (r : R) => r) | false => none) = some (l, g) := h
   rw [hr] at h'
   have h3 : g = fun R r => r := (congrArg Prod.snd (Option.some.inj h')).symm
   subst h3
   refine ⟨rfl, ?_⟩
   rw [isBx_eq hr]
   exact BlkWk.rfl _
 | buf e =>
  cases hr : getBf k e b with
  | none =>
   have h' : (match getBf k e b with | some xs => some (([] : Ob), fun (R : Type) (r : R) => ((xs, r) : List UInt8 × R)) | none => none) = some (l, g) := h
   rw [hr] at h'
   exact absurd h' (by simp)
  | some xs =>
   have h' : (match getBf k e b with | some xs => some (([] : Ob), fun (R : Type) (r : R) => ((xs, r) : List UInt8 × R)) | none => none) = some (l, g) := h
   rw [hr] at h'
   have h3 : g = fun R r => (xs, r) := (congrArg Prod.snd (Option.some.inj h')).symm
   subst h3
   refine ⟨rfl, ?_⟩
   rw [getBf_eq hr]
   exact BlkWk.rfl _
 | junk e sz =>
  cases hr : getJk k e sz b with
  | none =>
   have h' : (match getJk k e sz b with | some (l, n) => some (([(some k, l)] : Ob), fun (R : Type) (r : R) => ((n, r) : Nat × R)) | none => none) = some (l, g) := h
   rw [hr] at h'
   exact absurd h' (by simp)
  | some q =>
   obtain ⟨l0, n0⟩ := q
   have h' : (match getJk k e sz b with | some (l, n) => some (([(some k, l)] : Ob), fun (R : Type) (r : R) => ((n, r) : Nat × R)) | none => none) = some (l, g) := h
   rw [hr] at h'
   have h1 : [(some k, l0)] = l := congrArg Prod.fst (Option.some.inj h')
   have h2 := congrArg Prod.snd (Option.some.inj h')
   have h3 : g = fun R r => (n0, r) := h2.symm
   subst h1; subst h3
   refine ⟨rfl, ?_⟩
   have h4 : l0 = len k := ho (some k, l0) (by simp)
   rw [getJk_eq hr, h4]
   exact BlkWk.rfl _
 | map kt =>
  cases hr : getMp kt b with
  | none =>
   have h' : (match getMp kt b with | some es => some (([] : Ob), fun (R : Type) (r : R) => ((es, r) : List (τ kt × Int) × R)) | none => none) = some (l, g) := h
   rw [hr] at h'
   exact absurd h' (by simp)
  | some es =>
   have h' : (match getMp kt b with | some es => some (([] : Ob), fun (R : Type) (r : R) => ((es, r) : List (τ kt × Int) × R)) | none => none) = some (l, g) := h
   rw [hr] at h'
   have h2 := congrArg Prod.snd (Option.some.inj h')
   have h3 : g = fun R r => (es, r) := h2.symm
   subst h3
   refine ⟨rfl, ?_⟩
   rw [getMp_eq hr]
   exact BlkWk.rfl _
 | row e c ap fr =>
  cases hr : getRow k e c ap fr b with
  | none =>
   have h' : (match getRow k e c ap fr b with | some ys => some (([] : Ob), fun (R : Type) (r : R) => ((ys, r) : List (τ c) × R)) | none => none) = some (l, g) := h
   rw [hr] at h'
   exact absurd h' (by simp)
  | some ys =>
   have h' : (match getRow k e c ap fr b with | some ys => some (([] : Ob), fun (R : Type) (r : R) => ((ys, r) : List (τ c) × R)) | none => none) = some (l, g) := h
   rw [hr] at h'
   have h2 := congrArg Prod.snd (Option.some.inj h')
   have h3 : g = fun R r => (ys, r) := h2.symm
   subst h3
   refine ⟨rfl, ?_⟩
   rw [getRow_wk hr]
   exact BlkWk.rfl _
def MemT : List (Nat × BP) -> Type -> Type
 | [], R => R
 | p :: ps, R => p.2.T (MemT ps R)
def putMem (len : Nat -> Nat) : (ps : List (Nat × BP)) -> {R : Type} -> MemT ps R -> List (Nat × Blk) × R
 | [], _, r => ([], r)
 | p :: ps, _, x => ((p.1, (p.2.put len p.1 x).1) :: (putMem len ps (p.2.put len p.1 x).2).1, (putMem len ps (p.2.put len p.1 x).2).2)
def getMem : (ps : List (Nat × BP)) -> List (Nat × Blk) -> Option (Ob × ∀ R : Type, R -> MemT ps R)
 | [], [] => some ([], fun _ r => r)
 | p :: ps, c :: cs => match Nat.beq p.1 c.1, p.2.get p.1 c.2, getMem ps cs with
  | true, some (l1, g1), some (l2, g2) => some (l1 ++ l2, fun R r => g1 _ (g2 R r))
  | _, _, _ => none
 | _, _ => none
def MemWk : List (Nat × Blk) -> List (Nat × Blk) -> Prop
 | [], [] => True
 | c :: cs, d :: ds => c.1 = d.1 /\ BlkWk c.2 d.2 /\ MemWk cs ds
 | _, _ => False
theorem getMem_put {len : Nat -> Nat} : ∀ {ps : List (Nat × BP)} {cs : List (Nat × Blk)} {l : Ob} {g : ∀ R : Type, R -> MemT ps R}, getMem ps cs = some (l, g) -> ObOk len l -> ∀ (R : Type) (r : R), (putMem len ps (g R r)).2 = r /\ MemWk cs (putMem len ps (g R r)).1
 | [], [], l, g, h, ho, R, r => by cases h; exact ⟨rfl, trivial⟩
 | [], _ :: _, l, g, h, ho, R, r => by cases h
 | _ :: _, [], l, g, h, ho, R, r => by cases h
 | p :: ps, c :: cs, l, g, h, ho, R, r => by
  unfold getMem at h
  split at h
  . rename_i l1 g1 l2 g2 h0 h1 h2
    cases h
    obtain ⟨a1, a2⟩ := BP.get_put h1 ho.left _ (g2 R r)
    obtain ⟨b1, b2⟩ := getMem_put h2 ho.right R r
    simp only [putMem]
    rw [a1]
    exact ⟨b1, (Nat.eq_of_beq_eq_true h0).symm, a2, b2⟩
  . cases h
def memLen : (ps : List (Nat × BP)) -> {R : Type} -> MemT ps R -> Nat -> Nat
 | [], _, _, _ => 0
 | (q, .row e c ap fr) :: ps, _, (xs, x), k => match Nat.beq q k with | true => xs.length | false => memLen ps x k
 | (q, .cells cs) :: ps, _, x, k => memLen ps (skipPts cs x) k
 | (q, .map kt) :: ps, _, (es, x), k => memLen ps x k
 | (q, .junk e sz) :: ps, _, (n, x), k => match Nat.beq q k with | true => n | false => memLen ps x k
 | (q, .bx _ _) :: ps, _, x, k => memLen ps x k
 | (q, .buf _) :: ps, _, (_, x), k => memLen ps x k
 | (q, .deep _ _ _) :: ps, _, (xs, x), k => match Nat.beq q k with | true => xs.length | false => memLen ps x k
 | (q, .deepH _ _ _ _) :: ps, _, (_, xs, x), k => match Nat.beq q k with | true => xs.length | false => memLen ps x k
 | (q, .jk _ _) :: ps, _, (l, _, x), k => match Nat.beq q k with | true => l | false => memLen ps x k
 | (q, .jd _ _ _ _ _) :: ps, _, (ls, x), k => match Nat.beq q k with | true => ls.length | false => memLen ps x k
 | (q, .jdH _ _ _ _ _ _) :: ps, _, (_, ls, x), k => match Nat.beq q k with | true => ls.length | false => memLen ps x k
 | (q, .jo _ _ _ _ _) :: ps, _, (n, x), k => match Nat.beq q k with | true => n | false => memLen ps x k
 | (q, .cellsG cs c n) :: ps, _, x, k => memLen ps (putG (fun _ => 0) cs c n x).2 k
 | (q, .grp _ _ _) :: ps, _, (_, L, x), k => match Nat.beq q k with | true => L.length | false => memLen ps x k

structure SP where
 n : Nat
 env : List (Nat × VP)
 mem : List (Nat × BP)
def SP.T (sp : SP) : Type := EnvT sp.env (MemT sp.mem Unit)
def SP.len (sp : SP) (x : sp.T) : Nat -> Nat := memLen sp.mem (putEnv (fun _ => 0) sp.env x).2
def SP.put (sp : SP) (x : sp.T) : St :=
 ⟨sp.n, (putEnv (sp.len x) sp.env x).1, (putMem (sp.len x) sp.mem (putEnv (sp.len x) sp.env x).2).1⟩
def SP.get (sp : SP) (s : St) : Option (Ob × sp.T) :=
 match Nat.beq s.n sp.n, getEnv sp.env s.env, getMem sp.mem s.mem with
 | true, some (l1, g1), some (l2, g2) => some (l1 ++ l2, g1 _ (g2 Unit ()))
 | _, _, _ => none
def grdOb {α : Type} (len : Nat -> Nat) : Ob -> Tr α -> Tr α
 | [], T => T
 | (some k, n) :: r, T => .grd (decide (n = len k)) (grdOb len r T)
 | (none, n) :: r, T => .grd (decide (n = 0)) (grdOb len r T)
theorem eval_grdOb {α : Type} {len : Nat -> Nat} : ∀ {l : Ob} {T : Tr α} {a : α}, (grdOb len l T).eval = some a -> ObOk len l /\ T.eval = some a
 | [], T, a, h => ⟨fun q hq => (by cases hq), h⟩
 | (some k, n) :: r, T, a, h => by
  obtain ⟨h1, h2⟩ := Tr.eval_grd h
  obtain ⟨h3, h4⟩ := eval_grdOb h2
  refine ⟨fun q hq => ?_, h4⟩
  rcases List.mem_cons.1 hq with rfl | hq
  . exact of_decide_eq_true h1
  . exact h3 q hq
 | (none, n) :: r, T, a, h => by
  obtain ⟨h1, h2⟩ := Tr.eval_grd h
  obtain ⟨h3, h4⟩ := eval_grdOb h2
  refine ⟨fun q hq => ?_, h4⟩
  rcases List.mem_cons.1 hq with rfl | hq
  . exact of_decide_eq_true h1
  . exact h3 q hq

theorem SP.get_put {sp : SP} {s : St} {l : Ob} {x : sp.T} (h : sp.get s = some (l, x)) (hob0 : ObOk (sp.len x) l) : s.n = (sp.put x).n /\ EnvWk s.env (sp.put x).env /\ MemWk s.mem (sp.put x).mem := by
 unfold SP.get at h
 split at h
 . rename_i l1 g1 l2 g2 h0 h1 h2
   have ho := congrArg Prod.fst (Option.some.inj h)
   have hx := congrArg Prod.snd (Option.some.inj h)
   simp only at ho hx
   subst hx
   subst ho
   have skip0 : ∀ (len : Nat -> Nat), ObOk len l1 -> (putEnv len sp.env (g1 _ (g2 Unit ()))).2 = g2 Unit () := fun len hl => (getEnv_put h1 hl _ _).1
   have skip : ∀ (len : Nat -> Nat), (putEnv len sp.env (g1 _ (g2 Unit ()))).2 = g2 Unit () := by
    intro len
    have e : ∀ len len' : Nat -> Nat, (putEnv len sp.env (g1 _ (g2 Unit ()))).2 = (putEnv len' sp.env (g1 _ (g2 Unit ()))).2 := by
     intro len len'
     have ePt : ∀ (p : Pt) {R : Type} (x : p.T R), (p.put len x).2 = (p.put len' x).2 := by
      intro p R x; cases p <;> rfl
     have ePts : ∀ (ps : List Pt) {R : Type} (x : PtsT ps R), (putPts len ps x).2 = (putPts len' ps x).2 := by
      intro ps
      induction ps with
      | nil => intro R x; rfl
      | cons p ps ih => intro R x; simp only [putPts]; rw [ePt p x]; exact ih _
     have eV1 : ∀ (p : VP1) {R : Type} (x : p.T R), (p.put len x).2 = (p.put len' x).2 := by
      intro p R x
      cases p with
      | one p => exact ePt p x
      | agg ps => exact ePts ps x
      | aggG ps c n => show (putPts len ps x).2.2 = (putPts len' ps x).2.2; rw [ePts ps x]
     have eVs : ∀ (ps : List VP1) {R : Type} (x : VPsT ps R), (putVs len ps x).2 = (putVs len' ps x).2 := by
      intro ps
      induction ps with
      | nil => intro R x; rfl
      | cons p ps ih => intro R x; simp only [putVs]; rw [eV1 p x]; exact ih _
     have eV : ∀ (p : VP) {R : Type} (x : p.T R), (p.put len x).2 = (p.put len' x).2 := by
      intro p R x
      cases p with
      | v p => exact eV1 p x
      | tup ps => exact eVs ps x
     have eE : ∀ (ps : List (Nat × VP)) {R : Type} (x : EnvT ps R), (putEnv len ps x).2 = (putEnv len' ps x).2 := by
      intro ps
      induction ps with
      | nil => intro R x; rfl
      | cons p ps ih => intro R x; simp only [putEnv]; rw [eV p.2 x]; exact ih _
     exact eE _ _
    rw [e len (sp.len (g1 _ (g2 Unit ())))]
    exact skip0 _ (fun q hq => hob0 q (List.mem_append_left _ hq))
   have hob : ∀ q ∈ l1 ++ l2, q.2 = obLen (sp.len (g1 _ (g2 Unit ()))) q.1 := hob0
   refine ⟨Nat.eq_of_beq_eq_true h0, (getEnv_put h1 (fun q hq => hob q (List.mem_append_left _ hq)) _ _).2, ?_⟩
   unfold SP.put
   simp only
   rw [skip]
   exact (getMem_put h2 (fun q hq => hob q (List.mem_append_right _ hq)) _ _).2
 . cases h

theorem EnvWk.get : ∀ {cs ds : List (Nat × V)}, EnvWk cs ds -> ∀ t, (look t cs = none /\ look t ds = none) \/ ∃ x y, look t cs = some x /\ look t ds = some y /\ WkX x y
 | [], [], h, t => .inl ⟨rfl, rfl⟩
 | c :: cs, d :: ds, h, t => by
  obtain ⟨h1, h2, h3⟩ := h
  obtain ⟨a, b⟩ := c; obtain ⟨a', b'⟩ := d
  simp only at h1 h2; subst h1
  rw [look_cons, look_cons]
  by_cases e : a = t
  . rw [if_pos e, if_pos e]; exact .inr ⟨_, _, rfl, rfl, h2⟩
  . rw [if_neg e, if_neg e]; exact EnvWk.get h3 t
 | [], _ :: _, h, t => h.elim
 | _ :: _, [], h, t => h.elim
theorem MemWk.get : ∀ {cs ds : List (Nat × Blk)}, MemWk cs ds -> ∀ t, OptWk (look t cs) (look t ds)
 | [], [], h, t => trivial
 | c :: cs, d :: ds, h, t => by
  obtain ⟨h1, h2, h3⟩ := h
  obtain ⟨a, b⟩ := c; obtain ⟨a', b'⟩ := d
  simp only at h1 h2; subst h1
  rw [look_cons, look_cons]
  by_cases e : a = t
  . rw [if_pos e, if_pos e]; exact h2
  . rw [if_neg e, if_neg e]; exact MemWk.get h3 t
 | [], _ :: _, h, t => h.elim
 | _ :: _, [], h, t => h.elim

theorem RepV.wkX {w : World} {β : Nat -> Option Place} {U : Nat -> Prop} {base : Nat} {v : Value} {x y : V} (h : RepV w β U base v x) (hw : WkX x y) : RepV w β U base v y := by
 rcases hw with hw | ⟨vs, vs', rfl, rfl, hw⟩
 . exact h.wk hw
 . cases h with
   | tup us _ hl h =>
    obtain ⟨h1, h2⟩ := WkVs_get hw
    refine .tup us vs' (by omega) fun j u x hu hx => ?_
    have hj : j < vs.length := by have := (List.getElem?_eq_some_iff.1 hx).1; omega
    exact (h j u _ hu (List.getElem?_eq_getElem hj)).wk (h2 j _ x (List.getElem?_eq_getElem hj) hx)

structure StWk (s s' : St) : Prop where
 n : s.n = s'.n
 env : EnvWk s.env s'.env
 mem : MemWk s.mem s'.mem
theorem SP.wk {sp : SP} {s : St} {l : Ob} {x : sp.T} (h : sp.get s = some (l, x)) (ho : ObOk (sp.len x) l) : StWk s (sp.put x) := ⟨(SP.get_put h ho).1, (SP.get_put h ho).2.1, (SP.get_put h ho).2.2⟩

theorem SimB.stWk {w0 : World} {U0 : Nat -> Prop} {X : Nat -> Nat -> Prop} {β0 β : Nat -> Option Place} {U : Nat -> Prop} {s s' : St} {a : Act} {w : World} (h : SimB w0 U0 X β0 β U s a w) (hw : StWk s s') : SimB w0 U0 X β0 β U s' a w := by
 have h1 : SimB w0 U0 X β0 β U { s with env := s'.env } a w := { h with
  env := fun t => by
   rcases hw.env.get t with ⟨e1, e2⟩ | ⟨x, y, e1, e2, e3⟩
   . have := h.env t
     unfold St.get at this ⊢
     rw [e2]; exact .bad _
   . have := h.env t
     unfold St.get at this ⊢
     rw [e1] at this; rw [e2]
     exact this.wkX e3 }
 exact h1.blkWk hw.n.symm rfl (fun k => hw.mem.get k)
theorem Sim.stWk {w0 : World} {U0 : Nat -> Prop} {X : Nat -> Nat -> Prop} {β0 : Nat -> Option Place} {s s' : St} {a : Act} {w : World} (h : Sim w0 U0 X β0 s a w) (hw : StWk s s') : Sim w0 U0 X β0 s' a w := by
 obtain ⟨β, U, hb⟩ := h
 exact ⟨β, U, hb.stWk hw⟩
end Go.Proofs.Ytnhiilbmgkbbaaa.Abs
namespace Go.Proofs.Ytnhiilbmgkbbaaa.Abs
open Go Go.RowKit
set_option linter.unusedVariables false
set_option linter.unusedSimpArgs false

abbrev Kn := List (Nat × Bool)
abbrev Log := List (List Nat × List Nat)

def unKn (d : Nat) : Kn -> Kn
 | [] => []
 | (t, b) :: r => match Nat.beq t d with | true => unKn d r | false => (t, b) :: unKn d r
def knPut (kn : Kn) (dst : Option Nat) (b : Option Bool) : Kn :=
 match dst with
 | none => kn
 | some d => match b with | some b => (d, b) :: unKn d kn | none => unKn d kn
def known (kn : Kn) : Operand -> Option Bool
 | .tmp t => look t kn
 | .const (.bool b) => some b
 | _ => none

def KnOk (kn : Kn) (s : St) : Prop := ∀ t b, look t kn = some b -> s.get t = vb b

def ownKeys : List C -> List Nat
 | [] => []
 | .own k _ _ :: r => k :: ownKeys r
 | .dp k _ _ _ :: r => k :: ownKeys r
 | .gr k _ 0 :: r => k :: ownKeys r
 | _ :: r => ownKeys r
def V.own1 : V -> List Nat
 | .one c => ownKeys [c]
 | .agg cs => ownKeys cs
 | .tup _ => []
def V.owns : V -> List Nat
 | .tup vs => vs.flatMap V.own1
 | v => v.own1
def newNames (old : List Nat) : Nat -> List Nat -> List (Nat × Nat)
 | _, [] => []
 | j, k :: r => match old.contains k with
  | true => newNames old j r
  | false => (k, j) :: newNames (k :: old) (j + 1) r
def ownsOf (m : Nat -> Option Blk) : List V -> List Nat
 | [] => []
 | .one (.ptr k _) :: r => match m k with
  | some (.cells cs) => ownKeys cs ++ ownsOf m r
  | some (.bx _ (some q)) => q.1 :: ownsOf m r
  | _ => ownsOf m r
 | .one (.dp k _ _ _) :: r => k :: ownsOf m r
 | .one (.dpr k _ _ _ _) :: r => k :: ownsOf m r
 | v :: r => v.own1 ++ ownsOf m r
def ownsOfS (m : Nat -> Option Blk) : List V -> List Nat
 | [] => []
 | .one (.ptr k _) :: r => match m k with
  | some (.cells cs) => (cs.flatMap fun c => match c with | .own k _ _ => [k] | .sub k _ _ _ _ => [k] | _ => []) ++ ownsOfS m r
  | _ => ownsOfS m r
 | _ :: r => ownsOfS m r
def capsOf : List V -> List Nat
 | [] => []
 | .one (.clp _ ks) :: r => ks.map (·.1) ++ capsOf r
 | _ :: r => capsOf r
def ksPtr (args : List V) : List (Nat × Nat) := ksOf 0 args ++ newNames ((ksOf 0 args).map (·.1)) 1000200 (capsOf args)
def pickM (mode : Nat) : List Nat -> List V -> List V
 | m :: ms, v :: vs => match Nat.beq m mode with
  | true => v :: pickM mode ms vs
  | false => pickM mode ms vs
 | _, _ => []
def stayKeys : List V -> List Nat
 | [] => []
 | .one (.own k _ _) :: r => k :: stayKeys r
 | .one (.pre k _ _ _) :: r => k :: stayKeys r
 | .one (.dp k _ _ _) :: r => k :: stayKeys r
 | .one (.dpr k _ _ _ _) :: r => k :: stayKeys r
 | _ :: r => stayKeys r
def ksAll (m : Nat -> Option Blk) (args : List V) (ms : List Nat) : List (Nat × Nat) := ksPtr args ++ newNames [] 1000100 (ownsOf m (pickM 1 ms args) ++ ownsOfS m (pickM 3 ms args)) ++ newNames (ownsOf m (pickM 1 ms args) ++ ownsOfS m (pickM 3 ms args)) 1500100 (stayKeys (pickM 2 ms args))
def bxLinks (m : Nat -> Option Blk) : List (Nat × Nat) -> List Nat
 | [] => []
 | p :: r => match m p.1 with
  | some (.bx _ (some q)) => q.1 :: bxLinks m r
  | _ => bxLinks m r
def withBx (m : Nat -> Option Blk) (ks : List (Nat × Nat)) : List (Nat × Nat) := match bxLinks m ks with
 | [] => ks
 | k :: r => ks ++ newNames (ks.map (·.1)) 1000300 (k :: r)
def ksFor (own : List Nat) (m : Nat -> Option Blk) (args : List V) : List (Nat × Nat) := withBx m (match own with | [] => ksPtr args | m1 :: ms => ksAll m args (m1 :: ms))
def rowB : Option Blk -> Bool
 | some (.row _ _ _ _ _ _) => true
 | some (.rowT _ _ _ _ _ _) => true
 | some (.deep _ _ _ _ _ _) => true
 | some (.grp _ _ _ _ _ _ _) => true
 | _ => false
def lockK (ks : List (Nat × Nat)) (m : Nat -> Option Blk) : List Nat -> Bool
 | [] => false
 | k :: r => match look k ks with
  | some _ => lockK ks m r
  | none => match rowB (m k) with
   | true => true
   | false => lockK ks m r
def lockOf (ks : List (Nat × Nat)) (m : Nat -> Option Blk) (vals : List V) : Bool := lockK ks m (vals.flatMap V.keysA ++ ks.flatMap fun p => cellKeys (m p.1))

variable (P : Program) (cod : TypeId -> Nat) (own : FuncId -> List Nat) (call : FuncId -> List V -> Mem -> Tr (V × Mem)) {ρ : Type}

def execCall0 (o : Oper) (kn : Kn) (s : St) (K : Kn -> List Nat -> List Nat -> St -> Tr ρ) (f : FuncId) (caps : List V) (args : List Operand) : Tr ρ :=
 match viewMem s.blk (sigIn s.blk (ksFor (own f) s.blk (args.map s.eval ++ caps))) (lockOf (ksFor (own f) s.blk (args.map s.eval ++ caps)) s.blk (args.map s.eval ++ caps)) (ksFor (own f) s.blk (args.map s.eval ++ caps)) with
 | none => .fail 11
 | some m1 => match canEnter P f && okKs (ksFor (own f) s.blk (args.map s.eval ++ caps)) && decide ((args.length + caps.length) <= 900) with
  | true => (call f ((args.map s.eval ++ caps).map (viewV s.blk (sigIn s.blk (ksFor (own f) s.blk (args.map s.eval ++ caps))) (lockOf (ksFor (own f) s.blk (args.map s.eval ++ caps)) s.blk (args.map s.eval ++ caps)))) m1).bind fun rm =>
   match callOut s (ksFor (own f) s.blk (args.map s.eval ++ caps)) (lockOf (ksFor (own f) s.blk (args.map s.eval ++ caps)) s.blk (args.map s.eval ++ caps)) o.dst rm.1 rm.2 with
   | some E => K (knPut kn o.dst none) (callRK (ksFor (own f) s.blk (args.map s.eval ++ caps)) s.blk (args.map s.eval ++ caps)) (E.mem.map (·.1)) (s.out o.dst E)
   | none => .fail 12
  | false => .fail 13

def dpKeys : List V -> List Nat
 | [] => []
 | .one (.dp k _ _ _) :: r => k :: dpKeys r
 | .one (.dpr k _ _ _ _) :: r => k :: dpKeys r
 | _ :: r => dpKeys r
def tidyFst (s : St) : List Nat -> List (Nat × Blk)
 | [] => []
 | k :: r => match tidyL s k with
  | [] => tidyFst s r
  | p :: l => p :: l
def execCall (o : Oper) (kn : Kn) (s : St) (K : Kn -> List Nat -> List Nat -> St -> Tr ρ) (f : FuncId) (caps : List V) (args : List Operand) : Tr ρ :=
 match own f with
 | [] => execCall0 P own call o kn s K f caps args
 | m1 :: ms => match tidyFst s (dpKeys (pickM 1 (m1 :: ms) (args.map s.eval) ++ pickM 2 (m1 :: ms) (args.map s.eval))) with
  | [] => execCall0 P own call o kn s K f caps args
  | p :: l => execCall0 P own call o kn (s.upd (p :: l)) (fun kn' R W s' => K kn' R (W ++ (p :: l).map (·.1)) s') f caps args

def execOp (o : Oper) (kn : Kn) (s : St) (K : Kn -> List Nat -> List Nat -> St -> Tr ρ) : Tr ρ :=
 match o.op with
 | .pick c a b => match known kn c with
  | some t => match t with
   | true => K (knPut kn o.dst (known kn a)) [] [] (s.put o.dst (s.eval a))
   | false => K (knPut kn o.dst (known kn b)) [] [] (s.put o.dst (s.eval b))
  | none => match s.eval c with
   | .one (.d (.b t)) => .ite t (K (knPut kn o.dst (known kn a)) [] [] (s.put o.dst (s.eval a))) (K (knPut kn o.dst (known kn b)) [] [] (s.put o.dst (s.eval b)))
   | _ => .fail 1
 | .assign x => K (knPut kn o.dst (known kn x)) [] [] (s.put o.dst (s.eval x))
 | .move x => K (knPut kn o.dst (known kn x)) [] [] (s.put o.dst (s.eval x))
 | .call { callee := .value fo, args, .. } => match cloOf (s.eval fo) with
  | some (f, caps) => execCall P own call o kn s K f caps args.toList
  | none => .fail 2
 | .lookup t x i ok => match zLook P t x i ok s.eval s.blk with
  | some T => T.bind fun E => K (knPut kn o.dst none) (effKeys o.dst (.lookup t x i ok) s.eval) (E.mem.map (·.1)) (s.out o.dst E)
  | none => .fail 3
 | .mapEntry t x i => match zEnt P t x i s.eval s.blk with
  | some T => T.bind fun E => K (knPut kn o.dst none) (effKeys o.dst (.mapEntry t x i) s.eval) (E.mem.map (·.1)) (s.out o.dst E)
  | none => .fail 3
 | op => match effS P o.dst op s.eval s.blk with
  | some T => T.bind fun E => K (knPut kn o.dst none) (effKeys o.dst op s.eval) (E.mem.map (·.1)) (s.out o.dst E)
  | none => match effE P cod o.dst op s.eval s.blk with
  | some T => T.bind fun E => K (knPut kn o.dst none) (effKeys o.dst op s.eval) (E.mem.map (·.1)) (s.out o.dst E)
  | none => match effJ P o.dst op s.eval s.blk with
  | some T => T.bind fun E => K (knPut kn o.dst none) (effKeys o.dst op s.eval) (E.mem.map (·.1)) (s.out o.dst E)
  | none => match effZ P cod o.dst op s.eval s.blk with
  | some T => T.bind fun E => K (knPut kn o.dst none) (effKeys o.dst op s.eval) (E.mem.map (·.1)) (s.out o.dst E)
  | none => match effX P cod o.dst op s.eval s.blk with
  | some T => T.bind fun E => K (knPut kn o.dst none) (effKeys o.dst op s.eval) (E.mem.map (·.1)) (s.out o.dst E)
  | none => match effPX P cod o.dst op s.eval s.blk with
  | some T => T.bind fun E => K (knPut kn o.dst none) (effKeys o.dst op s.eval) (E.mem.map (·.1)) (s.out o.dst E)
  | none => match eff P o.dst op s.eval s.blk with
   | some E => K (knPut kn o.dst none) (effKeys o.dst op s.eval) (E.out.mem.map (·.1)) (s.out o.dst E.out)
   | none => match effP P cod o.dst op s.eval s.blk with
    | some T => T.bind fun E => K (knPut kn o.dst none) (effKeys o.dst op s.eval) (E.mem.map (·.1)) (s.out o.dst E)
    | none => .fail 3

def execOps (ops : Array Oper) : List Oper -> Kn -> Log -> St -> (Kn -> Log -> St -> Tr ρ) -> Tr ρ
 | [], kn, log, s, K => K kn log s
 | o :: rest, kn, log, s, K =>
  match dstOk s o.dst with
  | false => .fail 4
  | true => match o.guard with
   | none => execOp P cod own call o kn s fun kn' R W s' => execOps ops rest kn' (log ++ [(R, W)]) s' K
   | some (j, want) => match (ops[j]?).bind (·.dst) with
    | none => .fail 5
    | some t => match look t kn with
     | some b => match b == want with
      | true => execOp P cod own call o kn s fun kn' R W s' => execOps ops rest kn' (log ++ [(R, W)]) s' K
      | false => execOps ops rest (knPut kn o.dst none) (log ++ [([], [])]) (s.put o.dst (.one .un)) K
     | none => match s.get t with
      | .one .un => execOps ops rest (knPut kn o.dst none) (log ++ [([], [])]) (s.put o.dst (.one .un)) K
      | .one (.d (.b c)) => match want with
       | true => .ite c (execOp P cod own call o ((t, true) :: kn) s fun kn' R W s' => execOps ops rest kn' (log ++ [(R, W)]) s' K)
        (execOps ops rest (knPut ((t, false) :: kn) o.dst none) (log ++ [([], [])]) (s.put o.dst (.one .un)) K)
       | false => .ite c (execOps ops rest (knPut ((t, true) :: kn) o.dst none) (log ++ [([], [])]) (s.put o.dst (.one .un)) K)
        (execOp P cod own call o ((t, false) :: kn) s fun kn' R W s' => execOps ops rest kn' (log ++ [(R, W)]) s' K)
      | _ => .fail 6

def lid : Code -> Nat
 | .region id _ _ => id
 | .seq a _ => lid a
 | .block _ b => lid b
 | .loop b => lid b
 | .cond _ a _ => lid a
 | .scope b => lid b
 | _ => 0

def tidyP (mem : List (Nat × BP)) : List (Nat × Nat) -> St -> St
 | [], s => s
 | q :: r, s => match look q.2 mem with
  | some (.deep _ _ _) => tidyP mem r (s.upd (tidyL s q.1))
  | some (.jd _ _ _ _ _) => tidyP mem r (s.upd (tidyL s q.1))
  | _ => tidyP mem r s
def normGet (ks : List (Nat × Nat)) (sp : SP) (s : St) : Option (Ob × sp.T) :=
 match (tidyP sp.mem ks s).norm false (sp.env.map (·.1)) ks with
 | some s1 => sp.get s1
 | none => none
def ghostC (t : Nat) (e : TypeId) (c : Nat) (s : St) : St := match s.blk ((t - 1000000) / 64), s.blk (t - 40000), Nat.blt t 1040000 with
 | some (.cells cs), none, true => match cs[(t - 1000000) % 64]? with
  | some .nil => { n := s.n, env := s.env, mem := ((t - 1000000) / 64, .cells (cs.set ((t - 1000000) % 64) (.own (t - 40000) 0 0))) :: (t - 40000, .rowT 0 e c true true []) :: s.mem }
  | _ => s
 | _, _, _ => s
def ghostSt : List (Nat × TypeId × Nat) -> St -> St
 | [], s => s
 | (t, e, c) :: r, s => match Nat.blt t 1000000 with
  | true => match s.get t, s.blk t with
   | .one .nil, none => match look e dps, dOk c with
    | some ei, true => ghostSt r { n := s.n, env := (t, .one (.dp t 0 0 0)) :: s.env, mem := (t, .deep 0 e ei c none []) :: s.mem }
    | _, _ => ghostSt r { n := s.n, env := (t, .one (.own t 0 0)) :: s.env, mem := (t, .rowT 0 e c true true []) :: s.mem }
   | _, _ => ghostSt r s
  | false => match Nat.blt t 200000000 with
   | true => ghostSt r (ghostC t e c s)
   | false => ghostSt r (grpForm (t - 200000000) (t - 192000000) e c s)
structure EX where
 e : Option Nat
 ks : List (Nat × Nat)
 sp : SP
def EX.exit (x : EX) : Exit := match x.e with | some id => .exit id | none => .ret
def EX.hits (x : EX) (e : Exit) : Bool :=
 match x.e with
 | some id => match e with | .exit id' => Nat.beq id id' | _ => false
 | none => match e with | .ret => true | _ => false
structure LS where
 id : Nat
 ks : List (Nat × Nat)
 sp : SP
 es : List EX
 gs : List (Nat × TypeId × Nat)
def ExT : List EX -> Type
 | [] => Empty
 | [x] => x.sp.T
 | x :: y :: r => x.sp.T ⊕ ExT (y :: r)
def exInj : (es : List EX) -> Exit -> St -> Option (Tr (ExT es))
 | [], _, _ => none
 | [x], e, s => match x.hits e with
  | true => match normGet x.ks x.sp s with
   | some (g, y) => some (grdOb (x.sp.len y) g (.ret y))
   | none => some (.stuck 997 s)
  | false => none
 | x :: y :: r, e, s => match x.hits e with
  | true => match normGet x.ks x.sp s with
   | some (g, y) => some (grdOb (x.sp.len y) g (.ret (.inl y)))
   | none => some (.stuck 997 s)
  | false => match exInj (y :: r) e s with
   | some T => some (T.map .inr)
   | none => none
def exOut : (es : List EX) -> ExT es -> Tr (Exit × St)
 | [], o => nomatch o
 | [x], o => .ret (x.exit, x.sp.put o)
 | x :: y :: r, o => .sum o (fun a => .ret (x.exit, x.sp.put a)) (fun b => exOut (y :: r) b)
def loopO {A B : Type} (tag : Nat) (f : A -> Option (A ⊕ B)) : Nat -> A -> Option B
 | 0, _ => none
 | n + 1, a => match f a with
  | none => none
  | some (.inl a') => loopO tag f n a'
  | some (.inr b) => some b
def loopK (L : LS) (e : Exit) (s : St) : Tr (L.sp.T ⊕ ExT L.es) :=
 match (match e with | .normal => true | _ => false) with
 | true => match normGet L.ks L.sp (ghostSt L.gs s) with
  | some (g, y) => grdOb (L.sp.len y) g (.ret (.inl y))
  | none => .stuck 996 s
 | false => match exInj L.es e s with
  | some T => T.map .inr
  | none => .stuck (match e with | .exit id => 2000 + id | .ret => 1999 | _ => 1998) s
def findL (id : Nat) : List LS -> Option LS
 | [] => none
 | L :: r => match Nat.beq L.id id with | true => some L | false => findL id r

def jid : Code -> Nat
 | .region id _ _ => id
 | .block id _ => 20000 + id
 | .cond _ a b => 40000 + (match lid a with | 0 => lid b | n + 1 => n + 1)
 | .seq a _ => 60000 + lid a
 | _ => 80000
def joinK (fi j : Nat) (L : LS) (e : Exit) (s : St) : Tr (ExT L.es) :=
 match (match e with | .normal => some (Exit.exit 9998) | .exit id => (match Nat.beq id 9998 with | true => none | false => some (.exit id)) | e => some e) with
 | none => .fail 15
 | some e' => match exInj L.es e' s with
  | some T => T
  | none => .stuck (1000000000 + (fi * 100000 + j) * 10000 + (match e' with | .exit id => id | _ => 9999)) s
def unJ : Exit -> Exit
 | .exit id => match Nat.beq id 9998 with | true => .normal | false => .exit id
 | e => e
def bDsts : Code -> List Nat
 | .region _ ops _ => ops.toList.filterMap fun o => o.dst
 | .seq a b => bDsts a ++ bDsts b
 | .cond _ a b => bDsts a ++ bDsts b
 | .block _ b => bDsts b
 | .loop b => bDsts b
 | _ => []
def dedup : List Nat -> List Nat -> List Nat
 | [], acc => acc.reverse
 | k :: r, acc => match acc.contains k with | true => dedup r acc | false => dedup r (k :: acc)
def trimR (body : Code) (s : St) : Option St := s.norm false (List.range s.n) (((dedup (s.mem.map (·.1)) []).filter fun k => !(bDsts body).contains k).map fun k => (k, k))
def iterT {ρ : Type} : Nat -> ((Kn -> St -> Tr ρ) -> Kn -> St -> Tr ρ) -> Kn -> St -> Tr ρ
 | 0, _, _, _ => .fail 14
 | n + 1, F, kn, s => F (iterT n F) kn s

variable (Λ : List LS) (fi : Nat)

def exec : Code -> (ρ : Type) -> Kn -> St -> (Exit -> Kn -> St -> Tr ρ) -> Tr ρ
 | .skip, _, kn, s, K => K .normal kn s
 | .region _ ops draw, _, kn, s, K => match draw with
  | false => execOps P cod own call ops ops.toList kn [] s fun kn' _ s' => K .normal kn' s'
  | true => match P.follows .mixedOrders with
   | true => execOps P cod own call ops ops.toList kn [] s fun kn' log s' => match okOrder ops log with
    | true => K .normal kn' s'
    | false => .fail 7
   | false => .fail 7
 | .seq a b, ρ, kn, s, K => match findL (100000 + jid a) Λ with
  | none => exec a ρ kn s fun e kn' s' => match e with
   | .normal => exec b ρ kn' s' K
   | e => K e kn' s'
  | some L => .opt (exec a (ExT L.es) kn s fun e _ s' => joinK fi (jid a) L e s').eval fun o =>
    (exOut L.es o).bind fun es => match unJ es.1 with
     | .normal => exec b ρ [] es.2 K
     | e => K e [] es.2
 | .cond c a b, ρ, kn, s, K => match known kn c with
  | some t => match t with
   | true => exec a ρ kn s K
   | false => exec b ρ kn s K
  | none => match s.eval c with
   | .one (.d (.b t)) => match c with
    | .tmp j => .ite t (exec a ρ ((j, true) :: kn) s K) (exec b ρ ((j, false) :: kn) s K)
    | _ => .ite t (exec a ρ kn s K) (exec b ρ kn s K)
   | _ => .fail 8
 | .block id body, ρ, kn, s, K => exec body ρ kn s fun e kn' s' => match e with
  | .exit id' => match Nat.beq id' id with
   | true => K .normal kn' s'
   | false => K (.exit id') kn' s'
  | e => K e kn' s'
 | .loop body, ρ, kn, s, K => match findL (lid body) Λ with
  | none => .stuck (10000 * (fi + 1) + lid body) s
  | some L => match L.sp.n with
   | 0 => iterT 70 (fun again kn s => exec body ρ kn s fun e kn' s' => match e with
    | .normal => (match trimR body s' with | some s2 => again [] s2 | none => .fail 16)
    | e => K e kn' s') kn s
   | _ + 1 => match normGet L.ks L.sp (ghostSt L.gs s) with
    | none => .stuck (10000 * (fi + 1) + 5000 + lid body) s
    | some (g, x) => grdOb (L.sp.len x) g (.opt (loopO (10000 * fi + L.id) (fun x => (exec body (L.sp.T ⊕ ExT L.es) [] (L.sp.put x) fun e _ s' => loopK L e s').eval) 18446744073709551616 x) fun o =>
      (exOut L.es o).bind fun es => K es.1 [] es.2)
 | .exit id, _, kn, s, K => K (.exit id) kn s
 | .ret, _, kn, s, K => K .ret kn s
 | _, _, _, _, _ => .fail 9

def V.ptr1 : V -> List Nat
 | .one (.ptr k _) => [k]
 | .agg cs => cs.flatMap fun c => match c with | .ptr k _ => [k] | _ => []
 | _ => []
def V.ptrs : V -> List Nat
 | .tup vs => vs.flatMap V.ptr1
 | v => v.ptr1
def inKs (mem : Mem) (k : Nat) : List Nat := match look k mem with
 | some (.cells cs) => cs.flatMap fun c => match c with | .own k _ _ => [k] | .ptr k _ => [k] | .gr k _ 0 => [k] | _ => []
 | some (.bx _ (some q)) => [q.1]
 | _ => []
def endKs (m mem : Mem) (v : V) : List (Nat × Nat) := m.map (fun p => (p.1, p.1)) ++ newNames (m.map (·.1)) 2000000 (v.owns ++ (v.ptrs ++ (v.ptrs ++ m.map (·.1)).flatMap (inKs mem)))

structure FS (P : Program) where
 f : FuncId
 ap : List VP1
 rp : SP
 fn : VPsT ap Unit -> Option rp.T
 ok : ∀ x r, fn x = some r -> ACall P f (putVs (fun _ => 0) ap x).1 [] fun r' m' => r' = (rp.put r).get 0 /\ m' = (rp.put r).mem
structure PF (P : Program) where
 f : FuncId
 own : List Nat
 tr : List V -> Mem -> Option (Tr (V × Mem))
 ok : ∀ ys m T r m', tr ys m = some T -> T.eval = some (r, m') -> ∃ ys' m2, WkVs ys ys' /\ WkM m m2 /\ ACall P f ys' m2 fun r' m'' => r' = r /\ m'' = m'
def findF {P : Program} (f : FuncId) (ys : List V) (m : Mem) : List (PF P) -> Option (Tr (V × Mem))
 | [] => none
 | F :: r => match Nat.beq F.f f with
  | true => match F.tr ys m with
   | some T => some T
   | none => findF f ys m r
  | false => findF f ys m r
def ownF {P : Program} : List (PF P) -> FuncId -> List Nat
 | [], _ => []
 | F :: r, f => match Nat.beq F.f f with
  | true => match F.own with
   | [] => ownF r f
   | m :: ms => m :: ms
  | false => ownF r f

variable (Γ : List (PF P)) (Λs : List (FuncId × LS))
def loopsOf (f : FuncId) : List (FuncId × LS) -> List LS
 | [] => []
 | (g, L) :: r => match Nat.beq g f with | true => L :: loopsOf f r | false => loopsOf f r

def tidyAll : List Nat -> St -> St
 | [], s => s
 | k :: r, s => match tidyL s k with
  | [] => tidyAll r s
  | p :: l => tidyAll r (s.upd (p :: l))
def tidyE (rs : List ResultVar) (m : Mem) (s : St) : St := match resA P rs s with
 | some v => tidyAll (m.map (·.1) ++ v.owns) s
 | none => s
def execEnd0 (rs : List ResultVar) (m : Mem) (e : Exit) (s : St) : Tr (V × Mem) :=
 match (match e with | .normal | .ret => true | _ => false) with
 | true => match resA P rs s with
  | some v => match St.norm true (trimSt { n := 1, env := [(0, v)], mem := s.mem }) [0] (endKs m s.mem ((trimSt { n := 1, env := [(0, v)], mem := s.mem }).get 0)) with
   | some s1 => match s1.env with
    | [(_, r)] => .ret (r, s1.mem)
    | _ => .fail 20
   | none => .fail 21
  | none => .fail 22
 | false => .fail 23
def execEnd (rs : List ResultVar) (m : Mem) (e : Exit) (s : St) : Tr (V × Mem) := execEnd0 P rs m e (tidyE P rs m s)

def execBody (fn : Func) (f : FuncId) (ys : List V) (m : Mem) : Tr (V × Mem) :=
 match fn.body with
 | some c => match decide (fn.ntmps <= 900) && decide (ys.length <= fn.ntmps) with
  | true => exec P cod own call (loopsOf f Λs) f c (V × Mem) [] ⟨fn.ntmps, argsEnv 0 ys, m⟩ fun e _ s => execEnd P fn.results.toList m e s
  | false => .fail 24
 | none => .fail 25

def execSpec (F : FS P) (ys : List V) (m : Mem) : Option (Tr (V × Mem)) :=
 match m with
 | [] => match getVs F.ap ys with
  | some (l, g) => some (grdOb (fun _ => 0) l (.opt (F.fn (g Unit ())) fun r => .ret ((F.rp.put r).get 0, (F.rp.put r).mem)))
  | none => none
 | _ => none

def execFn : Nat -> FuncId -> List V -> Mem -> Tr (V × Mem)
 | 0, _, _, _ => .fail 26
 | n + 1, f, ys, m => match findF f ys m Γ with
  | some T => T
  | none => match P.funcs[f]? with
   | some fn => execBody P cod (ownF Γ) (execFn n) Λs fn f ys m
   | none => .fail 27

def frzC (m : Mem) : C -> C
 | .own k ver len => match look k m with
  | some (.rowT ver' _ c _ fr xs) => if ver = ver' then stC fr c xs else .bad
  | _ => .bad
 | .sub _ _ _ _ _ => .bad
 | .ptr _ _ => .bad
 | .pr _ _ _ _ _ => .bad
 | .asl _ _ _ => .bad
 | .clp _ _ => .bad
 | .mp _ => .bad
 | .pre _ _ _ _ => .bad
 | .dp k ver _ _ => match look k m with
  | some (.deep ver' _ _ c hole xs) => if ver = ver' then (match deepData (fun k => look k m) (fun _ => none) k c hole xs with | some ys => stC true c ys | none => .bad) else .bad
  | _ => .bad
 | .dsub _ _ _ _ _ => .bad
 | .dpr _ _ _ _ _ => .bad
 | .gp _ _ _ _ _ => .bad
 | .gr k ver j => match look k m with
  | some (.grp ver' _ c _ _ none L) => if ver = ver' then .gd c L j else .bad
  | _ => .bad
 | c => c
def frzV1 (m : Mem) : V -> V
 | .one c => .one (frzC m c)
 | .agg cs => .agg (cs.map (frzC m))
 | .tup _ => .one .bad
def frzV (m : Mem) : V -> V
 | .tup vs => .tup (vs.map (frzV1 m))
 | v => frzV1 m v

def fnTr (n : Nat) (f : FuncId) (ap : List VP1) (rp : SP) (x : VPsT ap Unit) : Tr rp.T :=
 match P.funcs[f]? with
 | some fn => (execBody P cod (ownF Γ) (execFn P cod Γ Λs n) Λs fn f (putVs (fun _ => 0) ap x).1 []).bind fun rm => match rp.get ⟨1, [(0, frzV rm.2 rm.1)], []⟩ with
  | some (g, y) => grdOb (rp.len y) g (.ret y)
  | none => .stuck 994 ⟨1, [(0, frzV rm.2 rm.1)], rm.2⟩
 | none => .fail 28

def gsTr (n : Nat) (f : FuncId) (ap rp : SP) (x : ap.T) : Tr rp.T :=
 match P.funcs[f]? with
 | some fn => match fn.body with
  | some c => match Nat.beq fn.ntmps ap.n && decide (fn.ntmps <= 900) with
   | true => (exec P cod (ownF Γ) (execFn P cod Γ Λs n) (loopsOf f Λs) f c (V × Mem) [] (ap.put x) fun e _ s => execEnd P fn.results.toList (ap.put x).mem e s).bind fun rm =>
    match normGet (rm.2.map fun p => (p.1, p.1)) rp ⟨1, [(0, rm.1)], rm.2⟩ with
    | some (g, y) => grdOb (rp.len y) g (.ret y)
    | none => .stuck 993 ⟨1, [(0, rm.1)], rm.2⟩
   | false => .fail 24
  | none => .fail 25
 | none => .fail 28
def entryGet (ap : SP) (ys : List V) (m : Mem) : Option (Ob × ap.T) :=
 match decide (ys.length <= ap.n) with
 | true => normGet (m.map fun p => (p.1, p.1)) ap ⟨ap.n, argsEnv 0 ys, m⟩
 | false => none
def gsSpec (ap rp : SP) (fn : ap.T -> Option rp.T) (ys : List V) (m : Mem) : Option (Tr (V × Mem)) :=
 match entryGet ap ys m with
 | some (g, x) => some (grdOb (ap.len x) g (.opt (fn x) fun r => .ret ((rp.put r).get 0, (rp.put r).mem)))
 | none => none
end Go.Proofs.Ytnhiilbmgkbbaaa.Abs
namespace Go.Proofs.Ytnhiilbmgkbbaaa.Abs
open Go Go.RowKit
set_option linter.unusedVariables false
set_option linter.unusedSimpArgs false

variable {P : Program} {cod : TypeId -> Nat} {own : FuncId -> List Nat} {call : FuncId -> List V -> Mem -> Tr (V × Mem)} {ρ : Type}

theorem trimSt_n (s : St) : (trimSt s).n = s.n := by
 unfold trimSt
 split
 . split
   . split <;> rfl
   . rfl
 . rfl
def CallOk (P : Program) (call : FuncId -> List V -> Mem -> Tr (V × Mem)) : Prop :=
 ∀ f xs m r m', (call f xs m).eval = some (r, m') -> ∃ ys m2, WkVs xs ys /\ WkM m m2 /\ ACall P f ys m2 fun r' m'' => r' = r /\ m'' = m'

theorem look_unKn {d t : Nat} : ∀ {kn : Kn} {b : Bool}, look t (unKn d kn) = some b -> look t kn = some b /\ t ≠ d
 | [], b, h => by cases h
 | (j, c) :: r, b, h => by
  unfold unKn at h
  split at h
  . rename_i e
    have e : j = d := Nat.eq_of_beq_eq_true e
    obtain ⟨h1, h2⟩ := look_unKn h
    refine ⟨?_, h2⟩
    rw [look_cons, if_neg (by rw [e]; exact fun q => h2 q.symm)]; exact h1
  . rename_i e
    have e : j ≠ d := Nat.ne_of_beq_eq_false e
    rw [look_cons] at h ⊢
    split at h
    . rename_i q; rw [if_pos q]; exact ⟨h, by rw [<- q]; exact e⟩
    . rename_i q; rw [if_neg q]; exact look_unKn h

theorem KnOk.put {kn : Kn} {s s' : St} {dst : Option Nat} {v : V} {b : Option Bool} (h : KnOk kn s) (hs : ∀ t, s'.get t = (s.put dst v).get t) (hb : ∀ c, b = some c -> v = vb c) : KnOk (knPut kn dst b) s' := by
 intro t c ht
 rw [hs]
 cases dst with
 | none => exact h t c ht
 | some d =>
  rw [St.get_put]
  unfold knPut at ht
  cases b with
  | none =>
   simp only at ht
   obtain ⟨h1, h2⟩ := look_unKn ht
   rw [if_neg (fun e => h2 e.symm)]; exact h t c h1
  | some b =>
   simp only at ht
   rw [look_cons] at ht
   split at ht
   . rename_i e; rw [if_pos e]; cases ht; exact hb _ rfl
   . rename_i e
     obtain ⟨h1, h2⟩ := look_unKn ht
     rw [if_neg e]; exact h t c h1

theorem known_spec {kn : Kn} {s : St} (h : KnOk kn s) {x : Operand} {b : Bool} (hx : known kn x = some b) : s.eval x = vb b := by
 unfold known at hx
 split at hx
 . exact h _ _ hx
 . cases hx; rfl
 . cases hx

theorem KnOk.cons {kn : Kn} {s : St} (h : KnOk kn s) {t : Nat} {b : Bool} (ht : s.get t = vb b) : KnOk ((t, b) :: kn) s := by
 intro t' b' h'
 rw [look_cons] at h'
 split at h'
 . rename_i e; subst e; cases h'; exact ht
 . exact h t' b' h'
theorem KnOk.nil {s : St} : KnOk [] s := fun t b h => by cases h

theorem get_out (s : St) (dst : Option Nat) (E : Out) (t : Nat) : (s.out dst E).get t = (s.put dst E.val).get t := by
 cases dst <;> rfl

def OpOk (P : Program) (ops : Array Oper) (o : Oper) (s : St) (R W : List Nat) (s' : St) : Prop := ∃ E : Out, Loc P ops o s R E /\ W = E.mem.map (·.1) /\ s' = s.out o.dst E

theorem opOk_v {ops : Array Oper} {o : Oper} {s : St} {v : V} (hg : gcond ops s.get o = some true) (he : effQ P o.op s.eval = some v) {R : List Nat} (hR : effKeys o.dst o.op s.eval = R) : OpOk P ops o s R [] (s.put o.dst v) := by
 subst hR
 refine ⟨⟨v, []⟩, ?_, rfl, (put_out ..).symm⟩
 exact loc_ef (E := ⟨v, none⟩) hg (by unfold eff; rw [he])

theorem execCall0_spec (hcall : CallOk P call) {ops : Array Oper} {o : Oper} {kn : Kn} {s : St} {K : Kn -> List Nat -> List Nat -> St -> Tr ρ} {f : FuncId} {caps : List V} {args : List Operand} {r : ρ}
   (hi : callInfo o s = some (f, caps, args)) (hg : gcond ops s.get o = some true) (hkn : KnOk kn s)
   (h : (execCall0 P own call o kn s K f caps args).eval = some r) : ∃ kn' ks lock ys m2 r0 m0 E, KnOk kn' (s.out o.dst E) /\ (K kn' (callRK ks s.blk (args.map s.eval ++ caps)) (E.mem.map (·.1)) (s.out o.dst E)).eval = some r /\ CallTo P o s ks lock f caps args ys m2 r0 m0 E := by
 unfold execCall0 at h
 split at h
 . cases h
 rename_i m1 hm1
 split at h
 case h_2 => cases h
 rename_i hc
 simp only [Bool.and_eq_true, decide_eq_true_eq] at hc
 obtain ⟨⟨hen, hok⟩, hfew⟩ := hc
 rw [Tr.eval_bind] at h
 obtain ⟨⟨r0, m0⟩, h1, h2⟩ := Option.bind_eq_some_iff.1 h
 simp only at h2
 split at h2
 case h_2 => cases h2
 rename_i E hE
 obtain ⟨ys, m2, hw, hwm, hac⟩ := hcall _ _ _ _ _ h1
 have hlen : ys.length = args.length + caps.length := by
   have : ∀ (a b : List V), WkVs a b -> a.length = b.length := by
    intro a
    induction a with
    | nil => intro b hb; cases b; rfl; exact hb.elim
    | cons x a ih => intro b hb; cases b; exact hb.elim; simp [ih _ hb.2]
   rw [<- this _ _ hw]; simp
 have hc : CallTo P o s (ksFor (own f) s.blk (args.map s.eval ++ caps)) (lockOf (ksFor (own f) s.blk (args.map s.eval ++ caps)) s.blk (args.map s.eval ++ caps)) f caps args ys m2 r0 m0 E := ⟨callInfo_spec hi, hen, hok, hw, ⟨m1, hm1, hwm⟩, by omega, hac, hE⟩
 exact ⟨_, _, _, _, _, _, _, _, hkn.put (v := E.val) (fun t => get_out s o.dst E t) (fun c hc => by cases hc), h2, hc⟩
theorem tidyFst_spec {s : St} : ∀ {l : List Nat} {p : Nat × Blk} {r : List (Nat × Blk)}, tidyFst s l = p :: r -> ∃ k, tidyL s k = p :: r
 | [], _, _, h => by cases h
 | k :: l, p, r, h => by
  unfold tidyFst at h
  split at h
  . exact tidyFst_spec h
  . rename_i p' r' e; cases h; exact ⟨k, e⟩
theorem tidyL_congr {s s' : St} {k : Nat} {p : Nat × Blk} {r : List (Nat × Blk)} (h : tidyL s k = p :: r) (hb : ∀ q ∈ (p :: r).map (·.1), s'.blk q = s.blk q) : tidyL s' k = p :: r := by
 have h0 := h
 unfold tidyL at h
 split at h
 . rename_i ver e ei c i k' v' xs hk
   split at h
   case h_2 => cases h
   rename_i v'' e2 c2 ap fr ys hk'
   split at h
   case isFalse => cases h
   split at h
   case h_2 => cases h
   cases h
   have b1 := hb k (by simp)
   have b2 := hb k' (by simp)
   rw [<- h0]
   unfold tidyL
   rw [b1, hk]
   simp only [b2, hk']
 . rename_i ver e ei sz ic szi i k' v' ls hk
   split at h
   case h_2 => cases h
   rename_i v'' e2 s2 n N hk'
   split at h
   case h_2 => cases h
   cases h
   have b1 := hb k (by simp)
   have b2 := hb k' (by simp)
   rw [<- h0]
   unfold tidyL
   rw [b1, hk]
   simp only [b2, hk']
 . cases h
theorem agree_upd {ops : Array Oper} {o : Oper} {s s' : St} {R W : List Nat} {tm : List (Nat × Blk)} (hp : PlainO o) (h : Agree ops o s s' R (W ++ tm.map (·.1))) : Agree ops o (s.upd tm) (s'.upd tm) R W := by
 refine ⟨h.1, h.2.1, fun k hk => .inl ?_⟩
 show look k (tm ++ s'.mem) = look k (tm ++ s.mem)
 rw [look_append, look_append]
 cases look k tm with
 | some b => rfl
 | none =>
  refine h.blk hp ?_
  rcases hk with hk | hk | hk
  . exact .inl hk
  . exact .inr (.inl (List.mem_append_left _ hk))
  . exact .inr (.inr hk)
theorem execCall_sound (hcall : CallOk P call) {ops : Array Oper} {o : Oper} {kn : Kn} {s : St} {K : Kn -> List Nat -> List Nat -> St -> Tr ρ} {f : FuncId} {caps : List V} {args : List Operand} {r : ρ}
   (hi : callInfo o s = some (f, caps, args)) (hg : gcond ops s.get o = some true) (hkn : KnOk kn s)
   (h : (execCall P own call o kn s K f caps args).eval = some r) : ∃ kn' R W s', KnOk kn' s' /\ (K kn' R W s').eval = some r /\ OpOk P ops o s R W s' := by
 have plain : (execCall0 P own call o kn s K f caps args).eval = some r -> ∃ kn' R W s', KnOk kn' s' /\ (K kn' R W s').eval = some r /\ OpOk P ops o s R W s' := fun h => by
   obtain ⟨kn', ks, lock, ys, m2, r0, m0, E, h1, h2, hc⟩ := execCall0_spec hcall hi hg hkn h
   refine ⟨_, _, _, _, h1, h2, E, ?_, rfl, rfl⟩
   exact .plain (plain_callI hi) fun s' ha => .call _ _ _ f caps args ys m2 r0 m0 E (by rw [agree_gcond ha, hg]) (agree_callK ha hc)
 unfold execCall at h
 split at h
 . exact plain h
 . split at h
   . exact plain h
   . rename_i p l hl
     obtain ⟨k, hk⟩ := tidyFst_spec hl
     have hi2 : callInfo o (s.upd (p :: l)) = some (f, caps, args) := hi
     obtain ⟨kn', ks, lock, ys, m2, r0, m0, E, h1, h2, hc⟩ := execCall0_spec (s := s.upd (p :: l)) hcall hi2 hg hkn h
     refine ⟨_, _, _, _, h1, h2, ⟨E.val, E.mem ++ (p :: l)⟩, ?_, by rw [List.map_append], St.out_tm _ _ _ _⟩
     refine .plain (plain_callI hi) fun s' ha => .tcall _ (p :: l) _ _ f caps args ys m2 r0 m0 E (by rw [agree_gcond ha, hg]) (fun w0 U0 X β0 a w hs => ?_) (agree_callK (agree_upd (plain_callI hi) (by rw [List.map_append] at ha; exact ha)) hc)
     have hk' : tidyL s' k = p :: l := tidyL_congr hk fun q hq => ha.blk (plain_callI hi) (.inr (.inl (by rw [List.map_append]; exact List.mem_append_right _ hq)))
     obtain ⟨β, U, hb⟩ := hs
     have := hb.tidy k
     rw [hk'] at this
     exact this

theorem pick_eff {o : Oper} {s : St} {c a b : Operand} {t : Bool} (ho : o.op = .pick c a b) (hc : s.eval c = vb t) : effQ P o.op s.eval = some (s.eval (if t then a else b)) := by
 rw [ho]
 simp only [effQ, hc]
 cases t <;> rfl

theorem execOp_sound (hcall : CallOk P call) {ops : Array Oper} {o : Oper} {kn : Kn} {s : St} {K : Kn -> List Nat -> List Nat -> St -> Tr ρ} {r : ρ} (hg : gcond ops s.get o = some true) (hkn : KnOk kn s)
   (h : (execOp P cod own call o kn s K).eval = some r) : ∃ kn' R W s', KnOk kn' s' /\ (K kn' R W s').eval = some r /\ OpOk P ops o s R W s' := by
 have pk : ∀ {c a b : Operand} {t : Bool} {kn : Kn}, KnOk kn s -> o.op = .pick c a b -> s.eval c = vb t -> (K (knPut kn o.dst (known kn (if t then a else b))) [] [] (s.put o.dst (s.eval (if t then a else b)))).eval = some r ->
     ∃ kn' R W s', KnOk kn' s' /\ (K kn' R W s').eval = some r /\ OpOk P ops o s R W s' := fun hk ho hc h =>
   ⟨_, _, _, _, hk.put (fun _ => rfl) (fun c hc => known_spec hk hc), h, opOk_v hg (pick_eff ho hc) (by rw [ho]; rfl)⟩
 unfold execOp at h
 split at h
 . rename_i c a b ho
   split at h
   . rename_i t hk
     have hc := known_spec hkn hk
     split at h
     . exact pk hkn ho hc h
     . exact pk hkn ho hc h
   . split at h
     . rename_i t hc
       rcases Tr.eval_ite h with ⟨rfl, h⟩ | ⟨rfl, h⟩
       . exact pk hkn ho hc h
       . exact pk hkn ho hc h
     . cases h
 . rename_i x ho
   exact ⟨_, _, _, _, hkn.put (fun _ => rfl) (fun c hc => known_spec hkn hc), h, opOk_v hg (by rw [ho]; rfl) (by rw [ho]; rfl)⟩
 . rename_i x ho
   exact ⟨_, _, _, _, hkn.put (fun _ => rfl) (fun c hc => known_spec hkn hc), h, opOk_v hg (by rw [ho]; rfl) (by rw [ho]; rfl)⟩
 . rename_i fo args ats ho
   split at h
   . rename_i f caps hf
     refine execCall_sound hcall (f := f) (caps := caps) (args := args.toList) ?_ hg hkn h
     unfold callInfo
     rw [ho]; simp only [hf]
   . cases h
 . rename_i mt x i ok hop
   split at h
   . rename_i T hT
     rw [Tr.eval_bind] at h
     obtain ⟨E, h1, h2⟩ := Option.bind_eq_some_iff.1 h
     refine ⟨_, _, _, _, hkn.put (v := E.val) (fun t => get_out s o.dst E t) (fun c hc => by cases hc), h2, E, ?_, rfl, rfl⟩
     rw [<- hop]
     cases ok with
     | true =>
       have hp : PlainO o := plain_of (fun t x i e => by rw [hop] at e; cases e) (fun t x i e => by rw [hop] at e; cases e)
       refine .plain hp fun s' ha => .sem _ E (by rw [agree_gcond ha, hg]) fun hd => ?_
       exact zLook_sem (ρ := s.eval) (m := s.blk) hop (fun x hx => (agree_eval ha x hx).symm) (fun k hk => ha.blk hp (.inl hk)) hd hT h1
     | false =>
       refine ⟨fun s' ha => .sem _ E (by rw [agree_gcond ha, hg]) fun hd => ?_, fun he => ?_⟩
       . refine zLook_soft (ρ := s.eval) (m := s.blk) hop (fun x hx => (agree_eval ha x hx).symm) (fun k hk => ?_) hd hT h1
         rcases ha.2.2 k (.inl hk) with h | ⟨_, h⟩
         . exact .inl h
         . exact .inr h
       . unfold isEnt at he
         rw [hop] at he
         simp at he
   . cases h
 . rename_i mt x i hop
   split at h
   . rename_i T hT
     rw [Tr.eval_bind] at h
     obtain ⟨E, h1, h2⟩ := Option.bind_eq_some_iff.1 h
     refine ⟨_, _, _, _, hkn.put (v := E.val) (fun t => get_out s o.dst E t) (fun c hc => by cases hc), h2, E, ?_, rfl, rfl⟩
     rw [<- hop]
     refine ⟨fun s' ha => .sem _ E (by rw [agree_gcond ha, hg]) fun hd => ?_, fun _ => zEnt_dfl hT h1⟩
     refine zEnt_sem (ρ := s.eval) (m := s.blk) hop (fun x hx => (agree_eval ha x hx).symm) (fun k hk => ?_) hd hT h1
     rcases ha.2.2 k (.inl hk) with h | ⟨h, _⟩
     . exact h
     . unfold isLook at h
       rw [hop] at h
       simp at h
   . cases h
 . rename_i n1 n2 n3 n4 n5 n6
   have hp : PlainO o := plain_of (fun t x i e => n5 t x i false e) (fun t x i e => n6 t x i e)
   split at h
   . rename_i T hT
     rw [Tr.eval_bind] at h
     obtain ⟨E, h1, h2⟩ := Option.bind_eq_some_iff.1 h
     refine ⟨_, _, _, _, hkn.put (v := E.val) (fun t => get_out s o.dst E t) (fun c hc => by cases hc), h2, E, .plain hp fun s' ha => .sem _ E (by rw [agree_gcond ha, hg]) fun hd => ?_, rfl, rfl⟩
     exact effS_sem (ρ := s.eval) (m := s.blk) (fun x hx => (agree_eval ha x hx).symm) (fun k hk => ha.blk hp (.inl hk)) hT h1
   split at h
   . rename_i T hT
     rw [Tr.eval_bind] at h
     obtain ⟨E, h1, h2⟩ := Option.bind_eq_some_iff.1 h
     refine ⟨_, _, _, _, hkn.put (v := E.val) (fun t => get_out s o.dst E t) (fun c hc => by cases hc), h2, E, .plain hp fun s' ha => .sem _ E (by rw [agree_gcond ha, hg]) fun hd => ?_, rfl, rfl⟩
     exact effE_sem (ρ := s.eval) (m := s.blk) (fun x hx => (agree_eval ha x hx).symm) (fun k hk => ha.blk hp (.inl hk)) hd hT h1
   split at h
   . rename_i T hT
     rw [Tr.eval_bind] at h
     obtain ⟨E, h1, h2⟩ := Option.bind_eq_some_iff.1 h
     refine ⟨_, _, _, _, hkn.put (v := E.val) (fun t => get_out s o.dst E t) (fun c hc => by cases hc), h2, E, .plain hp fun s' ha => .sem _ E (by rw [agree_gcond ha, hg]) fun hd => ?_, rfl, rfl⟩
     exact effJ_sem (ρ := s.eval) (m := s.blk) (fun x hx => (agree_eval ha x hx).symm) (fun k hk => ha.blk hp (.inl hk)) hd hT h1
   . split at h
     . rename_i T hT
       rw [Tr.eval_bind] at h
       obtain ⟨E, h1, h2⟩ := Option.bind_eq_some_iff.1 h
       refine ⟨_, _, _, _, hkn.put (v := E.val) (fun t => get_out s o.dst E t) (fun c hc => by cases hc), h2, E, .plain hp fun s' ha => .sem _ E (by rw [agree_gcond ha, hg]) fun hd => ?_, rfl, rfl⟩
       exact effZ_sem (ρ := s.eval) (m := s.blk) (fun x hx => (agree_eval ha x hx).symm) (fun k hk => ha.blk hp (.inl hk)) hd hT h1
     . split at h
       . rename_i T hT
         rw [Tr.eval_bind] at h
         obtain ⟨E, h1, h2⟩ := Option.bind_eq_some_iff.1 h
         refine ⟨_, _, _, _, hkn.put (v := E.val) (fun t => get_out s o.dst E t) (fun c hc => by cases hc), h2, E, .plain hp fun s' ha => .sem _ E (by rw [agree_gcond ha, hg]) fun hd => ?_, rfl, rfl⟩
         obtain ⟨E0, he, hw⟩ := effX_out hT h1
         exact semOf hd (by rw [agree_eff hp ha rfl]; exact he) hw
       . split at h
         . rename_i T hT
           rw [Tr.eval_bind] at h
           obtain ⟨E, h1, h2⟩ := Option.bind_eq_some_iff.1 h
           refine ⟨_, _, _, _, hkn.put (v := E.val) (fun t => get_out s o.dst E t) (fun c hc => by cases hc), h2, E, .plain hp fun s' ha => .sem _ E (by rw [agree_gcond ha, hg]) fun hd => ?_, rfl, rfl⟩
           exact effP_sem (ρ := s.eval) (m := s.blk) (fun x hx => (agree_eval ha x hx).symm) (fun k hk => ha.blk hp (.inl hk)) hd (effPX_P hT) h1
         split at h
         . rename_i E he
           exact ⟨_, _, _, _, hkn.put (v := E.val) (fun t => get_out s o.dst E.out t) (fun c hc => by cases hc), h, E.out, loc_ef hg he, rfl, rfl⟩
         . split at h
           . rename_i T hT
             rw [Tr.eval_bind] at h
             obtain ⟨E, h1, h2⟩ := Option.bind_eq_some_iff.1 h
             refine ⟨_, _, _, _, hkn.put (v := E.val) (fun t => get_out s o.dst E t) (fun c hc => by cases hc), h2, E, .plain hp fun s' ha => .sem _ E (by rw [agree_gcond ha, hg]) fun hd => ?_, rfl, rfl⟩
             exact effP_sem (ρ := s.eval) (m := s.blk) (fun x hx => (agree_eval ha x hx).symm) (fun k hk => ha.blk hp (.inl hk)) hd hT h1
           . cases h

theorem execOps_sound (hcall : CallOk P call) {ops : Array Oper} : ∀ (rest : List Oper) {kn : Kn} {log : Log} {s : St} {K : Kn -> Log -> St -> Tr ρ} {r : ρ}, KnOk kn s -> (execOps P cod own call ops rest kn log s K).eval = some r ->
  ∃ kn' log' s', KnOk kn' s' /\ (K kn' log' s').eval = some r /\ ∀ (fin : Log -> Prop) (Kp : St -> Prop), fin log' -> Kp s' -> ARun P ops fin rest log s Kp
 | [], kn, log, s, K, r, hkn, h => ⟨kn, log, s, hkn, h, fun fin Kp h1 h2 => ⟨h1, h2⟩⟩
 | o :: rest, kn, log, s, K, r, hkn, h => by
  have run : ∀ {kn : Kn}, dstOk s o.dst = true -> KnOk kn s -> gcond ops s.get o = some true -> (execOp P cod own call o kn s fun kn' R W s' => execOps P cod own call ops rest kn' (log ++ [(R, W)]) s' K).eval = some r ->
      ∃ kn' log' s', KnOk kn' s' /\ (K kn' log' s').eval = some r /\ ∀ (fin : Log -> Prop) (Kp : St -> Prop), fin log' -> Kp s' -> ARun P ops fin (o :: rest) log s Kp := by
    intro kn hd hkn hg h
    obtain ⟨kn1, R, W, s1, hk1, h1, E, hl, hW, hs1⟩ := execOp_sound hcall hg hkn h
    obtain ⟨kn2, log2, s2, hk2, h2, hrun⟩ := execOps_sound hcall rest hk1 h1
    refine ⟨kn2, log2, s2, hk2, h2, fun fin Kp h3 h4 => ⟨dstOk_spec hd, R, E, hl, ?_⟩⟩
    rw [<- hs1, <- hW]
    exact hrun fin Kp h3 h4
  have skip : ∀ {kn : Kn}, dstOk s o.dst = true -> KnOk kn s -> gcond ops s.get o = some false -> (execOps P cod own call ops rest (knPut kn o.dst none) (log ++ [([], [])]) (s.put o.dst (.one .un)) K).eval = some r ->
      ∃ kn' log' s', KnOk kn' s' /\ (K kn' log' s').eval = some r /\ ∀ (fin : Log -> Prop) (Kp : St -> Prop), fin log' -> Kp s' -> ARun P ops fin (o :: rest) log s Kp := by
    intro kn hd hkn hg h
    obtain ⟨kn2, log2, s2, hk2, h2, hrun⟩ := execOps_sound hcall rest (hkn.put (fun _ => rfl) (fun c hc => by cases hc)) h
    refine ⟨kn2, log2, s2, hk2, h2, fun fin Kp h3 h4 => ⟨dstOk_spec hd, [], ⟨mkgd false (.one .un), []⟩, loc_no hg, ?_⟩⟩
    rw [put_out]
    exact hrun fin Kp h3 h4
  unfold execOps at h
  split at h
  . cases h
  rename_i hd
  split at h
  . rename_i hgd
    exact run hd hkn (by unfold gcond; rw [hgd]) h
  rename_i j want hgd
  split at h
  . cases h
  rename_i t ht
  have gc : ∀ (v : V) (b : Option Bool), s.get t = v -> yl v want = b -> gcond ops s.get o = b := by
    intro v b h1 h2
    unfold gcond
    rw [hgd]; simp only [ht, h1, h2]
  split at h
  . rename_i b hb
    have hv := hkn _ _ hb
    have hg := gc _ _ hv rfl
    rw [yl_b] at hg
    split at h
    . rename_i e; exact run hd hkn (by rw [hg, e]) h
    . rename_i e; exact skip hd hkn (by rw [hg, e]) h
  . split at h
    . rename_i hv
      exact skip hd hkn (gc _ _ hv rfl) h
    . rename_i c hv
      have hg := gc _ _ hv rfl
      rw [show yl (V.one (C.d (D.b c))) want = some (c == want) from rfl] at hg
      split at h
      . rcases Tr.eval_ite h with ⟨rfl, h⟩ | ⟨rfl, h⟩
        . exact run hd (hkn.cons hv) (by rw [hg]; rfl) h
        . exact skip hd (hkn.cons hv) (by rw [hg]; rfl) h
      . rcases Tr.eval_ite h with ⟨rfl, h⟩ | ⟨rfl, h⟩
        . exact skip hd (hkn.cons hv) (by rw [hg]; rfl) h
        . exact run hd (hkn.cons hv) (by rw [hg]; rfl) h
    . cases h

def Fwd (s s' : St) : Prop := ∀ (w0 : World) (U0 : Nat -> Prop) (X : Nat -> Nat -> Prop) (β0 : Nat -> Option Place) (a : Act) (w : World), Sim w0 U0 X β0 s a w -> Sim w0 U0 X β0 s' a w
theorem tidyP_fwd (mem : List (Nat × BP)) : ∀ (ks : List (Nat × Nat)) (s : St), Fwd s (tidyP mem ks s)
 | [], s => fun _ _ _ _ _ _ h => h
 | q :: r, s => by
  unfold tidyP
  split
  . intro w0 U0 X β0 a w hs
    obtain ⟨β, U, hb⟩ := hs
    exact tidyP_fwd mem r _ _ _ _ _ _ _ (hb.tidy q.1)
  . intro w0 U0 X β0 a w hs
    obtain ⟨β, U, hb⟩ := hs
    exact tidyP_fwd mem r _ _ _ _ _ _ _ (hb.tidy q.1)
  . exact tidyP_fwd mem r s
theorem tidyP_n (mem : List (Nat × BP)) : ∀ (ks : List (Nat × Nat)) (s : St), (tidyP mem ks s).n = s.n
 | [], s => rfl
 | q :: r, s => by
  unfold tidyP
  split
  . rw [tidyP_n mem r]; rfl
  . rw [tidyP_n mem r]; rfl
  . exact tidyP_n mem r s
theorem normGet_fwd {ks : List (Nat × Nat)} {sp : SP} {s : St} {l : Ob} {x : sp.T} (h : normGet ks sp s = some (l, x)) (ho : ObOk (sp.len x) l) : Fwd s (sp.put x) := by
 unfold normGet at h
 split at h
 . rename_i s1 hn
   intro w0 U0 X β0 a w hs
   exact ((tidyP_fwd sp.mem ks s _ _ _ _ _ _ hs).norm hn).stWk (SP.wk h ho)
 . cases h
theorem SimB.ghost {w0 : World} {U0 : Nat -> Prop} {X : Nat -> Nat -> Prop} {β0 β : Nat -> Option Place} {U : Nat -> Prop} {s : St} {a : Act} {w : World} (h : SimB w0 U0 X β0 β U s a w) {t : Nat} {e : TypeId} {c : Nat} (ht : s.get t = .one .nil) (hk : s.blk t = none) (hk0 : t < 1000000) :
   Sim w0 U0 X β0 { n := s.n, env := (t, .one (.own t 0 0)) :: s.env, mem := (t, .rowT 0 e c true true []) :: s.mem } a w := by
 have hv : a.tmps.getD t undef = .slice none 0 0 := by
   have := h.env t; rw [ht] at this; exact this.toC
 obtain ⟨h1, h2⟩ := h.newKey (w' := w) (p := .row (.slice none 0 0) 0) (blk := .rowT 0 e c true true []) hk0 hk rfl rfl rfl (Nat.le_refl _) (fun _ _ => rfl) (fun b hb => by simp [Place.has, Value.ownBlock] at hb) ⟨rfl, fun r hr => by simp at hr, .inl ⟨rfl, rfl⟩⟩
 refine ⟨_, _, { h1 with env := fun t' => ?_ }⟩
 show RepV w _ U w0.heap.size _ ((look t' ((t, V.one (.own t 0 0)) :: s.env)).getD (.one .bad))
 rw [look_cons]
 by_cases q : t = t'
 . subst q
   rw [if_pos rfl, hv]
   exact .one _ _ ⟨none, 0, .slice none 0 0, 0, rfl, Nat.le_refl _, fun _ => ⟨rfl, rfl⟩, fun x hx => by (cases hx), upd_self _ _ _, Nat.le_refl _, fun _ => rfl⟩
 . rw [if_neg q]; exact h1.env t'
theorem SimB.ghostD {w0 : World} {U0 : Nat -> Prop} {X : Nat -> Nat -> Prop} {β0 β : Nat -> Option Place} {U : Nat -> Prop} {s : St} {a : Act} {w : World} (h : SimB w0 U0 X β0 β U s a w) {t : Nat} {e ei : TypeId} {c : Nat} (ht : s.get t = .one .nil) (hk : s.blk t = none) (hk0 : t < 1000000) (hok : dOk c = true) :
   Sim w0 U0 X β0 { n := s.n, env := (t, .one (.dp t 0 0 0)) :: s.env, mem := (t, .deep 0 e ei c none []) :: s.mem } a w := by
 have hv : a.tmps.getD t undef = .slice none 0 0 := by
   have := h.env t; rw [ht] at this; exact this.toC
 obtain ⟨h1, h2⟩ := h.newKey (w' := w) (p := .deep (.slice none 0 0) 0 []) (blk := .deep 0 e ei c none []) hk0 hk rfl rfl rfl (Nat.le_refl _) (fun _ _ => rfl) (fun b hb => by
   rcases hb with hb | ⟨u, hu, _⟩
   . simp [Value.ownBlock] at hb
   . cases hu) ⟨rfl, hok, rfl, ⟨fun i j u u' b _ hi => (by simp at hi), fun i u b hi => (by simp at hi)⟩, fun i u x hi => (by simp at hi), fun i l hh => (by cases hh), .inl ⟨rfl, rfl⟩⟩
 refine ⟨_, _, { h1 with env := fun t' => ?_ }⟩
 show RepV w _ U w0.heap.size _ ((look t' ((t, V.one (.dp t 0 0 0)) :: s.env)).getD (.one .bad))
 rw [look_cons]
 by_cases q : t = t'
 . subst q
   rw [if_pos rfl, hv]
   exact repDp (us := []) (upd_self _ _ _) (Nat.le_refl _) (Nat.le_refl _) (fun _ => ⟨rfl, rfl⟩) (fun x hx => by cases hx)
 . rw [if_neg q]; exact h1.env t'
theorem SimB.ghostCell {w0 : World} {U0 : Nat -> Prop} {X : Nat -> Nat -> Prop} {β0 β : Nat -> Option Place} {U : Nat -> Prop} {s : St} {a : Act} {w : World} (h : SimB w0 U0 X β0 β U s a w) {k q i : Nat} {e : TypeId} {c : Nat} {cs : List C} (hk : s.blk k = some (.cells cs)) (hi : cs[i]? = some .nil) (hq : s.blk q = none) (hq0 : q < 1000000) :
  Sim w0 U0 X β0 { n := s.n, env := s.env, mem := (k, .cells (cs.set i (.own q 0 0))) :: (q, .rowT 0 e c true true []) :: s.mem } a w := by
 obtain ⟨h1, h2⟩ := h.newKey (w' := w) (p := .row (.slice none 0 0) 0) (blk := .rowT 0 e c true true []) hq0 hq rfl rfl rfl (Nat.le_refl _) (fun _ _ => rfl) (fun b hb => by simp [Place.has, Value.ownBlock] at hb) ⟨rfl, fun r hr => by simp at hr, .inl ⟨rfl, rfl⟩⟩
 have hkq : q ≠ k := fun e => by subst e; rw [hq] at hk; cases hk
 have hk1 : (s.set q (.rowT 0 e c true true [])).blk k = some (.cells cs) := by rw [St.blk_set, if_neg hkq]; exact hk
 obtain ⟨p, hp, hr⟩ := h1.mem k _ hk1
 cases p with
 | row => exact hr.elim
 | deep => exact hr.elim
 | cells b o =>
  have hnew : RepB w (upd (upd β q (.row (.slice none 0 0) 0)) k (.cells b o)) U w0.heap.size (.cells b o) (.cells (cs.set i (.own q 0 0))) := by
   refine ⟨by rw [List.length_set]; exact hr.1, fun j c' hj => ?_⟩
   have hupd : ∀ k' p', upd β q (.row (.slice none 0 0) 0) k' = some p' -> upd (upd β q (.row (.slice none 0 0) 0)) k (.cells b o) k' = some p' := by
     intro k' p' hk'
     by_cases e : k = k'
     . subst e; rw [upd_self]; rw [hp] at hk'; exact hk'
     . rw [upd_ne _ e]; exact hk'
   by_cases e : i = j
   . subst e
     obtain ⟨v, q1, q2, q3, q4⟩ := hr.2 i _ hi
     have hlt := (List.getElem?_eq_some_iff.1 hi).1
     rw [List.getElem?_set_self hlt] at hj
     cases hj
     refine ⟨v, q1, q2, q3, ?_⟩
     have hv : v = .slice none 0 0 := q4
     subst hv
     exact ⟨none, 0, .slice none 0 0, 0, rfl, Nat.le_refl _, fun _ => ⟨rfl, rfl⟩, fun x hx => by (cases hx), hupd _ _ (upd_self _ _ _), Nat.le_refl _, fun _ => rfl⟩
   . rw [List.getElem?_set_ne e] at hj
     obtain ⟨v, q1, q2, q3, q4⟩ := hr.2 j _ hj
     exact ⟨v, q1, q2, q3, q4.map (fun _ h => h) (fun _ _ => rfl) (Evo.sub hupd)⟩
  refine ⟨_, U, h1.repl (w' := w) (p' := .cells b o) (blk' := .cells (cs.set i (.own q 0 0))) hp hk1 rfl rfl rfl (Nat.le_refl _) (fun _ _ _ => rfl) (fun _ _ _ _ => ⟨rfl, rfl⟩) (fun _ _ _ => .inl rfl) (.inl rfl) (fun _ hb => .inl hb) (fun _ _ hc => .inl ?_) hnew⟩
  obtain ⟨q1, q2, q3⟩ := hc
  exact ⟨q1, q2, by rw [List.length_set] at q3; exact q3⟩
theorem ghost_fwd : ∀ (gs : List (Nat × TypeId × Nat)) (s : St), Fwd s (ghostSt gs s)
 | [], s => fun _ _ _ _ _ _ h => h
 | (t, e, c) :: r, s => by
  unfold ghostSt
  split
  . rename_i h3
    split
    . rename_i h1 h2
      intro w0 U0 X β0 a w hs
      obtain ⟨β, U, hb⟩ := hs
      have hk0 : t < 1000000 := by simpa using h3
      split
      . rename_i ei hei hok
        exact ghost_fwd r _ _ _ _ _ _ _ (hb.ghostD h1 h2 hk0 hok)
      . exact ghost_fwd r _ _ _ _ _ _ _ (hb.ghost h1 h2 hk0)
    . exact ghost_fwd r s
  . rename_i h3
    intro w0 U0 X β0 a w hs
    obtain ⟨β, U, hb⟩ := hs
    split
    case h_2 =>
      rename_i h6
      have hge2 : 200000000 <= t := by
        rcases Nat.lt_or_ge t 200000000 with q | q
        . have q' : Nat.blt t 200000000 = true := by simpa using q
          rw [q'] at h6; cases h6
        . exact q
      exact ghost_fwd r _ _ _ _ _ _ _ (hb.form (by omega))
    refine ghost_fwd r _ _ _ _ _ _ _ ?_
    have hge : 1000000 <= t := by
      rcases Nat.lt_or_ge t 1000000 with q | q
      . have q' : Nat.blt t 1000000 = true := by simpa using q
        rw [q'] at h3; cases h3
      . exact q
    unfold ghostC
    split
    . rename_i cs h1 h2 h4
      have hlt : t < 1040000 := by simpa using h4
      split
      . rename_i h5; exact hb.ghostCell h1 h5 h2 (by omega)
      . exact ⟨β, U, hb⟩
    . exact ⟨β, U, hb⟩
theorem Fwd.trans {s1 s2 s3 : St} (h : Fwd s1 s2) (k : Fwd s2 s3) : Fwd s1 s3 := fun w0 U0 X β0 a w hs => k _ _ _ _ _ _ (h _ _ _ _ _ _ hs)
theorem awp_loopF {ι : Type} (I : ι -> St) (p : ι -> Prop) (μ : ι -> Nat) {c : Code} {Q : Exit -> St -> Prop} {s : St} (h0 : ∃ x, p x /\ Fwd s (I x))
  (hround : ∀ x, p x -> AWp P c (thenA (fun s1 => ∃ x', p x' /\ μ x' < μ x /\ Fwd s1 (I x')) Q) (I x)) : AWp P (.loop c) Q s := by
 intro w0 U0 X β0 a w hs
 obtain ⟨x0, hp0, hx0⟩ := h0
 refine wp_loop_ix (fun x a' w' => p x /\ Sim w0 U0 X β0 (I x) a' w') μ (fun x a w hI => ?_) (x0 := x0) ⟨hp0, hx0 _ _ _ _ _ _ hs⟩
 refine wp_mono (hround x hI.1 w0 U0 X β0 a w hI.2) ?_
 rintro e a' w' ⟨s', h1, h2⟩
 cases e with
 | normal =>
  obtain ⟨x', q1, q2, q3⟩ := h1
  exact ⟨x', q2, q1, q3 _ _ _ _ _ _ h2⟩
 | _ => exact ⟨s', h1, h2⟩
theorem awp_fwd {c : Code} {s s1 s2 : St} {e : Exit} (h : AWp P c (fun e1 s' => e1 = e /\ s' = s1) s) (hf : Fwd s1 s2) : AWp P c (fun e1 s' => e1 = e /\ s' = s2) s := by
 intro w0 U0 X β0 a w hs
 refine wp_mono (h w0 U0 X β0 a w hs) ?_
 rintro e1 a' w' ⟨s', ⟨rfl, rfl⟩, h2⟩
 exact ⟨s2, ⟨rfl, rfl⟩, hf _ _ _ _ _ _ h2⟩

theorem hits_exit {x : EX} {e : Exit} (h : x.hits e = true) : x.exit = e := by
 obtain ⟨xe, ks, sp⟩ := x
 cases xe with
 | some id =>
  cases e with
  | exit id' =>
   have h' : Nat.beq id id' = true := h
   rw [Nat.eq_of_beq_eq_true h']; rfl
  | _ => cases h
 | none =>
  cases e with
  | ret => rfl
  | _ => cases h
theorem exInj_out : ∀ (es : List EX) {e : Exit} {s : St} {T : Tr (ExT es)} {o : ExT es}, exInj es e s = some T -> T.eval = some o -> ∃ s2, (exOut es o).eval = some (e, s2) /\ Fwd s s2
 | [], e, s, T, o, h, ht => by cases h
 | [x], e, s, T, o, h, ht => by
  unfold exInj at h
  split at h
  . rename_i hh
    split at h
    . rename_i g y hg
      cases h
      obtain ⟨h1, h2⟩ := eval_grdOb ht
      cases h2
      exact ⟨x.sp.put o, by unfold exOut; rw [hits_exit hh]; rfl, normGet_fwd hg h1⟩
    . cases h; cases ht
  . cases h
 | x :: y :: r, e, s, T, o, h, ht => by
  unfold exInj at h
  split at h
  . rename_i hh
    split at h
    . rename_i g z hg
      cases h
      obtain ⟨h1, h2⟩ := eval_grdOb ht
      cases h2
      exact ⟨x.sp.put z, by show (Tr.ret (x.exit, x.sp.put z)).eval = _; rw [hits_exit hh]; rfl, normGet_fwd hg h1⟩
    . cases h; cases ht
  . split at h
    . rename_i T' hT
      cases h
      have ht' : T'.eval.map Sum.inr = some o := (Tr.eval_map (Sum.inr : ExT (y :: r) -> x.sp.T ⊕ ExT (y :: r)) T').symm.trans ht
      obtain ⟨b, hb, rfl⟩ := Option.map_eq_some_iff.1 ht'
      obtain ⟨s2, h1, h2⟩ := exInj_out (y :: r) hT hb
      exact ⟨s2, h1, h2⟩
    . cases h

theorem loop_sound {L : LS} {body : Code} {F : L.sp.T -> Option (L.sp.T ⊕ ExT L.es)}
  (hbody : ∀ x r, F x = some r -> ∃ e s', (loopK L e s').eval = some r /\ AWp P body (fun e1 s1 => e1 = e /\ s1 = s') (L.sp.put x)) {n tag : Nat} {x : L.sp.T} {o : ExT L.es} (h : loopO tag F n x = some o) {e : Exit} {s2 : St} (ho : (exOut L.es o).eval = some (e, s2))
  {s : St} (hs : Fwd s (L.sp.put x)) : AWp P (.loop body) (fun e1 s1 => e1 = e /\ s1 = s2) s := by
 refine awp_loopF (ι := Nat × L.sp.T) (fun z => L.sp.put z.2) (fun z => loopO tag F z.1 z.2 = some o) (fun z => z.1) ⟨(n, x), h, hs⟩ ?_
 rintro ⟨m, y⟩ hp
 simp only at hp ⊢
 cases m with
 | zero => cases hp
 | succ m =>
  unfold loopO at hp
  split at hp
  . cases hp
  . rename_i y' hy
    obtain ⟨e1, s1, h1, h2⟩ := hbody y _ hy
    unfold loopK at h1
    split at h1
    . rename_i he
      split at h1
      . rename_i g z hg
        obtain ⟨q1, q2⟩ := eval_grdOb h1
        cases q2
        refine awp_mono h2 ?_
        rintro e3 s3 ⟨rfl, rfl⟩
        cases e3 with
        | normal => exact ⟨(m, y'), hp, Nat.lt_succ_self m, (ghost_fwd L.gs _).trans (normGet_fwd hg q1)⟩
        | _ => cases he
      . cases h1
    . split at h1
      . rename_i T hT
        rw [Tr.eval_map] at h1
        obtain ⟨b, hb, hb2⟩ := Option.map_eq_some_iff.1 h1
        cases hb2
      . cases h1
  . rename_i b hy
    cases hp
    obtain ⟨e1, s1, h1, h2⟩ := hbody y _ hy
    unfold loopK at h1
    split at h1
    . split at h1
      . rename_i g z hg
        obtain ⟨q1, q2⟩ := eval_grdOb h1
        cases q2
      . cases h1
    . rename_i he
      split at h1
      . rename_i T hT
        rw [Tr.eval_map] at h1
        obtain ⟨b', hb, hb2⟩ := Option.map_eq_some_iff.1 h1
        cases hb2
        obtain ⟨s3, q1, q2⟩ := exInj_out L.es hT hb
        rw [ho] at q1
        cases q1
        have h3 := awp_fwd h2 q2
        refine awp_mono h3 ?_
        rintro e4 s4 ⟨rfl, rfl⟩
        cases e4 with
        | normal => cases he
        | _ => exact ⟨rfl, rfl⟩
      . cases h1

theorem iter_sound {Λ : List LS} {fi : Nat} {body : Code} {ρ : Type} {K : Exit -> Kn -> St -> Tr ρ} {r : ρ}
  (hb : ∀ {kn : Kn} {s : St} {K : Exit -> Kn -> St -> Tr ρ} {r : ρ}, KnOk kn s -> (exec P cod own call Λ fi body ρ kn s K).eval = some r -> ∃ e kn' s', KnOk kn' s' /\ (K e kn' s').eval = some r /\ AWp P body (fun e1 s1 => e1 = e /\ s1 = s') s) :
  ∀ (n : Nat) {kn : Kn} {s : St}, KnOk kn s -> (iterT n (fun again kn s => exec P cod own call Λ fi body ρ kn s fun e kn' s' => match e with
    | .normal => (match trimR body s' with | some s2 => again [] s2 | none => .fail 16)
    | e => K e kn' s') kn s).eval = some r ->
   ∃ e kn' s', KnOk kn' s' /\ (K e kn' s').eval = some r /\ ∀ (w0 : World) (U0 : Nat -> Prop) (X : Nat -> Nat -> Prop) (β0 : Nat -> Option Place) (a : Act) (w : World), Sim w0 U0 X β0 s a w -> Code.rounds P body (fun e1 a' w' => ∃ s1, (e1 = e /\ s1 = s') /\ Sim w0 U0 X β0 s1 a' w') n a w
 | 0, kn, s, hkn, h => by cases h
 | n + 1, kn, s, hkn, h => by
  obtain ⟨e1, kn1, s1, h1, h2, h3⟩ := hb hkn h
  cases e1 with
  | normal =>
   simp only at h2
   split at h2
   case h_2 => cases h2
   rename_i s3 hs3
   obtain ⟨e, kn', s', q1, q2, q3⟩ := iter_sound hb n KnOk.nil h2
   refine ⟨e, kn', s', q1, q2, fun w0 U0 X β0 a w hs => ?_⟩
   refine wp_mono (h3 w0 U0 X β0 a w hs) ?_
   rintro e2 a2 w2 ⟨s2, ⟨rfl, rfl⟩, hs2⟩
   exact q3 w0 U0 X β0 a2 w2 (hs2.norm hs3)
  | _ =>
   refine ⟨_, kn1, s1, h1, h2, fun w0 U0 X β0 a w hs => ?_⟩
   refine wp_mono (h3 w0 U0 X β0 a w hs) ?_
   rintro e2 a2 w2 ⟨s2, ⟨rfl, rfl⟩, hs2⟩
   exact ⟨_, ⟨rfl, rfl⟩, hs2⟩

theorem joinK_out {fi j : Nat} {L : LS} {e : Exit} {s : St} {o : ExT L.es} (h : (joinK fi j L e s).eval = some o) : ∃ e' s2, (exOut L.es o).eval = some (e', s2) /\ unJ e' = e /\ Fwd s s2 := by
 unfold joinK at h
 split at h
 . cases h
 rename_i e' he
 split at h
 . rename_i T hT
   obtain ⟨s2, h1, h2⟩ := exInj_out L.es hT h
   refine ⟨e', s2, h1, ?_, h2⟩
   cases e with
   | normal => cases he; rfl
   | exit id =>
    simp only at he
    split at he
    . cases he
    . rename_i hb
      cases he
      show (match Nat.beq id 9998 with | true => Exit.normal | false => .exit id) = _
      rw [hb]
   | _ => cases he; rfl
 . cases h

theorem exec_sound (hcall : CallOk P call) {Λ : List LS} {fi : Nat} : ∀ (c : Code) {ρ : Type} {kn : Kn} {s : St} {K : Exit -> Kn -> St -> Tr ρ} {r : ρ}, KnOk kn s -> (exec P cod own call Λ fi c ρ kn s K).eval = some r ->
  ∃ e kn' s', KnOk kn' s' /\ (K e kn' s').eval = some r /\ AWp P c (fun e1 s1 => e1 = e /\ s1 = s') s
 | .skip, ρ, kn, s, K, r, hkn, h => ⟨.normal, kn, s, hkn, h, awp_skip ⟨rfl, rfl⟩⟩
 | .region id ops draw, ρ, kn, s, K, r, hkn, h => by
  unfold exec at h
  split at h
  . obtain ⟨kn', log', s', h1, h2, h3⟩ := execOps_sound hcall _ hkn h
    refine ⟨.normal, kn', s', h1, h2, ?_⟩
    have := awp_region (P := P) (id := id) (l := ops.toList) (Q := fun e1 s1 => e1 = Exit.normal /\ s1 = s') (s := s) (by
      rw [show ops.toList.toArray = ops by simp]
      exact h3 _ _ trivial ⟨rfl, rfl⟩)
    rwa [show ops.toList.toArray = ops by simp] at this
  . split at h
    . rename_i hf
      obtain ⟨kn', log', s', h1, h2, h3⟩ := execOps_sound hcall _ hkn h
      split at h2
      . rename_i ho
        refine ⟨.normal, kn', s', h1, h2, ?_⟩
        have := awp_region_any (P := P) (id := id) (l := ops.toList) (Q := fun e1 s1 => e1 = Exit.normal /\ s1 = s') (s := s) hf (by
          rw [show ops.toList.toArray = ops by simp]
          exact h3 _ _ ho ⟨rfl, rfl⟩)
        rwa [show ops.toList.toArray = ops by simp] at this
      . cases h2
    . cases h
 | .seq a b, ρ, kn, s, K, r, hkn, h => by
  unfold exec at h
  have fin : ∀ {e kn1 s1}, KnOk kn1 s1 -> (match e with | Exit.normal => exec P cod own call Λ fi b ρ kn1 s1 K | e => K e kn1 s1).eval = some r -> AWp P a (fun e1 s2 => e1 = e /\ s2 = s1) s ->
      ∃ e kn' s', KnOk kn' s' /\ (K e kn' s').eval = some r /\ AWp P (.seq a b) (fun e1 s1 => e1 = e /\ s1 = s') s := by
    intro e kn1 s1 h1 h2 h3
    cases e with
    | normal =>
      obtain ⟨e2, kn2, s2, q1, q2, q3⟩ := exec_sound hcall b h1 h2
      refine ⟨e2, kn2, s2, q1, q2, awp_seq (awp_mono h3 ?_)⟩
      rintro e s ⟨rfl, rfl⟩
      exact q3
    | _ =>
      refine ⟨_, kn1, s1, h1, h2, awp_seq (awp_mono h3 ?_)⟩
      rintro e s ⟨rfl, rfl⟩
      exact ⟨rfl, rfl⟩
  split at h
  . obtain ⟨e, kn1, s1, h1, h2, h3⟩ := exec_sound hcall a hkn h
    exact fin h1 h2 h3
  . rename_i L hL
    obtain ⟨o, h1, h2⟩ := Option.bind_eq_some_iff.1 h
    simp only at h2
    rw [Tr.eval_bind] at h2
    obtain ⟨⟨e, s2⟩, h3, h4⟩ := Option.bind_eq_some_iff.1 h2
    obtain ⟨e1, kn1, s1, q1, q2, q3⟩ := exec_sound hcall a hkn h1
    obtain ⟨e', s3, p1, p2, p3⟩ := joinK_out q2
    rw [h3] at p1
    cases p1
    exact fin (e := e1) KnOk.nil (by rw [<- p2]; exact h4) (awp_fwd q3 p3)
 | .cond c a b, ρ, kn, s, K, r, hkn, h => by
  unfold exec at h
  have ha : ∀ {kn : Kn}, KnOk kn s -> s.eval c = vb true -> (exec P cod own call Λ fi a ρ kn s K).eval = some r -> ∃ e kn' s', KnOk kn' s' /\ (K e kn' s').eval = some r /\ AWp P (.cond c a b) (fun e1 s1 => e1 = e /\ s1 = s') s := by
    intro kn hk hc h
    obtain ⟨e, kn1, s1, h1, h2, h3⟩ := exec_sound hcall a hk h
    exact ⟨e, kn1, s1, h1, h2, awp_cond hc (fun _ => h3) (fun e => by cases e)⟩
  have hb : ∀ {kn : Kn}, KnOk kn s -> s.eval c = vb false -> (exec P cod own call Λ fi b ρ kn s K).eval = some r -> ∃ e kn' s', KnOk kn' s' /\ (K e kn' s').eval = some r /\ AWp P (.cond c a b) (fun e1 s1 => e1 = e /\ s1 = s') s := by
    intro kn hk hc h
    obtain ⟨e, kn1, s1, h1, h2, h3⟩ := exec_sound hcall b hk h
    exact ⟨e, kn1, s1, h1, h2, awp_cond hc (fun e => by cases e) (fun _ => h3)⟩
  split at h
  . rename_i t hk
    have hc := known_spec hkn hk
    split at h
    . exact ha hkn hc h
    . exact hb hkn hc h
  . split at h
    . rename_i t hc
      split at h
      . rename_i j
        rcases Tr.eval_ite h with ⟨rfl, h⟩ | ⟨rfl, h⟩
        . exact ha (hkn.cons hc) hc h
        . exact hb (hkn.cons hc) hc h
      . rcases Tr.eval_ite h with ⟨rfl, h⟩ | ⟨rfl, h⟩
        . exact ha hkn hc h
        . exact hb hkn hc h
    . cases h
 | .block id body, ρ, kn, s, K, r, hkn, h => by
  unfold exec at h
  obtain ⟨e, kn1, s1, h1, h2, h3⟩ := exec_sound hcall body hkn h
  cases e with
  | exit id' =>
    simp only at h2
    split at h2
    . rename_i e
      obtain rfl : id' = id := Nat.eq_of_beq_eq_true e
      refine ⟨.normal, kn1, s1, h1, h2, awp_block (awp_mono h3 ?_)⟩
      rintro e s ⟨rfl, rfl⟩
      exact block_exit ⟨rfl, rfl⟩
    . rename_i e
      have e : id' ≠ id := Nat.ne_of_beq_eq_false e
      refine ⟨_, kn1, s1, h1, h2, awp_block (awp_mono h3 ?_)⟩
      rintro e s ⟨rfl, rfl⟩
      exact block_other (by simpa using e) ⟨rfl, rfl⟩
  | _ =>
    refine ⟨_, kn1, s1, h1, h2, awp_block (awp_mono h3 ?_)⟩
    rintro e s ⟨rfl, rfl⟩
    exact ⟨rfl, rfl⟩
 | .loop body, ρ, kn, s, K, r, hkn, h => by
  unfold exec at h
  split at h
  . cases h
  rename_i L hL
  split at h
  . obtain ⟨e, kn', s', h1, h2, h3⟩ := iter_sound (fun hk he => exec_sound hcall body hk he) 70 hkn h
    exact ⟨e, kn', s', h1, h2, fun w0 U0 X β0 a w hs => wp_loop_rounds 70 (h3 w0 U0 X β0 a w hs)⟩
  split at h
  . cases h
  rename_i g x hg
  obtain ⟨q1, h⟩ := eval_grdOb h
  obtain ⟨o, h1, h2⟩ := Option.bind_eq_some_iff.1 h
  simp only at h2
  rw [Tr.eval_bind] at h2
  obtain ⟨⟨e, s2⟩, h3, h4⟩ := Option.bind_eq_some_iff.1 h2
  refine ⟨e, [], s2, KnOk.nil, h4, loop_sound (L := L) (fun x r hr => ?_) h1 h3 ((ghost_fwd L.gs _).trans (normGet_fwd hg q1))⟩
  obtain ⟨e, kn', s', a1, a2, a3⟩ := exec_sound hcall body (KnOk.nil) hr
  exact ⟨e, s', a2, a3⟩
 | .exit id, ρ, kn, s, K, r, hkn, h => ⟨.exit id, kn, s, hkn, h, awp_exit ⟨rfl, rfl⟩⟩
 | .ret, ρ, kn, s, K, r, hkn, h => ⟨.ret, kn, s, hkn, h, awp_ret ⟨rfl, rfl⟩⟩
 | .rangeFunc .., ρ, kn, s, K, r, hkn, h => by cases h
 | .scope .., ρ, kn, s, K, r, hkn, h => by cases h
 | .label .., ρ, kn, s, K, r, hkn, h => by cases h
 | .goto .., ρ, kn, s, K, r, hkn, h => by cases h
 | .refuse .., ρ, kn, s, K, r, hkn, h => by cases h

theorem tidyAll_fwd : ∀ (l : List Nat) (s : St), Fwd s (tidyAll l s)
 | [], s => fun _ _ _ _ _ _ h => h
 | k :: r, s => by
  unfold tidyAll
  split
  . exact tidyAll_fwd r s
  . rename_i p l hl
    intro w0 U0 X β0 a w hs
    obtain ⟨β, U, hb⟩ := hs
    have := hb.tidy k
    rw [hl] at this
    exact tidyAll_fwd r _ _ _ _ _ _ _ this
theorem tidyE_fwd {rs : List ResultVar} {m : Mem} (s : St) : Fwd s (tidyE P rs m s) := by
 unfold tidyE
 split
 . exact tidyAll_fwd _ s
 . exact fun _ _ _ _ _ _ h => h
theorem awp_fwdT {c : Code} {e : Exit} {s s1 s2 : St} (hf : Fwd s1 s2) (h : AWp P c (fun e' s' => e' = e /\ s' = s1) s) : AWp P c (fun e' s' => e' = e /\ s' = s2) s :=
 fun w0 U0 X β0 a w hs => wp_mono (h w0 U0 X β0 a w hs) fun e' a' w' h1 => by
  obtain ⟨s', ⟨h1, h2⟩, h3⟩ := h1
  subst h2
  exact ⟨s2, ⟨h1, rfl⟩, hf _ _ _ _ _ _ h3⟩
theorem execBody_sound (hcall : CallOk P call) {Λs : List (FuncId × LS)} {f : FuncId} {fn : Func} (hf : P.funcs[f]? = some fn)
   {ys : List V} {m : Mem} {r : V} {m' : Mem} (h : (execBody P cod own call Λs fn f ys m).eval = some (r, m')) : ACall P f ys m fun r' m'' => r' = r /\ m'' = m' := by
 unfold execBody at h
 split at h
 case h_2 => cases h
 rename_i c hb
 split at h
 case h_2 => cases h
 rename_i hn
 simp only [Bool.and_eq_true, decide_eq_true_eq] at hn
 obtain ⟨e, kn', s0', h1, h2, h3⟩ := exec_sound hcall c KnOk.nil h
 unfold execEnd at h2
 have h3 := awp_fwdT (tidyE_fwd (P := P) (rs := fn.results.toList) (m := m) s0') h3
 generalize tidyE P fn.results.toList m s0' = s' at h2 h3
 unfold execEnd0 at h2
 split at h2
 case h_2 => cases h2
 rename_i he
 split at h2
 case h_2 => cases h2
 rename_i v hv
 split at h2
 case h_2 => cases h2
 rename_i s1 hs1
 split at h2
 case h_2 => cases h2
 rename_i q1 r1 hs2
 cases h2
 refine acall_enter (endKs m s'.mem ((trimSt { n := 1, env := [(0, v)], mem := s'.mem }).get 0)) hf hb rfl rfl hn.1 hn.2 (awp_mono h3 ?_)
 rintro e1 s2 ⟨rfl, rfl⟩
 refine ⟨?_, r, s1.mem, ?_, rfl, rfl⟩
 . cases e1 <;> first | exact .inl rfl | exact .inr rfl | cases he
 . simp only [hv]
   have hs3 := hs1
   unfold St.norm at hs3
   split at hs3
   . cases hs3
     simp only [List.map_cons, List.map_nil] at hs2 ⊢
     cases hs2
     rw [hs1, trimSt_n]; rfl
   . cases hs3

theorem WkVs_rfl : ∀ (l : List V), WkVs l l
 | [] => trivial
 | x :: r => ⟨by cases x; exact .inl rfl; exact WkCs_rfl _; exact rfl, WkVs_rfl r⟩

theorem findF_sound {f : FuncId} {ys : List V} {m : Mem} : ∀ {Γ : List (PF P)} {T : Tr (V × Mem)} {r : V} {m' : Mem}, findF f ys m Γ = some T -> T.eval = some (r, m') -> ∃ ys' m2, WkVs ys ys' /\ WkM m m2 /\ ACall P f ys' m2 fun r' m'' => r' = r /\ m'' = m'
 | [], T, r, m', h, hT => by cases h
 | F :: Γ, T, r, m', h, hT => by
  unfold findF at h
  split at h
  . rename_i e
    split at h
    . rename_i T' hF
      cases h
      have := F.ok ys m _ r m' hF hT
      rw [Nat.eq_of_beq_eq_true e] at this
      exact this
    . exact findF_sound h hT
  . exact findF_sound h hT
theorem execFn_sound {Γ : List (PF P)} {Λs : List (FuncId × LS)} : ∀ n, CallOk P (execFn P cod Γ Λs n)
 | 0 => fun f xs m r m' h => by cases h
 | n + 1 => fun f xs m r m' h => by
  unfold execFn at h
  split at h
  . rename_i T hT
    exact findF_sound hT h
  . split at h
    . rename_i fn hf
      exact ⟨xs, m, WkVs_rfl _, WkM_rfl _, execBody_sound (execFn_sound n) hf h⟩
    . cases h

theorem SimB.monoX {w0 : World} {U0 : Nat -> Prop} {X X' : Nat -> Nat -> Prop} {β0 β : Nat -> Option Place} {U : Nat -> Prop} {s : St} {a : Act} {w : World} (h : SimB w0 U0 X β0 β U s a w) (hX : ∀ b j, X b j -> X' b j) : SimB w0 U0 X' β0 β U s a w :=
 { h with
  chg := ⟨h.chg.os, h.chg.tape, h.chg.output, h.chg.size, fun b hb => by
   rcases h.chg.block b hb with e | ⟨c, c', e, f, e1, e2, e3, e4⟩ | e
   . exact .inl e
   . exact .inr (.inl ⟨c, c', e, f, e1, e2, e3, fun j hj => e4 j (fun q => hj (hX b j q))⟩)
   . exact .inr (.inr fun j => hX b j (e j))⟩
  may := fun k p blk b j h1 h2 h3 h4 => hX b j (h.may k p blk b j h1 h2 h3 h4) }

theorem SimB.freeze {w0 : World} {U0 : Nat -> Prop} {β0 β : Nat -> Option Place} {U : Nat -> Prop} {s : St} {a : Act} {w : World} (h : SimB w0 U0 (fun _ _ => False) β0 β U s a w) (hβ : ∀ k, β0 k = none) :
  Sim w0 U0 (fun _ _ => False) β0 ⟨s.n, s.env.map fun p => (p.1, frzV s.mem p.2), []⟩ a w := by
 let U' : Nat -> Prop := fun b => U b \/ ∃ k p, β k = some p /\ p.nocells = true /\ p.has b
 have hU : ∀ b, U b -> U' b := fun b hb => .inl hb
 have hnew : ∀ k p b, β k = some p -> p.nocells = true -> p.has b -> w0.heap.size <= b := by
  intro k p b hk hn hb
  obtain ⟨blk, hblk⟩ := Option.isSome_iff_exists.1 (h.dom k _ hk)
  rcases Nat.lt_or_ge b w0.heap.size with hlt | hge
  . refine (h.may k _ blk b 0 hk hblk ?_ hlt).elim
    cases p with
    | cells => cases hn
    | row => cases blk <;> exact hb
    | deep => cases blk <;> exact hb
  . exact hge
 have hC : ∀ (v : Value) (c : C), RepC w β U w0.heap.size v c -> RepC w (fun _ => none) U' w0.heap.size v (frzC s.mem c) := by
  intro v c hc
  cases c with
  | mp k => exact trivial
  | own k ver len =>
    simp only [frzC]
    split
    . rename_i ver' e c' ap fr xs hb
      split
      . rename_i hv
        subst hv
        obtain ⟨ao, cap, v0, ver0, rfl, hlc, hn0, hs0, hk, hv1, hv2⟩ := hc
        have hb' : (s.blk k).map Blk.std = some (.row ver e (esz c') ap fr (xs.map (enc c'))) := by
          show (look k s.mem).map Blk.std = _; rw [hb]; rfl
        obtain ⟨q1, q2, q3⟩ := h.placeStd hb' hk
        subst q1
        obtain rfl := hv2 rfl
        have main : ∀ UU : Nat -> Prop, (∀ g cap', (Value.slice ao len cap : Value) = .slice (some ⟨g, 0, none⟩) (xs.map (enc c')).length cap' -> UU g) -> (∀ b, (U b /\ (fr = true -> w0.heap.size <= b)) -> UU b) -> RepI w UU (.slice ao len cap) (.st c' xs) := by
          intro UU hg hsub
          refine RepI.toSt ?_
          rcases q3 with ⟨e1, e2⟩ | ⟨g, cap', cur, fz, e1, hgh, h3, h4, h5, h6, h7, h8⟩
          . cases e1; rw [e2]; exact .nil _ _ _ (fun _ => rfl)
          . have hgg := hg g cap' e1
            cases e1
            have := rows_view (w := w) (UU := UU) (g := g) (off := 0) (len := (xs.map (enc c')).length) (cap := cap) (sz := esz c') (rows := xs.map (enc c')) hgg q2 (by omega) (by omega) (fun i j r d hi hj => by
              obtain ⟨u, k1, k2, k3⟩ := h8 i j r d hi hj
              exact ⟨u, by simp only [World.cell?, hgh]; simpa using k1, k3.mono hsub (fun _ _ => rfl)⟩)
            rw [List.drop_zero, List.take_length, Nat.zero_mul] at this
            exact this
        have hown : ∀ g cap', (Value.slice ao len cap : Value) = .slice (some ⟨g, 0, none⟩) (xs.map (enc c')).length cap' -> (Value.slice ao len cap).ownBlock = some g := by
          intro g cap' e1; rw [e1]; rfl
        cases fr with
        | true => exact main (fun b => U' b /\ w0.heap.size <= b) (fun g cap' e1 => ⟨.inr ⟨k, _, hk, rfl, hown g cap' e1⟩, hnew k _ g hk rfl (hown g cap' e1)⟩) (fun b hb => ⟨.inl hb.1, hb.2 rfl⟩)
        | false => exact main U' (fun g cap' e1 => .inr ⟨k, _, hk, rfl, hown g cap' e1⟩) (fun b hb => .inl hb.1)
      . trivial
    . trivial
  | dsub => trivial
  | dpr => trivial
  | gp => trivial
  | ui => exact hc
  | gd c L j => exact RepI.mono hc (fun _ hb => .inl hb) (fun _ _ => rfl)
  | gr k ver j =>
    simp only [frzC]
    split
    . rename_i ver' ei c' m o L hb
      split
      . rename_i hv
        subst hv
        obtain ⟨q1, v0, ver0, us, hk, hv1, hv2⟩ := hc
        obtain ⟨p, hp, hr⟩ := h.mem k _ hb
        rw [hk] at hp; cases hp
        obtain ⟨h0, h1, h2, h3, vs, h4, h5, h6, h7, h8, h9, h10⟩ := hr
        subst h0
        obtain ⟨vs', e1, e2⟩ := hv2 rfl
        have hvs : vs' = vs := by
          rw [h4] at e1
          have := congrArg Array.toList (Value.agg.inj e1)
          simpa using this.symm
        subst hvs
        have hlt : j < L.length := by have := (List.getElem?_eq_some_iff.1 e2).1; omega
        have hL : L[j]? = some (L.getD j []) := by rw [List.getD_eq_getElem?_getD, List.getElem?_eq_getElem hlt]; rfl
        by_cases hm : j < m
        . have hu : us[j]? = some (us[j]'(by omega)) := List.getElem?_eq_getElem (by omega)
          obtain ⟨a1, a2⟩ := h7 j _ _ hu hL rfl
          rw [e2] at a1
          rw [Option.some.inj a1]
          exact a2.repI (fun b hb' => .inr ⟨k, _, hk, rfl, .inr ⟨_, List.mem_of_getElem? hu, hb'⟩⟩)
        . exact (h10 j v _ (by omega) e2 hL).mono (fun _ hb => .inl hb) (fun _ _ => rfl)
      . trivial
    . trivial
  | dp k ver len room =>
    simp only [frzC]
    split
    . rename_i ver' e ei c' hole xs hb
      split
      . rename_i hv
        subst hv
        split
        . rename_i ys hy
          obtain ⟨ao, cap, v0, ver0, us, rfl, hlr, hlc, hn0, _, hk, hv1, hv2⟩ := hc
          obtain ⟨p, hp, hr⟩ := h.mem k _ hb
          rw [hk] at hp; cases hp
          have h0 := hr.1
          subst h0
          rw [hv2 rfl]
          show RepI w (fun b => U' b /\ w0.heap.size <= b) v0 (.st c' ys)
          refine deep_view hr (UU := fun b => U' b /\ w0.heap.size <= b) (fun b hb' => ⟨.inr ⟨k, _, hk, rfl, hb'⟩, hnew k _ b hk rfl hb'⟩) ?_ ?_
          . unfold deepData at hy
            split at hy
            . cases hy; exact .inl ⟨rfl, rfl⟩
            . rename_i i k' v'
              split at hy
              . rename_i v'' e2 c2 ap fr zs hkk hs2 hb2
                obtain rfl := Nat.eq_of_beq_eq_true hkk
                split at hy
                . rename_i hc2
                  subst hc2
                  split at hy
                  . rename_i hvv
                    cases hy
                    obtain rfl := Nat.eq_of_beq_eq_true hvv
                    refine .inr ⟨i, hkey k, v', zs, rfl, rfl, fun v1 hk1 => ?_⟩
                    have hb' : (s.blk (hkey k)).map Blk.std = some (.row v' e2 (esz (dIn c')) ap fr (zs.map (enc (dIn c')))) := by
                      rw [show s.blk (hkey k) = _ from hb2]; rfl
                    obtain ⟨q1, q2, q3⟩ := h.placeStd hb' hk1
                    rcases q3 with ⟨rfl, e3⟩ | ⟨g, cap2, cur, fz, rfl, hg, z1, z2, z3, z4, z5, z6⟩
                    . have : zs = [] := by simpa using e3
                      subst this
                      exact RepI.toSt (.nil _ _ _ (fun _ => rfl))
                    . rw [List.length_map]
                      refine rowT_view ⟨.inr ⟨hkey k, _, hk1, rfl, rfl⟩, hnew _ _ g hk1 rfl rfl⟩ hg (by simpa using z1) fun i j y d hi hj => ?_
                      obtain ⟨u, w1, _, w3⟩ := z6 i j (enc _ y) d (by rw [List.getElem?_map, hi]; rfl) hj
                      refine ⟨u, w1, ?_⟩
                      have hfl : d.flat = true := List.all_eq_true.1 (flatT_all _ y (flat_dIn hr.2.1)) d (List.mem_of_getElem? hj)
                      exact flat_any w3 hfl
                  . cases hy
                . cases hy
              . cases hy
            . cases hy
          . intro i k' ver' hh v1 ver1 hk1
            subst hh
            unfold deepData at hy
            simp only at hy
            split at hy
            . rename_i v'' e2 c2 ap fr zs hkk hs2 hb2
              obtain rfl := Nat.eq_of_beq_eq_true hkk
              split at hy
              . split at hy
                . rename_i hvv
                  obtain rfl := Nat.eq_of_beq_eq_true hvv
                  obtain ⟨p, hp, hr2⟩ := h.mem (hkey k) _ hb2
                  rw [hk1] at hp; cases hp
                  exact hr2.1.symm
                . cases hy
              . cases hy
            . cases hy
        . trivial
      . trivial
    . trivial
  | sub => trivial
  | ptr => trivial
  | pr => trivial
  | asl => trivial
  | clp => trivial
  | pre => trivial
  | nn x => exact ⟨RepI.mono hc.1 hU (fun _ _ => rfl), hc.2⟩
  | d x => exact RepI.mono hc hU (fun _ _ => rfl)
  | f x => exact RepI.mono (U := fun b => U b /\ w0.heap.size <= b) hc (fun b hb => ⟨hU b hb.1, hb.2⟩) (fun _ _ => rfl)
  | nil => exact hc
  | pv cells =>
    obtain ⟨b, o, vals, h1, h2, h3⟩ := hc
    exact ⟨b, o, vals, h1, hU b h2, fun j d hj => ⟨(h3 j d hj).1, ((h3 j d hj).2).mono hU (fun _ _ => rfl)⟩⟩
  | clo f caps => obtain ⟨us, h1, h2, h3⟩ := hc; exact ⟨us, h1, h2, fun j u d hu hd => (h3 j u d hu hd).mono hU (fun _ _ => rfl)⟩
  | un => exact hc
  | ne => exact hc
  | bad => trivial
 have hV1 : ∀ (v : Value) (x : V), RepV w β U w0.heap.size v x -> RepV w (fun _ => none) U' w0.heap.size v (frzV1 s.mem x) := by
  intro v x hx
  cases hx with
  | one v c hc => exact .one _ _ (hC v c hc)
  | agg vs cs hl h1 hr =>
    refine .agg vs _ (by simpa using hl) h1 fun j u c hu hc => ?_
    rw [List.getElem?_map, Option.map_eq_some_iff] at hc
    obtain ⟨c0, hc0, rfl⟩ := hc
    exact hC _ _ (hr j u c0 hu hc0)
  | tup vs xs hl hr => exact .bad _
 have hV : ∀ (v : Value) (x : V), RepV w β U w0.heap.size v x -> RepV w (fun _ => none) U' w0.heap.size v (frzV s.mem x) := by
  intro v x hx
  cases hx with
  | one v c hc => exact hV1 v (.one c) (.one v c hc)
  | agg vs cs hl h1 hr => exact hV1 _ (.agg cs) (.agg vs cs hl h1 hr)
  | tup vs xs hl hr =>
    refine .tup vs _ (by simpa using hl) fun j u x hu hx => ?_
    rw [List.getElem?_map, Option.map_eq_some_iff] at hx
    obtain ⟨x0, hx0, rfl⟩ := hx
    exact hV1 _ _ (hr j u x0 hu hx0)
 refine ⟨fun _ => none, U', ?_⟩
 exact {
  n := h.n, small := h.small, args := h.args, ver0 := h.ver0, defers := h.defers, glob := h.glob.map hU (fun _ _ => rfl)
  hist := fun k p hp => by rw [hβ k] at hp; cases hp
  env := fun t => by
    have he := h.env t
    unfold St.get at he ⊢
    have : ∀ l : List (Nat × V), look t (l.map fun p => (p.1, frzV s.mem p.2)) = (look t l).map (frzV s.mem) := by
      intro l
      induction l with
      | nil => rfl
      | cons p l ih =>
        obtain ⟨j, v⟩ := p
        rw [List.map_cons, look_cons, look_cons]
        split
        . rfl
        . exact ih
    rw [this]
    cases hl : look t s.env with
    | none => exact .bad _
    | some x => rw [hl] at he; exact hV _ _ he
  mem := fun k blk hk => by cases hk
  dom := fun k p hp => by cases hp
  apart := fun k p b hp => by cases hp
  inj := fun k k' p p' b1 b2 b j hne hp => by cases hp
  stab := fun b hb => by
    rcases hb with hb | ⟨k, p, hk, hn, hv⟩
    . exact h.stab b hb
    . exact (h.apart k _ b hk hv).2
  old := fun b hb => .inl (h.old b hb)
  new := fun b hlt hb => by
    rcases hb with hb | ⟨k, p, hk, hn, hv⟩
    . exact h.new b hlt hb
    . have := hnew k p b hk hn hv; omega
  chg := h.chg
  may := fun k p blk b j hp => by cases hp }

theorem fnTr_sound {Γ : List (PF P)} {Λs : List (FuncId × LS)} {n : Nat} {f : FuncId} {ap : List VP1} {rp : SP} {x : VPsT ap Unit} {r : rp.T} (h : (fnTr P cod Γ Λs n f ap rp x).eval = some r) :
  ACall P f (putVs (fun _ => 0) ap x).1 [] fun r' m' => r' = (rp.put r).get 0 /\ m' = (rp.put r).mem := by
 unfold fnTr at h
 split at h
 case h_2 => cases h
 rename_i fn hf
 rw [Tr.eval_bind] at h
 obtain ⟨⟨r0, m0⟩, h1, h2⟩ := Option.bind_eq_some_iff.1 h
 simp only at h2
 split at h2
 case h_2 => cases h2
 rename_i g y hg
 obtain ⟨q1, q2⟩ := eval_grdOb h2
 cases q2
 have hc := execBody_sound (execFn_sound (cod := cod) (Γ := Γ) (Λs := Λs) n) hf h1
 have hw := SP.wk hg q1
 intro w U0 X β0 us hs
 have hβ : ∀ k, β0 k = none := by
  intro k
  cases hk : β0 k with
  | none => rfl
  | some p => have := hs.dom k p hk; cases this
 have hs0 : SimB w U0 (fun _ _ => False) β0 β0 U0 ⟨(putVs (fun _ => 0) ap x).1.length, argsEnv 0 (putVs (fun _ => 0) ap x).1, []⟩ ⟨us, []⟩ w :=
  { hs with chg := Chg.refl _ _ _, may := fun k p blk b j hp => by rw [hβ k] at hp; cases hp }
 refine (hc w U0 _ β0 us hs0).mono ?_
 rintro e w' ⟨v, r', m', rfl, ⟨rfl, rfl⟩, hsim⟩
 refine ⟨v, _, _, rfl, ⟨rfl, rfl⟩, ?_⟩
 obtain ⟨β1, U1, hb1⟩ := hsim
 have h3 := (hb1.freeze hβ).stWk hw
 obtain ⟨β, U, h4'⟩ := h3
 have h4 := h4'.monoX (X' := X) (fun _ _ e => e.elim)
 have hn : (rp.put r).n = 1 := hw.n.symm
 refine ⟨β, U, { h4 with n := by rw [h4.n, hn], small := by simp, env := fun t => ?_ }⟩
 have := h4.env t
 cases t with
 | zero => exact this
 | succ t =>
  have e : (#[v] : Array Value).getD (t + 1) undef = undef := by simp
  rw [e]
  show RepV _ _ _ _ undef ((look (t + 1) [(0, (rp.put r).get 0)]).getD (.one .bad))
  simp [look]
  exact .bad _

def FS.pf {P : Program} (F : FS P) : PF P := ⟨F.f, [], execSpec P F, fun ys m T r m' hT h => by
 unfold execSpec at hT
 split at hT
 . split at hT
   . rename_i l g hg
     cases hT
     obtain ⟨ho, h⟩ := eval_grdOb h
     obtain ⟨y, h1, h2⟩ := Option.bind_eq_some_iff.1 h
     cases h2
     obtain ⟨_, hw⟩ := getVs_put hg ho Unit ()
     exact ⟨_, [], hw, trivial, F.ok _ _ h1⟩
   . cases hT
 . cases hT⟩

theorem acall_mono {P : Program} {f : FuncId} {args : List V} {m : List (Nat × Blk)} {K K' : V -> List (Nat × Blk) -> Prop} (h : ACall P f args m K)
  (hk : ∀ r m', K r m' -> ∃ r2 m2, K' r2 m2 /\ Fwd ⟨1, [(0, r)], m'⟩ ⟨1, [(0, r2)], m2⟩) : ACall P f args m K' := by
 intro w U0 X β0 us hs
 refine (h w U0 X β0 us hs).mono ?_
 rintro e w' ⟨v, r, m', rfl, hK, hsim⟩
 obtain ⟨r2, m2, h1, h2⟩ := hk r m' hK
 exact ⟨v, r2, m2, rfl, h1, h2 _ _ _ _ _ _ hsim⟩

theorem normGet_one {ks : List (Nat × Nat)} {sp : SP} {r : V} {m : Mem} {l : Ob} {y : sp.T} (h : normGet ks sp ⟨1, [(0, r)], m⟩ = some (l, y)) (ho : ObOk (sp.len y) l) : Fwd ⟨1, [(0, r)], m⟩ ⟨1, [(0, (sp.put y).get 0)], (sp.put y).mem⟩ := by
 have hf := normGet_fwd h ho
 have hn : (sp.put y).n = 1 := by
  unfold normGet at h
  split at h
  . rename_i s1 hs1
    have hw := SP.wk h ho
    rw [<- hw.n]
    unfold St.norm at hs1
    split at hs1
    . cases hs1; exact tidyP_n _ _ _
    . cases hs1
  . cases h
 intro w0 U0 X β0 a w hs
 have hs0 := hs
 obtain ⟨β1, U1, h1⟩ := hs0
 obtain ⟨β, U, h4⟩ := hf w0 U0 X β0 a w hs
 refine ⟨β, U, { h4 with n := by rw [h4.n, hn], small := by simp, env := fun t => ?_ }⟩
 have := h4.env t
 show RepV w β U w0.heap.size (a.tmps.getD t undef) ((look t [(0, (sp.put y).get 0)]).getD (.one .bad))
 cases t with
 | zero => exact this
 | succ t => simp [look]; exact .bad _

theorem gs_sound {Γ : List (PF P)} {Λs : List (FuncId × LS)} {n : Nat} {f : FuncId} {ap rp : SP} {x : ap.T} {r : rp.T} (h : (gsTr P cod Γ Λs n f ap rp x).eval = some r)
  {ys : List V} {m : Mem} {g : Ob} (he : entryGet ap ys m = some (g, x)) (hg : ObOk (ap.len x) g) : ACall P f ys m fun r' m' => r' = (rp.put r).get 0 /\ m' = (rp.put r).mem := by
 unfold entryGet at he
 split at he
 case h_2 => cases he
 rename_i hle
 simp only [decide_eq_true_eq] at hle
 unfold gsTr at h
 split at h
 case h_2 => cases h
 rename_i fn hf
 split at h
 case h_2 => cases h
 rename_i c hb
 split at h
 case h_2 => cases h
 rename_i hn
 simp only [Bool.and_eq_true, decide_eq_true_eq] at hn
 obtain ⟨hn1, hn2⟩ := hn
 have hn1 := Nat.eq_of_beq_eq_true hn1
 rw [Tr.eval_bind] at h
 obtain ⟨⟨r0, m0⟩, h1, h2⟩ := Option.bind_eq_some_iff.1 h
 simp only at h2
 split at h2
 case h_2 => cases h2
 rename_i g2 y hy
 obtain ⟨q1, q2⟩ := eval_grdOb h2
 cases q2
 obtain ⟨e, kn', s0', h3, h4, h5⟩ := exec_sound (execFn_sound (cod := cod) (Γ := Γ) (Λs := Λs) n) c KnOk.nil h1
 unfold execEnd at h4
 have h5 := awp_fwdT (tidyE_fwd (P := P) (rs := fn.results.toList) (m := (ap.put x).mem) s0') h5
 generalize tidyE P fn.results.toList (ap.put x).mem s0' = s' at h4 h5
 unfold execEnd0 at h4
 split at h4
 case h_2 => cases h4
 rename_i he'
 split at h4
 case h_2 => cases h4
 rename_i v hv
 split at h4
 case h_2 => cases h4
 rename_i s1 hs1
 split at h4
 case h_2 => cases h4
 rename_i z1 z2 hs2
 cases h4
 have hfw : Fwd ⟨ap.n, argsEnv 0 ys, m⟩ (ap.put x) := normGet_fwd he hg
 have hac : ACall P f ys m fun r' m'' => r' = r0 /\ m'' = s1.mem := by
  refine acall_enter (endKs (ap.put x).mem s'.mem ((trimSt { n := 1, env := [(0, v)], mem := s'.mem }).get 0)) hf hb hn1 rfl (by omega) hle ?_
  have hA : AWp P c (fun e1 s1 => e1 = e /\ s1 = s') ⟨ap.n, argsEnv 0 ys, m⟩ := fun w0 U0 X β0 a w hs => h5 w0 U0 X β0 a w (hfw _ _ _ _ _ _ hs)
  refine awp_mono hA ?_
  rintro e1 s2 ⟨rfl, rfl⟩
  refine ⟨?_, r0, s1.mem, ?_, rfl, rfl⟩
  . cases e1 <;> first | exact .inl rfl | exact .inr rfl | cases he'
  . simp only [hv]
    have hs3 := hs1
    unfold St.norm at hs3
    split at hs3
    . cases hs3
      simp only [List.map_cons, List.map_nil] at hs2 ⊢
      cases hs2
      rw [hs1, trimSt_n]; rfl
    . cases hs3
 refine acall_mono hac ?_
 rintro r' m' ⟨rfl, rfl⟩
 exact ⟨_, _, ⟨rfl, rfl⟩, normGet_one hy q1⟩

structure GS (P : Program) where
 f : FuncId
 ms : List Nat
 ap : SP
 rp : SP
 fn : ap.T -> Option rp.T
 ok : ∀ x r, fn x = some r -> ∀ ys m g, entryGet ap ys m = some (g, x) -> ObOk (ap.len x) g -> ACall P f ys m fun r' m' => r' = (rp.put r).get 0 /\ m' = (rp.put r).mem
def GS.pf {P : Program} (G : GS P) : PF P := ⟨G.f, G.ms, gsSpec G.ap G.rp G.fn, fun ys m T r m' hT h => by
 unfold gsSpec at hT
 split at hT
 . rename_i g x hg
   cases hT
   obtain ⟨h1, h2⟩ := eval_grdOb h
   obtain ⟨y, h3, h4⟩ := Option.bind_eq_some_iff.1 h2
   cases h4
   exact ⟨ys, m, WkVs_rfl _, WkM_rfl _, G.ok x y h3 ys m g hg h1⟩
 . cases hT⟩

theorem SimB.ghostEnd {w0 : World} {U0 : Nat -> Prop} {X : Nat -> Nat -> Prop} {β0 β : Nat -> Option Place} {U : Nat -> Prop} {a : Act} {w : World} (h : SimB w0 U0 X β0 β U ⟨1, [(0, .one .nil)], []⟩ a w) (e : TypeId) (c : Nat) (fr : Bool) :
  Sim w0 U0 X β0 ⟨1, [(0, .one (.own 2000000 0 0))], [(2000000, .rowT 0 e c (keepSp e) fr [])]⟩ a w := by
 have hv : a.tmps.getD 0 undef = .slice none 0 0 := (h.env 0).toC
 have hno : ∀ k, β k = none := fun k => by
  cases hb : β k with
  | none => rfl
  | some p => have := h.dom k p hb; cases this
 refine ⟨upd β 2000000 (.row (.slice none 0 0) 0), U, ?_⟩
 have hget : ∀ k p, upd β 2000000 (.row (.slice none 0 0) 0) k = some p -> k = 2000000 /\ p = .row (.slice none 0 0) 0 := by
  intro k p hp
  by_cases e : 2000000 = k
  . subst e; rw [upd_self] at hp; exact ⟨rfl, by simpa using hp.symm⟩
  . rw [upd_ne β e, hno] at hp; cases hp
 have hblk : ∀ k b, look k [(2000000, Blk.rowT 0 e c (keepSp e) fr [])] = some b -> k = 2000000 /\ b = .rowT 0 e c (keepSp e) fr [] := by
  intro k b hb
  rw [look_cons] at hb
  split at hb
  . rename_i q; exact ⟨q.symm, by simpa using hb.symm⟩
  . cases hb
 exact {
  n := h.n, small := h.small, args := h.args, ver0 := h.ver0, defers := h.defers, glob := h.glob
  hist := fun k p hp hb => by
    obtain ⟨b, hb⟩ := Option.isSome_iff_exists.1 hb
    obtain ⟨rfl, _⟩ := hblk k b hb
    rw [h.args 2000000 (by omega)] at hp; cases hp
  env := fun t => by
    show RepV w _ U w0.heap.size (a.tmps.getD t undef) ((look t [(0, V.one (.own 2000000 0 0))]).getD (.one .bad))
    cases t with
    | zero =>
     rw [hv]
     exact .one _ _ ⟨none, 0, .slice none 0 0, 0, rfl, Nat.le_refl _, fun _ => ⟨rfl, rfl⟩, fun x hx => by (cases hx), upd_self _ _ _, Nat.le_refl _, fun _ => rfl⟩
    | succ t => simp [look]; exact .bad _
  mem := fun k b hb => by
    obtain ⟨rfl, rfl⟩ := hblk k b hb
    exact ⟨_, upd_self _ _ _, rfl, fun r hr => by simp at hr, .inl ⟨rfl, rfl⟩⟩
  dom := fun k p hp => by
    obtain ⟨rfl, _⟩ := hget k p hp
    rfl
  apart := fun k p b hp hb => by
    obtain ⟨rfl, rfl⟩ := hget k p hp
    simp [Place.has, Value.ownBlock] at hb
  inj := fun k1 k2 p1 p2 b1 b2 b j hne hp1 hp2 => by
    obtain ⟨rfl, _⟩ := hget k1 p1 hp1
    obtain ⟨rfl, _⟩ := hget k2 p2 hp2
    exact absurd rfl hne
  stab := h.stab, old := h.old, new := h.new, chg := h.chg
  may := fun k p blk b j hp hb hc => by
    obtain ⟨rfl, rfl⟩ := hget k p hp
    have := covers_block hc
    simp [Place.has, Value.ownBlock] at this }

def cloneRes (e c b : Nat) (xs : List (τ c)) : Tr (V × Mem) :=
 .grd (decide ((0 + xs.length) * b <= 140737488355328 /\ 0 + xs.length <= maxLen)) (.ret (.one (.own 2000000 0 xs.length), [(2000000, .rowT 0 e c (keepSp e) (flatT c) xs)]))
def cloneTr (e c b : Nat) (ys : List V) (m : Mem) : Option (Tr (V × Mem)) :=
 match ys, m with
 | [.one (.d (.st k xs))], [] => match castSt c k xs with
  | some xs => some (cloneRes e c b xs)
  | none => none
 | [.one .nil], [] => some (.ret (.one (.own 2000000 0 0), [(2000000, .rowT 0 e c (keepSp e) (flatT c) [])]))
 | _, _ => none
def bodyTr (P : Program) (cod : TypeId -> Nat) (f : FuncId) (ys : List V) : Tr (V × Mem) :=
 match P.funcs[f]? with
 | some fn => execBody P cod (fun _ => []) (fun _ _ _ => .fail 0) [] fn f ys []
 | none => .fail 0
theorem bodyTr_sound {P : Program} {cod : TypeId -> Nat} {f : FuncId} {ys : List V} {r : V} {m : Mem} (h : (bodyTr P cod f ys).eval = some (r, m)) : ACall P f ys [] fun r' m' => r' = r /\ m' = m := by
 unfold bodyTr at h
 split at h
 . rename_i fn hf
   exact execBody_sound (fun f xs m r m' h => by cases h) hf h
 . cases h

theorem cloneTr_cases {e c b : Nat} {ys : List V} {m : Mem} {T : Tr (V × Mem)} (h : cloneTr e c b ys m = some T) :
   (∃ xs : List (τ c), ys = [.one (.d (.st c xs))] /\ m = [] /\ T = cloneRes e c b xs) \/ (ys = [.one .nil] /\ m = [] /\ T = .ret (.one (.own 2000000 0 0), [(2000000, .rowT 0 e c (keepSp e) (flatT c) [])])) := by
 unfold cloneTr at h
 split at h
 . rename_i k xs
   split at h
   . rename_i xs' hc
     cases h
     refine .inl ⟨xs', ?_, rfl, rfl⟩
     rw [castSt_eq hc]
   . cases h
 . cases h; exact .inr ⟨rfl, rfl, rfl⟩
 . cases h

def clonePF (P : Program) (cod : TypeId -> Nat) (f e c b : Nat) (h1 : ∀ xs : List (τ c), (bodyTr P cod f [.one (.nn (.st c xs))]).eval = (cloneRes e c b xs).eval) (h2 : (bodyTr P cod f [.one .nil]).eval = some (.one .nil, [])) : PF P := ⟨f, [], cloneTr e c b, fun ys m T r m' hT h => by
 have hnil : ACall P f [.one .nil] [] fun r' m'' => r' = .one (.own 2000000 0 0) /\ m'' = [(2000000, .rowT 0 e c (keepSp e) (flatT c) [])] := by
   refine acall_mono (bodyTr_sound (cod := cod) (r := .one .nil) (m := []) h2) ?_
   rintro r' m' ⟨rfl, rfl⟩
   refine ⟨_, _, ⟨rfl, rfl⟩, ?_⟩
   rintro w0 U0 X β0 a w ⟨β, U, hs⟩
   exact hs.ghostEnd e c (flatT c)
 have hnn : ∀ (xs : List (τ c)) (r : V) (m' : Mem), (cloneRes e c b xs).eval = some (r, m') -> ACall P f [.one (.nn (.st c xs))] [] fun r' m'' => r' = r /\ m'' = m' := fun xs r m' h =>
   bodyTr_sound (cod := cod) (by rw [h1]; exact h)
 rcases cloneTr_cases hT with ⟨xs, rfl, rfl, rfl⟩ | ⟨rfl, rfl, rfl⟩
 . refine ⟨[.one (.d (.st c xs))], [], WkVs_rfl _, trivial, ?_⟩
   intro w U0 X β0 us hs
   have hv := (hs.env 0).toC
   have hst : RepI w U0 (us.getD 0 undef) (.st c xs) := hv
   have hun := RepI.unst hst
   -- what a value says is enough
   have up : ∀ {c' : C}, RepC w β0 U0 w.heap.size (us.getD 0 undef) c' -> SimB w U0 X β0 β0 U0 ⟨1, argsEnv 0 [.one c'], []⟩ ⟨us, []⟩ w := fun {c'} hc' => { hs with
    env := fun t => by
     show RepV w β0 U0 w.heap.size (us.getD t undef) ((look t [(0, V.one c')]).getD (.one .bad))
     cases t with
     | zero => exact .one _ _ hc'
     | succ t => simp [look]; exact .bad _ }
   have hsome : ∀ ad l cc, us.getD 0 undef = .slice (some ad) l cc -> Calls P f us w fun e' w' => ∃ v r' m'', e' = .returned v /\ (r' = r /\ m'' = m') /\ Sim w U0 X β0 ⟨1, [(0, r')], m''⟩ ⟨#[v], []⟩ w' :=
    fun ad l cc he => hnn xs r m' h w U0 X β0 us (up (c' := .nn (.st c xs)) ⟨hst, ad, l, cc, he⟩)
   generalize hu : us.getD 0 undef = u at hun hsome up
   have hlen : xs.length = (xs.map (enc c)).length := by simp
   generalize xs.map (enc c) = rows at hun hlen
   cases hun with
   | nil ao cap _ hn =>
    have hx0 : xs = [] := List.eq_nil_of_length_eq_zero (by simpa using hlen)
    subst hx0
    cases ao with
    | some ad => exact hsome ad 0 cap rfl
    | none =>
     have hc0 := hn rfl
     subst hc0
     obtain ⟨_, h3⟩ := Tr.eval_grd h
     cases h3
     exact hnil w U0 X β0 us (up (c' := .nil) rfl)
   | sl b' o cap _ _ vals => exact hsome _ _ _ rfl
 . cases h
   exact ⟨[.one .nil], [], WkVs_rfl _, trivial, hnil⟩⟩

end Go.Proofs.Ytnhiilbmgkbbaaa.Abs
namespace Go.Proofs.Ytnhiilbmgkbbaaa.X
def cod : Go.TypeId -> Nat
 | 22 => 14
 | 43 => 0
 | _ => 99
end Go.Proofs.Ytnhiilbmgkbbaaa.X
namespace Go.Proofs.Ytnhiilbmgkbbaaa.X
open Go Go.RowKit Go.Proofs.Ytnhiilbmgkbbaaa.Abs
open Go.IntKind renaming wrap -> wW
set_option maxRecDepth 100000
set_option linter.unusedVariables false
def bsGWheel_0 : List UInt8 := [0, 1, 2, 2, 3, 3, 3, 3, 4, 4, 4, 4, 4, 4, 4, 4, 5, 5, 5, 5, 5, 5, 5, 5, 5, 5, 5, 5, 5, 5, 5, 5, 6, 6, 6, 6, 6, 6, 6, 6, 6, 6, 6, 6, 6, 6, 6, 6, 6, 6, 6, 6, 6, 6, 6, 6, 6, 6, 6, 6, 6, 6, 6, 6, 7, 7, 7, 7, 7, 7, 7, 7, 7, 7, 7, 7, 7, 7, 7, 7, 7, 7, 7, 7, 7, 7, 7, 7, 7, 7, 7, 7, 7, 7, 7, 7, 7, 7, 7, 7, 7, 7, 7, 7, 7, 7, 7, 7, 7, 7, 7, 7, 7, 7, 7, 7, 7, 7, 7, 7, 7, 7, 7, 7, 7, 7, 7, 7, 8, 8, 8, 8, 8, 8, 8, 8, 8, 8, 8, 8, 8, 8, 8, 8, 8, 8, 8, 8, 8, 8, 8, 8, 8, 8, 8, 8, 8, 8, 8, 8, 8, 8, 8, 8, 8, 8, 8, 8, 8, 8, 8, 8, 8, 8, 8, 8, 8, 8, 8, 8, 8, 8, 8, 8, 8, 8, 8, 8, 8, 8, 8, 8, 8, 8, 8, 8, 8, 8, 8, 8, 8, 8, 8, 8, 8, 8, 8, 8, 8, 8, 8, 8, 8, 8, 8, 8, 8, 8, 8, 8, 8, 8, 8, 8, 8, 8, 8, 8, 8, 8, 8, 8, 8, 8, 8, 8, 8, 8, 8, 8, 8, 8, 8, 8, 8, 8, 8, 8, 8, 8, 8, 8, 8, 8, 8, 8]
def bLen64_ap : List VP1 := [.one (.i .u64)]
def bLen64_rp : SP := ⟨1, [(0, .v (.one (.i .i64)))], []⟩
def bLen64_tree : (Int × Unit) -> Tr (Int × Unit) :=
 fun (a0, _) =>
 .ite (decide (4294967296 <= a0)) (
 .grd (true) (
 .ite (decide (65536 <= Int.fdiv a0 ((2 : Int) ^ (32 : Nat)))) (
 .grd (true) (
 .ite (decide (256 <= Int.fdiv (Int.fdiv a0 ((2 : Int) ^ (32 : Nat))) ((2 : Int) ^ (16 : Nat)))) (
 .grd (true) (
 .grd (decide (0 <= wW .u8 (Int.fdiv (Int.fdiv (Int.fdiv a0 ((2 : Int) ^ (32 : Nat))) ((2 : Int) ^ (16 : Nat))) ((2 : Int) ^ (8 : Nat))) /\ wW .u8 (Int.fdiv (Int.fdiv (Int.fdiv a0 ((2 : Int) ^ (32 : Nat))) ((2 : Int) ^ (16 : Nat))) ((2 : Int) ^ (8 : Nat))) < (↑(bsGWheel_0.length) : Int))) (
 .ret (wW .i64 ((56 : Int) + wW .i64 (↑(UInt8.toNat (List.getD bsGWheel_0 (Int.toNat (wW .u8 (Int.fdiv (Int.fdiv (Int.fdiv a0 ((2 : Int) ^ (32 : Nat))) ((2 : Int) ^ (16 : Nat))) ((2 : Int) ^ (8 : Nat))))) (0 : UInt8))) : Int)), ())))) (
 .grd (decide (0 <= wW .u8 (Int.fdiv (Int.fdiv a0 ((2 : Int) ^ (32 : Nat))) ((2 : Int) ^ (16 : Nat))) /\ wW .u8 (Int.fdiv (Int.fdiv a0 ((2 : Int) ^ (32 : Nat))) ((2 : Int) ^ (16 : Nat))) < (↑(bsGWheel_0.length) : Int))) (
 .ret (wW .i64 ((48 : Int) + wW .i64 (↑(UInt8.toNat (List.getD bsGWheel_0 (Int.toNat (wW .u8 (Int.fdiv (Int.fdiv a0 ((2 : Int) ^ (32 : Nat))) ((2 : Int) ^ (16 : Nat))))) (0 : UInt8))) : Int)), ()))))) (
 .ite (decide (256 <= Int.fdiv a0 ((2 : Int) ^ (32 : Nat)))) (
 .grd (true) (
 .grd (decide (0 <= wW .u8 (Int.fdiv (Int.fdiv a0 ((2 : Int) ^ (32 : Nat))) ((2 : Int) ^ (8 : Nat))) /\ wW .u8 (Int.fdiv (Int.fdiv a0 ((2 : Int) ^ (32 : Nat))) ((2 : Int) ^ (8 : Nat))) < (↑(bsGWheel_0.length) : Int))) (
 .ret (wW .i64 ((40 : Int) + wW .i64 (↑(UInt8.toNat (List.getD bsGWheel_0 (Int.toNat (wW .u8 (Int.fdiv (Int.fdiv a0 ((2 : Int) ^ (32 : Nat))) ((2 : Int) ^ (8 : Nat))))) (0 : UInt8))) : Int)), ())))) (
 .grd (decide (0 <= wW .u8 (Int.fdiv a0 ((2 : Int) ^ (32 : Nat))) /\ wW .u8 (Int.fdiv a0 ((2 : Int) ^ (32 : Nat))) < (↑(bsGWheel_0.length) : Int))) (
 .ret (wW .i64 ((32 : Int) + wW .i64 (↑(UInt8.toNat (List.getD bsGWheel_0 (Int.toNat (wW .u8 (Int.fdiv a0 ((2 : Int) ^ (32 : Nat))))) (0 : UInt8))) : Int)), ())))))) (
 .ite (decide (65536 <= a0)) (
 .grd (true) (
 .ite (decide (256 <= Int.fdiv a0 ((2 : Int) ^ (16 : Nat)))) (
 .grd (true) (
 .grd (decide (0 <= wW .u8 (Int.fdiv (Int.fdiv a0 ((2 : Int) ^ (16 : Nat))) ((2 : Int) ^ (8 : Nat))) /\ wW .u8 (Int.fdiv (Int.fdiv a0 ((2 : Int) ^ (16 : Nat))) ((2 : Int) ^ (8 : Nat))) < (↑(bsGWheel_0.length) : Int))) (
 .ret (wW .i64 ((24 : Int) + wW .i64 (↑(UInt8.toNat (List.getD bsGWheel_0 (Int.toNat (wW .u8 (Int.fdiv (Int.fdiv a0 ((2 : Int) ^ (16 : Nat))) ((2 : Int) ^ (8 : Nat))))) (0 : UInt8))) : Int)), ())))) (
 .grd (decide (0 <= wW .u8 (Int.fdiv a0 ((2 : Int) ^ (16 : Nat))) /\ wW .u8 (Int.fdiv a0 ((2 : Int) ^ (16 : Nat))) < (↑(bsGWheel_0.length) : Int))) (
 .ret (wW .i64 ((16 : Int) + wW .i64 (↑(UInt8.toNat (List.getD bsGWheel_0 (Int.toNat (wW .u8 (Int.fdiv a0 ((2 : Int) ^ (16 : Nat))))) (0 : UInt8))) : Int)), ()))))) (
 .ite (decide (256 <= a0)) (
 .grd (true) (
 .grd (decide (0 <= wW .u8 (Int.fdiv a0 ((2 : Int) ^ (8 : Nat))) /\ wW .u8 (Int.fdiv a0 ((2 : Int) ^ (8 : Nat))) < (↑(bsGWheel_0.length) : Int))) (
 .ret (wW .i64 ((8 : Int) + wW .i64 (↑(UInt8.toNat (List.getD bsGWheel_0 (Int.toNat (wW .u8 (Int.fdiv a0 ((2 : Int) ^ (8 : Nat))))) (0 : UInt8))) : Int)), ())))) (
 .grd (decide (0 <= wW .u8 a0 /\ wW .u8 a0 < (↑(bsGWheel_0.length) : Int))) (
 .ret (wW .i64 ((0 : Int) + wW .i64 (↑(UInt8.toNat (List.getD bsGWheel_0 (Int.toNat (wW .u8 a0)) (0 : UInt8))) : Int)), ())))))
theorem bLen64_eq (x : (Int × Unit)) : fnTr Try.prog cod [] [] 30 36 bLen64_ap bLen64_rp x = bLen64_tree x := by kernel_rfl
def bLen64_fn (x : (Int × Unit)) : Option (Int × Unit) := (bLen64_tree x).eval
def bLen64 : FS Try.prog := ⟨36, bLen64_ap, bLen64_rp, bLen64_fn, fun x r h => fnTr_sound (cod := cod) (Γ := []) (Λs := []) (n := 30) ((congrArg Tr.eval (bLen64_eq x)).trans h)⟩
def bLen_ap : List VP1 := [.one (.i .u64)]
def bLen_rp : SP := ⟨1, [(0, .v (.one (.i .i64)))], []⟩
def bLen_tree : (Int × Unit) -> Tr (Int × Unit) :=
 fun (a0, _) =>
 .opt ((bLen64_fn (a0, ()))) (fun r0 =>
 .ret (r0.1, ()))
theorem bLen_eq (x : (Int × Unit)) : fnTr Try.prog cod [FS.pf bLen64] [] 30 34 bLen_ap bLen_rp x = bLen_tree x := by kernel_rfl
def bLen_fn (x : (Int × Unit)) : Option (Int × Unit) := (bLen_tree x).eval
def bLen : FS Try.prog := ⟨34, bLen_ap, bLen_rp, bLen_fn, fun x r h => fnTr_sound (cod := cod) (Γ := [FS.pf bLen64]) (Λs := []) (n := 30) ((congrArg Tr.eval (bLen_eq x)).trans h)⟩
def wList_ap : List VP1 := [.one (.i .i64), .one (.i .i64)]
def wList_rp : SP := ⟨1, [(0, .v (.one (.i .i64)))], []⟩
def wList_tree : (Int × (Int × Unit)) -> Tr (Int × Unit) :=
 fun (a0, a1, _) =>
 .opt ((bLen_fn (wW .u64 (bits .xor .i64 a0 a1), ()))) (fun r0 =>
 .grd (true) (
 .grd (decide (0 <= wW .i64 ((4 : Int) * wW .i64 (Int.tdiv (wW .i64 (r0.1 - 1)) (4 : Int))))) (
 .ret (wW .i64 (wW .i64 ((16 : Int) * wW .i64 (Int.tdiv (wW .i64 (r0.1 - 1)) (4 : Int))) + bits .and .i64 (Int.fdiv a1 ((2 : Int) ^ min (Int.toNat (wW .i64 ((4 : Int) * wW .i64 (Int.tdiv (wW .i64 (r0.1 - 1)) (4 : Int))))) (64 : Nat))) (15 : Int)), ()))))
theorem wList_eq (x : (Int × (Int × Unit))) : fnTr Try.prog cod [FS.pf bLen64, FS.pf bLen] [] 30 31 wList_ap wList_rp x = wList_tree x := by kernel_rfl
def wList_fn (x : (Int × (Int × Unit))) : Option (Int × Unit) := (wList_tree x).eval
def wList : FS Try.prog := ⟨31, wList_ap, wList_rp, wList_fn, fun x r h => fnTr_sound (cod := cod) (Γ := [FS.pf bLen64, FS.pf bLen]) (Λs := []) (n := 30) ((congrArg Tr.eval (wList_eq x)).trans h)⟩
def wCount_L25_3 : LS := ⟨3, [], ⟨17, [(8, .v (.one (.i .i64))), (3, .v (.one (.i .i64))), (7, .v (.aggG [] 14 96))], []⟩, [⟨some 0, [], ⟨17, [(3, .v (.one (.i .i64)))], []⟩⟩], []⟩
def wCount_step25_3 : (Int × (Int × ((List (List TDue)) × Unit))) -> Tr ((Int × (Int × ((List (List TDue)) × Unit))) ⊕ (Int × Unit)) :=
 fun (a0, a1, a2, _) =>
 .ite (decide (a0 < 96)) (
 .grd (sameN (14 : Nat) (95 : Nat) a2 && decide (0 <= a0 /\ a0 < (↑(96 : Nat) : Int))) (
 .opt (a2[Int.toNat a0]?) (fun r0 =>
 .grd (decide (obB (sameN (14 : Nat) (95 : Nat) a2) = (0 : Nat))) (
 .ret (Sum.inl (wW .i64 (a0 + 1), (wW .i64 (a1 + (↑(r0.length) : Int)), (a2, ())))))))) (
 .ret (Sum.inr (a1, ())))
def wCount_loop25_3 (x : (Int × (Int × ((List (List TDue)) × Unit)))) : Option (Int × Unit) := loopO 250003 (fun x => (wCount_step25_3 x).eval) 18446744073709551616 x
def wCount_ap : List VP1 := [.aggG [.i .i64] 14 96]
def wCount_rp : SP := ⟨1, [(0, .v (.one (.i .i64)))], []⟩
def wCount_tree : (Int × ((List (List TDue)) × Unit)) -> Tr (Int × Unit) :=
 fun (a0, a1, _) =>
 .grd (decide (obB (sameN (14 : Nat) (95 : Nat) a1) = (0 : Nat))) (
 .opt ((wCount_loop25_3 (0, (0, (a1, ()))))) (fun r0 =>
 .ret (r0.1, ())))
theorem wCount_eq (x : (Int × ((List (List TDue)) × Unit))) : fnTr Try.prog cod [FS.pf bLen64, FS.pf bLen, FS.pf wList] [(25, wCount_L25_3)] 30 25 wCount_ap wCount_rp x = wCount_tree x := by kernel_rfl
def wCount_fn (x : (Int × ((List (List TDue)) × Unit))) : Option (Int × Unit) := (wCount_tree x).eval
def wCount : FS Try.prog := ⟨25, wCount_ap, wCount_rp, wCount_fn, fun x r h => fnTr_sound (cod := cod) (Γ := [FS.pf bLen64, FS.pf bLen, FS.pf wList]) (Λs := [(25, wCount_L25_3)]) (n := 30) ((congrArg Tr.eval (wCount_eq x)).trans h)⟩
def wFind_L17_2 : LS := ⟨2, [(1000200, 1000200)], ⟨19, [(8, .v (.one (.i .i64))), (0, .v (.one (.st 14 false))), (1, .v (.one (.clp 32 [(1000200, 0)]))), (7, .v (.one (.i .i64)))], [(1000200, .cells [.i .i64])]⟩, [⟨none, [(1000200, 1000200)], ⟨19, [(4, .v (.one (.i .i64)))], [(1000200, .cells [.i .i64])]⟩⟩, ⟨some 0, [(1000200, 1000200)], ⟨19, [], [(1000200, .cells [.i .i64])]⟩⟩], []⟩
def wFind_step17_2 : (Int × ((List TDue) × (Int × (Int × Unit)))) -> Tr ((Int × ((List TDue) × (Int × (Int × Unit)))) ⊕ ((Int × (Int × Unit)) ⊕ (Int × Unit))) :=
 fun (a0, a1, a2, a3, _) =>
 .ite (decide (a0 < a2)) (
 .grd (decide (0 <= a0)) (
 .opt (a1[Int.toNat a0]?) (fun r0 =>
 .ite (decide (r0.id = a3)) (
 .ret (Sum.inr (Sum.inl (a0, (a3, ()))))) (
 .ret (Sum.inl (wW .i64 (a0 + 1), (a1, (a2, (a3, ()))))))))) (
 .ret (Sum.inr (Sum.inr (a3, ()))))
def wFind_loop17_2 (x : (Int × ((List TDue) × (Int × (Int × Unit))))) : Option ((Int × (Int × Unit)) ⊕ (Int × Unit)) := loopO 170002 (fun x => (wFind_step17_2 x).eval) 18446744073709551616 x
def wFind_L24_2 : LS := ⟨2, [(3, 3)], ⟨23, [(11, .v (.one (.i .i64))), (3, .v (.one (.ptr 3 0))), (10, .v (.aggG [] 14 96))], [(3, .cells [.i .i64])]⟩, [⟨none, [], ⟨23, [(4, .v (.one (.i .i64))), (5, .v (.one (.i .i64)))], []⟩⟩, ⟨some 0, [], ⟨23, [], []⟩⟩], []⟩
def wFind_step24_2 : (Int × ((List (List TDue)) × (Int × Unit))) -> Tr ((Int × ((List (List TDue)) × (Int × Unit))) ⊕ ((Int × (Int × Unit)) ⊕ Unit)) :=
 fun (a0, a1, a2, _) =>
 .ite (decide (a0 < 96)) (
 .grd (sameN (14 : Nat) (95 : Nat) a1 && decide (0 <= a0 /\ a0 < (↑(96 : Nat) : Int))) (
 .opt (a1[Int.toNat a0]?) (fun r0 =>
 .opt ((wFind_loop17_2 (0, (r0, ((↑(r0.length) : Int), (a2, ())))))) (fun r1 =>
 .sum (r1) (fun r2 =>
 .ite (decide (0 <= r2.1)) (
 .ret (Sum.inr (Sum.inl (a0, (r2.1, ()))))) (
 .grd (decide (obB (sameN (14 : Nat) (95 : Nat) a1) = (0 : Nat))) (
 .ret (Sum.inl (wW .i64 (a0 + 1), (a1, (r2.2.1, ()))))))) (fun r2 =>
 .ite (false) (
 .ret (Sum.inr (Sum.inl (a0, ((-1 : Int), ()))))) (
 .grd (decide (obB (sameN (14 : Nat) (95 : Nat) a1) = (0 : Nat))) (
 .ret (Sum.inl (wW .i64 (a0 + 1), (a1, (r2.1, ()))))))))))) (
 .ret (Sum.inr (Sum.inr ())))
def wFind_loop24_2 (x : (Int × ((List (List TDue)) × (Int × Unit)))) : Option ((Int × (Int × Unit)) ⊕ Unit) := loopO 240002 (fun x => (wFind_step24_2 x).eval) 18446744073709551616 x
def wFind_ap : List VP1 := [.aggG [.i .i64] 14 96, .one (.i .i64)]
def wFind_rp : SP := ⟨1, [(0, .tup [.one (.i .i64), .one (.i .i64)])], []⟩
def wFind_tree : (Int × ((List (List TDue)) × (Int × Unit))) -> Tr (Int × (Int × Unit)) :=
 fun (a0, a1, a2, _) =>
 .grd (decide (obB (sameN (14 : Nat) (95 : Nat) a1) = (0 : Nat))) (
 .opt ((wFind_loop24_2 (0, (a1, (a2, ()))))) (fun r0 =>
 .sum (r0) (fun r1 =>
 .ret (r1.1, (r1.2.1, ()))) (fun r1 =>
 .ret ((-1 : Int), (0, ())))))
theorem wFind_eq (x : (Int × ((List (List TDue)) × (Int × Unit)))) : fnTr Try.prog cod [FS.pf bLen64, FS.pf bLen, FS.pf wList, FS.pf wCount] [(17, wFind_L17_2), (24, wFind_L24_2)] 30 24 wFind_ap wFind_rp x = wFind_tree x := by kernel_rfl
def wFind_fn (x : (Int × ((List (List TDue)) × (Int × Unit)))) : Option (Int × (Int × Unit)) := (wFind_tree x).eval
def wFind : FS Try.prog := ⟨24, wFind_ap, wFind_rp, wFind_fn, fun x r h => fnTr_sound (cod := cod) (Γ := [FS.pf bLen64, FS.pf bLen, FS.pf wList, FS.pf wCount]) (Λs := [(17, wFind_L17_2), (24, wFind_L24_2)]) (n := 30) ((congrArg Tr.eval (wFind_eq x)).trans h)⟩
def wCheck_L16_10 : LS := ⟨10, [(19, 19), (1, 1)], ⟨65, [(28, .v (.one (.i .i64))), (3, .v (.one (.mp 19))), (4, .v (.one (.i .i64))), (1, .v (.one (.ptr 1 0))), (26, .v (.one (.st 14 false))), (21, .v (.aggG [] 14 96)), (22, .v (.one (.i .i64))), (27, .v (.one (.i .i64)))], [(19, .map 0), (1, .cellsG [.i .i64] 14 96)]⟩, [⟨none, [], ⟨65, [(2, .v (.one (.i .i64)))], []⟩⟩, ⟨some 2, [(19, 19), (1, 1)], ⟨65, [(3, .v (.one (.mp 19))), (1, .v (.one (.ptr 1 0))), (21, .v (.aggG [] 14 96)), (22, .v (.one (.i .i64)))], [(19, .map 0), (1, .cellsG [.i .i64] 14 96)]⟩⟩], []⟩
abbrev ty0_ : Type := (Int × (Int × ((List TDue) × ((List (List TDue)) × (Int × (Int × ((List (Int × Int)) × (Int × ((List (List TDue)) × Unit)))))))))
def wCheck_step16_10 : ty0_ -> Tr (ty0_ ⊕ ((Int × Unit) ⊕ ((List (List TDue)) × (Int × ((List (Int × Int)) × (Int × ((List (List TDue)) × Unit))))))) :=
 fun (a0, a1, a2, a3, a4, a5, a6, a7, a8, _) =>
 .ite (decide (a0 < a5)) (
 .grd (decide (0 <= a0)) (
 .opt (a2[Int.toNat a0]?) (fun r0 =>
 .ite (decide (r0.at' <= a7)) (
 .ret (Sum.inr (Sum.inl (4, ())))) (
 .ite (decide (16777216 <= r0.at')) (
 .ret (Sum.inr (Sum.inl (4, ())))) (
 .opt ((wList_fn (a7, (r0.at', ())))) (fun r1 =>
 .ite (!decide (r1.1 = a1)) (
 .ret (Sum.inr (Sum.inl (4, ())))) (
 .ite (decide (1 < Option.getD (mGet (0 : Nat) r0.id (mPut (0 : Nat) r0.id (wW .i64 (Option.getD (mGet (0 : Nat) r0.id a6) (0 : Int) + (1 : Int))) a6)) (0 : Int))) (
 .ret (Sum.inr (Sum.inl (4, ())))) (
 .grd (decide (obB (sameN (14 : Nat) (95 : Nat) a3) = (0 : Nat))) (
 .grd (decide (obB (sameN (14 : Nat) (95 : Nat) a8) = (0 : Nat))) (
 .ret (Sum.inl (wW .i64 (a0 + 1), (a1, (a2, (a3, (a4, (a5, (mPut (0 : Nat) r0.id (wW .i64 (Option.getD (mGet (0 : Nat) r0.id a6) (0 : Int) + (1 : Int))) a6, (a7, (a8, ())))))))))))))))))))) (
 .grd (decide (obB (sameN (14 : Nat) (95 : Nat) a3) = (0 : Nat))) (
 .grd (decide (obB (sameN (14 : Nat) (95 : Nat) a8) = (0 : Nat))) (
 .ret (Sum.inr (Sum.inr (a3, (a4, (a6, (a7, (a8, ()))))))))))
def wCheck_loop16_10 (x : ty0_) : Option ((Int × Unit) ⊕ ((List (List TDue)) × (Int × ((List (Int × Int)) × (Int × ((List (List TDue)) × Unit)))))) := loopO 160010 (fun x => (wCheck_step16_10 x).eval) 18446744073709551616 x
def wCheck_L16_7 : LS := ⟨7, [(19, 19), (1, 1)], ⟨65, [(3, .v (.one (.mp 19))), (1, .v (.one (.ptr 1 0))), (22, .v (.one (.i .i64))), (21, .v (.aggG [] 14 96))], [(19, .map 0), (1, .cellsG [.i .i64] 14 96)]⟩, [⟨none, [], ⟨65, [(2, .v (.one (.i .i64)))], []⟩⟩, ⟨some 0, [], ⟨65, [], []⟩⟩], []⟩
def wCheck_step16_7 : (Int × ((List (List TDue)) × ((List (Int × Int)) × (Int × ((List (List TDue)) × Unit))))) -> Tr ((Int × ((List (List TDue)) × ((List (Int × Int)) × (Int × ((List (List TDue)) × Unit))))) ⊕ ((Int × Unit) ⊕ Unit)) :=
 fun (a0, a1, a2, a3, a4, _) =>
 .ite (decide (a0 < 96)) (
 .grd (sameN (14 : Nat) (95 : Nat) a1 && decide (0 <= a0 /\ a0 < (↑(96 : Nat) : Int))) (
 .opt (a1[Int.toNat a0]?) (fun r0 =>
 .grd (decide (obB (sameN (14 : Nat) (95 : Nat) a1) = (0 : Nat))) (
 .grd (decide (obB (sameN (14 : Nat) (95 : Nat) a4) = (0 : Nat))) (
 .opt ((wCheck_loop16_10 (0, (a0, (r0, (a1, (a0, ((↑(r0.length) : Int), (a2, (a3, (a4, ()))))))))))) (fun r1 =>
 .sum (r1) (fun r2 =>
 .ret (Sum.inr (Sum.inl (r2.1, ())))) (fun r2 =>
 .grd (decide (obB (sameN (14 : Nat) (95 : Nat) r2.1) = (0 : Nat))) (
 .grd (decide (obB (sameN (14 : Nat) (95 : Nat) r2.2.2.2.2.1) = (0 : Nat))) (
 .ret (Sum.inl (wW .i64 (r2.2.1 + 1), (r2.1, (r2.2.2.1, (r2.2.2.2.1, (r2.2.2.2.2.1, ()))))))))))))))) (
 .ret (Sum.inr (Sum.inr ())))
def wCheck_loop16_7 (x : (Int × ((List (List TDue)) × ((List (Int × Int)) × (Int × ((List (List TDue)) × Unit)))))) : Option ((Int × Unit) ⊕ Unit) := loopO 160007 (fun x => (wCheck_step16_7 x).eval) 18446744073709551616 x
def wCheck_ap : List VP1 := [.aggG [.i .i64] 14 96]
def wCheck_rp : SP := ⟨1, [(0, .v (.one (.i .i64)))], []⟩
def wCheck_tree : (Int × ((List (List TDue)) × Unit)) -> Tr (Int × Unit) :=
 fun (a0, a1, _) =>
 .grd (decide (obB (sameN (14 : Nat) (95 : Nat) a1) = (0 : Nat))) (
 .opt ((wCount_fn (a0, (a1, ())))) (fun r0 =>
 .ite (decide (500 < r0.1)) (
 .ret (2, ())) (
 .ite (decide (a0 < 0)) (
 .ret (1, ())) (
 .ite (decide (16777216 <= a0)) (
 .ret (1, ())) (
 .grd (decide (obB (sameN (14 : Nat) (95 : Nat) a1) = (0 : Nat))) (
 .grd (decide (obB (sameN (14 : Nat) (95 : Nat) a1) = (0 : Nat))) (
 .opt ((wCheck_loop16_7 (0, (a1, ([], (a0, (a1, ()))))))) (fun r1 =>
 .sum (r1) (fun r2 =>
 .ret (r2.1, ())) (fun r2 =>
 .ret (0, ()))))))))))
noncomputable def gm0 : List (PF Go.Proofs.Try.prog) := [FS.pf bLen64, FS.pf bLen, FS.pf wList, FS.pf wCount, FS.pf wFind]
theorem wCheck_eq (x : (Int × ((List (List TDue)) × Unit))) : fnTr Try.prog cod gm0 [(16, wCheck_L16_10), (16, wCheck_L16_7)] 30 16 wCheck_ap wCheck_rp x = wCheck_tree x := by kernel_rfl
def wCheck_fn (x : (Int × ((List (List TDue)) × Unit))) : Option (Int × Unit) := (wCheck_tree x).eval
def wCheck : FS Try.prog := ⟨16, wCheck_ap, wCheck_rp, wCheck_fn, fun x r h => fnTr_sound (cod := cod) (Γ := gm0) (Λs := [(16, wCheck_L16_10), (16, wCheck_L16_7)]) (n := 30) ((congrArg Tr.eval (wCheck_eq x)).trans h)⟩
theorem clOwn_h1 (xs : List (τ 14)) : (bodyTr Go.Proofs.Try.prog cod 11 [.one (.nn (.st 14 xs))]).eval = (cloneRes 33 14 16 xs).eval := by kernel_rfl
theorem clOwn_h2 : (bodyTr Go.Proofs.Try.prog cod 11 [.one .nil]).eval = some (.one .nil, []) := by kernel_rfl
def clOwn : PF Go.Proofs.Try.prog := clonePF Go.Proofs.Try.prog cod 11 33 14 16 clOwn_h1 clOwn_h2
def wOwn_L22_2 : LS := ⟨2, [(1, 1), (2, 2), (8000001, 8000001)], ⟨17, [(4, .v (.one (.i .i64))), (1, .v (.one (.ptr 1 0))), (2, .v (.one (.ptr 2 0)))], [(1, .cells (List.append [.i .i64] (grs 8000001 96))), (2, .cellsG [.i .i64] 14 96), (8000001, .grp 33 14 false)]⟩, [⟨some 0, [(2, 2), (1, 1), (8000001, 8000001)], ⟨17, [(2, .v (.one (.ptr 2 0))), (1, .v (.one (.ptr 1 0)))], [(2, .cellsG [.i .i64] 14 96), (1, .cells (List.append [.i .i64] (grs 8000001 96))), (8000001, .grp 33 14 false)]⟩⟩], [(200000001, 33, 14)]⟩
def wOwn_step22_2 : (Int × (Int × (Int × ((List (List TDue)) × (Nat × ((List (List TDue)) × Unit)))))) -> Tr ((Int × (Int × (Int × ((List (List TDue)) × (Nat × ((List (List TDue)) × Unit)))))) ⊕ (Int × ((List (List TDue)) × (Int × (Nat × ((List (List TDue)) × Unit)))))) :=
 fun (a0, a1, a2, a3, a4, a5, _) =>
 .ite (decide (a0 < 96)) (
 .grd (decide (0 <= a0 /\ a0 < (↑(96 : Nat) : Int))) (
 .grd (decide (a4 <= Int.toNat a0)) (
 .opt (a5[Int.toNat a0]?) (fun r0 =>
 .grd (decide (((0 : Nat) + r0.length) * (16 : Nat) <= (140737488355328 : Nat) /\ (0 : Nat) + r0.length <= (9223372036854775807 : Nat))) (
 .grd (decide (0 <= a0 /\ a0 < (↑(96 : Nat) : Int))) (
 .grd (decide (Int.toNat a0 = a4)) (
 .grd (decide (obB (sameN (14 : Nat) (95 : Nat) a3) = (0 : Nat))) (
 .ret (Sum.inl (wW .i64 (a0 + 1), (a1, (a2, (a3, (a4 + (1 : Nat), (List.set a5 (Int.toNat a0) r0, ()))))))))))))))) (
 .grd (decide (obB (sameN (14 : Nat) (95 : Nat) a3) = (0 : Nat))) (
 .ret (Sum.inr (a2, (a3, (a1, (a4, (a5, ()))))))))
def wOwn_loop22_2 (x : (Int × (Int × (Int × ((List (List TDue)) × (Nat × ((List (List TDue)) × Unit))))))) : Option (Int × ((List (List TDue)) × (Int × (Nat × ((List (List TDue)) × Unit))))) := loopO 220002 (fun x => (wOwn_step22_2 x).eval) 18446744073709551616 x
def wOwn_ap : SP := ⟨17, [(0, .v (.aggG [.i .i64] 14 96))], []⟩
def wOwn_rp : SP := ⟨1, [(0, .v (.agg (List.append [.i .i64] (grs 2000000 96))))], [(2000000, .grp 33 14 true)]⟩
def wOwn_tree : (Int × ((List (List TDue)) × Unit)) -> Tr (Int × (Nat × ((List (List TDue)) × Unit))) :=
 fun (a0, a1, _) =>
 .grd (true) (
 .opt ((wOwn_loop22_2 (0, (a0, (0, (List.replicate (96 : Nat) [], ((0 : Nat), (gdN (14 : Nat) (96 : Nat) a1, ())))))))) (fun r0 =>
 .ret (r0.2.2.1, (r0.2.2.2.1, (r0.2.2.2.2.1, ())))))
noncomputable def gm1 : List (PF Go.Proofs.Try.prog) := gm0 ++ [FS.pf wCheck, clOwn]
theorem wOwn_eq (x : (Int × ((List (List TDue)) × Unit))) : gsTr Try.prog cod gm1 [(22, wOwn_L22_2)] 30 22 wOwn_ap wOwn_rp x = wOwn_tree x := by kernel_rfl
def wOwn_fn (x : (Int × ((List (List TDue)) × Unit))) : Option (Int × (Nat × ((List (List TDue)) × Unit))) := (wOwn_tree x).eval
def wOwn : GS Try.prog := ⟨22, [0], wOwn_ap, wOwn_rp, wOwn_fn, fun x r h ys m g he hg => gs_sound (cod := cod) (Γ := gm1) (Λs := [(22, wOwn_L22_2)]) (n := 30) ((congrArg Tr.eval (wOwn_eq x)).trans h) he hg⟩
def wPut_ap : SP := ⟨26, [(0, .v (.one (.ptr 1000000 0))), (1, .v (.agg [.i .i64, .i .i64]))], [(1000000, .cells (List.append [.i .i64] (grs 1000100 96))), (1000100, .grp 33 14 true)]⟩
def wPut_rp : SP := ⟨1, [(0, .tup [])], [(1000000, .cells (List.append [.i .i64] (grs 1000100 96))), (1000100, .grp 33 14 true)]⟩
def wPut_tree : (Int × (Int × (Int × (Nat × ((List (List TDue)) × Unit))))) -> Tr (Int × (Nat × ((List (List TDue)) × Unit))) :=
 fun (a0, a1, a2, a3, a4, _) =>
 .opt ((wList_fn (a2, (a1, ())))) (fun r0 =>
 .grd (decide (0 <= r0.1 /\ r0.1 < (↑(96 : Nat) : Int))) (
 .grd (decide (Int.toNat r0.1 < a3)) (
 .opt (a4[Int.toNat r0.1]?) (fun r1 =>
 .grd (decide ((r1.length + List.length [TDue.mk a0 a1]) * (16 : Nat) <= (140737488355328 : Nat) /\ r1.length + List.length [TDue.mk a0 a1] <= (9223372036854775807 : Nat))) (
 .grd (decide (0 <= r0.1 /\ r0.1 < (↑(96 : Nat) : Int))) (
 .grd (decide (Int.toNat r0.1 = Int.toNat r0.1)) (
 .ret (a2, (a3, (List.set a4 (Int.toNat r0.1) (r1 ++ [TDue.mk a0 a1]), ()))))))))))
noncomputable def gm2 : List (PF Go.Proofs.Try.prog) := gm1 ++ [GS.pf wOwn]
theorem wPut_eq (x : (Int × (Int × (Int × (Nat × ((List (List TDue)) × Unit)))))) : gsTr Try.prog cod gm2 [] 30 26 wPut_ap wPut_rp x = wPut_tree x := by kernel_rfl
def wPut_fn (x : (Int × (Int × (Int × (Nat × ((List (List TDue)) × Unit)))))) : Option (Int × (Nat × ((List (List TDue)) × Unit))) := (wPut_tree x).eval
def wPut : GS Try.prog := ⟨26, [1, 0], wPut_ap, wPut_rp, wPut_fn, fun x r h ys m g he hg => gs_sound (cod := cod) (Γ := gm2) (Λs := []) (n := 30) ((congrArg Tr.eval (wPut_eq x)).trans h) he hg⟩
def wTurn_L23_11 : LS := ⟨11, [(3, 3), (1000000, 1000000), (5000100, 5000100), (1000100, 1000100)], ⟨74, [(54, .v (.one (.i .i64))), (3, .v (.one (.own 3))), (0, .v (.one (.ptr 1000000 0))), (52, .v (.one (.own 5000100))), (4, .v (.one (.i .i64))), (53, .v (.one (.i .i64)))], [(3, .row 33 14 true true), (1000000, .cells (List.append [.i .i64] (grs 1000100 96))), (5000100, .row 33 14 true true), (1000100, .grp 33 14 true)]⟩, [⟨some 2, [(3, 3), (1000000, 1000000), (1000100, 1000100)], ⟨74, [(3, .v (.one (.own 3))), (0, .v (.one (.ptr 1000000 0))), (4, .v (.one (.i .i64)))], [(3, .row 33 14 true true), (1000000, .cells (List.append [.i .i64] (grs 1000100 96))), (1000100, .grp 33 14 true)]⟩⟩], []⟩
abbrev ty1_ : Type := (Int × (Int × (Int × ((List TDue) × (Int × ((List TDue) × (Nat × ((List (List TDue)) × Unit))))))))
def wTurn_step23_11 : ty1_ -> Tr (ty1_ ⊕ (Int × ((List TDue) × (Int × (Nat × ((List (List TDue)) × Unit)))))) :=
 fun (a0, a1, a2, a3, a4, a5, a6, a7, _) =>
 .ite (decide (a0 < a2)) (
 .grd (decide (0 <= a0 /\ a0 < (↑(a5.length) : Int))) (
 .opt (a5[Int.toNat a0]?) (fun r0 =>
 .ite (decide (r0.at' = a4)) (
 .grd (decide ((a3.length + List.length [TDue.mk r0.id r0.at']) * (16 : Nat) <= (140737488355328 : Nat) /\ a3.length + List.length [TDue.mk r0.id r0.at'] <= (9223372036854775807 : Nat))) (
 .grd (decide (List.length (a3 ++ [TDue.mk r0.id r0.at']) = List.length (a3 ++ [TDue.mk r0.id r0.at']))) (
 .grd (decide (a5.length = a5.length)) (
 .ret (Sum.inl (wW .i64 (a0 + 1), (a1, (a2, (a3 ++ [TDue.mk r0.id r0.at'], (a4, (a5, (a6, (a7, ()))))))))))))) (
 .opt ((wPut_fn (r0.id, (r0.at', (a4, (a6, (a7, ()))))))) (fun r1 =>
 .grd (decide (a3.length = a3.length)) (
 .grd (decide (a5.length = a5.length)) (
 .ret (Sum.inl (wW .i64 (a0 + 1), (a1, (a2, (a3, (r1.1, (a5, (r1.2.1, (r1.2.2.1, ())))))))))))))))) (
 .grd (decide (a3.length = a3.length)) (
 .ret (Sum.inr (a1, (a3, (a4, (a6, (a7, ()))))))))
def wTurn_loop23_11 (x : ty1_) : Option (Int × ((List TDue) × (Int × (Nat × ((List (List TDue)) × Unit))))) := loopO 230011 (fun x => (wTurn_step23_11 x).eval) 18446744073709551616 x
def wTurn_L23_4 : LS := ⟨4, [(3, 3), (1000000, 1000000), (1000100, 1000100)], ⟨74, [(4, .v (.one (.i .i64))), (3, .v (.one (.own 3))), (0, .v (.one (.ptr 1000000 0)))], [(3, .row 33 14 true true), (1000000, .cells (List.append [.i .i64] (grs 1000100 96))), (1000100, .grp 33 14 true)]⟩, [⟨some 0, [(3, 3), (1000000, 1000000), (1000100, 1000100)], ⟨74, [(3, .v (.one (.own 3)))], [(3, .row 33 14 true true), (1000000, .cells (List.append [.i .i64] (grs 1000100 96))), (1000100, .grp 33 14 true)]⟩⟩], [(3, 33, 14)]⟩
def wTurn_step23_4 : (Int × ((List TDue) × (Int × (Nat × ((List (List TDue)) × Unit))))) -> Tr ((Int × ((List TDue) × (Int × (Nat × ((List (List TDue)) × Unit))))) ⊕ ((List TDue) × (Int × (Nat × ((List (List TDue)) × Unit))))) :=
 fun (a0, a1, a2, a3, a4, _) =>
 .ite (decide (0 <= a0)) (
 .grd (decide (0 <= wW .i64 ((4 : Int) * a0))) (
 .ite (!decide (bits .and .i64 a2 (wW .i64 (wW .i64 ((1 : Int) * (2 : Int) ^ min (Int.toNat (wW .i64 ((4 : Int) * a0))) (64 : Nat)) - 1)) = 0)) (
 .grd (decide (a1.length = a1.length)) (
 .ret (Sum.inl (wW .i64 (a0 - 1), (a1, (a2, (a3, (a4, ())))))))) (
 .grd (decide (0 <= wW .i64 ((4 : Int) * a0))) (
 .grd (decide (0 <= wW .i64 (wW .i64 ((16 : Int) * a0) + bits .and .i64 (Int.fdiv a2 ((2 : Int) ^ min (Int.toNat (wW .i64 ((4 : Int) * a0))) (64 : Nat))) (15 : Int)) /\ wW .i64 (wW .i64 ((16 : Int) * a0) + bits .and .i64 (Int.fdiv a2 ((2 : Int) ^ min (Int.toNat (wW .i64 ((4 : Int) * a0))) (64 : Nat))) (15 : Int)) < (↑(96 : Nat) : Int))) (
 .grd (decide (Int.toNat (wW .i64 (wW .i64 ((16 : Int) * a0) + bits .and .i64 (Int.fdiv a2 ((2 : Int) ^ min (Int.toNat (wW .i64 ((4 : Int) * a0))) (64 : Nat))) (15 : Int))) < a3)) (
 .opt (a4[Int.toNat (wW .i64 (wW .i64 ((16 : Int) * a0) + bits .and .i64 (Int.fdiv a2 ((2 : Int) ^ min (Int.toNat (wW .i64 ((4 : Int) * a0))) (64 : Nat))) (15 : Int)))]?) (fun r0 =>
 .grd (decide (0 <= wW .i64 (wW .i64 ((16 : Int) * a0) + bits .and .i64 (Int.fdiv a2 ((2 : Int) ^ min (Int.toNat (wW .i64 ((4 : Int) * a0))) (64 : Nat))) (15 : Int)) /\ wW .i64 (wW .i64 ((16 : Int) * a0) + bits .and .i64 (Int.fdiv a2 ((2 : Int) ^ min (Int.toNat (wW .i64 ((4 : Int) * a0))) (64 : Nat))) (15 : Int)) < (↑(96 : Nat) : Int))) (
 .grd (decide (Int.toNat (wW .i64 (wW .i64 ((16 : Int) * a0) + bits .and .i64 (Int.fdiv a2 ((2 : Int) ^ min (Int.toNat (wW .i64 ((4 : Int) * a0))) (64 : Nat))) (15 : Int))) = Int.toNat (wW .i64 (wW .i64 ((16 : Int) * a0) + bits .and .i64 (Int.fdiv a2 ((2 : Int) ^ min (Int.toNat (wW .i64 ((4 : Int) * a0))) (64 : Nat))) (15 : Int))))) (
 .grd (decide (a1.length = a1.length)) (
 .grd (decide (r0.length = r0.length)) (
 .opt ((wTurn_loop23_11 (0, (a0, ((↑(r0.length) : Int), (a1, (a2, (r0, (a3, (List.set a4 (Int.toNat (wW .i64 (wW .i64 ((16 : Int) * a0) + bits .and .i64 (Int.fdiv a2 ((2 : Int) ^ min (Int.toNat (wW .i64 ((4 : Int) * a0))) (64 : Nat))) (15 : Int)))) [], ())))))))))) (fun r1 =>
 .grd (decide (List.length r1.2.fst = List.length r1.2.1)) (
 .ret (Sum.inl (wW .i64 (r1.1 - 1), (r1.2.1, (r1.2.2.1, (r1.2.2.2.1, (r1.2.2.2.2.1, ()))))))))))))))))))) (
 .grd (decide (a1.length = a1.length)) (
 .ret (Sum.inr (a1, (a2, (a3, (a4, ())))))))
def wTurn_loop23_4 (x : (Int × ((List TDue) × (Int × (Nat × ((List (List TDue)) × Unit)))))) : Option ((List TDue) × (Int × (Nat × ((List (List TDue)) × Unit)))) := loopO 230004 (fun x => (wTurn_step23_4 x).eval) 18446744073709551616 x
def wTurn_ap : SP := ⟨74, [(0, .v (.one (.ptr 1000000 0)))], [(1000000, .cells (List.append [.i .i64] (grs 1000100 96))), (1000100, .grp 33 14 true)]⟩
def wTurn_rp : SP := ⟨1, [(0, .v (.one (.own 2000000)))], [(1000000, .cells (List.append [.i .i64] (grs 1000100 96))), (1000100, .grp 33 14 true), (2000000, .row 33 14 true true)]⟩
def wTurn_tree : (Int × (Nat × ((List (List TDue)) × Unit))) -> Tr (Int × (Nat × ((List (List TDue)) × ((List TDue) × Unit)))) :=
 fun (a0, a1, a2, _) =>
 .grd (true) (
 .opt ((wTurn_loop23_4 (5, ([], (wW .i64 (a0 + 1), (a1, (a2, ()))))))) (fun r0 =>
 .grd (decide (List.length r0.fst = List.length r0.1)) (
 .ret (r0.2.1, (r0.2.2.1, (r0.2.2.2.1, (r0.1, ())))))))
noncomputable def gm3 : List (PF Go.Proofs.Try.prog) := gm2 ++ [GS.pf wPut]
theorem wTurn_eq (x : (Int × (Nat × ((List (List TDue)) × Unit)))) : gsTr Try.prog cod gm3 [(23, wTurn_L23_11), (23, wTurn_L23_4)] 30 23 wTurn_ap wTurn_rp x = wTurn_tree x := by kernel_rfl
def wTurn_fn (x : (Int × (Nat × ((List (List TDue)) × Unit)))) : Option (Int × (Nat × ((List (List TDue)) × ((List TDue) × Unit)))) := (wTurn_tree x).eval
def wTurn : GS Try.prog := ⟨23, [1], wTurn_ap, wTurn_rp, wTurn_fn, fun x r h ys m g he hg => gs_sound (cod := cod) (Γ := gm3) (Λs := [(23, wTurn_L23_11), (23, wTurn_L23_4)]) (n := 30) ((congrArg Tr.eval (wTurn_eq x)).trans h) he hg⟩
def wTick_L7_9 : LS := ⟨9, [(2, 2), (8, 8), (4, 4), (31000, 31000)], ⟨40, [(32, .v (.one (.i .i64))), (2, .v (.one (.ptr 2 0))), (8, .v (.one (.own 8))), (4, .v (.one (.ptr 4 0))), (31, .v (.one (.i .i64)))], [(2, .cells (List.append [.i .i64] (grs 31000 96))), (8, .row 33 14 true true), (4, .cellsG [.i .i64] 14 96), (31000, .grp 33 14 true)]⟩, [⟨some 0, [(4, 4), (8, 8), (2, 2), (31000, 31000)], ⟨40, [(4, .v (.one (.ptr 4 0))), (8, .v (.one (.own 8))), (2, .v (.one (.ptr 2 0)))], [(4, .cellsG [.i .i64] 14 96), (8, .row 33 14 true true), (2, .cells (List.append [.i .i64] (grs 31000 96))), (31000, .grp 33 14 true)]⟩⟩], [(8, 33, 14)]⟩
abbrev ty2_ : Type := (Int × (Int × (Int × ((List TDue) × (Int × ((List (List TDue)) × (Nat × ((List (List TDue)) × Unit))))))))
def wTick_step7_9 : ty2_ -> Tr (ty2_ ⊕ (Int × ((List (List TDue)) × ((List TDue) × (Int × (Nat × ((List (List TDue)) × Unit))))))) :=
 fun (a0, a1, a2, a3, a4, a5, a6, a7, _) =>
 .ite (decide (a0 < a1)) (
 .opt ((wTurn_fn (a2, (a6, (a7, ()))))) (fun r0 =>
 .grd (decide ((a3.length + List.length r0.2.2.2.1) * (16 : Nat) <= (140737488355328 : Nat) /\ a3.length + List.length r0.2.2.2.1 <= (9223372036854775807 : Nat))) (
 .grd (decide (List.length (a3 ++ r0.2.2.2.1) = List.length (a3 ++ r0.2.2.2.1))) (
 .grd (decide (obB (sameN (14 : Nat) (95 : Nat) a5) = (0 : Nat))) (
 .ret (Sum.inl (wW .i64 (a0 + 1), (a1, (r0.1, (a3 ++ r0.2.2.2.1, (a4, (a5, (r0.2.1, (r0.2.2.1, ())))))))))))))) (
 .grd (decide (a3.length = a3.length)) (
 .grd (decide (obB (sameN (14 : Nat) (95 : Nat) a5) = (0 : Nat))) (
 .ret (Sum.inr (a4, (a5, (a3, (a2, (a6, (a7, ()))))))))))
def wTick_loop7_9 (x : ty2_) : Option (Int × ((List (List TDue)) × ((List TDue) × (Int × (Nat × ((List (List TDue)) × Unit)))))) := loopO 70009 (fun x => (wTick_step7_9 x).eval) 18446744073709551616 x
def wTick_ap : List VP1 := [.aggG [.i .i64] 14 96, .one (.i .i64)]
def wTick_rp : SP := ⟨1, [(0, .tup [.aggG [.i .i64] 14 96, .one (.st 14 true), .one (.i .i64)])], []⟩
def wTick_tree : (Int × ((List (List TDue)) × (Int × Unit))) -> Tr (Int × ((List (List TDue)) × ((List TDue) × (Int × Unit)))) :=
 fun (a0, a1, a2, _) =>
 .grd (decide (obB (sameN (14 : Nat) (95 : Nat) a1) = (0 : Nat))) (
 .opt ((wCheck_fn (a0, (a1, ())))) (fun r0 =>
 .ite (!decide (r0.1 = 0)) (
 .grd (true) (
 .ret (0, (List.replicate (96 : Nat) [], ([], (r0.1, ())))))) (
 .ite (decide (a2 < 0)) (
 .grd (true) (
 .ret (0, (List.replicate (96 : Nat) [], ([], (1, ())))))) (
 .ite (decide (10000 < a2)) (
 .grd (true) (
 .ret (0, (List.replicate (96 : Nat) [], ([], (1, ())))))) (
 .ite (decide (16777216 <= wW .i64 (a0 + a2))) (
 .grd (true) (
 .ret (0, (List.replicate (96 : Nat) [], ([], (1, ())))))) (
 .grd (decide (obB (sameN (14 : Nat) (95 : Nat) a1) = (0 : Nat))) (
 .opt ((wOwn_fn (a0, (a1, ())))) (fun r1 =>
 .grd (true) (
 .grd (true) (
 .opt ((wTick_loop7_9 (0, (a2, (r1.1, ([], (0, (List.replicate (96 : Nat) [], (r1.2.1, (r1.2.2.1, ())))))))))) (fun r2 =>
 .grd (decide (obB (sameN (14 : Nat) (95 : Nat) r2.2.2.2.2.2.1) = (0 : Nat))) (
 .ret (r2.2.2.2.1, (r2.2.2.2.2.2.1, (r2.2.2.1, (0, ()))))))))))))))))
noncomputable def gm4 : List (PF Go.Proofs.Try.prog) := gm3 ++ [GS.pf wTurn]
theorem wTick_eq (x : (Int × ((List (List TDue)) × (Int × Unit)))) : fnTr Try.prog cod gm4 [(7, wTick_L7_9)] 30 7 wTick_ap wTick_rp x = wTick_tree x := by kernel_rfl
def wTick_fn (x : (Int × ((List (List TDue)) × (Int × Unit)))) : Option (Int × ((List (List TDue)) × ((List TDue) × (Int × Unit)))) := (wTick_tree x).eval
def wTick : FS Try.prog := ⟨7, wTick_ap, wTick_rp, wTick_fn, fun x r h => fnTr_sound (cod := cod) (Γ := gm4) (Λs := [(7, wTick_L7_9)]) (n := 30) ((congrArg Tr.eval (wTick_eq x)).trans h)⟩
def delDue_ap : SP := ⟨33, [(0, .v (.one (.own 1000100))), (1, .v (.one (.i .i64))), (2, .v (.one (.i .i64)))], [(1000100, .row 33 14 true true)]⟩
def delDue_rp : SP := ⟨1, [(0, .v (.one (.own 1000100)))], [(1000100, .row 33 14 true true)]⟩
def delDue_tree : (Int × (Int × ((List TDue) × Unit))) -> Tr ((List TDue) × Unit) :=
 fun (a0, a1, a2, _) =>
 .grd (decide (0 <= a0 /\ a0 <= a1 /\ a1 <= (↑(a2.length) : Int) /\ (↑(a2.length) : Int) <= (↑(a2.length) : Int))) (
 .ite (decide (a0 = a1)) (
 .grd (decide (a2.length = a2.length)) (
 .ret (a2, ()))) (
 .grd (decide (0 <= a0 /\ a0 <= (↑(a2.length) : Int))) (
 .grd (decide (0 <= a1 /\ a1 <= (↑(a2.length) : Int) /\ (↑(a2.length) : Int) <= (↑(a2.length) : Int))) (
 .grd (decide (Int.toNat a1 + Int.toNat ((↑(a2.length) : Int) - a1) <= a2.length)) (
 .grd (decide (Int.toNat a0 + List.length (List.take (Int.toNat ((↑(a2.length) : Int) - a1)) (List.drop (Int.toNat a1) a2)) <= a2.length)) (
 .grd (decide (0 <= (↑(Int.toNat a0 + List.length (List.take (Int.toNat ((↑(a2.length) : Int) - a1)) (List.drop (Int.toNat a1) a2))) : Int) /\ (↑(Int.toNat a0 + List.length (List.take (Int.toNat ((↑(a2.length) : Int) - a1)) (List.drop (Int.toNat a1) a2))) : Int) <= (↑(a2.length) : Int) /\ (↑(a2.length) : Int) <= (↑(List.length (List.take (Int.toNat a0) a2 ++ List.take (Int.toNat ((↑(a2.length) : Int) - a1)) (List.drop (Int.toNat a1) a2) ++ List.drop (Int.toNat a0 + List.length (List.take (Int.toNat ((↑(a2.length) : Int) - a1)) (List.drop (Int.toNat a1) a2))) a2)) : Int))) (
 .grd (decide (Int.toNat (↑(Int.toNat a0 + List.length (List.take (Int.toNat ((↑(a2.length) : Int) - a1)) (List.drop (Int.toNat a1) a2))) : Int) + Int.toNat ((↑(a2.length) : Int) - (↑(Int.toNat a0 + List.length (List.take (Int.toNat ((↑(a2.length) : Int) - a1)) (List.drop (Int.toNat a1) a2))) : Int)) <= List.length (List.take (Int.toNat a0) a2 ++ List.take (Int.toNat ((↑(a2.length) : Int) - a1)) (List.drop (Int.toNat a1) a2) ++ List.drop (Int.toNat a0 + List.length (List.take (Int.toNat ((↑(a2.length) : Int) - a1)) (List.drop (Int.toNat a1) a2))) a2))) (
 .grd (decide (Int.toNat a0 + List.length (List.take (Int.toNat ((↑(a2.length) : Int) - a1)) (List.drop (Int.toNat a1) a2)) = List.length (List.take (Int.toNat a0 + List.length (List.take (Int.toNat ((↑(a2.length) : Int) - a1)) (List.drop (Int.toNat a1) a2))) (List.take (Int.toNat (↑(Int.toNat a0 + List.length (List.take (Int.toNat ((↑(a2.length) : Int) - a1)) (List.drop (Int.toNat a1) a2))) : Int)) (List.take (Int.toNat a0) a2 ++ List.take (Int.toNat ((↑(a2.length) : Int) - a1)) (List.drop (Int.toNat a1) a2) ++ List.drop (Int.toNat a0 + List.length (List.take (Int.toNat ((↑(a2.length) : Int) - a1)) (List.drop (Int.toNat a1) a2))) a2) ++ List.replicate (Int.toNat ((↑(a2.length) : Int) - (↑(Int.toNat a0 + List.length (List.take (Int.toNat ((↑(a2.length) : Int) - a1)) (List.drop (Int.toNat a1) a2))) : Int))) (TDue.mk (0 : Int) (0 : Int)) ++ List.drop (Int.toNat (↑(Int.toNat a0 + List.length (List.take (Int.toNat ((↑(a2.length) : Int) - a1)) (List.drop (Int.toNat a1) a2))) : Int) + List.length (List.replicate (Int.toNat ((↑(a2.length) : Int) - (↑(Int.toNat a0 + List.length (List.take (Int.toNat ((↑(a2.length) : Int) - a1)) (List.drop (Int.toNat a1) a2))) : Int))) (TDue.mk (0 : Int) (0 : Int)))) (List.take (Int.toNat a0) a2 ++ List.take (Int.toNat ((↑(a2.length) : Int) - a1)) (List.drop (Int.toNat a1) a2) ++ List.drop (Int.toNat a0 + List.length (List.take (Int.toNat ((↑(a2.length) : Int) - a1)) (List.drop (Int.toNat a1) a2))) a2))))) (
 .ret (List.take (Int.toNat a0 + List.length (List.take (Int.toNat ((↑(a2.length) : Int) - a1)) (List.drop (Int.toNat a1) a2))) (List.take (Int.toNat (↑(Int.toNat a0 + List.length (List.take (Int.toNat ((↑(a2.length) : Int) - a1)) (List.drop (Int.toNat a1) a2))) : Int)) (List.take (Int.toNat a0) a2 ++ List.take (Int.toNat ((↑(a2.length) : Int) - a1)) (List.drop (Int.toNat a1) a2) ++ List.drop (Int.toNat a0 + List.length (List.take (Int.toNat ((↑(a2.length) : Int) - a1)) (List.drop (Int.toNat a1) a2))) a2) ++ List.replicate (Int.toNat ((↑(a2.length) : Int) - (↑(Int.toNat a0 + List.length (List.take (Int.toNat ((↑(a2.length) : Int) - a1)) (List.drop (Int.toNat a1) a2))) : Int))) (TDue.mk (0 : Int) (0 : Int)) ++ List.drop (Int.toNat (↑(Int.toNat a0 + List.length (List.take (Int.toNat ((↑(a2.length) : Int) - a1)) (List.drop (Int.toNat a1) a2))) : Int) + List.length (List.replicate (Int.toNat ((↑(a2.length) : Int) - (↑(Int.toNat a0 + List.length (List.take (Int.toNat ((↑(a2.length) : Int) - a1)) (List.drop (Int.toNat a1) a2))) : Int))) (TDue.mk (0 : Int) (0 : Int)))) (List.take (Int.toNat a0) a2 ++ List.take (Int.toNat ((↑(a2.length) : Int) - a1)) (List.drop (Int.toNat a1) a2) ++ List.drop (Int.toNat a0 + List.length (List.take (Int.toNat ((↑(a2.length) : Int) - a1)) (List.drop (Int.toNat a1) a2))) a2)), ()))))))))))
noncomputable def gm5 : List (PF Go.Proofs.Try.prog) := gm4 ++ [FS.pf wTick]
theorem delDue_eq (x : (Int × (Int × ((List TDue) × Unit)))) : gsTr Try.prog cod gm5 [] 30 19 delDue_ap delDue_rp x = delDue_tree x := by kernel_rfl
def delDue_fn (x : (Int × (Int × ((List TDue) × Unit)))) : Option ((List TDue) × Unit) := (delDue_tree x).eval
def delDue : GS Try.prog := ⟨19, [1, 0, 0], delDue_ap, delDue_rp, delDue_fn, fun x r h ys m g he hg => gs_sound (cod := cod) (Γ := gm5) (Λs := []) (n := 30) ((congrArg Tr.eval (delDue_eq x)).trans h) he hg⟩
def wSet_ap : List VP1 := [.aggG [.i .i64] 14 96, .one (.i .i64), .one (.i .i64)]
def wSet_rp : SP := ⟨1, [(0, .tup [.aggG [.i .i64] 14 96, .one (.i .i64)])], []⟩
def wSet_tree : (Int × ((List (List TDue)) × (Int × (Int × Unit)))) -> Tr (Int × ((List (List TDue)) × (Int × Unit))) :=
 fun (a0, a1, a2, a3, _) =>
 .grd (decide (obB (sameN (14 : Nat) (95 : Nat) a1) = (0 : Nat))) (
 .opt ((wCheck_fn (a0, (a1, ())))) (fun r0 =>
 .ite (!decide (r0.1 = 0)) (
 .grd (true) (
 .ret (0, (List.replicate (96 : Nat) [], (r0.1, ()))))) (
 .ite (decide (a3 <= a0)) (
 .grd (true) (
 .ret (0, (List.replicate (96 : Nat) [], (1, ()))))) (
 .ite (decide (16777216 <= a3)) (
 .grd (true) (
 .ret (0, (List.replicate (96 : Nat) [], (1, ()))))) (
 .grd (decide (obB (sameN (14 : Nat) (95 : Nat) a1) = (0 : Nat))) (
 .opt ((wFind_fn (a0, (a1, (a2, ()))))) (fun r1 =>
 .ite (decide (0 <= r1.1)) (
 .grd (true) (
 .ret (0, (List.replicate (96 : Nat) [], (8, ()))))) (
 .grd (decide (obB (sameN (14 : Nat) (95 : Nat) a1) = (0 : Nat))) (
 .opt ((wCount_fn (a0, (a1, ())))) (fun r2 =>
 .ite (decide (r2.1 = 500)) (
 .grd (true) (
 .ret (0, (List.replicate (96 : Nat) [], (6, ()))))) (
 .grd (decide (obB (sameN (14 : Nat) (95 : Nat) a1) = (0 : Nat))) (
 .opt ((wOwn_fn (a0, (a1, ())))) (fun r3 =>
 .opt ((wPut_fn (a2, (a3, (r3.1, (r3.2.1, (r3.2.2.1, ()))))))) (fun r4 =>
 .grd (decide (obB (sameN (14 : Nat) (95 : Nat) r4.2.2.1) = (0 : Nat))) (
 .ret (r4.1, (r4.2.2.1, (0, ()))))))))))))))))))
noncomputable def gm6 : List (PF Go.Proofs.Try.prog) := gm5 ++ [GS.pf delDue]
theorem wSet_eq (x : (Int × ((List (List TDue)) × (Int × (Int × Unit))))) : fnTr Try.prog cod gm6 [] 30 12 wSet_ap wSet_rp x = wSet_tree x := by kernel_rfl
def wSet_fn (x : (Int × ((List (List TDue)) × (Int × (Int × Unit))))) : Option (Int × ((List (List TDue)) × (Int × Unit))) := (wSet_tree x).eval
def wSet : FS Try.prog := ⟨12, wSet_ap, wSet_rp, wSet_fn, fun x r h => fnTr_sound (cod := cod) (Γ := gm6) (Λs := []) (n := 30) ((congrArg Tr.eval (wSet_eq x)).trans h)⟩
def wStop_ap : List VP1 := [.aggG [.i .i64] 14 96, .one (.i .i64)]
def wStop_rp : SP := ⟨1, [(0, .tup [.aggG [.i .i64] 14 96, .one (.i .i64)])], []⟩
def wStop_tree : (Int × ((List (List TDue)) × (Int × Unit))) -> Tr (Int × ((List (List TDue)) × (Int × Unit))) :=
 fun (a0, a1, a2, _) =>
 .grd (decide (obB (sameN (14 : Nat) (95 : Nat) a1) = (0 : Nat))) (
 .opt ((wCheck_fn (a0, (a1, ())))) (fun r0 =>
 .ite (!decide (r0.1 = 0)) (
 .grd (true) (
 .ret (0, (List.replicate (96 : Nat) [], (r0.1, ()))))) (
 .grd (decide (obB (sameN (14 : Nat) (95 : Nat) a1) = (0 : Nat))) (
 .opt ((wFind_fn (a0, (a1, (a2, ()))))) (fun r1 =>
 .ite (decide (r1.1 < 0)) (
 .grd (true) (
 .ret (0, (List.replicate (96 : Nat) [], (7, ()))))) (
 .grd (decide (obB (sameN (14 : Nat) (95 : Nat) a1) = (0 : Nat))) (
 .opt ((wOwn_fn (a0, (a1, ())))) (fun r2 =>
 .grd (decide (0 <= r1.1 /\ r1.1 < (↑(96 : Nat) : Int))) (
 .grd (decide (Int.toNat r1.1 < r2.2.1)) (
 .opt (r2.2.2.1[Int.toNat r1.1]?) (fun r3 =>
 .grd (decide (r3.length = r3.length)) (
 .opt ((delDue_fn (r1.2.1, (wW .i64 (r1.2.1 + 1), (r3, ()))))) (fun r4 =>
 .grd (decide (0 <= r1.1 /\ r1.1 < (↑(96 : Nat) : Int))) (
 .grd (decide (Int.toNat r1.1 = Int.toNat r1.1)) (
 .grd (decide (obB (sameN (14 : Nat) (95 : Nat) (List.set r2.2.2.1 (Int.toNat r1.1) r4.1)) = (0 : Nat))) (
 .ret (r2.1, (List.set r2.2.2.1 (Int.toNat r1.1) r4.1, (0, ())))))))))))))))))))
noncomputable def gm7 : List (PF Go.Proofs.Try.prog) := gm6 ++ [FS.pf wSet]
theorem wStop_eq (x : (Int × ((List (List TDue)) × (Int × Unit)))) : fnTr Try.prog cod gm7 [] 30 13 wStop_ap wStop_rp x = wStop_tree x := by kernel_rfl
def wStop_fn (x : (Int × ((List (List TDue)) × (Int × Unit)))) : Option (Int × ((List (List TDue)) × (Int × Unit))) := (wStop_tree x).eval
def wStop : FS Try.prog := ⟨13, wStop_ap, wStop_rp, wStop_fn, fun x r h => fnTr_sound (cod := cod) (Γ := gm7) (Λs := []) (n := 30) ((congrArg Tr.eval (wStop_eq x)).trans h)⟩
def betw_ap : List VP1 := [.one (.i .i64), .one (.i .i64), .one (.i .i64)]
def betw_rp : SP := ⟨1, [(0, .v (.one (.b)))], []⟩
def betw_tree : (Int × (Int × (Int × Unit))) -> Tr (Bool × Unit) :=
 fun (a0, a1, a2, _) =>
 .ite (decide (a1 <= a0)) (
 .ret (decide (a0 <= a2), ())) (
 .ret (false, ()))
noncomputable def gm8 : List (PF Go.Proofs.Try.prog) := gm7 ++ [FS.pf wStop]
theorem betw_eq (x : (Int × (Int × (Int × Unit)))) : fnTr Try.prog cod gm8 [] 30 27 betw_ap betw_rp x = betw_tree x := by kernel_rfl
def betw_fn (x : (Int × (Int × (Int × Unit)))) : Option (Bool × Unit) := (betw_tree x).eval
def betw : FS Try.prog := ⟨27, betw_ap, betw_rp, betw_fn, fun x r h => fnTr_sound (cod := cod) (Γ := gm8) (Λs := []) (n := 30) ((congrArg Tr.eval (betw_eq x)).trans h)⟩
def rSame_L10_4 : LS := ⟨4, [], ⟨26, [(13, .v (.one (.i .i64))), (1, .v (.one (.st 14 false))), (0, .v (.one (.st 14 false))), (12, .v (.one (.i .i64)))], []⟩, [⟨none, [], ⟨26, [(4, .v (.one (.b)))], []⟩⟩, ⟨some 0, [], ⟨26, [], []⟩⟩], []⟩
def rSame_step10_4 : (Int × ((List TDue) × ((List TDue) × (Int × Unit)))) -> Tr ((Int × ((List TDue) × ((List TDue) × (Int × Unit)))) ⊕ ((Bool × Unit) ⊕ Unit)) :=
 fun (a0, a1, a2, a3, _) =>
 .ite (decide (a0 < a3)) (
 .grd (decide (0 <= a0)) (
 .opt (a2[Int.toNat a0]?) (fun r0 =>
 .grd (decide (0 <= a0)) (
 .opt (a1[Int.toNat a0]?) (fun r1 =>
 .ite (!(decide (r0.id = r1.id) && (decide (r0.at' = r1.at') && true))) (
 .ret (Sum.inr (Sum.inl (false, ())))) (
 .ret (Sum.inl (wW .i64 (a0 + 1), (a1, (a2, (a3, ()))))))))))) (
 .ret (Sum.inr (Sum.inr ())))
def rSame_loop10_4 (x : (Int × ((List TDue) × ((List TDue) × (Int × Unit))))) : Option ((Bool × Unit) ⊕ Unit) := loopO 100004 (fun x => (rSame_step10_4 x).eval) 18446744073709551616 x
def rSame_L9_2 : LS := ⟨2, [(3, 3), (2, 2)], ⟨25, [(6, .v (.one (.i .i64))), (3, .v (.one (.ptr 3 0))), (2, .v (.one (.ptr 2 0)))], [(3, .cellsG [.i .i64] 14 96), (2, .cellsG [.i .i64] 14 96)]⟩, [⟨none, [], ⟨25, [(4, .v (.one (.b)))], []⟩⟩, ⟨some 0, [(3, 3), (2, 2)], ⟨25, [(3, .v (.one (.ptr 3 0))), (2, .v (.one (.ptr 2 0)))], [(3, .cellsG [.i .i64] 14 96), (2, .cellsG [.i .i64] 14 96)]⟩⟩], []⟩
def rSame_step9_2 : (Int × (Int × ((List (List TDue)) × (Int × ((List (List TDue)) × Unit))))) -> Tr ((Int × (Int × ((List (List TDue)) × (Int × ((List (List TDue)) × Unit))))) ⊕ ((Bool × Unit) ⊕ (Int × ((List (List TDue)) × (Int × ((List (List TDue)) × Unit)))))) :=
 fun (a0, a1, a2, a3, a4, _) =>
 .ite (decide (a0 < 96)) (
 .grd (decide (0 <= a0 /\ a0 < (↑(96 : Nat) : Int))) (
 .grd (sameN (14 : Nat) (95 : Nat) a4) (
 .opt (a4[Int.toNat a0]?) (fun r0 =>
 .grd (decide (0 <= a0 /\ a0 < (↑(96 : Nat) : Int))) (
 .grd (sameN (14 : Nat) (95 : Nat) a2) (
 .opt (a2[Int.toNat a0]?) (fun r1 =>
 .ite (!decide ((↑(r0.length) : Int) = (↑(r1.length) : Int))) (
 .ite (true) (
 .ret (Sum.inr (Sum.inl (false, ())))) (
 .grd (decide (obB (sameN (14 : Nat) (95 : Nat) a2) = (0 : Nat))) (
 .grd (decide (obB (sameN (14 : Nat) (95 : Nat) a4) = (0 : Nat))) (
 .ret (Sum.inl (wW .i64 (a0 + 1), (a1, (a2, (a3, (a4, ())))))))))) (
 .opt ((rSame_loop10_4 (0, (r1, (r0, ((↑(r0.length) : Int), ())))))) (fun r2 =>
 .sum (r2) (fun r3 =>
 .ite (!r3.1) (
 .ret (Sum.inr (Sum.inl (false, ())))) (
 .grd (decide (obB (sameN (14 : Nat) (95 : Nat) a2) = (0 : Nat))) (
 .grd (decide (obB (sameN (14 : Nat) (95 : Nat) a4) = (0 : Nat))) (
 .ret (Sum.inl (wW .i64 (a0 + 1), (a1, (a2, (a3, (a4, ())))))))))) (fun r3 =>
 .ite (false) (
 .ret (Sum.inr (Sum.inl (false, ())))) (
 .grd (decide (obB (sameN (14 : Nat) (95 : Nat) a2) = (0 : Nat))) (
 .grd (decide (obB (sameN (14 : Nat) (95 : Nat) a4) = (0 : Nat))) (
 .ret (Sum.inl (wW .i64 (a0 + 1), (a1, (a2, (a3, (a4, ()))))))))))))))))))) (
 .grd (decide (obB (sameN (14 : Nat) (95 : Nat) a2) = (0 : Nat))) (
 .grd (decide (obB (sameN (14 : Nat) (95 : Nat) a4) = (0 : Nat))) (
 .ret (Sum.inr (Sum.inr (a1, (a2, (a3, (a4, ())))))))))
def rSame_loop9_2 (x : (Int × (Int × ((List (List TDue)) × (Int × ((List (List TDue)) × Unit)))))) : Option ((Bool × Unit) ⊕ (Int × ((List (List TDue)) × (Int × ((List (List TDue)) × Unit))))) := loopO 90002 (fun x => (rSame_step9_2 x).eval) 18446744073709551616 x
def rSame_ap : List VP1 := [.aggG [.i .i64] 14 96, .aggG [.i .i64] 14 96]
def rSame_rp : SP := ⟨1, [(0, .v (.one (.b)))], []⟩
def rSame_tree : (Int × ((List (List TDue)) × (Int × ((List (List TDue)) × Unit)))) -> Tr (Bool × Unit) :=
 fun (a0, a1, a2, a3, _) =>
 .grd (decide (obB (sameN (14 : Nat) (95 : Nat) a3) = (0 : Nat))) (
 .grd (decide (obB (sameN (14 : Nat) (95 : Nat) a1) = (0 : Nat))) (
 .opt ((rSame_loop9_2 (0, (a2, (a3, (a0, (a1, ()))))))) (fun r0 =>
 .sum (r0) (fun r1 =>
 .ret (r1.1, ())) (fun r1 =>
 .ret (decide (r1.2.2.1 = r1.1), ())))))
noncomputable def gm9 : List (PF Go.Proofs.Try.prog) := gm8 ++ [FS.pf betw]
theorem rSame_eq (x : (Int × ((List (List TDue)) × (Int × ((List (List TDue)) × Unit))))) : fnTr Try.prog cod gm9 [(10, rSame_L10_4), (9, rSame_L9_2)] 30 9 rSame_ap rSame_rp x = rSame_tree x := by kernel_rfl
def rSame_fn (x : (Int × ((List (List TDue)) × (Int × ((List (List TDue)) × Unit))))) : Option (Bool × Unit) := (rSame_tree x).eval
def rSame : FS Try.prog := ⟨9, rSame_ap, rSame_rp, rSame_fn, fun x r h => fnTr_sound (cod := cod) (Γ := gm9) (Λs := [(10, rSame_L10_4), (9, rSame_L9_2)]) (n := 30) ((congrArg Tr.eval (rSame_eq x)).trans h)⟩
def rListOf_L33_3 : LS := ⟨3, [], ⟨29, [(5, .v (.one (.i .i64))), (1, .v (.one (.i .i64))), (6, .v (.one (.i .i64))), (0, .v (.one (.i .i64)))], []⟩, [⟨none, [], ⟨29, [(4, .v (.one (.i .i64)))], []⟩⟩, ⟨some 0, [], ⟨29, [], []⟩⟩], []⟩
def rListOf_step33_3 : (Int × (Int × (Int × (Int × Unit)))) -> Tr ((Int × (Int × (Int × (Int × Unit)))) ⊕ ((Int × Unit) ⊕ Unit)) :=
 fun (a0, a1, a2, a3, _) =>
 .ite (decide (0 <= a2)) (
 .grd (decide (a0 ≠ 0)) (
 .grd (true) (
 .grd (decide (a0 ≠ 0)) (
 .grd (true) (
 .ite (!decide (Int.tmod (wW .i64 (Int.tdiv a3 a0)) 16 = Int.tmod (wW .i64 (Int.tdiv a1 a0)) (16 : Int))) (
 .grd (decide (a0 ≠ 0)) (
 .grd (true) (
 .ret (Sum.inr (Sum.inl (wW .i64 (wW .i64 ((16 : Int) * a2) + Int.tmod (wW .i64 (Int.tdiv a1 a0)) (16 : Int)), ())))))) (
 .grd (true) (
 .ret (Sum.inl (wW .i64 (Int.tdiv a0 (16 : Int)), (a1, (wW .i64 (a2 - 1), (a3, ())))))))))))) (
 .ret (Sum.inr (Sum.inr ())))
def rListOf_loop33_3 (x : (Int × (Int × (Int × (Int × Unit))))) : Option ((Int × Unit) ⊕ Unit) := loopO 330003 (fun x => (rListOf_step33_3 x).eval) 18446744073709551616 x
def rListOf_ap : List VP1 := [.one (.i .i64), .one (.i .i64)]
def rListOf_rp : SP := ⟨1, [(0, .v (.one (.i .i64)))], []⟩
def rListOf_tree : (Int × (Int × Unit)) -> Tr (Int × Unit) :=
 fun (a0, a1, _) =>
 .opt ((rListOf_loop33_3 (1048576, (a1, (5, (a0, ())))))) (fun r0 =>
 .sum (r0) (fun r1 =>
 .ret (r1.1, ())) (fun r1 =>
 .ret ((-1 : Int), ())))
noncomputable def gm10 : List (PF Go.Proofs.Try.prog) := gm9 ++ [FS.pf rSame]
theorem rListOf_eq (x : (Int × (Int × Unit))) : fnTr Try.prog cod gm10 [(33, rListOf_L33_3)] 30 33 rListOf_ap rListOf_rp x = rListOf_tree x := by kernel_rfl
def rListOf_fn (x : (Int × (Int × Unit))) : Option (Int × Unit) := (rListOf_tree x).eval
def rListOf : FS Try.prog := ⟨33, rListOf_ap, rListOf_rp, rListOf_fn, fun x r h => fnTr_sound (cod := cod) (Γ := gm10) (Λs := [(33, rListOf_L33_3)]) (n := 30) ((congrArg Tr.eval (rListOf_eq x)).trans h)⟩
def rAllDue_L15_3 : LS := ⟨3, [(3, 3)], ⟨16, [(8, .v (.one (.i .i64))), (3, .v (.one (.own 3))), (7, .v (.aggG [] 14 96))], [(3, .row 33 14 true true)]⟩, [⟨some 0, [(3, 3)], ⟨16, [(3, .v (.one (.own 3)))], [(3, .row 33 14 true true)]⟩⟩], [(3, 33, 14)]⟩
def rAllDue_step15_3 : (Int × ((List (List TDue)) × ((List TDue) × Unit))) -> Tr ((Int × ((List (List TDue)) × ((List TDue) × Unit))) ⊕ ((List TDue) × Unit)) :=
 fun (a0, a1, a2, _) =>
 .ite (decide (a0 < 96)) (
 .grd (sameN (14 : Nat) (95 : Nat) a1 && decide (0 <= a0 /\ a0 < (↑(96 : Nat) : Int))) (
 .opt (a1[Int.toNat a0]?) (fun r0 =>
 .grd (decide ((a2.length + r0.length) * (16 : Nat) <= (140737488355328 : Nat) /\ a2.length + r0.length <= (9223372036854775807 : Nat))) (
 .grd (decide (List.length (a2 ++ r0) = List.length (a2 ++ r0))) (
 .grd (decide (obB (sameN (14 : Nat) (95 : Nat) a1) = (0 : Nat))) (
 .ret (Sum.inl (wW .i64 (a0 + 1), (a1, (a2 ++ r0, ())))))))))) (
 .grd (decide (a2.length = a2.length)) (
 .ret (Sum.inr (a2, ()))))
def rAllDue_loop15_3 (x : (Int × ((List (List TDue)) × ((List TDue) × Unit)))) : Option ((List TDue) × Unit) := loopO 150003 (fun x => (rAllDue_step15_3 x).eval) 18446744073709551616 x
def rAllDue_ap : List VP1 := [.aggG [.i .i64] 14 96]
def rAllDue_rp : SP := ⟨1, [(0, .v (.one (.st 14 true)))], []⟩
def rAllDue_tree : (Int × ((List (List TDue)) × Unit)) -> Tr ((List TDue) × Unit) :=
 fun (a0, a1, _) =>
 .grd (true) (
 .grd (decide (obB (sameN (14 : Nat) (95 : Nat) a1) = (0 : Nat))) (
 .opt ((rAllDue_loop15_3 (0, (a1, ([], ()))))) (fun r0 =>
 .ret (r0.1, ()))))
noncomputable def gm11 : List (PF Go.Proofs.Try.prog) := gm10 ++ [FS.pf rListOf]
theorem rAllDue_eq (x : (Int × ((List (List TDue)) × Unit))) : fnTr Try.prog cod gm11 [(15, rAllDue_L15_3)] 30 15 rAllDue_ap rAllDue_rp x = rAllDue_tree x := by kernel_rfl
def rAllDue_fn (x : (Int × ((List (List TDue)) × Unit))) : Option ((List TDue) × Unit) := (rAllDue_tree x).eval
def rAllDue : FS Try.prog := ⟨15, rAllDue_ap, rAllDue_rp, rAllDue_fn, fun x r h => fnTr_sound (cod := cod) (Γ := gm11) (Λs := [(15, rAllDue_L15_3)]) (n := 30) ((congrArg Tr.eval (rAllDue_eq x)).trans h)⟩
def rWheelOf_L30_3 : LS := ⟨3, [(5, 5), (4, 4), (8000005, 8000005)], ⟨33, [(13, .v (.one (.i .i64))), (5, .v (.one (.ptr 5 0))), (0, .v (.one (.i .i64))), (11, .v (.one (.st 14 false))), (4, .v (.one (.ptr 4 0))), (12, .v (.one (.i .i64)))], [(5, .cells (List.append [.i .i64] (grs 8000005 96))), (4, .cellsG [.i .i64] 14 96), (8000005, .grp 33 14 true)]⟩, [⟨some 0, [(4, 4), (5, 5), (8000005, 8000005)], ⟨33, [(4, .v (.one (.ptr 4 0))), (5, .v (.one (.ptr 5 0)))], [(4, .cellsG [.i .i64] 14 96), (5, .cells (List.append [.i .i64] (grs 8000005 96))), (8000005, .grp 33 14 true)]⟩⟩], [(200000005, 33, 14)]⟩
abbrev ty3_ : Type := (Int × (Int × ((List TDue) × (Int × (Int × (Int × ((List (List TDue)) × (Nat × ((List (List TDue)) × Unit)))))))))
def rWheelOf_step30_3 : ty3_ -> Tr (ty3_ ⊕ (Int × ((List (List TDue)) × (Int × (Nat × ((List (List TDue)) × Unit)))))) :=
 fun (a0, a1, a2, a3, a4, a5, a6, a7, a8, _) =>
 .ite (decide (a0 < a3)) (
 .grd (decide (0 <= a0)) (
 .opt (a2[Int.toNat a0]?) (fun r0 =>
 .opt ((rListOf_fn (a1, (r0.at', ())))) (fun r1 =>
 .grd (decide (0 <= r1.1 /\ r1.1 < (↑(96 : Nat) : Int))) (
 .grd (decide (Int.toNat r1.1 < a7)) (
 .opt (a8[Int.toNat r1.1]?) (fun r2 =>
 .grd (decide ((r2.length + List.length [TDue.mk r0.id r0.at']) * (16 : Nat) <= (140737488355328 : Nat) /\ r2.length + List.length [TDue.mk r0.id r0.at'] <= (9223372036854775807 : Nat))) (
 .grd (decide (0 <= r1.1 /\ r1.1 < (↑(96 : Nat) : Int))) (
 .grd (decide (Int.toNat r1.1 = Int.toNat r1.1)) (
 .grd (decide (obB (sameN (14 : Nat) (95 : Nat) a6) = (0 : Nat))) (
 .ret (Sum.inl (wW .i64 (a0 + 1), (a1, (a2, (a3, (a4, (a5, (a6, (a7, (List.set a8 (Int.toNat r1.1) (r2 ++ [TDue.mk r0.id r0.at']), ()))))))))))))))))))))) (
 .grd (decide (obB (sameN (14 : Nat) (95 : Nat) a6) = (0 : Nat))) (
 .ret (Sum.inr (a5, (a6, (a4, (a7, (a8, ()))))))))
def rWheelOf_loop30_3 (x : ty3_) : Option (Int × ((List (List TDue)) × (Int × (Nat × ((List (List TDue)) × Unit))))) := loopO 300003 (fun x => (rWheelOf_step30_3 x).eval) 18446744073709551616 x
def rWheelOf_ap : List VP1 := [.one (.i .i64), .one (.st 14 false)]
def rWheelOf_rp : SP := ⟨1, [(0, .v (.aggG [.i .i64] 14 96))], []⟩
def rWheelOf_tree : (Int × ((List TDue) × Unit)) -> Tr (Int × ((List (List TDue)) × Unit)) :=
 fun (a0, a1, _) =>
 .grd (true) (
 .opt ((rWheelOf_loop30_3 (0, (a0, (a1, ((↑(a1.length) : Int), (a0, (0, (List.replicate (96 : Nat) [], ((96 : Nat), (List.replicate (96 : Nat) [], ()))))))))))) (fun r0 =>
 .grd (decide (obB (sameN (14 : Nat) (95 : Nat) r0.2.2.2.2.1) = (0 : Nat))) (
 .ret (r0.2.2.1, (r0.2.2.2.2.1, ())))))
noncomputable def gm12 : List (PF Go.Proofs.Try.prog) := gm11 ++ [FS.pf rAllDue]
theorem rWheelOf_eq (x : (Int × ((List TDue) × Unit))) : fnTr Try.prog cod gm12 [(30, rWheelOf_L30_3)] 30 30 rWheelOf_ap rWheelOf_rp x = rWheelOf_tree x := by kernel_rfl
def rWheelOf_fn (x : (Int × ((List TDue) × Unit))) : Option (Int × ((List (List TDue)) × Unit)) := (rWheelOf_tree x).eval
def rWheelOf : FS Try.prog := ⟨30, rWheelOf_ap, rWheelOf_rp, rWheelOf_fn, fun x r h => fnTr_sound (cod := cod) (Γ := gm12) (Λs := [(30, rWheelOf_L30_3)]) (n := 30) ((congrArg Tr.eval (rWheelOf_eq x)).trans h)⟩
def rRight_L17_2 : LS := ⟨2, [(1000200, 1000200)], ⟨19, [(8, .v (.one (.i .i64))), (0, .v (.one (.st 14 false))), (1, .v (.one (.clp 29 [(1000200, 0)]))), (7, .v (.one (.i .i64)))], [(1000200, .cells [.i .i64, .i .i64])]⟩, [⟨none, [(1000200, 1000200)], ⟨19, [(4, .v (.one (.i .i64)))], [(1000200, .cells [.i .i64, .i .i64])]⟩⟩, ⟨some 0, [(1000200, 1000200)], ⟨19, [], [(1000200, .cells [.i .i64, .i .i64])]⟩⟩], []⟩
def rRight_step17_2 : (Int × ((List TDue) × (Int × (Int × (Int × Unit))))) -> Tr ((Int × ((List TDue) × (Int × (Int × (Int × Unit))))) ⊕ ((Int × (Int × (Int × Unit))) ⊕ (Int × (Int × Unit)))) :=
 fun (a0, a1, a2, a3, a4, _) =>
 .ite (decide (a0 < a2)) (
 .grd (decide (0 <= a0)) (
 .opt (a1[Int.toNat a0]?) (fun r0 =>
 .ite (decide (r0.id = a3)) (
 .ret (Sum.inr (Sum.inl (a0, (a3, (a4, ())))))) (
 .ret (Sum.inl (wW .i64 (a0 + 1), (a1, (a2, (a3, (a4, ())))))))))) (
 .ret (Sum.inr (Sum.inr (a3, (a4, ())))))
def rRight_loop17_2 (x : (Int × ((List TDue) × (Int × (Int × (Int × Unit)))))) : Option ((Int × (Int × (Int × Unit))) ⊕ (Int × (Int × Unit))) := loopO 170002 (fun x => (rRight_step17_2 x).eval) 18446744073709551616 x
def rRight_L14_7 : LS := ⟨7, [(1, 1)], ⟨44, [(17, .v (.one (.i .i64))), (3, .v (.one (.st 14 true))), (1, .v (.one (.ptr 1 0))), (15, .v (.one (.st 14 true))), (16, .v (.one (.i .i64)))], [(1, .cellsG [.i .i64] 14 96)]⟩, [⟨none, [], ⟨44, [(2, .v (.one (.i .i64)))], []⟩⟩, ⟨some 0, [(1, 1)], ⟨44, [(3, .v (.one (.st 14 true))), (1, .v (.one (.ptr 1 0)))], [(1, .cellsG [.i .i64] 14 96)]⟩⟩], []⟩
def rRight_step14_7 : (Int × ((List TDue) × ((List TDue) × (Int × (Int × ((List (List TDue)) × Unit)))))) -> Tr ((Int × ((List TDue) × ((List TDue) × (Int × (Int × ((List (List TDue)) × Unit)))))) ⊕ ((Int × Unit) ⊕ ((List TDue) × (Int × ((List (List TDue)) × Unit))))) :=
 fun (a0, a1, a2, a3, a4, a5, _) =>
 .ite (decide (a0 < a3)) (
 .grd (decide (0 <= a0)) (
 .opt (a2[Int.toNat a0]?) (fun r0 =>
 .opt ((betw_fn (r0.at', (wW .i64 (a4 + 1), (16777215, ()))))) (fun r1 =>
 .ite (!r1.1) (
 .ret (Sum.inr (Sum.inl (4, ())))) (
 .grd (decide ((0 : Int) <= (0 : Int) /\ 0 <= a0 /\ a0 <= (↑(a1.length) : Int))) (
 .opt ((rRight_loop17_2 (0, (List.drop (0 : Nat) (List.take (Int.toNat a0) a1), ((↑(List.length (List.drop (0 : Nat) (List.take (Int.toNat a0) a1))) : Int), (r0.id, (r0.at', ()))))))) (fun r2 =>
 .sum (r2) (fun r3 =>
 .ite (decide (0 <= r3.1)) (
 .ret (Sum.inr (Sum.inl (4, ())))) (
 .grd (decide (obB (sameN (14 : Nat) (95 : Nat) a5) = (0 : Nat))) (
 .ret (Sum.inl (wW .i64 (a0 + 1), (a1, (a2, (a3, (a4, (a5, ())))))))))) (fun r3 =>
 .ite (false) (
 .ret (Sum.inr (Sum.inl (4, ())))) (
 .grd (decide (obB (sameN (14 : Nat) (95 : Nat) a5) = (0 : Nat))) (
 .ret (Sum.inl (wW .i64 (a0 + 1), (a1, (a2, (a3, (a4, (a5, ()))))))))))))))))) (
 .grd (decide (obB (sameN (14 : Nat) (95 : Nat) a5) = (0 : Nat))) (
 .ret (Sum.inr (Sum.inr (a1, (a4, (a5, ())))))))
def rRight_loop14_7 (x : (Int × ((List TDue) × ((List TDue) × (Int × (Int × ((List (List TDue)) × Unit))))))) : Option ((Int × Unit) ⊕ ((List TDue) × (Int × ((List (List TDue)) × Unit)))) := loopO 140007 (fun x => (rRight_step14_7 x).eval) 18446744073709551616 x
def rRight_ap : List VP1 := [.aggG [.i .i64] 14 96]
def rRight_rp : SP := ⟨1, [(0, .v (.one (.i .i64)))], []⟩
def rRight_tree : (Int × ((List (List TDue)) × Unit)) -> Tr (Int × Unit) :=
 fun (a0, a1, _) =>
 .grd (decide (obB (sameN (14 : Nat) (95 : Nat) a1) = (0 : Nat))) (
 .opt ((rAllDue_fn (a0, (a1, ())))) (fun r0 =>
 .ite (decide (500 < (↑(List.length r0.1) : Int))) (
 .ret (2, ())) (
 .opt ((betw_fn (a0, (0, (16777215, ()))))) (fun r1 =>
 .ite (!r1.1) (
 .ret (1, ())) (
 .grd (decide (obB (sameN (14 : Nat) (95 : Nat) a1) = (0 : Nat))) (
 .opt ((rRight_loop14_7 (0, (r0.1, (r0.1, ((↑(List.length r0.1) : Int), (a0, (a1, ())))))))) (fun r2 =>
 .sum (r2) (fun r3 =>
 .ret (r3.1, ())) (fun r3 =>
 .opt ((rWheelOf_fn (r3.2.1, (r3.1, ())))) (fun r4 =>
 .grd (decide (obB (sameN (14 : Nat) (95 : Nat) r3.2.2.1) = (0 : Nat))) (
 .grd (decide (obB (sameN (14 : Nat) (95 : Nat) r4.2.1) = (0 : Nat))) (
 .opt ((rSame_fn (r3.2.1, (r3.2.2.1, (r4.1, (r4.2.1, ())))))) (fun r5 =>
 .ite (!r5.1) (
 .ret (4, ())) (
 .ret (0, ()))))))))))))))
noncomputable def gm13 : List (PF Go.Proofs.Try.prog) := gm12 ++ [FS.pf rWheelOf]
theorem rRight_eq (x : (Int × ((List (List TDue)) × Unit))) : fnTr Try.prog cod gm13 [(17, rRight_L17_2), (14, rRight_L14_7)] 30 14 rRight_ap rRight_rp x = rRight_tree x := by kernel_rfl
def rRight_fn (x : (Int × ((List (List TDue)) × Unit))) : Option (Int × Unit) := (rRight_tree x).eval
def rRight : FS Try.prog := ⟨14, rRight_ap, rRight_rp, rRight_fn, fun x r h => fnTr_sound (cod := cod) (Γ := gm13) (Λs := [(17, rRight_L17_2), (14, rRight_L14_7)]) (n := 30) ((congrArg Tr.eval (rRight_eq x)).trans h)⟩
end Go.Proofs.Ytnhiilbmgkbbaaa.X
namespace Go.Proofs.Ytnhiilbmgkbbaaa.Abs
open Go Go.RowKit
set_option linter.unusedVariables false
set_option linter.unusedSimpArgs false
variable {P : Program} {cod : TypeId -> Nat} {w0 : World} {U0 : Nat -> Prop} {X : Nat -> Nat -> Prop} {β0 β : Nat -> Option Place} {U : Nat -> Prop} {s : St} {a : Act} {w : World}

theorem SimB.newKeyR (h : SimB w0 U0 X β0 β U s a w) {k : Nat} (hk0 : 2000000 <= k) (hk : s.blk k = none) {w' : World} {p : Place} {blk : Blk}
  (hos : w'.os = w.os) (htape : w'.tape = w.tape) (hout : w'.output = w.output) (hsize : w.heap.size <= w'.heap.size)
  (hold : ∀ b, b < w.heap.size -> w'.heap[b]? = w.heap[b]?) (hblock : ∀ b, p.has b -> w.heap.size <= b /\ b < w'.heap.size)
  (hrep : RepB w' (upd β k p) U w0.heap.size p blk) :
  SimB w0 U0 X β0 (upd β k p) U (s.set k blk) a w' /\ (∀ k' p', β k' = some p' -> upd β k p k' = some p') := by
 have hupd := h.updOld hk p
 have hUold : ∀ b, U b -> w'.heap[b]? = w.heap[b]? := fun b hb => hold b (h.stab b hb)
 have hget : ∀ k' p', upd β k p k' = some p' -> (k = k' /\ p' = p) \/ (k ≠ k' /\ β k' = some p') := by
  intro k' p' hp
  by_cases e : k = k'
  . subst e; rw [upd_self] at hp; exact .inl ⟨rfl, by simpa using hp.symm⟩
  . rw [upd_ne β e] at hp; exact .inr ⟨e, hp⟩
 refine ⟨?_, hupd⟩
 exact {
  n := h.n, small := h.small, args := h.args, ver0 := h.ver0, defers := h.defers, glob := h.glob.map (fun _ hb => hb) hUold
  hist := fun k' p' hp hb => by
    have e : k ≠ k' := fun e => by subst e; rw [h.args k (.inr hk0)] at hp; cases hp
    rw [St.blk_set, if_neg e] at hb
    rw [upd_ne β e]
    exact h.hist k' p' hp hb
  env := fun t => (h.env t).map (fun _ hb => hb) hUold (Evo.sub hupd)
  mem := fun k' blk' hk' => by
    rw [St.blk_set] at hk'
    by_cases e : k = k'
    . subst e
      rw [if_pos rfl] at hk'
      obtain rfl : blk = blk' := by simpa using hk'
      exact ⟨p, upd_self _ _ _, hrep⟩
    . rw [if_neg e] at hk'
      obtain ⟨p', hp1, hp2⟩ := h.mem k' blk' hk'
      exact ⟨p', hupd _ _ hp1, hp2.mapBlock (fun _ hb => hb) hUold (Evo.sub hupd) (fun b hb => hold b (h.blockOld hp1 b hb))⟩
  dom := fun k' p' hp => by
    rw [St.blk_set]
    rcases hget k' p' hp with ⟨e, _⟩ | ⟨e, hp'⟩
    . rw [if_pos e]; rfl
    . rw [if_neg e]; exact h.dom k' p' hp'
  apart := fun k' p' b hp hb => by
    rcases hget k' p' hp with ⟨e, rfl⟩ | ⟨e, hp'⟩
    . obtain ⟨q1, q2⟩ := hblock b hb
      exact ⟨fun hu => by have := h.stab _ hu; omega, q2⟩
    . obtain ⟨h1, h2⟩ := h.apart k' p' b hp' hb
      exact ⟨h1, by omega⟩
  inj := fun k1 k2 p1 p2 b1 b2 b j hne hp1 hp2 hb1 hb2 hc1 hc2 => by
    rcases hget k1 p1 hp1 with ⟨e1, rfl⟩ | ⟨e1, hp1'⟩ <;> rcases hget k2 p2 hp2 with ⟨e2, rfl⟩ | ⟨e2, hp2'⟩
    . exact hne (e1.symm.trans e2)
    . have := hblock b (covers_block hc1)
      have := h.blockOld hp2' b (covers_block hc2)
      omega
    . have := hblock b (covers_block hc2)
      have := h.blockOld hp1' b (covers_block hc1)
      omega
    . rw [St.blk_set, if_neg e1] at hb1; rw [St.blk_set, if_neg e2] at hb2
      exact h.inj k1 k2 p1 p2 b1 b2 b j hne hp1' hp2' hb1 hb2 hc1 hc2
  stab := fun b hb => by have := h.stab b hb; omega
  old := h.old, new := h.new
  chg := h.chg.trans ⟨hos, htape, hout, hsize, fun b hb => .inl (hold b (Nat.lt_of_lt_of_le hb h.baseLe))⟩
  may := fun k' p' blk' b j hp hb hc hlt => by
    rcases hget k' p' hp with ⟨e, rfl⟩ | ⟨e, hp'⟩
    . have := hblock b (covers_block hc)
      have := h.baseLe
      omega
    . rw [St.blk_set, if_neg e] at hb
      exact h.may k' p' blk' b j hp' hb hc hlt }

def nilSet (k i : Nat) (vs : List V) : Option (List V) :=
 match Nat.blt i 1000 with
 | true => match vs[i]? with
  | some (.one .nil) => some (vs.set i (.one (.own k 0 0)))
  | _ => none
 | false => match vs[i / 1000 - 1]? with
  | some (.agg cs) => match cs[i % 1000]? with
   | some .nil => some (vs.set (i / 1000 - 1) (.agg (cs.set (i % 1000) (.own k 0 0))))
   | _ => none
  | _ => none
theorem nilSet_rep {base : Nat} {k i : Nat} {vs vs' : List V} (h : nilSet k i vs = some vs') (hk : β k = some (.row (.slice none 0 0) 0)) {u : Value} (hv : RepV w β U base u (.tup vs)) : RepV w β U base u (.tup vs') := by
 have hown : RepC w β U base (.slice none 0 0) (.own k 0 0) := ⟨none, 0, .slice none 0 0, 0, rfl, Nat.le_refl _, fun _ => ⟨rfl, rfl⟩, fun x hx => by (cases hx), hk, Nat.le_refl _, fun _ => rfl⟩
 cases hv with
 | tup us _ hl hr =>
  have key : ∀ (i : Nat) (x0 x : V), vs[i]? = some x0 -> (∀ u, RepV w β U base u x0 -> RepV w β U base u x) -> RepV w β U base (.tuple us.toArray) (.tup (vs.set i x)) := by
    intro i x0 x hi hx
    refine .tup us _ (by simpa using hl) fun j u y hu hy => ?_
    by_cases q : i = j
    . subst q
      have hlt : i < vs.length := (List.getElem?_eq_some_iff.1 hi).1
      rw [List.getElem?_set_self hlt] at hy
      obtain rfl : x = y := by simpa using hy
      exact hx u (hr i u _ hu hi)
    . rw [List.getElem?_set_ne q] at hy
      exact hr j u y hu hy
  unfold nilSet at h
  split at h
  . split at h
    . rename_i hi
      cases h
      refine key i _ _ hi fun u hu => ?_
      have hv : u = .slice none 0 0 := hu.toC
      rw [hv]; exact .one _ _ hown
    . cases h
  . split at h
    . rename_i cs hi
      split at h
      . rename_i hc
        cases h
        refine key _ _ _ hi fun u hu => ?_
        cases hu with
        | agg ws _ hl2 h1 h2 =>
         refine .agg ws _ (by simpa using hl2) h1 fun j v c hv hcc => ?_
         by_cases q : i % 1000 = j
         . subst q
           have hlt := (List.getElem?_eq_some_iff.1 hc).1
           rw [List.getElem?_set_self hlt] at hcc
           obtain rfl : C.own k 0 0 = c := by simpa using hcc
           have : v = .slice none 0 0 := h2 _ v _ hv hc
           rw [this]; exact hown
         . rw [List.getElem?_set_ne q] at hcc
           exact h2 j v c hv hcc
      . cases h
    . cases h
def grpSet (k i n : Nat) (vs : List V) : Option (List V) :=
 match vs[i / 1000 - 1]? with
 | some (.agg cs) => match (cs.drop (i % 1000)).all isNl && Nat.beq (i % 1000 + n) cs.length with
  | true => some (vs.set (i / 1000 - 1) (.agg (cs.take (i % 1000) ++ (List.range n).map fun j => C.gr k 0 j)))
  | false => none
 | _ => none
theorem grpSet_rep {base : Nat} {k i n : Nat} {vs vs' : List V} (h : grpSet k i n vs = some vs') {us0 : List Value} (hk : β k = some (.deep (.agg (List.replicate n nilV).toArray) 0 us0)) {u : Value} (hv : RepV w β U base u (.tup vs)) : RepV w β U base u (.tup vs') := by
 unfold grpSet at h
 split at h
 case h_2 => cases h
 rename_i cs hi
 split at h
 case h_2 => cases h
 rename_i hc
 cases h
 simp only [Bool.and_eq_true] at hc
 obtain ⟨hall, hlt0⟩ := hc
 have hlt0 : i % 1000 + n = cs.length := Nat.eq_of_beq_eq_true hlt0
 generalize i % 1000 = off at *
 cases hv with
 | tup us _ hl hr =>
  refine .tup us _ (by simpa using hl) fun j u y hu hy => ?_
  by_cases q : i / 1000 - 1 = j
  . subst q
    have hlt : i / 1000 - 1 < vs.length := (List.getElem?_eq_some_iff.1 hi).1
    rw [List.getElem?_set_self hlt] at hy
    cases hy
    have hu := hr _ u _ hu hi
    cases hu with
    | agg ws _ hl2 h1 h2 =>
     have ll : (cs.take off).length = off := by rw [List.length_take]; omega
     refine .agg ws _ (by rw [List.length_append, ll, List.length_map, List.length_range, hl2]; omega) h1 fun j v c hv hcc => ?_
     by_cases e : j < off
     . rw [List.getElem?_append_left (by omega), List.getElem?_take, if_pos e] at hcc
       exact h2 j v c hv hcc
     . rw [List.getElem?_append_right (by omega), ll, List.getElem?_map] at hcc
       obtain ⟨j', hj', rfl⟩ := Option.map_eq_some_iff.1 hcc
       have hlt : j - off < n := by have := (List.getElem?_eq_some_iff.1 hj').1; simpa using this
       rw [List.getElem?_range hlt] at hj'
       cases hj'
       have hc2 : cs[j]? = some (cs[j]'(by omega)) := List.getElem?_eq_getElem (by omega)
       have hm : cs[j]'(by omega) ∈ cs.drop off := List.mem_of_getElem? (i := j - off) (by rw [List.getElem?_drop, show off + (j - off) = j by omega]; exact hc2)
       have hnl := List.all_eq_true.1 hall _ hm
       have hrc := h2 j v _ hv hc2
       have hvn : v = nilV := by
        generalize cs[j]'(by omega) = q at hnl hrc
        cases q with
        | nil => exact hrc
        | _ => cases hnl
       subst hvn
       refine ⟨rfl, _, 0, us0, hk, Nat.le_refl _, fun _ => ⟨_, rfl, ?_⟩⟩
       rw [List.getElem?_replicate, if_pos hlt]
  . rw [List.getElem?_set_ne q] at hy
    exact hr j u y hu hy
def ghostR : List (Nat × Nat × TypeId × Nat × Nat) -> St -> St
 | [], s => s
 | (i, k, e, c, n) :: r, s => match s.get 0 with
  | .tup vs => match Nat.beq n 0 with
   | true => match nilSet k i vs, s.blk k, Nat.ble 2000000 k with
    | some vs', none, true => ghostR r { n := s.n, env := [(0, .tup vs')], mem := (k, .rowT 0 e c true true []) :: s.mem }
    | _, _, _ => ghostR r s
   | false => match grpSet k i n vs, s.blk k, Nat.ble 2000000 k with
    | some vs', none, true => ghostR r { n := s.n, env := [(0, .tup vs')], mem := (k, .grp 0 e c n true none (List.replicate n [])) :: s.mem }
    | _, _, _ => ghostR r s
  | _ => ghostR r s
theorem grpRep {k n : Nat} {e : TypeId} {c : Nat} {base : Nat} : RepB w β U base (.deep (.agg (List.replicate n nilV).toArray) 0 (List.replicate n nilV)) (.grp 0 e c n true none (List.replicate n ([] : List (τ c)))) := by
 have hnil : ∀ (j : Nat) (u : Value), (List.replicate n nilV)[j]? = some u -> u = nilV := fun j u hu => (List.mem_replicate.1 (List.mem_of_getElem? hu)).2
 refine ⟨rfl, List.length_replicate, by rw [List.length_replicate]; exact Nat.le_refl _, ⟨fun i j u u' b _ hi _ hb => by rw [hnil _ _ hi] at hb; simp [Value.ownBlock] at hb, fun i u b _ _ hb => by cases hb⟩, _, rfl, by rw [List.length_replicate, List.length_replicate], fun u hu => by rw [(List.mem_replicate.1 hu).2]; rfl, fun i u l hu hl _ => ⟨hu, ?_⟩, fun i l hh => (by cases hh), fun i k' ver' hh => (by cases hh), fun i u l hm hu _ => ?_⟩
 . rw [hnil _ _ hu]
   exact .inl ⟨rfl, (List.mem_replicate.1 (List.mem_of_getElem? hl)).2⟩
 . have := (List.getElem?_eq_some_iff.1 hu).1
   rw [List.length_replicate] at this
   omega
theorem SimB.ghostG (h : SimB w0 U0 X β0 β U s a w) {vs vs' : List V} {i k n : Nat} {e : TypeId} {c : Nat} (ht : s.get 0 = .tup vs) (hi : grpSet k i n vs = some vs') (hk : s.blk k = none) (hk0 : 2000000 <= k) :
   Sim w0 U0 X β0 { n := s.n, env := [(0, .tup vs')], mem := (k, .grp 0 e c n true none (List.replicate n [])) :: s.mem } a w := by
 obtain ⟨h1, h2⟩ := h.newKeyG (w' := w) (p := .deep (.agg (List.replicate n nilV).toArray) 0 (List.replicate n nilV)) (blk := .grp 0 e c n true none (List.replicate n [])) (.inr hk0) hk rfl rfl rfl (Nat.le_refl _) (fun _ _ => rfl) (fun b hb => by
   rcases hb with hb | ⟨u, hu, hb⟩
   . cases hb
   . rw [(List.mem_replicate.1 hu).2] at hb; simp [Value.ownBlock] at hb) (grpRep (k := k))
 refine ⟨_, _, { h1 with env := fun t' => ?_ }⟩
 show RepV w _ U w0.heap.size _ ((look t' [(0, V.tup vs')]).getD (.one .bad))
 rw [look_cons]
 by_cases q : 0 = t'
 . subst q
   rw [if_pos rfl]
   have h3 := h1.env 0
   have h4 : (s.set k (.grp 0 e c n true none (List.replicate n []))).get 0 = .tup vs := ht
   rw [h4] at h3
   exact grpSet_rep hi (upd_self _ _ _) h3
 . rw [if_neg q]; exact .bad _
theorem SimB.ghostR (h : SimB w0 U0 X β0 β U s a w) {vs vs' : List V} {i k : Nat} {e : TypeId} {c : Nat} (ht : s.get 0 = .tup vs) (hi : nilSet k i vs = some vs') (hk : s.blk k = none) (hk0 : 2000000 <= k) :
   Sim w0 U0 X β0 { n := s.n, env := [(0, .tup vs')], mem := (k, .rowT 0 e c true true []) :: s.mem } a w := by
 obtain ⟨h1, h2⟩ := h.newKeyR (w' := w) (p := .row (.slice none 0 0) 0) (blk := .rowT 0 e c true true []) hk0 hk rfl rfl rfl (Nat.le_refl _) (fun _ _ => rfl) (fun b hb => by simp [Place.has, Value.ownBlock] at hb) ⟨rfl, fun r hr => by simp at hr, .inl ⟨rfl, rfl⟩⟩
 refine ⟨_, _, { h1 with env := fun t' => ?_ }⟩
 show RepV w _ U w0.heap.size _ ((look t' [(0, V.tup vs')]).getD (.one .bad))
 rw [look_cons]
 by_cases q : 0 = t'
 . subst q
   rw [if_pos rfl]
   have h3 := h1.env 0
   have h4 : (s.set k (.rowT 0 e c true true [])).get 0 = .tup vs := ht
   rw [h4] at h3
   exact nilSet_rep hi (upd_self _ _ _) h3
 . rw [if_neg q]; exact .bad _
theorem ghostR_fwd : ∀ (gl : List (Nat × Nat × TypeId × Nat × Nat)) (s : St), Fwd s (ghostR gl s)
 | [], s => fun _ _ _ _ _ _ h => h
 | (i, k, e, c, n) :: r, s => by
  unfold Abs.ghostR
  split
  . rename_i vs h0
    split
    . split
      . rename_i h1 h2 h3
        intro w0 U0 X β0 a w hs
        obtain ⟨β, U, hb⟩ := hs
        exact ghostR_fwd r _ _ _ _ _ _ _ (hb.ghostR h0 h1 h2 (Nat.le_of_ble_eq_true h3))
      . exact ghostR_fwd r s
    . split
      . rename_i h1 h2 h3
        intro w0 U0 X β0 a w hs
        obtain ⟨β, U, hb⟩ := hs
        exact ghostR_fwd r _ _ _ _ _ _ _ (hb.ghostG h0 h1 h2 (Nat.le_of_ble_eq_true h3))
      . exact ghostR_fwd r s
  . exact ghostR_fwd r s
theorem ghostR_n : ∀ (gl : List (Nat × Nat × TypeId × Nat × Nat)) (s : St), (ghostR gl s).n = s.n
 | [], s => rfl
 | (i, k, e, c, n) :: r, s => by
  unfold Abs.ghostR
  split
  . split
    . split
      . exact ghostR_n r _
      . exact ghostR_n r s
    . split
      . exact ghostR_n r _
      . exact ghostR_n r s
  . exact ghostR_n r s

variable (P) (cod) (Γ : List (PF P)) (Λs : List (FuncId × LS))
def gnTr (gl : List (Nat × Nat × TypeId × Nat × Nat)) (n : Nat) (f : FuncId) (ap rp : SP) (x : ap.T) : Tr rp.T :=
 match P.funcs[f]? with
 | some fn => match fn.body with
  | some c => match Nat.beq fn.ntmps ap.n && decide (fn.ntmps <= 900) with
   | true => (exec P cod (ownF Γ) (execFn P cod Γ Λs n) (loopsOf f Λs) f c (V × Mem) [] (ap.put x) fun e _ s => execEnd P fn.results.toList (ap.put x).mem e s).bind fun rm =>
    match normGet (rp.mem.map fun p => (p.1, p.1)) rp (ghostR gl ⟨1, [(0, rm.1)], rm.2⟩) with
    | some (g, y) => grdOb (rp.len y) g (.ret y)
    | none => .stuck 993 (ghostR gl ⟨1, [(0, rm.1)], rm.2⟩)
   | false => .fail 24
  | none => .fail 25
 | none => .fail 28
variable {P} {cod} {Γ} {Λs}
theorem normGet_oneS {ks : List (Nat × Nat)} {sp : SP} {s0 : St} {l : Ob} {y : sp.T} (h : normGet ks sp s0 = some (l, y)) (ho : ObOk (sp.len y) l) (h1 : s0.n = 1) : Fwd s0 ⟨1, [(0, (sp.put y).get 0)], (sp.put y).mem⟩ := by
 have hf := normGet_fwd h ho
 have hn : (sp.put y).n = 1 := by
  unfold normGet at h
  split at h
  . rename_i s1 hs1
    have hw := SP.wk h ho
    rw [<- hw.n]
    unfold St.norm at hs1
    split at hs1
    . cases hs1; exact (tidyP_n _ _ _).trans h1
    . cases hs1
  . cases h
 intro w0 U0 X β0 a w hs
 have hs0 := hs
 obtain ⟨β1, U1, h1⟩ := hs0
 obtain ⟨β, U, h4⟩ := hf w0 U0 X β0 a w hs
 refine ⟨β, U, { h4 with n := by rw [h4.n, hn], small := by simp, env := fun t => ?_ }⟩
 have := h4.env t
 show RepV w β U w0.heap.size (a.tmps.getD t undef) ((look t [(0, (sp.put y).get 0)]).getD (.one .bad))
 cases t with
 | zero => exact this
 | succ t => simp [look]; exact .bad _

theorem gn_sound {gl : List (Nat × Nat × TypeId × Nat × Nat)} {Γ : List (PF P)} {Λs : List (FuncId × LS)} {n : Nat} {f : FuncId} {ap rp : SP} {x : ap.T} {r : rp.T} (h : (gnTr P cod Γ Λs gl n f ap rp x).eval = some r)
  {ys : List V} {m : Mem} {g : Ob} (he : entryGet ap ys m = some (g, x)) (hg : ObOk (ap.len x) g) : ACall P f ys m fun r' m' => r' = (rp.put r).get 0 /\ m' = (rp.put r).mem := by
 unfold entryGet at he
 split at he
 case h_2 => cases he
 rename_i hle
 simp only [decide_eq_true_eq] at hle
 unfold gnTr at h
 split at h
 case h_2 => cases h
 rename_i fn hf
 split at h
 case h_2 => cases h
 rename_i c hb
 split at h
 case h_2 => cases h
 rename_i hn
 simp only [Bool.and_eq_true, decide_eq_true_eq] at hn
 obtain ⟨hn1, hn2⟩ := hn
 have hn1 := Nat.eq_of_beq_eq_true hn1
 rw [Tr.eval_bind] at h
 obtain ⟨⟨r0, m0⟩, h1, h2⟩ := Option.bind_eq_some_iff.1 h
 simp only at h2
 split at h2
 case h_2 => cases h2
 rename_i g2 y hy
 obtain ⟨q1, q2⟩ := eval_grdOb h2
 cases q2
 obtain ⟨e, kn', s0', h3, h4, h5⟩ := exec_sound (execFn_sound (cod := cod) (Γ := Γ) (Λs := Λs) n) c KnOk.nil h1
 unfold execEnd at h4
 have h5 := awp_fwdT (tidyE_fwd (P := P) (rs := fn.results.toList) (m := (ap.put x).mem) s0') h5
 generalize tidyE P fn.results.toList (ap.put x).mem s0' = s' at h4 h5
 unfold execEnd0 at h4
 split at h4
 case h_2 => cases h4
 rename_i he'
 split at h4
 case h_2 => cases h4
 rename_i v hv
 split at h4
 case h_2 => cases h4
 rename_i s1 hs1
 split at h4
 case h_2 => cases h4
 rename_i z1 z2 hs2
 cases h4
 have hfw : Fwd ⟨ap.n, argsEnv 0 ys, m⟩ (ap.put x) := normGet_fwd he hg
 have hac : ACall P f ys m fun r' m'' => r' = r0 /\ m'' = s1.mem := by
  refine acall_enter (endKs (ap.put x).mem s'.mem ((trimSt { n := 1, env := [(0, v)], mem := s'.mem }).get 0)) hf hb hn1 rfl (by omega) hle ?_
  have hA : AWp P c (fun e1 s1 => e1 = e /\ s1 = s') ⟨ap.n, argsEnv 0 ys, m⟩ := fun w0 U0 X β0 a w hs => h5 w0 U0 X β0 a w (hfw _ _ _ _ _ _ hs)
  refine awp_mono hA ?_
  rintro e1 s2 ⟨rfl, rfl⟩
  refine ⟨?_, r0, s1.mem, ?_, rfl, rfl⟩
  . cases e1 <;> first | exact .inl rfl | exact .inr rfl | cases he'
  . simp only [hv]
    have hs3 := hs1
    unfold St.norm at hs3
    split at hs3
    . cases hs3
      simp only [List.map_cons, List.map_nil] at hs2 ⊢
      cases hs2
      rw [hs1, trimSt_n]; rfl
    . cases hs3
 refine acall_mono hac ?_
 rintro r' m' ⟨rfl, rfl⟩
 exact ⟨_, _, ⟨rfl, rfl⟩, (ghostR_fwd gl _).trans (normGet_oneS hy q1 (ghostR_n gl _))⟩

end Go.Proofs.Ytnhiilbmgkbbaaa.Abs
namespace Go.Proofs.Ytnhiilbmgkbbaaa.X
open Go Go.RowKit Go.Proofs.Ytnhiilbmgkbbaaa.Abs
open Go.IntKind renaming wrap -> wW
set_option maxRecDepth 100000
set_option linter.unusedVariables false
def wLives_L10_4 : LS := ⟨4, [], ⟨26, [(13, .v (.one (.i .i64))), (1, .v (.one (.st 14 false))), (0, .v (.one (.st 14 false))), (12, .v (.one (.i .i64)))], []⟩, [⟨none, [], ⟨26, [(4, .v (.one (.b)))], []⟩⟩, ⟨some 0, [], ⟨26, [], []⟩⟩], []⟩
def wLives_step10_4 : (Int × ((List TDue) × ((List TDue) × (Int × Unit)))) -> Tr ((Int × ((List TDue) × ((List TDue) × (Int × Unit)))) ⊕ ((Bool × Unit) ⊕ Unit)) :=
 fun (a0, a1, a2, a3, _) =>
 .ite (decide (a0 < a3)) (
 .grd (decide (0 <= a0)) (
 .opt (a2[Int.toNat a0]?) (fun r0 =>
 .grd (decide (0 <= a0)) (
 .opt (a1[Int.toNat a0]?) (fun r1 =>
 .ite (!(decide (r0.id = r1.id) && (decide (r0.at' = r1.at') && true))) (
 .ret (Sum.inr (Sum.inl (false, ())))) (
 .ret (Sum.inl (wW .i64 (a0 + 1), (a1, (a2, (a3, ()))))))))))) (
 .ret (Sum.inr (Sum.inr ())))
def wLives_loop10_4 (x : (Int × ((List TDue) × ((List TDue) × (Int × Unit))))) : Option ((Bool × Unit) ⊕ Unit) := loopO 100004 (fun x => (wLives_step10_4 x).eval) 18446744073709551616 x
def wLives_ap : List VP1 := []
def wLives_rp : SP := ⟨1, [(0, .v (.one (.b)))], []⟩
def wLives_tree : Unit -> Tr (Bool × Unit) :=
 fun (_) =>
 .grd (true) (
 .opt ((wSet_fn (14, (List.replicate (96 : Nat) [], (7, (17, ())))))) (fun r0 =>
 .grd (decide (obB (sameN (14 : Nat) (95 : Nat) r0.2.1) = (0 : Nat))) (
 .opt ((wTick_fn (r0.1, (r0.2.1, (5, ()))))) (fun r1 =>
 .ite (decide (r0.2.2.1 = 0)) (
 .ite (decide (r1.2.2.2.1 = 0)) (
 .ite (decide (r1.1 = 19)) (
 .ite (!decide ((↑(List.length r1.2.2.1) : Int) = (↑(List.length [TDue.mk (7 : Int) (17 : Int)]) : Int))) (
 .ret (false, ())) (
 .opt ((wLives_loop10_4 (0, ([TDue.mk (7 : Int) (17 : Int)], (r1.2.2.1, ((↑(List.length r1.2.2.1) : Int), ())))))) (fun r2 =>
 .sum (r2) (fun r3 =>
 .ret (r3.1, ())) (fun r3 =>
 .ret (true, ()))))) (
 .ret (false, ()))) (
 .ret (false, ()))) (
 .ret (false, ()))))))
noncomputable def gm14 : List (PF Go.Proofs.Try.prog) := gm13 ++ [FS.pf rRight]
theorem wLives_eq (x : Unit) : fnTr Try.prog cod gm14 [(10, wLives_L10_4)] 30 8 wLives_ap wLives_rp x = wLives_tree x := by kernel_rfl
def wLives_fn (x : Unit) : Option (Bool × Unit) := (wLives_tree x).eval
def wLives : FS Try.prog := ⟨8, wLives_ap, wLives_rp, wLives_fn, fun x r h => fnTr_sound (cod := cod) (Γ := gm14) (Λs := [(10, wLives_L10_4)]) (n := 30) ((congrArg Tr.eval (wLives_eq x)).trans h)⟩
def wSetO_ap : SP := ⟨46, [(0, .v (.aggG [.i .i64] 14 96)), (1, .v (.one (.i .i64))), (2, .v (.one (.i .i64)))], []⟩
def wSetO_rp : SP := ⟨1, [(0, .tup [.agg (List.append [.i .i64] (grs 2000000 96)), .one (.i .i64)])], [(2000000, .grp 33 14 true)]⟩
def wSetO_tree : (Int × ((List (List TDue)) × (Int × (Int × Unit)))) -> Tr (Int × (Int × (Nat × ((List (List TDue)) × Unit)))) :=
 fun (a0, a1, a2, a3, _) =>
 .grd (decide (obB (sameN (14 : Nat) (95 : Nat) a1) = (0 : Nat))) (
 .opt ((wCheck_fn (a0, (a1, ())))) (fun r0 =>
 .ite (!decide (r0.1 = 0)) (
 .ret (0, (r0.1, ((96 : Nat), (List.replicate (96 : Nat) [], ()))))) (
 .ite (decide (a3 <= a0)) (
 .ret (0, (1, ((96 : Nat), (List.replicate (96 : Nat) [], ()))))) (
 .ite (decide (16777216 <= a3)) (
 .ret (0, (1, ((96 : Nat), (List.replicate (96 : Nat) [], ()))))) (
 .grd (decide (obB (sameN (14 : Nat) (95 : Nat) a1) = (0 : Nat))) (
 .opt ((wFind_fn (a0, (a1, (a2, ()))))) (fun r1 =>
 .ite (decide (0 <= r1.1)) (
 .ret (0, (8, ((96 : Nat), (List.replicate (96 : Nat) [], ()))))) (
 .grd (decide (obB (sameN (14 : Nat) (95 : Nat) a1) = (0 : Nat))) (
 .opt ((wCount_fn (a0, (a1, ())))) (fun r2 =>
 .ite (decide (r2.1 = 500)) (
 .ret (0, (6, ((96 : Nat), (List.replicate (96 : Nat) [], ()))))) (
 .grd (decide (obB (sameN (14 : Nat) (95 : Nat) a1) = (0 : Nat))) (
 .opt ((wOwn_fn (a0, (a1, ())))) (fun r3 =>
 .opt ((wPut_fn (a2, (a3, (r3.1, (r3.2.1, (r3.2.2.1, ()))))))) (fun r4 =>
 .ret (r4.1, (0, (r4.2.1, (r4.2.2.1, ()))))))))))))))))))
noncomputable def gm15 : List (PF Go.Proofs.Try.prog) := gm14 ++ [FS.pf wLives]
theorem wSetO_eq (x : (Int × ((List (List TDue)) × (Int × (Int × Unit))))) : gnTr Try.prog cod gm15 [] [(1001, 2000000, 33, 14, 96)] 30 12 wSetO_ap wSetO_rp x = wSetO_tree x := by kernel_rfl
def wSetO_fn (x : (Int × ((List (List TDue)) × (Int × (Int × Unit))))) : Option (Int × (Int × (Nat × ((List (List TDue)) × Unit)))) := (wSetO_tree x).eval
def wSetO : GS Try.prog := ⟨12, [0, 0, 0], wSetO_ap, wSetO_rp, wSetO_fn, fun x r h ys m g he hg => gn_sound (cod := cod) (Γ := gm15) (Λs := []) (n := 30) ((congrArg Tr.eval (wSetO_eq x)).trans h) he hg⟩
def wStopO_ap : SP := ⟨38, [(0, .v (.aggG [.i .i64] 14 96)), (1, .v (.one (.i .i64)))], []⟩
def wStopO_rp : SP := ⟨1, [(0, .tup [.agg (List.append [.i .i64] (grs 2000000 96)), .one (.i .i64)])], [(2000000, .grp 33 14 true)]⟩
def wStopO_tree : (Int × ((List (List TDue)) × (Int × Unit))) -> Tr (Int × (Int × (Nat × ((List (List TDue)) × Unit)))) :=
 fun (a0, a1, a2, _) =>
 .grd (decide (obB (sameN (14 : Nat) (95 : Nat) a1) = (0 : Nat))) (
 .opt ((wCheck_fn (a0, (a1, ())))) (fun r0 =>
 .ite (!decide (r0.1 = 0)) (
 .ret (0, (r0.1, ((96 : Nat), (List.replicate (96 : Nat) [], ()))))) (
 .grd (decide (obB (sameN (14 : Nat) (95 : Nat) a1) = (0 : Nat))) (
 .opt ((wFind_fn (a0, (a1, (a2, ()))))) (fun r1 =>
 .ite (decide (r1.1 < 0)) (
 .ret (0, (7, ((96 : Nat), (List.replicate (96 : Nat) [], ()))))) (
 .grd (decide (obB (sameN (14 : Nat) (95 : Nat) a1) = (0 : Nat))) (
 .opt ((wOwn_fn (a0, (a1, ())))) (fun r2 =>
 .grd (decide (0 <= r1.1 /\ r1.1 < (↑(96 : Nat) : Int))) (
 .grd (decide (Int.toNat r1.1 < r2.2.1)) (
 .opt (r2.2.2.1[Int.toNat r1.1]?) (fun r3 =>
 .grd (decide (r3.length = r3.length)) (
 .opt ((delDue_fn (r1.2.1, (wW .i64 (r1.2.1 + 1), (r3, ()))))) (fun r4 =>
 .grd (decide (0 <= r1.1 /\ r1.1 < (↑(96 : Nat) : Int))) (
 .grd (decide (Int.toNat r1.1 = Int.toNat r1.1)) (
 .ret (r2.1, (0, (r2.2.1, (List.set r2.2.2.1 (Int.toNat r1.1) r4.1, ())))))))))))))))))))
noncomputable def gm16 : List (PF Go.Proofs.Try.prog) := gm15 ++ [GS.pf wSetO]
theorem wStopO_eq (x : (Int × ((List (List TDue)) × (Int × Unit)))) : gnTr Try.prog cod gm16 [] [(1001, 2000000, 33, 14, 96)] 30 13 wStopO_ap wStopO_rp x = wStopO_tree x := by kernel_rfl
def wStopO_fn (x : (Int × ((List (List TDue)) × (Int × Unit)))) : Option (Int × (Int × (Nat × ((List (List TDue)) × Unit)))) := (wStopO_tree x).eval
def wStopO : GS Try.prog := ⟨13, [0, 0], wStopO_ap, wStopO_rp, wStopO_fn, fun x r h ys m g he hg => gn_sound (cod := cod) (Γ := gm16) (Λs := []) (n := 30) ((congrArg Tr.eval (wStopO_eq x)).trans h) he hg⟩
def wTickO_L7_9 : LS := ⟨9, [(2, 2), (8, 8), (4, 4), (31000, 31000)], ⟨40, [(32, .v (.one (.i .i64))), (2, .v (.one (.ptr 2 0))), (8, .v (.one (.own 8))), (4, .v (.one (.ptr 4 0))), (31, .v (.one (.i .i64)))], [(2, .cells (List.append [.i .i64] (grs 31000 96))), (8, .row 33 14 true true), (4, .cellsG [.i .i64] 14 96), (31000, .grp 33 14 true)]⟩, [⟨some 0, [(4, 4), (8, 8), (2, 2), (31000, 31000)], ⟨40, [(4, .v (.one (.ptr 4 0))), (8, .v (.one (.own 8))), (2, .v (.one (.ptr 2 0)))], [(4, .cellsG [.i .i64] 14 96), (8, .row 33 14 true true), (2, .cells (List.append [.i .i64] (grs 31000 96))), (31000, .grp 33 14 true)]⟩⟩], [(8, 33, 14)]⟩
def wTickO_step7_9 : ty2_ -> Tr (ty2_ ⊕ (Int × ((List (List TDue)) × ((List TDue) × (Int × (Nat × ((List (List TDue)) × Unit))))))) :=
 fun (a0, a1, a2, a3, a4, a5, a6, a7, _) =>
 .ite (decide (a0 < a1)) (
 .opt ((wTurn_fn (a2, (a6, (a7, ()))))) (fun r0 =>
 .grd (decide ((a3.length + List.length r0.2.2.2.1) * (16 : Nat) <= (140737488355328 : Nat) /\ a3.length + List.length r0.2.2.2.1 <= (9223372036854775807 : Nat))) (
 .grd (decide (List.length (a3 ++ r0.2.2.2.1) = List.length (a3 ++ r0.2.2.2.1))) (
 .grd (decide (obB (sameN (14 : Nat) (95 : Nat) a5) = (0 : Nat))) (
 .ret (Sum.inl (wW .i64 (a0 + 1), (a1, (r0.1, (a3 ++ r0.2.2.2.1, (a4, (a5, (r0.2.1, (r0.2.2.1, ())))))))))))))) (
 .grd (decide (a3.length = a3.length)) (
 .grd (decide (obB (sameN (14 : Nat) (95 : Nat) a5) = (0 : Nat))) (
 .ret (Sum.inr (a4, (a5, (a3, (a2, (a6, (a7, ()))))))))))
def wTickO_loop7_9 (x : ty2_) : Option (Int × ((List (List TDue)) × ((List TDue) × (Int × (Nat × ((List (List TDue)) × Unit)))))) := loopO 70009 (fun x => (wTickO_step7_9 x).eval) 18446744073709551616 x
def wTickO_ap : SP := ⟨40, [(0, .v (.aggG [.i .i64] 14 96)), (1, .v (.one (.i .i64)))], []⟩
def wTickO_rp : SP := ⟨1, [(0, .tup [.agg (List.append [.i .i64] (grs 2000000 96)), .one (.own 2000001), .one (.i .i64)])], [(2000000, .grp 33 14 true), (2000001, .row 33 14 true true)]⟩
def wTickO_tree : (Int × ((List (List TDue)) × (Int × Unit))) -> Tr (Int × (Int × (Nat × ((List (List TDue)) × ((List TDue) × Unit))))) :=
 fun (a0, a1, a2, _) =>
 .grd (decide (obB (sameN (14 : Nat) (95 : Nat) a1) = (0 : Nat))) (
 .opt ((wCheck_fn (a0, (a1, ())))) (fun r0 =>
 .ite (!decide (r0.1 = 0)) (
 .grd (true) (
 .ret (0, (r0.1, ((96 : Nat), (List.replicate (96 : Nat) [], ([], ()))))))) (
 .ite (decide (a2 < 0)) (
 .grd (true) (
 .ret (0, (1, ((96 : Nat), (List.replicate (96 : Nat) [], ([], ()))))))) (
 .ite (decide (10000 < a2)) (
 .grd (true) (
 .ret (0, (1, ((96 : Nat), (List.replicate (96 : Nat) [], ([], ()))))))) (
 .ite (decide (16777216 <= wW .i64 (a0 + a2))) (
 .grd (true) (
 .ret (0, (1, ((96 : Nat), (List.replicate (96 : Nat) [], ([], ()))))))) (
 .grd (decide (obB (sameN (14 : Nat) (95 : Nat) a1) = (0 : Nat))) (
 .opt ((wOwn_fn (a0, (a1, ())))) (fun r1 =>
 .grd (true) (
 .grd (true) (
 .opt ((wTickO_loop7_9 (0, (a2, (r1.1, ([], (0, (List.replicate (96 : Nat) [], (r1.2.1, (r1.2.2.1, ())))))))))) (fun r2 =>
 .grd (decide (List.length r2.2.2.fst = List.length r2.2.2.1)) (
 .ret (r2.2.2.2.1, (0, (r2.2.2.2.2.1, (r2.2.2.2.2.2.1, (r2.2.2.1, ())))))))))))))))))
noncomputable def gm17 : List (PF Go.Proofs.Try.prog) := gm16 ++ [GS.pf wStopO]
theorem wTickO_eq (x : (Int × ((List (List TDue)) × (Int × Unit)))) : gnTr Try.prog cod gm17 [(7, wTickO_L7_9)] [(1001, 2000000, 33, 14, 96), (1, 2000001, 33, 14, 0)] 30 7 wTickO_ap wTickO_rp x = wTickO_tree x := by kernel_rfl
def wTickO_fn (x : (Int × ((List (List TDue)) × (Int × Unit)))) : Option (Int × (Int × (Nat × ((List (List TDue)) × ((List TDue) × Unit))))) := (wTickO_tree x).eval
def wTickO : GS Try.prog := ⟨7, [0, 0], wTickO_ap, wTickO_rp, wTickO_fn, fun x r h ys m g he hg => gn_sound (cod := cod) (Γ := gm17) (Λs := [(7, wTickO_L7_9)]) (n := 30) ((congrArg Tr.eval (wTickO_eq x)).trans h) he hg⟩
end Go.Proofs.Ytnhiilbmgkbbaaa.X
namespace Go.Proofs.Ytnhiilbmgkbbaaa.Abs
open Go Go.RowKit
set_option linter.unusedVariables false
set_option linter.unusedSimpArgs false
def AllP (k : Nat -> Tr Prop) : Prop := ∀ n, n <= 9223372036854775807 -> ∃ p, (k n).eval = some p /\ p
def AllY (c : Nat) (n : Nat) (k : List (τ c) -> Tr Prop) : Prop := ∀ ys : List (τ c), ys.length = n -> ∃ p, (k ys).eval = some p /\ p
def AllL (n : Nat) (k : List (Nat × Nat) -> Tr Prop) : Prop := ∀ ls : List (Nat × Nat), ls.length = n -> (∀ l ∈ ls, l.1 <= l.2 /\ l.2 <= 9223372036854775807) -> ∃ p, (k ls).eval = some p /\ p
def dpAt (s : St) (t : Nat) : Option Nat := match s.get t with
 | .one (.dp k _ _ _) => some k
 | _ => none
def grpOf : List C -> Option Nat
 | [] => none
 | .gr k _ _ :: _ => some k
 | _ :: r => grpOf r
def gpAt (s : St) (t : Nat) : Option Nat := match s.get t with
 | .one (.ptr b _) => match s.blk b with
  | some (.cells cs) => grpOf cs
  | _ => none
 | .agg cs => grpOf cs
 | _ => none
def opOk (e c : Nat) : Bool := match spIn e sps with
 | none => true
 | some c' => Nat.beq c c' && flatT c
def Holds (T : Tr Prop) : Prop := ∃ p, T.eval = some p /\ p
def findO (id : Nat) : List (Nat × Nat) -> Option Nat
 | [] => none
 | (i, t) :: r => match Nat.beq i id with | true => some t | false => findO id r
def ownAt (s : St) (t : Nat) : Option Nat :=
 match t / 100000 with
 | 0 => match s.get t with
  | .one (.own k _ _) => some k
  | _ => none
 | j + 1 => match s.get (t % 100000) with
  | .one (.ptr b 0) => match s.blk b with
   | some (.cells cs) => match cs[j]? with
    | some (.own k _ _) => some k
    | _ => none
   | _ => none
  | .agg cs => match cs[j]? with
   | some (.own k _ _) => some k
   | _ => none
  | _ => none
def iterJ : Nat -> (Nat -> (Kn -> St -> Tr Prop) -> Kn -> St -> Tr Prop) -> Kn -> St -> Tr Prop
 | 0, _, _, _ => .fail 14
 | n + 1, F, kn, s => F n (iterJ n F) kn s
section
variable (P : Program) (cod : TypeId -> Nat) (own : FuncId -> List Nat) (call : FuncId -> List V -> Mem -> Tr (V × Mem)) (Λs : List (FuncId × LS)) (fi : Nat) (opn : List (Nat × Nat)) (un : List Nat)
def execJ : Code -> Nat -> Kn -> St -> (Exit -> Kn -> St -> Tr Prop) -> Tr Prop
 | .seq a b, v, kn, s, K => execJ a v kn s fun e kn' s' => match e with
  | .normal => execJ b v kn' s' K
  | e => K e kn' s'
 | .block id body, v, kn, s, K => execJ body v kn s fun e kn' s' => match e with
  | .exit id' => match Nat.beq id' id with
   | true => K .normal kn' s'
   | false => K (.exit id') kn' s'
  | e => K e kn' s'
 | .loop body, v, kn, s, K => match un.contains (lid body) with
  | true => iterJ 8 (fun n again kn s => execJ body (8 - n) kn s fun e kn' s' => match e with
    | .normal => (match trimR body s' with | some s2 => again [] s2 | none => .fail 16)
    | e => K e kn' s') kn s
  | false => match findO (500000 + lid body) opn with
   | none => exec P cod own call (loopsOf (fi + 1000 * v) Λs) (fi + 1000 * v) (.loop body) Prop kn s K
   | some t => match ownAt s t with
    | some k => match s.blk k with
     | some (.junk ver e sz len N) => match spIn e sps with
      | some c => match Nat.beq sz (esz c) with
       | true => .grd (decide (len = N)) (.ret (AllY c N fun ys => exec P cod own call (loopsOf (fi + 1000 * v) Λs) (fi + 1000 * v) (.loop body) Prop kn (s.set k (.rowT ver e c false false ys)) K))
       | false => .fail 55
      | none => .fail 54
     | _ => .fail 53
    | none => .fail 50
 | .region id ops draw, v, kn, s, K => match findO id opn with
  | none => exec P cod own call (loopsOf (fi + 1000 * v) Λs) (fi + 1000 * v) (.region id ops draw) Prop kn s K
  | some t => match ownAt s t with
   | some k => match s.blk k with
    | some (.rowT ver e c true fr xs) => match opOk e c with
     | true => .ret (AllP fun N => exec P cod own call (loopsOf (fi + 1000 * v) Λs) (fi + 1000 * v) (.region id ops draw) Prop kn (s.set k (.junk ver e (esz c) xs.length N)) K)
     | false => .fail 52
    | _ => .fail 51
   | none => match dpAt s t with
    | some k => match s.blk k with
     | some (.deep ver e ei c none xs) => match opOk ei (dIn c) with
      | true => .ret (AllL xs.length fun ls => exec P cod own call (loopsOf (fi + 1000 * v) Λs) (fi + 1000 * v) (.region id ops draw) Prop kn (s.set k (.jd ver e ei (esz c) (dIc c) (esz (dIn c)) none none ls)) K)
      | false => .fail 52
     | some (.jd ver e ei sz ic szi none none ls) => match noSp e && !Nat.beq e ei with
      | true => .ret (AllP fun N => exec P cod own call (loopsOf (fi + 1000 * v) Λs) (fi + 1000 * v) (.region id ops draw) Prop kn (s.set k (.jd ver e ei sz ic szi (some (ls.length, N)) none [])) K)
      | false => .fail 56
     | _ => .fail 57
    | none => match gpAt s t with
     | some k => match s.blk k with
      | some (.grp ver ei c m _ none L) => match opOk ei c with
       | true => .grd (decide (m = L.length)) (.ret (AllL L.length fun ls => exec P cod own call (loopsOf (fi + 1000 * v) Λs) (fi + 1000 * v) (.region id ops draw) Prop kn (s.set k (.jd ver ei ei 1 0 (esz c) none none ls)) K))
       | false => .fail 58
      | _ => .fail 59
     | none => .fail 50
 | c, v, kn, s, K => exec P cod own call (loopsOf (fi + 1000 * v) Λs) (fi + 1000 * v) c Prop kn s K
end
variable {P : Program} {cod : TypeId -> Nat} {own : FuncId -> List Nat} {call : FuncId -> List V -> Mem -> Tr (V × Mem)} {Λs : List (FuncId × LS)} {fi : Nat} {opn : List (Nat × Nat)} {un : List Nat}
theorem RepI.ofFlat {w w' : World} {U U' : Nat -> Prop} {v : Value} {d : D} (h : RepI w U v d) (hf : d.flat = true) : RepI w' U' v d := by
 cases h with
 | i k n => exact .i k n
 | b x => exact .b x
 | s l => exact .s l
 | z v h1 => exact .z _ h1
 | nil => simp [D.flat] at hf
 | sl => simp [D.flat] at hf
 | st => simp [D.flat] at hf
 | tn => simp [D.flat] at hf
 | tr => simp [D.flat] at hf
theorem SimB.opened {w0 : World} {U0 : Nat -> Prop} {X : Nat -> Nat -> Prop} {β0 β : Nat -> Option Place} {U : Nat -> Prop} {s : St} {a : Act} {w : World} (h : SimB w0 U0 X β0 β U s a w) {k ver : Nat} {e : TypeId} {c : Nat} {fr : Bool} {xs : List (τ c)}
  (hb : s.blk k = some (.rowT ver e c true fr xs)) (hok : opOk e c = true) : ∃ N, N <= 9223372036854775807 /\ Sim w0 U0 X β0 (s.set k (.junk ver e (esz c) xs.length N)) a w := by
 obtain ⟨p, hp, hr⟩ := h.mem k _ hb
 cases p with
 | cells => exact hr.elim
 | deep => exact hr.elim
 | row v ver0 =>
  obtain ⟨rfl, q2, q3⟩ := hr
  have key : ∀ N, RepB w (upd β k (.row v ver)) U w0.heap.size (.row v ver) (.junk ver e (esz c) xs.length N) -> Sim w0 U0 X β0 (s.set k (.junk ver e (esz c) xs.length N)) a w := fun N hr =>
    ⟨_, _, h.repl (w' := w) (p' := .row v ver) (blk' := .junk ver e (esz c) xs.length N) hp hb rfl rfl rfl (Nat.le_refl _) (fun _ _ _ => rfl) (fun _ _ _ _ => ⟨rfl, rfl⟩) (fun _ _ _ => .inl rfl) (.inl rfl) (fun _ hb => .inl hb) (fun _ _ hc => .inl hc) hr⟩
  rcases q3 with ⟨e1, e2⟩ | ⟨g, cap, cur, fz, e1, hg, h3, h4, h5, h6, h7, h8⟩
  . have hx : xs.length = 0 := by simpa using congrArg List.length e2
    exact ⟨0, by omega, key 0 ⟨rfl, .inl ⟨e1, hx, rfl⟩⟩⟩
  . obtain ⟨hfz, hsp⟩ := h6 rfl
    rw [hfz] at hg
    rw [List.length_map] at hsp
    rw [List.length_map] at e1 h3
    refine ⟨cap, h4, key cap ⟨rfl, .inr ⟨g, cur, e1, h3, hg, h5, h4, ⟨fun c' hc' => ?_, hsp.2⟩⟩⟩⟩
    unfold opOk at hok
    rw [hc'] at hok
    simp only [Bool.and_eq_true] at hok
    obtain ⟨hcc, hfl⟩ := hok
    obtain rfl := Nat.eq_of_beq_eq_true hcc
    obtain ⟨ys, k1, k2⟩ := hsp.1 c hc'
    refine ⟨xs ++ ys, by rw [List.length_append]; omega, fun i j y d hy hd => ?_⟩
    rw [Nat.zero_add]
    by_cases hlt : i < xs.length
    . rw [List.getElem?_append_left hlt] at hy
      obtain ⟨u, q1, q2, q3⟩ := h8 i j (enc c y) d (show (xs.map (enc c))[i]? = some (enc c y) by rw [List.getElem?_map, hy]; rfl) hd
      have hflat : d.flat = true := List.all_eq_true.1 (flatT_all c y hfl) d (List.mem_of_getElem? hd)
      exact ⟨u, q1, q2, fun w' U' => RepI.ofFlat (w' := w') (U' := U') q3 hflat⟩
    . rw [List.getElem?_append_right (by omega)] at hy
      obtain ⟨u, q1, q2, q3⟩ := k2 (i - xs.length) j y d hy hd
      rw [show xs.length + (i - xs.length) = i by omega] at q1
      exact ⟨u, q1, q2, q3⟩
theorem SimB.shown {w0 : World} {U0 : Nat -> Prop} {X : Nat -> Nat -> Prop} {β0 β : Nat -> Option Place} {U : Nat -> Prop} {s : St} {a : Act} {w : World} (h : SimB w0 U0 X β0 β U s a w) {k ver : Nat} {e : TypeId} {c N : Nat}
  (hb : s.blk k = some (.junk ver e (esz c) N N)) (hc : spIn e sps = some c) : ∃ ys : List (τ c), ys.length = N /\ Sim w0 U0 X β0 (s.set k (.rowT ver e c false false ys)) a w := by
 obtain ⟨p, hp, hr⟩ := h.mem k _ hb
 cases p with
 | cells => exact hr.elim
 | deep => exact hr.elim
 | row v ver0 =>
  obtain ⟨rfl, q3⟩ := hr
  have key : ∀ ys : List (τ c), RepB w (upd β k (.row v ver)) U w0.heap.size (.row v ver) (.rowT ver e c false false ys) -> Sim w0 U0 X β0 (s.set k (.rowT ver e c false false ys)) a w := fun ys hr =>
    ⟨_, _, h.repl (w' := w) (p' := .row v ver) (blk' := .rowT ver e c false false ys) hp hb rfl rfl rfl (Nat.le_refl _) (fun _ _ _ => rfl) (fun _ _ _ _ => ⟨rfl, rfl⟩) (fun _ _ _ => .inl rfl) (.inl rfl) (fun _ hb => .inl hb) (fun _ _ hc => .inl hc) hr⟩
  rcases q3 with ⟨e1, _, e2⟩ | ⟨g, cur, e1, h3, hg, h5, hcap, hsp⟩
  . subst e2
    exact ⟨[], rfl, key [] ⟨rfl, fun r hr => by simp at hr, .inl ⟨e1, rfl⟩⟩⟩
  . obtain ⟨ys, k1, k2⟩ := hsp.1 c hc
    rw [Nat.zero_add] at k1
    subst k1
    refine ⟨ys, rfl, key ys ⟨rfl, fun r hr => by obtain ⟨t, _, rfl⟩ := List.mem_map.1 hr; exact enc_len c t, .inr ⟨g, ys.length, cur, (0, 0), by rw [List.length_map]; exact e1, hg, by rw [List.length_map]; exact Nat.le_refl _, hcap, h5, fun hh => (by cases hh), fun i _ => by simp [World.frozen?, hg], fun i j r d hi hj => ?_⟩⟩⟩
    rw [List.getElem?_map, Option.map_eq_some_iff] at hi
    obtain ⟨y, hy, rfl⟩ := hi
    obtain ⟨u, q1, q2, q3⟩ := k2 i j y d hy hj
    rw [Nat.zero_add] at q1
    exact ⟨u, q1, q2, q3 _ _⟩
theorem exists_ls {α : Type} {Q : Nat -> α -> Prop} : ∀ (n : Nat), (∀ i, i < n -> ∃ l, Q i l) -> ∃ ls : List α, ls.length = n /\ ∀ (i : Nat) (l : α), ls[i]? = some l -> Q i l
 | 0, _ => ⟨[], rfl, fun i l h => by simp at h⟩
 | n + 1, h => by
  obtain ⟨ls, h1, h2⟩ := exists_ls n fun i hi => h i (by omega)
  obtain ⟨x, hx⟩ := h n (Nat.lt_succ_self _)
  refine ⟨ls ++ [x], by simp [h1], fun i l hl => ?_⟩
  rcases Nat.lt_or_ge i n with hlt | hge
  . rw [List.getElem?_append_left (by omega)] at hl; exact h2 i l hl
  . rw [List.getElem?_append_right (by omega)] at hl
    have : i = n := by have := (List.getElem?_eq_some_iff.1 hl).1; simp at this; omega
    subst this
    rw [h1, Nat.sub_self] at hl
    cases hl; exact hx
theorem Inner.loose {w : World} {e : TypeId} {c : Nat} {u : Value} {ys : List (τ c)} (h : Inner w e c u ys) (hok : opOk e c = true) : ∃ N, ys.length <= N /\ N <= 9223372036854775807 /\ Loose w e (esz c) u ys.length N := by
 rcases h with ⟨rfl, rfl⟩ | ⟨g, cap, cur, rfl, h1, h2, h3, h4, hsp, h5⟩
 . exact ⟨0, Nat.le_refl _, by omega, .inl ⟨rfl, rfl, rfl⟩⟩
 . refine ⟨cap, h2, h3, .inr ⟨g, cur, rfl, h2, h1, h4, h3, ⟨fun c' hc' => ?_, hsp.2⟩⟩⟩
   unfold opOk at hok
   rw [hc'] at hok
   simp only [Bool.and_eq_true] at hok
   obtain ⟨hcc, hfl⟩ := hok
   obtain rfl := Nat.eq_of_beq_eq_true hcc
   obtain ⟨zs, k1, k2⟩ := hsp.1 c hc'
   refine ⟨ys ++ zs, by rw [List.length_append]; omega, fun i j y d hy hd => ?_⟩
   rw [Nat.zero_add]
   by_cases hlt : i < ys.length
   . rw [List.getElem?_append_left hlt] at hy
     obtain ⟨u, q1, q2, q3⟩ := h5 i j y d hy hd
     have hflat : d.flat = true := List.all_eq_true.1 (flatT_all c y hfl) d (List.mem_of_getElem? hd)
     exact ⟨u, q1, q2, fun w' U' => RepI.ofFlat (w' := w') (U' := U') q3 hflat⟩
   . rw [List.getElem?_append_right (by omega)] at hy
     obtain ⟨u, q1, q2, q3⟩ := k2 (i - ys.length) j y d hy hd
     rw [show ys.length + (i - ys.length) = i by omega] at q1
     exact ⟨u, q1, q2, q3⟩
theorem SimB.openJ {w0 : World} {U0 : Nat -> Prop} {X : Nat -> Nat -> Prop} {β0 β : Nat -> Option Place} {U : Nat -> Prop} {s : St} {a : Act} {w : World} (h : SimB w0 U0 X β0 β U s a w) {k ver : Nat} {e ei : TypeId} {c : Nat} {xs : List (τ c)}
  (hb : s.blk k = some (.deep ver e ei c none xs)) (hok : opOk ei (dIn c) = true) : ∃ ls : List (Nat × Nat), ls.length = xs.length /\ (∀ l ∈ ls, l.1 <= l.2 /\ l.2 <= 9223372036854775807) /\ Sim w0 U0 X β0 (s.set k (.jd ver e ei (esz c) (dIc c) (esz (dIn c)) none none ls)) a w := by
 obtain ⟨p, hp, hr⟩ := h.mem k _ hb
 cases p with
 | cells => exact hr.elim
 | row => exact hr.elim
 | deep v ver0 us =>
  obtain ⟨rfl, hdk, l1, l2, l3, l4, l5⟩ := hr
  obtain ⟨ls, q1, q2⟩ := exists_ls (Q := fun i (l : Nat × Nat) => (l.1 <= l.2 /\ l.2 <= 9223372036854775807) /\ ∀ u, us[i]? = some u -> Loose w ei (esz (dIn c)) u l.1 l.2) xs.length fun i hi => by
    have hu := List.getElem?_eq_getElem (l := us) (i := i) (by omega)
    obtain ⟨N, n1, n2, n3⟩ := (l3 i _ xs[i] hu (List.getElem?_eq_getElem hi) rfl).loose hok
    refine ⟨((dGet c xs[i]).length, N), ⟨n1, n2⟩, fun u hu' => ?_⟩
    rw [hu] at hu'; cases hu'; exact n3
  refine ⟨ls, q1, fun l hl => ?_, upd β k (.deep v ver us), U, ?_⟩
  . obtain ⟨i, hi⟩ := List.mem_iff_getElem?.1 hl
    exact (q2 i l hi).1
  . refine h.replE (w' := w) (p' := .deep v ver us) (blk' := .jd ver e ei (esz c) (dIc c) (esz (dIn c)) none none ls) hp hb rfl rfl rfl (Nat.le_refl _) (fun _ _ _ => rfl) (fun _ _ _ _ => ⟨rfl, rfl⟩) (fun _ _ _ => .inl rfl) (.inl rfl) (fun _ hb => .inl hb) (fun _ _ hc => .inl hc)
      ⟨rfl, by rw [l1, q1], l2, dIc_lt hdk, fun i u l hu hl _ => (q2 i l hl).2 u hu, fun i l hh => (by cases hh), ?_⟩
    rcases l5 with ⟨e1, rfl⟩ | ⟨g, cap, cur, e1, hg, k1, k2, k3, k4⟩
    . exact .inl ⟨e1, List.eq_nil_of_length_eq_zero q1⟩
    . refine .inr (.inl ⟨g, cap, cur, by rw [q1]; exact e1, hg, by rw [q1]; exact k1, k2, k3, fun i j hi hj => ?_⟩)
      rw [q1] at hi
      obtain ⟨u, z1, z2, _, z4, _⟩ := k4 i j xs[i] ((enc c xs[i])[j]'(by rw [enc_len]; exact hj)) (List.getElem?_eq_getElem hi) (List.getElem?_eq_getElem _)
      exact ⟨u, z1, z2, fun hj _ => z4 hj rfl, fun _ _ _ hh => by cases hh⟩
theorem SimB.openO {w0 : World} {U0 : Nat -> Prop} {X : Nat -> Nat -> Prop} {β0 β : Nat -> Option Place} {U : Nat -> Prop} {s : St} {a : Act} {w : World} (h : SimB w0 U0 X β0 β U s a w) {k ver : Nat} {e ei : TypeId} {sz ic szi : Nat} {ls : List (Nat × Nat)}
  (hb : s.blk k = some (.jd ver e ei sz ic szi none none ls)) (hnsp : noSp e = true) (hne : e ≠ ei) : ∃ N, N <= 9223372036854775807 /\ Sim w0 U0 X β0 (s.set k (.jd ver e ei sz ic szi (some (ls.length, N)) none [])) a w := by
 obtain ⟨p, hp, hr⟩ := h.mem k _ hb
 cases p with
 | cells => exact hr.elim
 | row => exact hr.elim
 | deep v ver0 us =>
  obtain ⟨rfl, hr⟩ := hr
  obtain ⟨_, _, _, _, _, h5⟩ : JdOk w β v us e ei sz ic szi none ls := hr
  have key : ∀ N, Loose w e sz v ls.length N -> Sim w0 U0 X β0 (s.set k (.jd ver e ei sz ic szi (some (ls.length, N)) none [])) a w := fun N hl =>
    ⟨upd β k (.deep v ver us), U, h.replE (w' := w) (p' := .deep v ver us) (blk' := .jd ver e ei sz ic szi (some (ls.length, N)) none []) hp hb rfl rfl rfl (Nat.le_refl _) (fun _ _ _ => rfl) (fun _ _ _ _ => ⟨rfl, rfl⟩) (fun _ _ _ => .inl rfl) (.inl rfl) (fun _ hb => .inl hb) (fun _ _ hc => .inl hc) ⟨rfl, hl⟩⟩
  rcases h5 with ⟨e1, e2⟩ | ⟨g, cap, cur, e1, hg, k1, k2, k3, _⟩ | ⟨vs, _, g2, _⟩
  rotate_right
  . exact absurd g2.2 hne
  . exact ⟨0, by omega, key 0 (.inl ⟨e1, by rw [e2]; rfl, rfl⟩)⟩
  . exact ⟨cap, k2, key cap (.inr ⟨g, cur, e1, k1, hg, k3, k2, noSp_spare hnsp⟩)⟩
theorem SimB.openG {w0 : World} {U0 : Nat -> Prop} {X : Nat -> Nat -> Prop} {β0 β : Nat -> Option Place} {U : Nat -> Prop} {s : St} {a : Act} {w : World} (h : SimB w0 U0 X β0 β U s a w) {k ver : Nat} {ei : TypeId} {c m : Nat} {o : Bool} {L : List (List (τ c))}
  (hb : s.blk k = some (.grp ver ei c m o none L)) (hok : opOk ei c = true) (hm : m = L.length) (hsz : 0 < 1) : ∃ ls : List (Nat × Nat), ls.length = L.length /\ (∀ l ∈ ls, l.1 <= l.2 /\ l.2 <= 9223372036854775807) /\ Sim w0 U0 X β0 (s.set k (.jd ver ei ei 1 0 (esz c) none none ls)) a w := by
 obtain ⟨p, hp, hr⟩ := h.mem k _ hb
 cases p with
 | cells => exact hr.elim
 | row => exact hr.elim
 | deep v ver0 us =>
  obtain ⟨hv, hr⟩ := hr
  subst hv
  have hr : GrpOk w β U v us ei c m none L := hr
  obtain ⟨l1, _, l2, vs, rfl, l3, l4, l5, _, _, _⟩ := hr
  obtain ⟨ls, q1, q2⟩ := exists_ls (Q := fun i (l : Nat × Nat) => (l.1 <= l.2 /\ l.2 <= 9223372036854775807) /\ ∀ u, us[i]? = some u -> Loose w ei (esz c) u l.1 l.2) L.length fun i hi => by
    have hu := List.getElem?_eq_getElem (l := us) (i := i) (by omega)
    obtain ⟨N, n1, n2, n3⟩ := (l5 i _ L[i] hu (List.getElem?_eq_getElem hi) rfl).2.loose hok
    refine ⟨(L[i].length, N), ⟨n1, n2⟩, fun u hu' => ?_⟩
    rw [hu] at hu'; cases hu'; exact n3
  refine ⟨ls, q1, fun l hl => ?_, upd β k (.deep (.agg vs.toArray) ver us), U, ?_⟩
  . obtain ⟨i, hi⟩ := List.mem_iff_getElem?.1 hl
    exact (q2 i l hi).1
  . refine h.replE (w' := w) (p' := .deep (.agg vs.toArray) ver us) (blk' := .jd ver ei ei 1 0 (esz c) none none ls) hp hb rfl rfl rfl (Nat.le_refl _) (fun _ _ _ => rfl) (fun _ _ _ _ => ⟨rfl, rfl⟩) (fun _ _ _ => .inl rfl) (.inl rfl) (fun _ hb => .inl hb) (fun _ _ hc => .inl hc)
     ⟨rfl, by rw [l1, q1, hm], l2, Nat.zero_lt_one, fun i u l hu hl _ => (q2 i l hl).2 u hu, fun i l hh => (by cases hh), .inr (.inr ⟨vs, rfl, ⟨by rw [l3, q1], rfl⟩, l4, fun i u hu _ => ?_, fun _ _ _ hh => by cases hh⟩)⟩
    have hi : i < L.length := by have := (List.getElem?_eq_some_iff.1 hu).1; omega
    exact (l5 i u L[i] hu (List.getElem?_eq_getElem hi) rfl).1
theorem execW (hcall : CallOk P call) {Λ : List LS} {fi : Nat} (c : Code) {kn : Kn} {s : St} {K : Exit -> Kn -> St -> Tr Prop} (hkn : KnOk kn s) (h : Holds (exec P cod own call Λ fi c Prop kn s K)) :
  AWp P c (fun e1 s1 => ∃ kn', KnOk kn' s1 /\ Holds (K e1 kn' s1)) s := by
 obtain ⟨p, h1, h2⟩ := h
 obtain ⟨e, kn', s', q1, q2, q3⟩ := exec_sound hcall c hkn h1
 refine awp_mono q3 ?_
 rintro e1 s1 ⟨rfl, rfl⟩
 exact ⟨kn', q1, p, q2, h2⟩
theorem iterJ_sound {body : Code} {F : Nat -> (Kn -> St -> Tr Prop) -> Kn -> St -> Tr Prop} {Q : Exit -> St -> Prop}
  (hb : ∀ n again kn s, KnOk kn s -> Holds (F n again kn s) -> AWp P body (fun e1 s1 => (e1 = .normal /\ ∃ s2, trimR body s1 = some s2 /\ Holds (again [] s2)) \/ (e1 ≠ .normal /\ Q e1 s1)) s) :
  ∀ (n : Nat) {kn : Kn} {s : St}, KnOk kn s -> Holds (iterJ n F kn s) ->
    ∀ (w0 : World) (U0 : Nat -> Prop) (X : Nat -> Nat -> Prop) (β0 : Nat -> Option Place) (a : Act) (w : World), Sim w0 U0 X β0 s a w -> Code.rounds P body (fun e1 a' w' => ∃ s1, Q e1 s1 /\ Sim w0 U0 X β0 s1 a' w') n a w
 | 0, kn, s, hkn, h => by obtain ⟨p, h, _⟩ := h; cases h
 | n + 1, kn, s, hkn, h => by
  intro w0 U0 X β0 a w hs
  refine wp_mono (hb n _ kn s hkn h w0 U0 X β0 a w hs) ?_
  rintro e2 a2 w2 ⟨s2, hq, hs2⟩
  rcases hq with ⟨rfl, s3, hs3, hh⟩ | ⟨hne, hq⟩
  . exact iterJ_sound hb n KnOk.nil hh w0 U0 X β0 a2 w2 (hs2.norm hs3)
  . cases e2 with
    | normal => exact absurd rfl hne
    | _ => exact ⟨s2, hq, hs2⟩
theorem execJ_sound (hcall : CallOk P call) : ∀ (c : Code) {v : Nat} {kn : Kn} {s : St} {K : Exit -> Kn -> St -> Tr Prop}, KnOk kn s -> Holds (execJ P cod own call Λs fi opn un c v kn s K) ->
  AWp P c (fun e1 s1 => ∃ kn', KnOk kn' s1 /\ Holds (K e1 kn' s1)) s
 | .seq a b, v, kn, s, K, hkn, h => by
  unfold execJ at h
  refine awp_seq (awp_mono (execJ_sound hcall a hkn h) ?_)
  rintro e1 s1 ⟨kn', h1, h2⟩
  cases e1 with
  | normal => exact execJ_sound hcall b h1 h2
  | _ => exact ⟨kn', h1, h2⟩
 | .block id body, v, kn, s, K, hkn, h => by
  unfold execJ at h
  refine awp_block (awp_mono (execJ_sound hcall body hkn h) ?_)
  rintro e1 s1 ⟨kn', h1, h2⟩
  cases e1 with
  | exit id' =>
    simp only at h2
    split at h2
    . rename_i e
      obtain rfl : id' = id := Nat.eq_of_beq_eq_true e
      exact block_exit ⟨kn', h1, h2⟩
    . rename_i e
      have e : id' ≠ id := Nat.ne_of_beq_eq_false e
      exact block_other (by simpa using e) ⟨kn', h1, h2⟩
  | _ => exact ⟨kn', h1, h2⟩
 | .loop body, v, kn, s, K, hkn, h => by
  unfold execJ at h
  split at h
  . intro w0 U0 X β0 a w hs
    refine wp_loop_rounds 8 (iterJ_sound (Q := fun e1 s1 => ∃ kn', KnOk kn' s1 /\ Holds (K e1 kn' s1)) ?_ 8 hkn h w0 U0 X β0 a w hs)
    intro n again kn s hk hh
    refine awp_mono (execJ_sound hcall body hk hh) ?_
    rintro e1 s1 ⟨kn', h1, h2⟩
    cases e1 with
    | normal =>
      simp only at h2
      split at h2
      . rename_i s2 hs2
        exact .inl ⟨rfl, s2, hs2, h2⟩
      . obtain ⟨p, h2, _⟩ := h2; cases h2
    | _ => exact .inr ⟨by simp, kn', h1, h2⟩
  . split at h
    . exact execW hcall _ hkn h
    . split at h
      . split at h
        . rename_i k _ _ ver e sz len N hb
          split at h
          . rename_i c hc
            split at h
            . rename_i hcond
              obtain rfl := Nat.eq_of_beq_eq_true hcond
              obtain ⟨p, hp, hpp⟩ := h
              obtain ⟨hlen, hp⟩ := Tr.eval_grd hp
              obtain rfl := of_decide_eq_true hlen
              cases hp
              intro w0 U0 X β0 a w hs
              obtain ⟨β, U, hs⟩ := hs
              obtain ⟨ys, hl, hN⟩ := hs.shown hb hc
              have hk2 : KnOk kn (s.set k (.rowT ver e c false false ys)) := fun t b ht => hkn t b ht
              exact execW hcall _ hk2 (hpp ys hl) w0 U0 X β0 a w hN
            . obtain ⟨p, h, _⟩ := h; cases h
          . obtain ⟨p, h, _⟩ := h; cases h
        . obtain ⟨p, h, _⟩ := h; cases h
      . obtain ⟨p, h, _⟩ := h; cases h
 | .region id ops draw, v, kn, s, K, hkn, h => by
  unfold execJ at h
  split at h
  . exact execW hcall _ hkn h
  . split at h
    . split at h
      . rename_i k _ _ ver e c fr xs hb
        split at h
        . rename_i hok
          obtain ⟨p, hp, hpp⟩ := h
          cases hp
          intro w0 U0 X β0 a w hs
          obtain ⟨β, U, hs⟩ := hs
          obtain ⟨N, hN0, hN⟩ := hs.opened hb hok
          have hk2 : KnOk kn (s.set k (.junk ver e (esz c) xs.length N)) := fun t b ht => hkn t b ht
          exact execW hcall _ hk2 (hpp N hN0) w0 U0 X β0 a w hN
        . obtain ⟨p, h, _⟩ := h; cases h
      . obtain ⟨p, h, _⟩ := h; cases h
    . split at h
      . rename_i k _
        split at h
        . rename_i ver e ei c xs hb
          split at h
          . rename_i hok
            obtain ⟨p, hp, hpp⟩ := h
            cases hp
            intro w0 U0 X β0 a w hs
            obtain ⟨β, U, hs⟩ := hs
            obtain ⟨ls, hl1, hl2, hN⟩ := hs.openJ hb hok
            have hk2 : KnOk kn (s.set k (.jd ver e ei (esz c) (dIc c) (esz (dIn c)) none none ls)) := fun t b ht => hkn t b ht
            exact execW hcall _ hk2 (hpp ls hl1 hl2) w0 U0 X β0 a w hN
          . obtain ⟨p, h, _⟩ := h; cases h
        . rename_i ver e ei sz ic szi ls hb
          split at h
          . rename_i hnsp
            simp only [Bool.and_eq_true, Bool.not_eq_true'] at hnsp
            obtain ⟨p, hp, hpp⟩ := h
            cases hp
            intro w0 U0 X β0 a w hs
            obtain ⟨β, U, hs⟩ := hs
            obtain ⟨N, hN0, hN⟩ := hs.openO hb hnsp.1 (fun e => by subst e; rw [Nat.beq_refl] at hnsp; cases hnsp.2)
            have hk2 : KnOk kn (s.set k (.jd ver e ei sz ic szi (some (ls.length, N)) none [])) := fun t b ht => hkn t b ht
            exact execW hcall _ hk2 (hpp N hN0) w0 U0 X β0 a w hN
          . obtain ⟨p, h, _⟩ := h; cases h
        . obtain ⟨p, h, _⟩ := h; cases h
      . split at h
        . rename_i k _
          split at h
          . rename_i ver ei c m _ L hb
            split at h
            . rename_i hok
              obtain ⟨p, hp, hpp⟩ := h
              obtain ⟨hm, hp⟩ := Tr.eval_grd hp
              cases hp
              intro w0 U0 X β0 a w hs
              obtain ⟨β, U, hs⟩ := hs
              obtain ⟨ls, hl1, hl2, hN⟩ := hs.openG hb hok (of_decide_eq_true hm) Nat.zero_lt_one
              have hk2 : KnOk kn (s.set k (.jd ver ei ei 1 0 (esz c) none none ls)) := fun t b ht => hkn t b ht
              exact execW hcall _ hk2 (hpp ls hl1 hl2) w0 U0 X β0 a w hN
            . obtain ⟨p, h, _⟩ := h; cases h
          . obtain ⟨p, h, _⟩ := h; cases h
        . obtain ⟨p, h, _⟩ := h; cases h
 | .skip, v, kn, s, K, hkn, h => execW hcall _ hkn h
 | .cond _ _ _, v, kn, s, K, hkn, h => execW hcall _ hkn h
 | .exit _, v, kn, s, K, hkn, h => execW hcall _ hkn h
 | .ret, v, kn, s, K, hkn, h => execW hcall _ hkn h
 | .rangeFunc .., v, kn, s, K, hkn, h => execW hcall _ hkn h
 | .scope .., v, kn, s, K, hkn, h => execW hcall _ hkn h
 | .label .., v, kn, s, K, hkn, h => execW hcall _ hkn h
 | .goto .., v, kn, s, K, hkn, h => execW hcall _ hkn h
 | .refuse .., v, kn, s, K, hkn, h => execW hcall _ hkn h
def endJ (P : Program) (rs : List ResultVar) (e : Exit) (s : St) : Tr Prop :=
 match (match e with | .normal | .ret => true | _ => false) with
 | true => match resA P rs s with
  | some (.one (.d (.b b))) => .ret (b = true)
  | _ => .fail 22
 | false => .fail 23
def lawJ (P : Program) (cod : TypeId -> Nat) (Γ : List (PF P)) (Λs : List (FuncId × LS)) (opn : List (Nat × Nat)) (un : List Nat) (n : Nat) (f : FuncId) (ap : List VP1) (x : VPsT ap Unit) : Tr Prop :=
 match P.funcs[f]? with
 | some fn => match fn.body with
  | some c => match decide (fn.ntmps <= 900) && decide ((putVs (fun _ => 0) ap x).1.length <= fn.ntmps) with
   | true => execJ P cod (ownF Γ) (execFn P cod Γ Λs n) Λs f opn un c 0 [] ⟨fn.ntmps, argsEnv 0 (putVs (fun _ => 0) ap x).1, []⟩ fun e _ s => endJ P fn.results.toList e s
   | false => .fail 24
  | none => .fail 25
 | none => .fail 28
theorem lawJ_sound {Γ : List (PF P)} {n : Nat} {f : FuncId} {ap : List VP1} {x : VPsT ap Unit} (h : Holds (lawJ P cod Γ Λs opn un n f ap x)) :
   ACall P f (putVs (fun _ => 0) ap x).1 [] fun r' m' => r' = vb true /\ m' = [] := by
 unfold lawJ at h
 split at h
 case h_2 => obtain ⟨p, h, _⟩ := h; cases h
 rename_i fn hf
 split at h
 case h_2 => obtain ⟨p, h, _⟩ := h; cases h
 rename_i c hb
 split at h
 case h_2 => obtain ⟨p, h, _⟩ := h; cases h
 rename_i hn
 simp only [Bool.and_eq_true, decide_eq_true_eq] at hn
 refine acall_enter [] hf hb rfl rfl hn.1 hn.2 (awp_mono (execJ_sound (execFn_sound (cod := cod) (Γ := Γ) (Λs := Λs) n) c KnOk.nil h) ?_)
 rintro e1 s1 ⟨kn', _, p, h1, h2⟩
 unfold endJ at h1
 split at h1
 case h_2 => cases h1
 rename_i he
 split at h1
 case h_2 => cases h1
 rename_i b hv
 cases h1
 subst h2
 refine ⟨?_, vb true, [], ?_, rfl, rfl⟩
 . cases e1 <;> first | exact .inl rfl | exact .inr rfl | cases he
 . simp only [hv]
   rfl
open Classical in
/-- A law whose tree tells what must hold, as a told function. -/
noncomputable def jFS {P : Program} (f : FuncId) (ap : List VP1) (T : VPsT ap Unit -> Tr Prop) (ok : ∀ x, Holds (T x) -> ACall P f (putVs (fun _ => 0) ap x).1 [] fun r' m' => r' = vb true /\ m' = []) : FS P :=
 ⟨f, ap, ⟨1, [(0, .v (.one .b))], []⟩, fun x => if Holds (T x) then some (true, ()) else none, fun x r h => by
  split at h
  . rename_i hh
    cases h
    exact ok x hh
  . cases h⟩
theorem jFS_true {P : Program} {f : FuncId} {ap : List VP1} {T : VPsT ap Unit -> Tr Prop} {ok : ∀ x, Holds (T x) -> ACall P f (putVs (fun _ => 0) ap x).1 [] fun r' m' => r' = vb true /\ m' = []} {x : VPsT ap Unit} (h : Holds (T x)) : (jFS f ap T ok).fn x = some (true, ()) := by
 show @ite _ (Holds (T x)) (Classical.propDecidable _) (some (true, ())) none = _
 rw [if_pos h]
end Go.Proofs.Ytnhiilbmgkbbaaa.Abs
