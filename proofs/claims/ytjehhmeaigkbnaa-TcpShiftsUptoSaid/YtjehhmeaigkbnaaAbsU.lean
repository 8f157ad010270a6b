/- Trees of what is not decided; operations of which a condition is not decided. For whatever program. Conditions: none. -/
import Derived.Test.YtjehhmeaigkbnaaAbsW
namespace Go.Proofs.Ytjehhmeaigkbnaa.Abs
open Go Go.RowKit
set_option linter.unusedVariables false
set_option linter.unusedSimpArgs false

inductive Tr (α : Type) : Type 1 where
  | ret (a : α)
  | ite (c : Bool) (t e : Tr α)
  | grd (c : Bool) (t : Tr α)
  | opt {β : Type} (o : Option β) (k : β → Tr α)
  | sum {β γ : Type} (o : β ⊕ γ) (k : β → Tr α) (l : γ → Tr α)
  | stuck (id : Nat) (s : St)
  | fail (why : Nat)

def Tr.eval {α : Type} : Tr α → Option α
  | .ret a => some a
  | .ite c t e => bif c then t.eval else e.eval
  | .grd c t => bif c then t.eval else none
  | .opt o k => o.bind fun x => (k x).eval
  | .sum o k l => match o with | .inl a => (k a).eval | .inr b => (l b).eval
  | .stuck _ _ => none
  | .fail _ => none

def Tr.bind {α β : Type} (f : α → Tr β) : Tr α → Tr β
  | .ret a => f a
  | .ite c t e => .ite c (t.bind f) (e.bind f)
  | .grd c t => .grd c (t.bind f)
  | .opt o k => .opt o fun x => (k x).bind f
  | .sum o k l => .sum o (fun x => (k x).bind f) (fun x => (l x).bind f)
  | .stuck id s => .stuck id s
  | .fail w => .fail w

def Tr.map {α β : Type} (f : α → β) : Tr α → Tr β
  | .ret a => .ret (f a)
  | .ite c t e => .ite c (t.map f) (e.map f)
  | .grd c t => .grd c (t.map f)
  | .opt o k => .opt o fun x => (k x).map f
  | .sum o k l => .sum o (fun x => (k x).map f) (fun x => (l x).map f)
  | .stuck id s => .stuck id s
  | .fail w => .fail w

theorem Tr.eval_bind {α β : Type} (f : α → Tr β) (t : Tr α) : (t.bind f).eval = t.eval.bind fun x => (f x).eval := by
  induction t with
  | ret a => rfl
  | ite c t e iht ihe => cases c <;> simp [Tr.bind, Tr.eval, iht, ihe]
  | grd c t ih => cases c <;> simp [Tr.bind, Tr.eval, ih]
  | opt o k ih => cases o <;> simp [Tr.bind, Tr.eval, ih]
  | sum o k l ihk ihl => cases o <;> simp [Tr.bind, Tr.eval, ihk, ihl]
  | stuck => rfl
  | fail => rfl
theorem Tr.eval_map {α β : Type} (f : α → β) (t : Tr α) : (t.map f).eval = t.eval.map f := by
  induction t with
  | ret a => rfl
  | ite c t e iht ihe => cases c <;> simp [Tr.map, Tr.eval, iht, ihe]
  | grd c t ih => cases c <;> simp [Tr.map, Tr.eval, ih]
  | opt o k ih => cases o <;> simp [Tr.map, Tr.eval, ih]
  | sum o k l ihk ihl => cases o <;> simp [Tr.map, Tr.eval, ihk, ihl]
  | stuck => rfl
  | fail => rfl
theorem Tr.eval_ite {α : Type} {c : Bool} {t e : Tr α} {a : α} (h : (Tr.ite c t e).eval = some a) : (c = true ∧ t.eval = some a) ∨ (c = false ∧ e.eval = some a) := by
  cases c
  · exact .inr ⟨rfl, h⟩
  · exact .inl ⟨rfl, h⟩
theorem Tr.eval_grd {α : Type} {c : Bool} {t : Tr α} {a : α} (h : (Tr.grd c t).eval = some a) : c = true ∧ t.eval = some a := by
  cases c
  · cases h
  · exact ⟨rfl, h⟩

/-! ### Operations of which a condition is not decided -/
def effG (P : Program) (op : Op) (ρ : Operand → V) : Option (Bool × V) :=
  match op with
  | .binOp bop _ x y _ => match bop with
    | .shl => match ρ x, ρ y with | .one (.d (.i k a)), .one (.d (.i _ b)) => some (decide (0 ≤ b), vi k (k.wrap (a * 2 ^ min b.toNat k.bits))) | _, _ => none
    | .shr => match ρ x, ρ y with | .one (.d (.i k a)), .one (.d (.i _ b)) => some (decide (0 ≤ b), vi k (a.fdiv (2 ^ min b.toNat k.bits))) | _, _ => none
    | .quo => match ρ x, ρ y with | .one (.d (.i k a)), .one (.d (.i k' b)) => if k = k' then some (decide (b ≠ 0), vi k (k.wrap (a.tdiv b))) else none | _, _ => none
    | .rem => match ρ x, ρ y with | .one (.d (.i k a)), .one (.d (.i k' b)) => if k = k' then some (decide (b ≠ 0), vi k (a.tmod b)) else none | _, _ => none
    | .add => match ρ x, ρ y with | .one (.d (.s a)), .one (.d (.s b)) => some (decide (a.length + b.length ≤ 9223372036854775807), vs (a ++ b)) | _, _ => none
    | _ => none
  | .slice t x lo hi none => match P.underlying t, ρ x with
    | some .string, .one (.d (.s l)) => match optI 0 (lo.map ρ), optI l.length (hi.map ρ) with
      | some a, some b => some (decide (0 ≤ a ∧ a ≤ b ∧ b ≤ l.length), vs ((l.take b.toNat).drop a.toNat))
      | _, _ => none
    | _, _ => none
  | .index t x i => match ρ i with
    | .one (.d (.i _ n)) => match P.underlying t, ρ x with
      | some .string, .one (.d (.s l)) => some (decide (0 ≤ n ∧ n < l.length), vi .u8 (l.getD n.toNat 0).toNat)
      | _, _ => none
    | _ => none
  | _ => none

theorem effG_spec {P : Program} {op : Op} {ρ : Operand → V} {g : Bool} {v : V} (h : effG P op ρ = some (g, v)) (hg : g = true) : effQ P op ρ = some v := by
  subst hg
  unfold effG at h
  split at h
  · rename_i bop t x y t'
    split at h
    · split at h
      · rename_i k a k' b hx hy
        simp only [Option.some.injEq, Prod.mk.injEq, decide_eq_true_eq] at h
        obtain ⟨h1, rfl⟩ := h
        simp [effQ, binA, hx, hy, binI, h1]
      · cases h
    · split at h
      · rename_i k a k' b hx hy
        simp only [Option.some.injEq, Prod.mk.injEq, decide_eq_true_eq] at h
        obtain ⟨h1, rfl⟩ := h
        simp [effQ, binA, hx, hy, binI, h1]
      · cases h
    · split at h
      · rename_i k a k' b hx hy
        split at h
        · rename_i hk
          simp only [Option.some.injEq, Prod.mk.injEq, decide_eq_true_eq] at h
          obtain ⟨h1, rfl⟩ := h
          simp [effQ, binA, hx, hy, binI, h1, hk]
        · cases h
      · cases h
    · split at h
      · rename_i k a k' b hx hy
        split at h
        · rename_i hk
          simp only [Option.some.injEq, Prod.mk.injEq, decide_eq_true_eq] at h
          obtain ⟨h1, rfl⟩ := h
          simp [effQ, binA, hx, hy, binI, h1, hk]
        · cases h
      · cases h
    · split at h
      · rename_i a b hx hy
        simp only [Option.some.injEq, Prod.mk.injEq, decide_eq_true_eq] at h
        obtain ⟨h1, rfl⟩ := h
        simp only [effQ, binA, hx, hy, binS]
        rw [if_pos h1]; rfl
      · cases h
    · cases h
  · rename_i t x lo hi
    split at h
    · rename_i l hu hx
      split at h
      · rename_i a b ha hb
        simp only [Option.some.injEq, Prod.mk.injEq, decide_eq_true_eq] at h
        obtain ⟨h1, rfl⟩ := h
        simp only [effQ, sliceA, hu, hx, ha, hb]
        rw [if_pos h1]
      · cases h
    · cases h
  · rename_i t x i
    split at h
    · rename_i k n hi
      split at h
      · rename_i l hu hx
        simp only [Option.some.injEq, Prod.mk.injEq, decide_eq_true_eq] at h
        obtain ⟨h1, rfl⟩ := h
        simp only [effQ, indexA, hi, hu, hx]
        rw [if_pos h1.1]
        have h2 : n.toNat < l.length := by omega
        rw [List.getElem?_eq_getElem h2]
        simp [List.getD_eq_getElem?_getD, h2]
      · cases h
    · cases h
  · cases h


/-! ### Typed rows -/
/-- An element out of its cells. -/
def decG (c : Nat) (l : List D) : Option (Tr (τ c)) :=
  match c, l with
  | 2, [.i .u8 n] => some (.grd (decide (0 ≤ n ∧ n < 256)) (.ret (UInt8.ofNat n.toNat)))
  | c, l => match decD c l with
    | some t => some (.ret t)
    | none => none
def decRowsG (c : Nat) : List (List D) → Option (Tr (List (τ c)))
  | [] => some (.ret [])
  | r :: rs => match decG c r, decRowsG c rs with
    | some T, some Ts => some (T.bind fun t => Ts.bind fun ts => .ret (t :: ts))
    | _, _ => none

theorem decG_wk {c : Nat} {l : List D} {T : Tr (τ c)} {t : τ c} (h : decG c l = some T) (ht : T.eval = some t) : WkDs l (enc c t) := by
  unfold decG at h
  split at h
  · rename_i n
    cases h
    obtain ⟨h1, h2⟩ := Tr.eval_grd ht
    cases h2
    simp only [decide_eq_true_eq] at h1
    refine ⟨.inl ?_, trivial⟩
    have : (UInt8.ofNat n.toNat).toNat = n.toNat := by
      rw [UInt8.toNat_ofNat']; omega
    show D.i .u8 ((UInt8.ofNat n.toNat).toNat : Int) = D.i .u8 n
    rw [this]
    congr 1; omega
  · split at h
    · rename_i t' hd
      cases h; cases ht
      exact decD_wk _ _ _ hd
    · cases h
theorem decRowsG_wk {c : Nat} : ∀ {l : List (List D)} {T : Tr (List (τ c))} {ts : List (τ c)}, decRowsG c l = some T → T.eval = some ts → WkRows l (ts.map (enc c))
  | [], T, ts, h, ht => by cases h; cases ht; trivial
  | r :: rs, T, ts, h, ht => by
    unfold decRowsG at h
    split at h
    · rename_i T1 T2 h1 h2
      cases h
      rw [Tr.eval_bind] at ht
      obtain ⟨t, e1, e2⟩ := Option.bind_eq_some_iff.1 ht
      rw [Tr.eval_bind] at e2
      obtain ⟨ts', e3, e4⟩ := Option.bind_eq_some_iff.1 e2
      cases e4
      exact ⟨decG_wk h1 e1, decRowsG_wk h2 e3⟩
    · cases h

/-- Typed rows that a slice shows. -/
def rowsT (m : Nat → Option Blk) (c : Nat) (x : V) : Option (List (τ c) × Bool) :=
  match x with
  | .one (.d (.st k xs)) => if h : k = c then some (h ▸ xs, flatT c) else none
  | .one (.f (.st k xs)) => if h : k = c then some (h ▸ xs, true) else none
  | .one (.own k ver _) => match m k with
    | some (.rowT ver' _ k' _ fr xs) => if h : k' = c then (if ver = ver' then some (h ▸ xs, fr) else none) else none
    | _ => none
  | .one (.sub k ver sz off len) => match m k with
    | some (.rowT ver' _ k' _ fr xs) => if h : k' = c then (if ver = ver' ∧ sz = esz c then some (h ▸ ((xs.drop off).take len), fr) else none) else none
    | _ => none
  | .one (.pre k ver sz len) => match m k with
    | some (.rowT ver' _ k' _ fr xs) => if h : k' = c then (if ver = ver' then some (h ▸ (xs.take len), fr) else none) else none
    | _ => none
  | .one (.nn (.st k xs)) => if h : k = c then some (h ▸ xs, flatT c) else none
  | _ => none
/-- The condition under which it does. -/
def rowsC (m : Nat → Option Blk) (x : V) : Option Bool :=
  match x with
  | .one (.sub k _ _ off len) => match m k with
    | some (.rowT _ _ _ _ _ xs) => some (decide (off + len ≤ xs.length))
    | _ => none
  | _ => none
def grdC {α : Type} : Option Bool → Tr α → Tr α
  | none, T => T
  | some c, T => .grd c T
theorem eval_grdC {α : Type} {c : Option Bool} {T : Tr α} {a : α} (h : (grdC c T).eval = some a) : c.getD true = true ∧ T.eval = some a := by
  cases c with
  | none => exact ⟨rfl, h⟩
  | some c => exact Tr.eval_grd h
theorem rowsT_of {m : Nat → Option Blk} {c : Nat} {x : V} {xs : List (τ c)} {fr : Bool} (h : rowsT m c x = some (xs, fr)) (hc : (rowsC m x).getD true = true) : rowsOf m x = some (esz c, xs.map (enc c), fr) := by
  unfold rowsT at h
  split at h
  · split at h
    · rename_i e; subst e; cases h; rfl
    · cases h
  · split at h
    · rename_i e; subst e; cases h; rfl
    · cases h
  · split at h
    · rename_i hm
      split at h
      · rename_i e; subst e
        split at h
        · rename_i hv; cases h
          simp only [rowsOf, hm, Option.map_some, Blk.std]
          rw [if_pos hv]
        · cases h
      · cases h
    · cases h
  · split at h
    · rename_i hm
      split at h
      · rename_i e; subst e
        split at h
        · rename_i hv; cases h
          simp only [rowsC, hm, Option.getD_some, decide_eq_true_eq] at hc
          simp only [rowsOf, hm, Option.map_some, Blk.std, List.length_map]
          rw [if_pos ⟨hv.1, hv.2, hc⟩]
          simp only [List.map_take, List.map_drop, hv.2]
        · cases h
      · cases h
    · cases h
  · split at h
    · rename_i hm
      split at h
      · rename_i e; subst e
        split at h
        · rename_i hv; cases h
          simp only [rowsOf, hm, Option.map_some, Blk.std]
          rw [if_pos hv, List.map_take]
        · cases h
      · cases h
    · cases h
  · split at h
    · rename_i e; subst e; cases h; rfl
    · cases h
  · cases h

theorem rowBytes_st' (l : List UInt8) : rowBytes (l.map fun b : UInt8 => [D.i .u8 (b.toNat : Int)]) = some l := by
  unfold rowBytes
  have : ∀ l : List UInt8, (l.map fun b : UInt8 => [D.i .u8 (b.toNat : Int)]).mapM rowInt = some (l.map fun b => (b.toNat : Int)) := by
    intro l
    induction l with
    | nil => rfl
    | cons b l ih =>
      rw [List.map_cons, List.mapM_cons, ih]
      rfl
  rw [this]
  simp only [Option.map_some, List.map_map, Option.some.injEq]
  have : ((fun n : Int => UInt8.ofNat n.toNat) ∘ fun b : UInt8 => (b.toNat : Int)) = id := by
    funext b; simp
  rw [this, List.map_id]
theorem rowBytes_st (l : List UInt8) : rowBytes (List.map (α := τ 2) (enc 2) l) = some l := rowBytes_st' l

def ints : List C → Option (IntKind × List Int)
  | [] => none
  | [.d (.i k n)] => some (k, [n])
  | .d (.i k n) :: r => match ints r with
    | some (k', l) => if k = k' then some (k, n :: l) else none
    | none => none
  | _ => none
theorem ints_get : ∀ {cs : List C} {k : IntKind} {l : List Int}, ints cs = some (k, l) → cs = l.map fun n => C.d (.i k n)
  | [], k, l, h => by cases h
  | [c], k, l, h => by
    unfold ints at h
    split at h
    · rename_i e; cases e
    · rename_i e; cases e; cases h; rfl
    · rename_i k' n r hne e; cases e; exact (hne rfl).elim
    · cases h
  | c :: c' :: r, k, l, h => by
    unfold ints at h
    split at h
    · rename_i e; cases e
    · rename_i e; cases e
    · rename_i k' n r' hne e
      cases e
      split at h
      · rename_i k2 l2 h2
        split at h
        · rename_i ek; subst ek; cases h
          rw [ints_get h2]; rfl
        · cases h
      · cases h
    · cases h

def effGT (P : Program) (op : Op) (ρ : Operand → V) : Option (Tr Out) :=
  match effG P op ρ with
  | some (g, v) => some (.grd g (.ret ⟨v, []⟩))
  | none => none

/-- An operation's tree: what it leaves, and under what. -/
def effX (P : Program) (cod : TypeId → Nat) (dst : Option Nat) (op : Op) (ρ : Operand → V) (m : Nat → Option Blk) : Option (Tr Out) :=
  match op with
  | .indexAddr t x i => match ρ i with
    | .one (.d (.i _ n)) => match P.underlying t, ρ x with
      | some (.slice e), .one (.d (.st c xs)) => if esz c = P.cellsOf e ∧ (P.info? e).isSome then some (.grd (decide (0 ≤ n)) (.opt (xs[n.toNat]?) fun t => .ret ⟨.one (.pv (enc c t)), []⟩)) else none
      | some (.slice e), .one (.f (.st c xs)) => if esz c = P.cellsOf e ∧ (P.info? e).isSome then some (.grd (decide (0 ≤ n)) (.opt (xs[n.toNat]?) fun t => .ret ⟨.one (.pv (enc c t)), []⟩)) else none
      | some (.slice e), .one (.own k ver len) => if (P.info? e).isSome then some (.grd (decide (0 ≤ n ∧ n < len)) (.ret ⟨.one (.pr k ver (P.cellsOf e) n.toNat 0), []⟩)) else none
      | some (.slice e), .one (.sub k ver sz off len) => if sz = P.cellsOf e ∧ (P.info? e).isSome then some (.grd (decide (0 ≤ n ∧ n < len)) (.ret ⟨.one (.pr k ver sz (off + n.toNat) 0), []⟩)) else none
      | _, _ => none
    | _ => none
  | .index t x (.tmp i) => match ρ (.tmp i), P.underlying t, ρ x with
    | .one (.d (.i _ n)), some (.array len e), .agg cs => match ints cs with
      | some (k, ns) => if len = ns.length ∧ P.cellsOf e = 1 ∧ tagg P e = false ∧ (P.info? e).isSome ∧ (P.underlying e).isSome then some (.grd (decide (0 ≤ n)) (.opt (ns[n.toNat]?) fun v => .ret ⟨vi k v, []⟩)) else none
      | none => none
    | _, _, _ => effGT P (.index t x (.tmp i)) ρ
  | .load t a => match ρ a with
    | .one (.pr k ver sz i off) => match m k with
      | some (.rowT ver' _ c _ fr xs) => if ver = ver' ∧ sz = esz c then some (.opt (xs[i]?) fun x => match partC P t ((enc c x).map (toC fr)) off with
        | some v => .ret ⟨v, []⟩
        | none => .fail 41) else none
      | _ => none
    | _ => none
  | .slice t x lo hi none => match P.underlying t, ρ x with
    | some (.slice e), .one (.d (.st c xs)) => match optI 0 (lo.map ρ), optI xs.length (hi.map ρ) with
      | some a, some b => if esz c = P.cellsOf e ∧ (P.info? e).isSome then some (.grd (decide (0 ≤ a ∧ a ≤ b ∧ b ≤ xs.length)) (.ret ⟨.one (.d (.st c ((xs.take b.toNat).drop a.toNat))), []⟩)) else none
      | _, _ => none
    | some (.slice e), .one (.f (.st c xs)) => match optI 0 (lo.map ρ), optI xs.length (hi.map ρ) with
      | some a, some b => if esz c = P.cellsOf e ∧ (P.info? e).isSome then some (.grd (decide (0 ≤ a ∧ a ≤ b ∧ b ≤ xs.length)) (.ret ⟨.one (.f (.st c ((xs.take b.toNat).drop a.toNat))), []⟩)) else none
      | _, _ => none
    | some (.slice e), .one (.own k ver len) => match optI 0 (lo.map ρ), optI len (hi.map ρ) with
      | some a, some b => if (P.info? e).isSome then some (.grd (decide (0 ≤ a ∧ a ≤ b ∧ b ≤ len)) (.ret ⟨.one (.sub k ver (P.cellsOf e) a.toNat (b - a).toNat), []⟩)) else none
      | _, _ => none
    | some (.slice e), .one (.sub k ver sz off len) => match optI 0 (lo.map ρ), optI len (hi.map ρ) with
      | some a, some b => if sz = P.cellsOf e ∧ (P.info? e).isSome then some (.grd (decide (0 ≤ a ∧ a ≤ b ∧ b ≤ len)) (.ret ⟨.one (.sub k ver sz (off + a.toNat) (b - a).toNat), []⟩)) else none
      | _, _ => none
    | _, _ => effGT P (.slice t x lo hi none) ρ
  | .convert src dst' x => match dst, P.underlying src, P.underlying dst', ρ x with
    | some k, some .string, some (.slice e), .one (.d (.s l)) => match P.underlying e, m k with
      | some (.int .u8), none => some (.grd (decide (l.length ≤ maxLen)) (.ret ⟨.one (.own k 0 l.length), [(k, .rowT 0 e 2 false true l)]⟩))
      | _, _ => none
    | _, some (.slice e), some .string, x => match P.underlying e, rowsT m 2 x with
      | some (.int .u8), some (l, _) => some (grdC (rowsC m x) (.ret ⟨vs l, []⟩))
      | _, _ => none
    | _, _, _, _ => none
  | .buildSlice t len parts => match eff P dst op ρ m with
    | some ⟨v, some (k, .row ver e sz ap fr rows)⟩ => if sz = esz (cod t) then match decRowsG (cod t) rows with
      | some T => some (T.bind fun ts => .ret ⟨v, [(k, .rowT ver e (cod t) ap fr ts)]⟩)
      | none => none
      else none
    | _ => none
  | .call { callee := .builtin .append, args, argTypes } => match dst, args.toList, argTypes.toList with
    | some d, [x, y], [t, t'] => match telem P t with
      | some e => match rowsT m (cod t) (ρ y) with
        | some (new, fr') => if t = t' ∧ esz (cod t) = P.cellsOf e ∧ 0 < esz (cod t) ∧ (tzero P e).isSome then match ρ x with
          | .one .nil => match m d with
            | none => some (grdC (rowsC m (ρ y)) (.grd (decide (new.length * P.bytesOf e ≤ 140737488355328 ∧ new.length ≤ maxLen)) (.ret ⟨.one (.own d 0 new.length), [(d, .rowT 0 e (cod t) true fr' new)]⟩)))
            | some _ => none
          | .one (.own k ver _) => match m k with
            | some (.rowT ver' e' c ap fr xs) => if h : c = cod t then (if ver = ver' ∧ e = e' ∧ ap = true then
                some (grdC (rowsC m (ρ y)) (.grd (decide (((h ▸ xs : List (τ (cod t))).length + new.length) * P.bytesOf e ≤ 140737488355328 ∧ (h ▸ xs : List (τ (cod t))).length + new.length ≤ maxLen))
                  (.ret ⟨.one (.own k (ver + 1) ((h ▸ xs : List (τ (cod t))) ++ new).length), [(k, .rowT (ver + 1) e (cod t) true (fr && fr') ((h ▸ xs : List (τ (cod t))) ++ new))]⟩))) else none) else none
            | _ => none
          | _ => none
          else none
        | none => none
      | none => none
    | _, _, _ => none
  | op => effGT P op ρ

/-- A store into an element of a typed row. -/
def effS (P : Program) (dst : Option Nat) (op : Op) (ρ : Operand → V) (m : Nat → Option Blk) : Option (Tr Out) :=
  match op with
  | .store t y x => match dst, ρ y, (ρ x).cells with
    | none, .one (.pr k ver sz i off), some cs => match m k, cs.mapM toD with
      | some (.rowT ver' e c ap fr xs), some ds => if ver = ver' ∧ sz = esz c ∧ ds.length = tsz P t ∧ off + ds.length ≤ sz ∧ (P.info? t).isSome then
          some (.opt (xs[i]?) fun x0 => match decG c (spliceC (enc c x0) off ds) with
            | some T => T.bind fun x1 => .ret ⟨.one .un, [(k, .rowT ver' e c ap (fr && cs.all C.fresh) (xs.set i x1))]⟩
            | none => .fail 42) else none
      | _, _ => none
    | _, _, _ => none
  | _ => none

/-- What effX says is what eff says, with typed rows. -/
def OutWk (E : Eff) (E' : Out) : Prop := E'.val = E.val ∧ ((E.mem = none ∧ E'.mem = []) ∨ ∃ k b b', E.mem = some (k, b) ∧ E'.mem = [(k, b')] ∧ BlkWk b b')

theorem semOf {P : Program} {o : Oper} {s : St} {E : Eff} {E' : Out} (hd : ∀ d, o.dst = some d → d < s.n) (he : eff P o.dst o.op s.eval s.blk = some E) (hw : OutWk E E') : SemStep P o s E' := by
  obtain ⟨hv, ⟨h1, h2⟩ | ⟨k, b, b', h1, h2, h3⟩⟩ := hw
  · intro w0 U0 X β0 β U a w hs
    obtain ⟨u, w', q1, q2⟩ := eff_sound hs o hd he
    refine ⟨u, w', q1, ?_⟩
    rw [St.app_out] at q2
    have : E.out = E' := by
      obtain ⟨ev, em⟩ := E; obtain ⟨v', m'⟩ := E'
      simp only at h1 h2 hv; subst h1; subst h2; subst hv; rfl
    rw [← this]; exact q2
  · have : E' = ⟨E.val, [(k, b')]⟩ := by
      obtain ⟨v', m'⟩ := E'; simp only at h2 hv; subst h2; subst hv; rfl
    rw [this]
    exact semOfEff hd he h1 rfl h3
end Go.Proofs.Ytjehhmeaigkbnaa.Abs
