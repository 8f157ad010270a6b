/- An abstract walk: calls. For whatever program. -/
import Derived.Test.YtjehhmeaigkbnaaAbsR
namespace Go.Proofs.Ytjehhmeaigkbnaa.Abs
open Go Go.RowKit
set_option linter.unusedVariables false

def argsEnv : Nat → List V → List (Nat × V)
  | _, [] => []
  | i, x :: r => (i, x) :: argsEnv (i + 1) r

/-- What a call leaves: called with values that stand for args, over memory that stands for m, it returns what stands for some r and m' of which K holds. -/
def ACall (P : Program) (f : FuncId) (args : List V) (m : List (Nat × Blk)) (K : V → List (Nat × Blk) → Prop) : Prop :=
  ∀ (w : World) (U0 : Nat → Prop) (X : Nat → Nat → Prop) (β0 : Nat → Option Place) (us : Array Value), SimB w U0 X β0 β0 U0 ⟨args.length, argsEnv 0 args, m⟩ ⟨us, []⟩ w →
    Calls P f us w fun e w' => ∃ v r m', e = .returned v ∧ K r m' ∧ Sim w U0 X β0 ⟨1, [(0, r)], m'⟩ ⟨#[v], []⟩ w'


/-! ### What is handed to a call -/
def sigIn (m : Nat → Option Blk) (ks : List (Nat × Nat)) : Ren := fun k => match look k ks, m k with
  | some q, some b => some (q, b.ver, 0)
  | _, _ => none

def viewC (m : Nat → Option Blk) (σ : Ren) (lock : Bool) : C → C
  | .f x => .d x
  | .own k ver len => match σ k with
    | some (q, cv, nv) => if ver = cv then .own q nv len else .bad
    | none => match lock, m k with
      | true, some (.row ver' _ sz _ _ rows) => if ver = ver' then .d (.sl sz rows) else .bad
      | true, some (.rowT ver' _ c _ _ xs) => if ver = ver' then .d (.st c xs) else .bad
      | _, _ => .bad
  | .sub k ver sz off len => match σ k with
    | some (q, cv, nv) => if ver = cv then .sub q nv sz off len else .bad
    | none => match lock, m k with
      | true, some (.row ver' _ sz' _ _ rows) => if ver = ver' ∧ sz = sz' ∧ off + len ≤ rows.length then .d (.sl sz ((rows.drop off).take len)) else .bad
      | true, some (.rowT ver' _ c _ _ xs) => if ver = ver' ∧ sz = esz c ∧ off + len ≤ xs.length then .d (.st c ((xs.drop off).take len)) else .bad
      | _, _ => .bad
  | .ptr k off => match σ k with
    | some (q, _, _) => .ptr q off
    | none => .bad
  | .pr k ver sz i off => match σ k with
    | some (q, cv, nv) => if ver = cv then .pr q nv sz i off else .bad
    | none => match lock, m k with
      | true, some (.row ver' _ sz' _ _ rows) => if ver = ver' ∧ sz = sz' then match rows[i]? with
        | some r => .pv (r.drop off)
        | none => .bad
        else .bad
      | _, _ => .bad
  | .asl _ _ _ => .bad
  | .clp f ks => match renKs σ ks with | some l => .clp f l | none => .bad
  | .pre k ver sz len => match σ k with
    | some (q, cv, nv) => if ver = cv then .pre q nv sz len else .bad
    | none => match lock, m k with
      | true, some (.rowT ver' _ c _ _ xs) => if ver = ver' then .d (.st c (xs.take len)) else .bad
      | _, _ => .bad
  | .nn x => .d x
  | c => c
def viewV (m : Nat → Option Blk) (σ : Ren) (lock : Bool) : V → V
  | .one c => .one (viewC m σ lock c)
  | .agg cs => .agg (cs.map (viewC m σ lock))
  | .tup _ => .one .bad
def viewB (m : Nat → Option Blk) (σ : Ren) (lock : Bool) : Blk → Blk
  | .cells cs => .cells (cs.map (viewC m σ lock))
  | .row _ e sz ap _ rows => .row 0 e sz ap false rows
  | .rowT _ e c ap _ xs => .rowT 0 e c ap (flatT c) xs
def viewMem (m : Nat → Option Blk) (σ : Ren) (lock : Bool) : List (Nat × Nat) → Option (List (Nat × Blk))
  | [] => some []
  | (k, q) :: r => match m k, viewMem m σ lock r with
    | some b, some l => some ((q, viewB m σ lock b) :: l)
    | _, _ => none

/-- What is said of a value may say less. -/
def WkC (c c' : C) : Prop := c' = c ∨ c' = .bad ∨ (c = .nil ∧ ((∃ sz, c' = .d (.sl sz [])) ∨ (∃ q, c' = .d (.st q [])) ∨ ∃ q, c' = .f (.st q []))) ∨ ∃ x, c = .f x ∧ c' = .d x
def WkCs : List C → List C → Prop
  | [], [] => True
  | c :: r, c' :: r' => WkC c c' ∧ WkCs r r'
  | _, _ => False
def WkV : V → V → Prop
  | .one c, .one c' => WkC c c'
  | .agg cs, .agg cs' => WkCs cs cs'
  | x, y => x = y
def WkVs : List V → List V → Prop
  | [], [] => True
  | x :: r, y :: r' => WkV x y ∧ WkVs r r'
  | _, _ => False
def WkB : Blk → Blk → Prop
  | .cells cs, .cells cs' => WkCs cs cs'
  | x, y => x = y
def WkM : List (Nat × Blk) → List (Nat × Blk) → Prop
  | [], [] => True
  | (k, b) :: r, (k', b') :: r' => k = k' ∧ WkB b b' ∧ WkM r r'
  | _, _ => False

/-! ### What comes back -/
def C.safe : C → Bool
  | .d x => x.flat
  | .pv _ => false
  | .clo _ caps => caps.isEmpty
  | .nn _ => false
  | _ => true
def V.safe1 : V → Bool
  | .one c => c.safe
  | .agg cs => cs.all C.safe
  | .tup _ => false
def V.safe : V → Bool
  | .tup vs => vs.all V.safe1
  | .one c => c.safe
  | .agg cs => cs.all C.safe
def Blk.safe : Blk → Bool
  | .cells cs => cs.all C.safe
  | .row _ _ _ _ fr _ => fr
  | .rowT _ _ _ _ fr _ => fr

def sigOut (s : St) (ks : List (Nat × Nat)) (d : Option Nat) (m0 : List (Nat × Blk)) : Ren := fun q => match look q m0 with
  | none => none
  | some b => match ks.find? (fun p => p.2 == q) with
    | some (k, _) => match s.blk k with
      | some bk => (match bk.isRow with
        | true => some (k, b.ver, if b.ver = 0 then bk.ver else bk.ver + 1)
        | false => some (k, b.ver, 0))
      | none => none
    | none => match d with
      | some d => if 2000000 ≤ q ∧ q < 2001000 then some (1000 * (d + 1) + (q - 2000000), b.ver, b.ver) else none
      | none => none
def outMem (σ : Ren) : List (Nat × Blk) → Option (List (Nat × Blk))
  | [] => some []
  | (q, b) :: r => match σ q, outMem σ r with
    | some (k, _, nv), some m => some ((k, b.ren σ nv) :: m)
    | _, _ => none
def okKs : List (Nat × Nat) → Bool
  | [] => true
  | (k, q) :: r => r.all (fun p => p.1 != k && p.2 != q) && decide (1000000 ≤ q) && decide (q < 2000000) && okKs r
def nodupKeys : List (Nat × Blk) → Bool
  | [] => true
  | (q, _) :: r => r.all (fun p => p.1 != q) && nodupKeys r
/-- New blocks of a call's result take names that are not in use. -/
def freshKeys (s : St) (ks : List (Nat × Nat)) (d : Option Nat) (m0 : List (Nat × Blk)) : Bool :=
  m0.all fun p => ks.any (fun z => z.2 == p.1) || (match d with | some d => (s.blk (1000 * (d + 1) + (p.1 - 2000000))).isNone | none => false)
def callOut (s : St) (ks : List (Nat × Nat)) (lock : Bool) (d : Option Nat) (r0 : V) (m0 : List (Nat × Blk)) : Option Out :=
  match okKs ks && ks.all (fun p => (look p.2 m0).isSome) && nodupKeys m0 && freshKeys s ks d m0 && (!lock || (r0.safe && m0.all fun p => p.2.safe)), outMem (sigOut s ks d m0) m0 with
  | true, some m => some ⟨r0.ren (sigOut s ks d m0), m⟩
  | _, _ => none
end Go.Proofs.Ytjehhmeaigkbnaa.Abs
