/- An abstract walk, the third part: operations that touch no memory. For whatever program. -/
import Derived.Test.YtjehhmeaigkbnaaAbsB
import Derived.Laws.Entries
import Derived.Laws.Strings
import Derived.Lib.Strings
import Derived.ChangeKeysEq
namespace Go.Proofs.Ytjehhmeaigkbnaa.Abs
open Go Go.RowKit

abbrev vd (x : D) : V := .one (.d x)
abbrev vi (k : IntKind) (n : Int) : V := .one (.d (.i k n))
abbrev vb (x : Bool) : V := .one (.d (.b x))
abbrev vs (l : List UInt8) : V := .one (.d (.s l))

def cv1 : Value → C
  | .int k n => .d (.i k n)
  | .bool x => .d (.b x)
  | .string s => .d (.s s.data.toList)
  | .slice none 0 0 => .nil
  | v => if v.oneCell' then .d (.z v) else .bad
def cv : Value → V
  | .agg cs => if cs.all (·.oneCell') then .agg (cs.toList.map cv1) else .one .bad
  | v => .one (cv1 v)

def St.eval (s : St) : Operand → V
  | .tmp t => s.get t
  | .const v => cv v
  | .global _ => .one .bad
  | .func f => .one (.clo f [])

def mkgd (t : Bool) (x : V) : V := if t then x else .one .un
def pickV (t : Bool) (x y : V) : V := if t then x else y
def pickB (t p q : Bool) : Bool := if t then p else q
def pickI (t : Bool) (p q : Int) : Int := if t then p else q
theorem mkgd_true (x : V) : mkgd true x = x := rfl
theorem mkgd_false (x : V) : mkgd false x = .one .un := rfl
theorem mkgd_mkgd (t u : Bool) (x : V) : mkgd t (mkgd u x) = mkgd (t && u) x := by cases t <;> cases u <;> rfl
theorem pickV_true (x y : V) : pickV true x y = x := rfl
theorem pickV_false (x y : V) : pickV false x y = y := rfl
theorem pickV_b (t p q : Bool) : pickV t (vb p) (vb q) = vb (pickB t p q) := by cases t <;> rfl
theorem pickV_i (t : Bool) (k : IntKind) (p q : Int) : pickV t (vi k p) (vi k q) = vi k (pickI t p q) := by cases t <;> rfl
theorem pickV_gl (t g : Bool) (x y : V) : pickV t (mkgd g x) y = mkgd (pickB t g true) (pickV t x y) := by cases t <;> cases g <;> rfl
theorem pickV_gr (t g : Bool) (x y : V) : pickV t x (mkgd g y) = mkgd (pickB t true g) (pickV t x y) := by cases t <;> cases g <;> rfl
theorem pickB_lt (t q : Bool) : pickB t true q = (t || q) := by cases t <;> rfl
theorem pickB_rf (t p : Bool) : pickB t p false = (t && p) := by cases t <;> cases p <;> rfl
theorem pickB_rt (t p : Bool) : pickB t p true = (!t || p) := by cases t <;> cases p <;> rfl
theorem pickB_lf (t q : Bool) : pickB t false q = (!t && q) := by cases t <;> rfl

def yl (v : V) (want : Bool) : Option Bool :=
  match v with
  | .one (.d (.b x)) => some (x == want)
  | .one .un => some false
  | _ => none
theorem yl_b (x want : Bool) : yl (vb x) want = some (x == want) := rfl
theorem yl_un (want : Bool) : yl (.one .un) want = some false := rfl
theorem yl_gd (t x want : Bool) : yl (mkgd t (vb x)) want = some (t && (x == want)) := by cases t <;> rfl

/-! ### Integers, strings, structs -/
def binI (op : BinOp) (k : IntKind) (x : Int) (k' : IntKind) (y : Int) : Option D :=
  match op with
  | .shl => if 0 ≤ y then some (.i k (k.wrap (x * 2 ^ min y.toNat k.bits))) else none
  | .shr => if 0 ≤ y then some (.i k (x.fdiv (2 ^ min y.toNat k.bits))) else none
  | op => if k = k' then match op with
    | .add => some (.i k (k.wrap (x + y)))
    | .sub => some (.i k (k.wrap (x - y)))
    | .mul => some (.i k (k.wrap (x * y)))
    | .quo => if y ≠ 0 then some (.i k (k.wrap (x.tdiv y))) else none
    | .rem => if y ≠ 0 then some (.i k (x.tmod y)) else none
    | .and => some (.i k (bits .and k x y))
    | .or => some (.i k (bits .or k x y))
    | .xor => some (.i k (bits .xor k x y))
    | .andNot => some (.i k (bits .andNot k x y))
    | .eql => some (.b (decide (x = y)))
    | .neq => some (.b (!decide (x = y)))
    | .lss => some (.b (decide (x < y)))
    | .leq => some (.b (decide (x ≤ y)))
    | .gtr => some (.b (decide (y < x)))
    | .geq => some (.b (decide (y ≤ x)))
    | _ => none
    else none

def binS (op : BinOp) (x y : List UInt8) : Option D :=
  match op with
  | .add => if x.length + y.length ≤ 9223372036854775807 then some (.s (x ++ y)) else none
  | .eql => some (.b (decide (x = y)))
  | .neq => some (.b (!decide (x = y)))
  | _ => none

def binB (op : BinOp) (x y : Bool) : Option D :=
  match op with
  | .eql => some (.b (x == y))
  | .neq => some (.b (!(x == y)))
  | _ => none

def unA (op : UnOp) (x : V) : Option V :=
  match op, x with
  | .neg, .one (.d (.i k n)) => some (vi k (k.wrap (0 - n)))
  | .xor, .one (.d (.i k n)) => some (vi k (bits .xor k (if k.signed then -1 else k.max) n))
  | .not, .one (.d (.b x)) => some (vb (!x))
  | _, _ => none

def tsz (P : Program) (t : TypeId) : Nat := P.cellsOf t
def tagg (P : Program) (t : TypeId) : Bool := match P.underlying t with | some (.struct _) | some (.array _ _) => true | _ => false
/-- '==' of plain data, by the type. -/
def eqA (P : Program) : Nat → TypeId → List C → List C → Option Bool
  | 0, _, _, _ => none
  | d + 1, t, xs, ys =>
    match P.underlying t with
    | some .bool => match xs, ys with | [.d (.b x)], [.d (.b y)] => some (x == y) | _, _ => none
    | some (.int _) => match xs, ys with | [.d (.i k x)], [.d (.i k' y)] => if k = k' then some (decide (x = y)) else none | _, _ => none
    | some .string => match xs, ys with | [.d (.s x)], [.d (.s y)] => some (decide (x = y)) | _, _ => none
    | some (.struct fs) => if P.stoodInHeld t then none else
        fs.toList.foldr (fun f r => if f.name = "_" then none else match eqA P d f.type ((xs.drop f.offset).take (P.cellsOf f.type)) ((ys.drop f.offset).take (P.cellsOf f.type)), r with
          | some p, some q => some (p && q)
          | _, _ => none) (some true)
    | some (.array n e) => if (P.info? e).isNone then none else
        (List.range n).foldr (fun i r => match eqA P d e ((xs.drop (i * P.cellsOf e)).take (P.cellsOf e)) ((ys.drop (i * P.cellsOf e)).take (P.cellsOf e)), r with
          | some p, some q => some (p && q)
          | _, _ => none) (some true)
    | _ => none

def eqV (P : Program) (t : TypeId) (xs ys : List C) : Option Bool :=
  if P.eqGuardType P.depth t then none else if tagg P t then eqA P 12 t xs ys else none

def binA (P : Program) (op : BinOp) (t : TypeId) (x y : V) : Option V :=
  match x, y with
  | .one (.d (.i k a)), .one (.d (.i k' b)) => (binI op k a k' b).map vd
  | .one (.d (.s a)), .one (.d (.s b)) => (binS op a b).map vd
  | .one (.d (.b a)), .one (.d (.b b)) => match P.underlying t with | some .bool => (binB op a b).map vd | _ => none
  | .agg xs, .agg ys => match op with
    | .eql => (eqV P t xs ys).map vb
    | .neq => (eqV P t xs ys).map fun r => vb (!r)
    | _ => none
  | _, _ => none

/-! ### Parts -/
/-- A part of cells, as a value of a type. -/
def partC (P : Program) (t : TypeId) (cs : List C) (off : Nat) : Option V :=
  if (P.underlying t).isNone then none else
  if tagg P t then (if off + tsz P t ≤ cs.length then some (.agg ((cs.drop off).take (tsz P t))) else none)
  else (cs[off]?).map V.one
def tfield (P : Program) (t : TypeId) (f : Nat) : Option (Nat × TypeId) :=
  match P.underlying t with
  | some (.struct fs) => (fs[f]?).map fun x => (x.offset, x.type)
  | _ => none
def telem (P : Program) (t : TypeId) : Option TypeId :=
  match P.underlying t with
  | some (.slice e) => some e
  | _ => none
def tarr (P : Program) (t : TypeId) : Option (Nat × TypeId) :=
  match P.underlying t with
  | some (.array n e) => some (n, e)
  | _ => none

def V.cells : V → Option (List C)
  | .one c => match c with | .bad | .un => none | c => some [c]
  | .agg cs => some cs
  | .tup _ => none

def spliceC {α : Type} (cells : List α) (off : Nat) (xs : List α) : List α := cells.take off ++ xs ++ cells.drop (off + xs.length)

def fillA (place : Nat → Option (Nat × Nat)) (cells : List C) : List (Nat × V) → Option (List C)
  | [] => some cells
  | (i, v) :: rest => match place i, v.cells with
    | some (off, size), some xs => if xs.length ≠ size ∨ cells.length < off + xs.length then none else fillA place (spliceC cells off xs) rest
    | _, _ => none

def tzero (P : Program) (t : TypeId) : Option (List C) :=
  match P.info? t with
  | some i => match i.zero with
    | some z => if z.cells.all (·.oneCell') && z.cells.size == i.size then some (z.cells.toList.map cv1) else none
    | none => none
  | none => none

def buildA (P : Program) (t : TypeId) (parts : List (Nat × V)) : Option V :=
  match tzero P t with
  | none => none
  | some zero => match P.underlying t with
    | some (.struct fs) => if fs.all (fun f => (P.info? f.type).isSome) then (fillA (fun i => (fs[i]?).map fun f => (f.offset, P.cellsOf f.type)) zero parts).map V.agg else none
    | some (.array _ e) => if (P.info? e).isSome then (fillA (fun i => some (i * P.cellsOf e, P.cellsOf e)) zero parts).map V.agg else none
    | _ => none

def convA (P : Program) (src dst : TypeId) (x : V) : Option V :=
  match P.underlying src, P.underlying dst, x with
  | some _, some (.int k), .one (.d (.i _ n)) => some (vi k (k.wrap n))
  | some _, some .string, .one (.d (.s l)) => some (vs l)
  | _, _, _ => none

def optI (d : Int) : Option V → Option Int
  | none => some d
  | some (.one (.d (.i _ n))) => some n
  | _ => none

def sliceA (P : Program) (t : TypeId) (x : V) (lo hi : Option V) : Option V :=
  match P.underlying t, x with
  | some .string, .one (.d (.s l)) => match optI 0 lo, optI l.length hi with
    | some a, some b => if 0 ≤ a ∧ a ≤ b ∧ b ≤ l.length then some (vs ((l.take b.toNat).drop a.toNat)) else none
    | _, _ => none
  | some (.slice e), .one (.d (.sl sz rows)) => match optI 0 lo, optI rows.length hi with
    | some a, some b => if 0 ≤ a ∧ a ≤ b ∧ b ≤ rows.length ∧ sz = P.cellsOf e ∧ (P.info? e).isSome then some (.one (.d (.sl sz ((rows.take b.toNat).drop a.toNat)))) else none
    | _, _ => none
  | some (.slice e), .one (.f (.sl sz rows)) => match optI 0 lo, optI rows.length hi with
    | some a, some b => if 0 ≤ a ∧ a ≤ b ∧ b ≤ rows.length ∧ sz = P.cellsOf e ∧ (P.info? e).isSome then some (.one (.f (.sl sz ((rows.take b.toNat).drop a.toNat)))) else none
    | _, _ => none
  | some (.slice e), .one (.own k ver len) => match optI 0 lo, optI len hi with
    | some a, some b => if 0 ≤ a ∧ a ≤ b ∧ b ≤ len ∧ (P.info? e).isSome then some (.one (.sub k ver (P.cellsOf e) a.toNat (b - a).toNat)) else none
    | _, _ => none
  | some (.slice e), .one (.sub k ver sz off len) => match optI 0 lo, optI len hi with
    | some a, some b => if 0 ≤ a ∧ a ≤ b ∧ b ≤ len ∧ sz = P.cellsOf e ∧ (P.info? e).isSome then some (.one (.sub k ver sz (off + a.toNat) (b - a).toNat)) else none
    | _, _ => none
  | some (.slice e), .one .nil => match optI 0 lo, optI 0 hi with
    | some a, some b => if a = 0 ∧ b = 0 ∧ (P.info? e).isSome then some (.one .nil) else none
    | _, _ => none
  | some (.slice e), .one (.d (.st c xs)) => match optI 0 lo, optI xs.length hi with
    | some a, some b => if 0 ≤ a ∧ a ≤ b ∧ b ≤ xs.length ∧ esz c = P.cellsOf e ∧ (P.info? e).isSome then some (.one (.d (.st c ((xs.take b.toNat).drop a.toNat)))) else none
    | _, _ => none
  | some (.slice e), .one (.f (.st c xs)) => match optI 0 lo, optI xs.length hi with
    | some a, some b => if 0 ≤ a ∧ a ≤ b ∧ b ≤ xs.length ∧ esz c = P.cellsOf e ∧ (P.info? e).isSome then some (.one (.f (.st c ((xs.take b.toNat).drop a.toNat)))) else none
    | _, _ => none
  | _, _ => none

def fieldAddrA (P : Program) (t : TypeId) (x : V) (f : Nat) : Option V :=
  match tfield P t f with
  | none => none
  | some (o, u) => if tsz P u = 0 ∨ (P.info? u).isNone then none else match x with
    | .one (.ptr k off) => some (.one (.ptr k (off + o)))
    | .one (.pr k ver sz i off) => some (.one (.pr k ver sz i (off + o)))
    | .one (.pv cells) => some (.one (.pv (cells.drop o)))
    | _ => none

def indexAddrA (P : Program) (t : TypeId) (x i : V) : Option V :=
  match i with
  | .one (.d (.i _ n)) => if 0 ≤ n then match P.underlying t, x with
    | some (.array len e), .one (.ptr k off) => if n < len ∧ (P.info? e).isSome then some (.one (.ptr k (off + n.toNat * P.cellsOf e))) else none
    | some (.array len e), .one (.pr k ver sz i off) => if n < len ∧ (P.info? e).isSome then some (.one (.pr k ver sz i (off + n.toNat * P.cellsOf e))) else none
    | some (.array len e), .one (.pv cells) => if n < len ∧ (P.info? e).isSome then some (.one (.pv (cells.drop (n.toNat * P.cellsOf e)))) else none
    | some (.slice e), .one (.d (.sl sz rows)) => if sz = P.cellsOf e ∧ (P.info? e).isSome then (rows[n.toNat]?).map fun r => .one (.pv r) else none
    | some (.slice e), .one (.f (.sl sz rows)) => if sz = P.cellsOf e ∧ (P.info? e).isSome then (rows[n.toNat]?).map fun r => .one (.pv r) else none
    | some (.slice e), .one (.own k ver len) => if n < len ∧ (P.info? e).isSome then some (.one (.pr k ver (P.cellsOf e) n.toNat 0)) else none
    | some (.slice e), .one (.sub k ver sz off len) => if n < len ∧ sz = P.cellsOf e ∧ (P.info? e).isSome then some (.one (.pr k ver sz (off + n.toNat) 0)) else none
    | some (.slice e), .one (.d (.st c xs)) => if esz c = P.cellsOf e ∧ (P.info? e).isSome then (xs[n.toNat]?).map fun t => .one (.pv (enc c t)) else none
    | some (.slice e), .one (.f (.st c xs)) => if esz c = P.cellsOf e ∧ (P.info? e).isSome then (xs[n.toNat]?).map fun t => .one (.pv (enc c t)) else none
    | _, _ => none
    else none
  | _ => none

def indexA (P : Program) (t : TypeId) (x i : V) : Option V :=
  match i with
  | .one (.d (.i _ n)) => if 0 ≤ n then match P.underlying t, x with
    | some .string, .one (.d (.s l)) => (l[n.toNat]?).map fun b => vi .u8 b.toNat
    | some (.array len e), .agg cs => if n < len ∧ (P.info? e).isSome then partC P e cs (n.toNat * P.cellsOf e) else none
    | _, _ => none
    else none
  | _ => none

def fieldA (P : Program) (t : TypeId) (x : V) (f : Nat) : Option V :=
  match tfield P t f, x with
  | some (o, u), .agg cs => if (P.info? u).isSome then partC P u cs o else none
  | _, _ => none

def lenA (P : Program) (t : TypeId) (x : V) : Option V :=
  match P.underlying t, x with
  | some .string, .one (.d (.s l)) => some (vi .i64 l.length)
  | some (.array n _), _ => some (vi .i64 n)
  | some (.slice _), .one (.d (.sl _ rows)) => some (vi .i64 rows.length)
  | some (.slice _), .one (.f (.sl _ rows)) => some (vi .i64 rows.length)
  | some (.slice _), .one .nil => some (vi .i64 0)
  | some (.slice _), .one (.own _ _ len) => some (vi .i64 len)
  | some (.slice _), .one (.sub _ _ _ _ len) => some (vi .i64 len)
  | some (.slice _), .one (.d (.st _ xs)) => some (vi .i64 xs.length)
  | some (.slice _), .one (.f (.st _ xs)) => some (vi .i64 xs.length)
  | _, _ => none

def nilA : V → Option V
  | .one (.ptr k off) => some (.one (.ptr k off))
  | .one (.pr k ver sz i off) => some (.one (.pr k ver sz i off))
  | .one (.pv cells) => some (.one (.pv cells))
  | .one (.clo f caps) => some (.one (.clo f caps))
  | .one (.clp f ks) => some (.one (.clp f ks))
  | _ => none

def toD1 : V → Option D
  | .one (.d x) => some x
  | .one (.f x) => some x
  | _ => none

def toP1 : V → Option (Nat × Nat)
  | .one (.ptr k o) => some (k, o)
  | _ => none

def minmaxA (mn : Bool) : List V → Option V
  | [.one (.d (.i k x)), .one (.d (.i k' y))] => if k = k' then some (vi k (if mn then (if y < x then y else x) else (if y > x then y else x))) else none
  | _ => none

def effQ (P : Program) (op : Op) (ρ : Operand → V) : Option V :=
  match op with
  | .move x | .assign x => some (ρ x)
  | .pick c a b => match ρ c with | .one (.d (.b t)) => some (pickV t (ρ a) (ρ b)) | _ => none
  | .build t parts => buildA P t (parts.toList.map fun p => (p.1, ρ p.2))
  | .binOp op t x y _ => binA P op t (ρ x) (ρ y)
  | .unOp op _ x => unA op (ρ x)
  | .convert src dst x => convA P src dst (ρ x)
  | .slice t x lo hi none => sliceA P t (ρ x) (lo.map ρ) (hi.map ρ)
  | .fieldAddr t x f => fieldAddrA P t (ρ x) f
  | .field t x f => fieldA P t (ρ x) f
  | .indexAddr t x i => indexAddrA P t (ρ x) (ρ i)
  | .index t x i => indexA P t (ρ x) (ρ i)
  | .extract t i => match ρ t with | .tup vs => vs[i]? | _ => none
  | .nilCheck x => nilA (ρ x)
  | .makeFunc (.func f) first captured => if first.size = 0 then (match (captured.toList.map ρ).mapM toD1 with | some ds => some (.one (.clo f ds)) | none => ((captured.toList.map ρ).mapM toP1).map fun ks => .one (.clp f ks)) else none
  | .call { callee := .builtin .len, args, argTypes } => match argTypes.toList, args.toList with | [t], [x] => lenA P t (ρ x) | _, _ => none
  | .call { callee := .builtin .min, args, .. } => minmaxA true (args.toList.map ρ)
  | .call { callee := .builtin .max, args, .. } => minmaxA false (args.toList.map ρ)
  | _ => none
end Go.Proofs.Ytjehhmeaigkbnaa.Abs
