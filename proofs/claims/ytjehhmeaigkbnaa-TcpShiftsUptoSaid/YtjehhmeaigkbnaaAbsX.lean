/- An abstract run: a walk as a function that is computed (its result is a tree of what is not decided), and that it is sound. For whatever program. Conditions: none. -/
import Derived.Test.YtjehhmeaigkbnaaAbsZ
namespace Go.Proofs.Ytjehhmeaigkbnaa.Abs
open Go Go.RowKit
set_option linter.unusedVariables false
set_option linter.unusedSimpArgs false

/-! ### The run -/
abbrev Kn := List (Nat × Bool)
abbrev Log := List (List Nat × List Nat)

def unKn (d : Nat) : Kn → Kn
  | [] => []
  | (t, b) :: r => match Nat.beq t d with | true => unKn d r | false => (t, b) :: unKn d r
def knPut (kn : Kn) (dst : Option Nat) (b : Option Bool) : Kn :=
  match dst with
  | none => kn
  | some d => match b with | some b => (d, b) :: unKn d kn | none => unKn d kn
def known (kn : Kn) : Operand → Option Bool
  | .tmp t => look t kn
  | .const (.bool b) => some b
  | _ => none

def KnOk (kn : Kn) (s : St) : Prop := ∀ t b, look t kn = some b → s.get t = vb b

/-- The rows of the call's own that arguments lead to. -/
def ownKeys : List C → List Nat
  | [] => []
  | .own k _ _ :: r => k :: ownKeys r
  | _ :: r => ownKeys r
def V.own1 : V → List Nat
  | .one c => ownKeys [c]
  | .agg cs => ownKeys cs
  | .tup _ => []
def V.owns : V → List Nat
  | .tup vs => vs.flatMap V.own1
  | v => v.own1
def newNames (old : List Nat) : Nat → List Nat → List (Nat × Nat)
  | _, [] => []
  | j, k :: r => match old.contains k with
    | true => newNames old j r
    | false => (k, j) :: newNames (k :: old) (j + 1) r
def ownsOf (m : Nat → Option Blk) : List V → List Nat
  | [] => []
  | .one (.ptr k _) :: r => match m k with
    | some (.cells cs) => ownKeys cs ++ ownsOf m r
    | _ => ownsOf m r
  | v :: r => v.own1 ++ ownsOf m r
/-- The blocks that closures among the arguments have captured. -/
def capsOf : List V → List Nat
  | [] => []
  | .one (.clp _ ks) :: r => ks.map (·.1) ++ capsOf r
  | _ :: r => capsOf r
def ksPtr (args : List V) : List (Nat × Nat) := ksOf 0 args ++ newNames ((ksOf 0 args).map (·.1)) 1000200 (capsOf args)
def ksAll (m : Nat → Option Blk) (args : List V) : List (Nat × Nat) := ksPtr args ++ newNames [] 1000100 (ownsOf m args)
def ksFor (own : Bool) (m : Nat → Option Blk) (args : List V) : List (Nat × Nat) := match own with | true => ksAll m args | false => ksPtr args
/-- Are there rows that are not handed over? -/
def lockOf (ks : List (Nat × Nat)) : Mem → Bool
  | [] => false
  | (k, .cells _) :: r => lockOf ks r
  | (k, _) :: r => match look k ks with
    | some _ => lockOf ks r
    | none => true

variable (P : Program) (cod : TypeId → Nat) (own : FuncId → Bool) (call : FuncId → List V → Mem → Tr (V × Mem)) {ρ : Type}

def execCall (o : Oper) (kn : Kn) (s : St) (K : Kn → List Nat → List Nat → St → Tr ρ) (f : FuncId) (caps : List V) (args : List Operand) : Tr ρ :=
  match viewMem s.blk (sigIn s.blk (ksFor (own f) s.blk (args.map s.eval ++ caps))) (lockOf (ksFor (own f) s.blk (args.map s.eval ++ caps)) s.mem) (ksFor (own f) s.blk (args.map s.eval ++ caps)) with
  | none => .fail 11
  | some m1 => match canEnter P f && okKs (ksFor (own f) s.blk (args.map s.eval ++ caps)) && decide ((args.length + caps.length) ≤ 900) with
    | true => (call f ((args.map s.eval ++ caps).map (viewV s.blk (sigIn s.blk (ksFor (own f) s.blk (args.map s.eval ++ caps))) (lockOf (ksFor (own f) s.blk (args.map s.eval ++ caps)) s.mem))) m1).bind fun rm =>
        match callOut s (ksFor (own f) s.blk (args.map s.eval ++ caps)) (lockOf (ksFor (own f) s.blk (args.map s.eval ++ caps)) s.mem) o.dst rm.1 rm.2 with
        | some E => K (knPut kn o.dst none) (match (ksFor (own f) s.blk (args.map s.eval ++ caps)).isEmpty with | true => callR (args.map s.eval ++ caps) | false => [allK]) (E.mem.map (·.1)) (s.out o.dst E)
        | none => .fail 12
    | false => .fail 13

def execOp (o : Oper) (kn : Kn) (s : St) (K : Kn → List Nat → List Nat → St → Tr ρ) : Tr ρ :=
  match o.op with
  | .pick c a b => match known kn c with
    | some t => match t with
      | true => K (knPut kn o.dst (known kn a)) [] [] (s.put o.dst (s.eval a))
      | false => K (knPut kn o.dst (known kn b)) [] [] (s.put o.dst (s.eval b))
    | none => match s.eval c with
      | .one (.d (.b t)) => .ite t (K (knPut kn o.dst (known kn a)) [] [] (s.put o.dst (s.eval a))) (K (knPut kn o.dst (known kn b)) [] [] (s.put o.dst (s.eval b)))
      | _ => .fail 1
  | .assign x => K (knPut kn o.dst (known kn x)) [] [] (s.put o.dst (s.eval x))
  | .move x => K (knPut kn o.dst (known kn x)) [] [] (s.put o.dst (s.eval x))
  | .call { callee := .value fo, args, .. } => match cloOf (s.eval fo) with
    | some (f, caps) => execCall P own call o kn s K f caps args.toList
    | none => .fail 2
  | op => match effS P o.dst op s.eval s.blk with
    | some T => T.bind fun E => K (knPut kn o.dst none) (effKeys o.dst op s.eval) (E.mem.map (·.1)) (s.out o.dst E)
    | none => match effZ P cod o.dst op s.eval s.blk with
    | some T => T.bind fun E => K (knPut kn o.dst none) (effKeys o.dst op s.eval) (E.mem.map (·.1)) (s.out o.dst E)
    | none => match effX P cod o.dst op s.eval s.blk with
    | some T => T.bind fun E => K (knPut kn o.dst none) (effKeys o.dst op s.eval) (E.mem.map (·.1)) (s.out o.dst E)
    | none => match eff P o.dst op s.eval s.blk with
      | some E => K (knPut kn o.dst none) (effKeys o.dst op s.eval) (E.out.mem.map (·.1)) (s.out o.dst E.out)
      | none => match effP P cod o.dst op s.eval s.blk with
        | some T => T.bind fun E => K (knPut kn o.dst none) (effKeys o.dst op s.eval) (E.mem.map (·.1)) (s.out o.dst E)
        | none => .fail 3

def execOps (ops : Array Oper) : List Oper → Kn → Log → St → (Kn → Log → St → Tr ρ) → Tr ρ
  | [], kn, log, s, K => K kn log s
  | o :: rest, kn, log, s, K =>
    match dstOk s o.dst with
    | false => .fail 4
    | true => match o.guard with
      | none => execOp P cod own call o kn s fun kn' R W s' => execOps ops rest kn' (log ++ [(R, W)]) s' K
      | some (j, want) => match (ops[j]?).bind (·.dst) with
        | none => .fail 5
        | some t => match look t kn with
          | some b => match b == want with
            | true => execOp P cod own call o kn s fun kn' R W s' => execOps ops rest kn' (log ++ [(R, W)]) s' K
            | false => execOps ops rest (knPut kn o.dst none) (log ++ [([], [])]) (s.put o.dst (.one .un)) K
          | none => match s.get t with
            | .one .un => execOps ops rest (knPut kn o.dst none) (log ++ [([], [])]) (s.put o.dst (.one .un)) K
            | .one (.d (.b c)) => match want with
              | true => .ite c (execOp P cod own call o ((t, true) :: kn) s fun kn' R W s' => execOps ops rest kn' (log ++ [(R, W)]) s' K)
                  (execOps ops rest (knPut ((t, false) :: kn) o.dst none) (log ++ [([], [])]) (s.put o.dst (.one .un)) K)
              | false => .ite c (execOps ops rest (knPut ((t, true) :: kn) o.dst none) (log ++ [([], [])]) (s.put o.dst (.one .un)) K)
                  (execOp P cod own call o ((t, false) :: kn) s fun kn' R W s' => execOps ops rest kn' (log ++ [(R, W)]) s' K)
            | _ => .fail 6

def lid : Code → Nat
  | .region id _ _ => id
  | .seq a _ => lid a
  | .block _ b => lid b
  | .loop b => lid b
  | .cond _ a _ => lid a
  | .scope b => lid b
  | _ => 0

/-! ### Loops -/
def normGet (ks : List (Nat × Nat)) (sp : SP) (s : St) : Option (Ob × sp.T) :=
  match s.norm false (sp.env.map (·.1)) ks with
  | some s1 => sp.get s1
  | none => none
/-- A nil slice as a row of the call's own, of no element: temporaries, their elements' type and number. -/
def ghostSt : List (Nat × TypeId × Nat) → St → St
  | [], s => s
  | (t, e, c) :: r, s => match s.get t, s.blk t, Nat.blt t 1000000 with
    | .one .nil, none, true => ghostSt r { n := s.n, env := (t, .one (.own t 0 0)) :: s.env, mem := (t, .rowT 0 e c true true []) :: s.mem }
    | _, _, _ => ghostSt r s
/-- A way out of a loop: an exit, or (none) a return. -/
structure EX where
  e : Option Nat
  ks : List (Nat × Nat)
  sp : SP
def EX.exit (x : EX) : Exit := match x.e with | some id => .exit id | none => .ret
def EX.hits (x : EX) (e : Exit) : Bool :=
  match x.e with
  | some id => match e with | .exit id' => Nat.beq id id' | _ => false
  | none => match e with | .ret => true | _ => false
/-- A loop: what varies at its head, and at its ways out. -/
structure LS where
  id : Nat
  ks : List (Nat × Nat)
  sp : SP
  es : List EX
  gs : List (Nat × TypeId × Nat)
def ExT : List EX → Type
  | [] => Empty
  | [x] => x.sp.T
  | x :: y :: r => x.sp.T ⊕ ExT (y :: r)
def exInj : (es : List EX) → Exit → St → Option (Tr (ExT es))
  | [], _, _ => none
  | [x], e, s => match x.hits e with
    | true => match normGet x.ks x.sp s with
      | some (g, y) => some (grdOb (x.sp.len y) g (.ret y))
      | none => some (.stuck 997 s)
    | false => none
  | x :: y :: r, e, s => match x.hits e with
    | true => match normGet x.ks x.sp s with
      | some (g, y) => some (grdOb (x.sp.len y) g (.ret (.inl y)))
      | none => some (.stuck 997 s)
    | false => match exInj (y :: r) e s with
      | some T => some (T.map .inr)
      | none => none
def exOut : (es : List EX) → ExT es → Tr (Exit × St)
  | [], o => nomatch o
  | [x], o => .ret (x.exit, x.sp.put o)
  | x :: y :: r, o => .sum o (fun a => .ret (x.exit, x.sp.put a)) (fun b => exOut (y :: r) b)
def loopO {A B : Type} (tag : Nat) (f : A → Option (A ⊕ B)) : Nat → A → Option B
  | 0, _ => none
  | n + 1, a => match f a with
    | none => none
    | some (.inl a') => loopO tag f n a'
    | some (.inr b) => some b
def loopK (L : LS) (e : Exit) (s : St) : Tr (L.sp.T ⊕ ExT L.es) :=
  match (match e with | .normal => true | _ => false) with
  | true => match normGet L.ks L.sp (ghostSt L.gs s) with
    | some (g, y) => grdOb (L.sp.len y) g (.ret (.inl y))
    | none => .stuck 996 s
  | false => match exInj L.es e s with
    | some T => T.map .inr
    | none => .stuck (match e with | .exit id => 2000 + id | .ret => 1999 | _ => 1998) s
def findL (id : Nat) : List LS → Option LS
  | [] => none
  | L :: r => match Nat.beq L.id id with | true => some L | false => findL id r

variable (Λ : List LS) (fi : Nat)

def exec : Code → (ρ : Type) → Kn → St → (Exit → Kn → St → Tr ρ) → Tr ρ
  | .skip, _, kn, s, K => K .normal kn s
  | .region _ ops draw, _, kn, s, K => match draw with
    | false => execOps P cod own call ops ops.toList kn [] s fun kn' _ s' => K .normal kn' s'
    | true => match P.follows .mixedOrders with
      | true => execOps P cod own call ops ops.toList kn [] s fun kn' log s' => match okOrder ops log with
        | true => K .normal kn' s'
        | false => .fail 7
      | false => .fail 7
  | .seq a b, ρ, kn, s, K => exec a ρ kn s fun e kn' s' => match e with
    | .normal => exec b ρ kn' s' K
    | e => K e kn' s'
  | .cond c a b, ρ, kn, s, K => match known kn c with
    | some t => match t with
      | true => exec a ρ kn s K
      | false => exec b ρ kn s K
    | none => match s.eval c with
      | .one (.d (.b t)) => match c with
        | .tmp j => .ite t (exec a ρ ((j, true) :: kn) s K) (exec b ρ ((j, false) :: kn) s K)
        | _ => .ite t (exec a ρ kn s K) (exec b ρ kn s K)
      | _ => .fail 8
  | .block id body, ρ, kn, s, K => exec body ρ kn s fun e kn' s' => match e with
    | .exit id' => match Nat.beq id' id with
      | true => K .normal kn' s'
      | false => K (.exit id') kn' s'
    | e => K e kn' s'
  | .loop body, ρ, kn, s, K => match findL (lid body) Λ with
    | none => .stuck (10000 * (fi + 1) + lid body) s
    | some L => match normGet L.ks L.sp (ghostSt L.gs s) with
      | none => .stuck (10000 * (fi + 1) + 5000 + lid body) s
      | some (g, x) => grdOb (L.sp.len x) g (.opt (loopO (10000 * fi + L.id) (fun x => (exec body (L.sp.T ⊕ ExT L.es) [] (L.sp.put x) fun e _ s' => loopK L e s').eval) 18446744073709551616 x) fun o =>
          (exOut L.es o).bind fun es => K es.1 [] es.2)
  | .exit id, _, kn, s, K => K (.exit id) kn s
  | .ret, _, kn, s, K => K .ret kn s
  | _, _, _, _, _ => .fail 9

def endKs (m : Mem) (v : V) : List (Nat × Nat) := m.map (fun p => (p.1, p.1)) ++ newNames (m.map (·.1)) 2000000 v.owns

/-- A told function of data: its arguments, its result, what it computes. -/
structure FS (P : Program) where
  f : FuncId
  ap : List VP1
  rp : SP
  fn : VPsT ap Unit → Option rp.T
  ok : ∀ x r, fn x = some r → ACall P f (putVs (fun _ => 0) ap x).1 [] fun r' m' => r' = (rp.put r).get 0 ∧ m' = (rp.put r).mem
/-- A told call: what comes of arguments and blocks. -/
structure PF (P : Program) where
  f : FuncId
  own : Bool
  tr : List V → Mem → Option (Tr (V × Mem))
  ok : ∀ ys m T r m', tr ys m = some T → T.eval = some (r, m') → ∃ ys' m2, WkVs ys ys' ∧ WkM m m2 ∧ ACall P f ys' m2 fun r' m'' => r' = r ∧ m'' = m'
def findF {P : Program} (f : FuncId) (ys : List V) (m : Mem) : List (PF P) → Option (Tr (V × Mem))
  | [] => none
  | F :: r => match Nat.beq F.f f with
    | true => match F.tr ys m with
      | some T => some T
      | none => findF f ys m r
    | false => findF f ys m r
def ownF {P : Program} : List (PF P) → FuncId → Bool
  | [], _ => false
  | F :: r, f => match Nat.beq F.f f && F.own with | true => true | false => ownF r f

variable (Γ : List (PF P)) (Λs : List (FuncId × LS))
def loopsOf (f : FuncId) : List (FuncId × LS) → List LS
  | [] => []
  | (g, L) :: r => match Nat.beq g f with | true => L :: loopsOf f r | false => loopsOf f r

def execEnd (rs : List ResultVar) (m : Mem) (e : Exit) (s : St) : Tr (V × Mem) :=
  match (match e with | .normal | .ret => true | _ => false) with
  | true => match resA P rs s with
    | some v => match St.norm true (trimSt { n := 1, env := [(0, v)], mem := s.mem }) [0] (endKs m ((trimSt { n := 1, env := [(0, v)], mem := s.mem }).get 0)) with
      | some s1 => match s1.env with
        | [(_, r)] => .ret (r, s1.mem)
        | _ => .fail 20
      | none => .fail 21
    | none => .fail 22
  | false => .fail 23

def execBody (fn : Func) (f : FuncId) (ys : List V) (m : Mem) : Tr (V × Mem) :=
  match fn.body with
  | some c => match decide (fn.ntmps ≤ 900) && decide (ys.length ≤ fn.ntmps) with
    | true => exec P cod own call (loopsOf f Λs) f c (V × Mem) [] ⟨fn.ntmps, argsEnv 0 ys, m⟩ fun e _ s => execEnd P fn.results.toList m e s
    | false => .fail 24
  | none => .fail 25

/-- A call of a told function. -/
def execSpec (F : FS P) (ys : List V) (m : Mem) : Option (Tr (V × Mem)) :=
  match m with
  | [] => match getVs F.ap ys with
    | some ([], g) => some (.opt (F.fn (g Unit ())) fun r => .ret ((F.rp.put r).get 0, (F.rp.put r).mem))
    | _ => none
  | _ => none

def execFn : Nat → FuncId → List V → Mem → Tr (V × Mem)
  | 0, _, _, _ => .fail 26
  | n + 1, f, ys, m => match findF f ys m Γ with
    | some T => T
    | none => match P.funcs[f]? with
      | some fn => execBody P cod (ownF Γ) (execFn n) Λs fn f ys m
      | none => .fail 27

/-- Rows of the call's own become data. -/
def frzC (m : Mem) : C → C
  | .own k ver len => match look k m with
    | some (.rowT ver' _ c _ fr xs) => if ver = ver' then stC fr c xs else .bad
    | _ => .bad
  | .sub _ _ _ _ _ => .bad
  | .ptr _ _ => .bad
  | .pr _ _ _ _ _ => .bad
  | .asl _ _ _ => .bad
  | .clp _ _ => .bad
  | .pre _ _ _ _ => .bad
  | c => c
def frzV1 (m : Mem) : V → V
  | .one c => .one (frzC m c)
  | .agg cs => .agg (cs.map (frzC m))
  | .tup _ => .one .bad
def frzV (m : Mem) : V → V
  | .tup vs => .tup (vs.map (frzV1 m))
  | v => frzV1 m v

/-- A function's tree, in terms of what its arguments and its result say. -/
def fnTr (n : Nat) (f : FuncId) (ap : List VP1) (rp : SP) (x : VPsT ap Unit) : Tr rp.T :=
  match P.funcs[f]? with
  | some fn => (execBody P cod (ownF Γ) (execFn P cod Γ Λs n) Λs fn f (putVs (fun _ => 0) ap x).1 []).bind fun rm => match rp.get ⟨1, [(0, frzV rm.2 rm.1)], []⟩ with
    | some (g, y) => grdOb (rp.len y) g (.ret y)
    | none => .stuck 994 ⟨1, [(0, frzV rm.2 rm.1)], rm.2⟩
  | none => .fail 28

/-- A loop's text. -/
def findB (id : Nat) : Code → Option Code
  | .seq a b => (findB id a).or (findB id b)
  | .cond _ a b => (findB id a).or (findB id b)
  | .block _ b => findB id b
  | .loop b => match Nat.beq (lid b) id with | true => some b | false => findB id b
  | _ => none
/-- A round's tree. -/
def stepTr (n : Nat) (f : FuncId) (L : LS) (x : L.sp.T) : Tr (L.sp.T ⊕ ExT L.es) :=
  match P.funcs[f]? with
  | some fn => match fn.body with
    | some c => match findB L.id c with
      | some b => exec P cod (ownF Γ) (execFn P cod Γ Λs n) (loopsOf f Λs) f b (L.sp.T ⊕ ExT L.es) [] (L.sp.put x) fun e _ s' => loopK L e s'
      | none => .fail 31
    | none => .fail 32
  | none => .fail 33

/-- A told function that is handed blocks: its tree; what it begins with and what it leaves are patterns. -/
def gsTr (n : Nat) (f : FuncId) (ap rp : SP) (x : ap.T) : Tr rp.T :=
  match P.funcs[f]? with
  | some fn => match fn.body with
    | some c => match Nat.beq fn.ntmps ap.n && decide (fn.ntmps ≤ 900) with
      | true => (exec P cod (ownF Γ) (execFn P cod Γ Λs n) (loopsOf f Λs) f c (V × Mem) [] (ap.put x) fun e _ s => execEnd P fn.results.toList (ap.put x).mem e s).bind fun rm =>
          match normGet (rm.2.map fun p => (p.1, p.1)) rp ⟨1, [(0, rm.1)], rm.2⟩ with
          | some (g, y) => grdOb (rp.len y) g (.ret y)
          | none => .stuck 993 ⟨1, [(0, rm.1)], rm.2⟩
      | false => .fail 24
    | none => .fail 25
  | none => .fail 28
def entryGet (ap : SP) (ys : List V) (m : Mem) : Option (Ob × ap.T) :=
  match decide (ys.length ≤ ap.n) with
  | true => normGet (m.map fun p => (p.1, p.1)) ap ⟨ap.n, argsEnv 0 ys, m⟩
  | false => none
def gsSpec (ap rp : SP) (fn : ap.T → Option rp.T) (ys : List V) (m : Mem) : Option (Tr (V × Mem)) :=
  match entryGet ap ys m with
  | some (g, x) => some (grdOb (ap.len x) g (.opt (fn x) fun r => .ret ((rp.put r).get 0, (rp.put r).mem)))
  | none => none
end Go.Proofs.Ytjehhmeaigkbnaa.Abs
