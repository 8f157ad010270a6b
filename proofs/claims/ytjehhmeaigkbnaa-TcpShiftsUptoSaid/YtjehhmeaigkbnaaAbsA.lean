/- An abstract walk: what values, memory and states stand for (immutable data, blocks of the call's own, the relation to a frame and a world). For whatever program. Conditions: none. -/
import Derived.WalkKit
import Derived.Handy
import Derived.Below
import Derived.Laws.AppendOwn
import Derived.Laws.IdiomCopy
import Derived.Test.YtjehhmeaigkbnaaAbs0
namespace Go.Proofs.Ytjehhmeaigkbnaa.Abs
open Go Go.RowKit

/-- Data that nobody changes. -/
inductive D where
  | i (k : IntKind) (n : Int)
  | b (x : Bool)
  | s (l : List UInt8)
  | sl (sz : Nat) (rows : List (List D))
  | z (v : Value)
  | st (c : Nat) (xs : List (τ c))

/-- Cells of an element. -/
def enc : (c : Nat) → τ c → List D
  | 0, (n : Int) => [.i .i64 n]
  | 1, (b : Bool) => [.b b]
  | 2, (b : UInt8) => [.i .u8 b.toNat]
  | 3, (l : List UInt8) => [.s l]
  | 4, (t : TOption) => [.i .i64 t.kind, .s t.data]
  | 5, (t : TPart) => [.i .i64 t.at', .s t.data, .b t.last]
  | 6, (t : THeap) => [.i .u32 t.from', .i .u32 t.to, .i .i64 t.proto, .i .i64 t.id, .i .i64 t.tos, .i .i64 t.life, .s t.options, .st 5 t.parts]
  | 7, (t : TSlot) => [.b t.used, .i .u64 t.key, .i .i64 t.value]
  | 8, (t : TStay) => [.i .i64 t.room, .i .i64 t.at']
  | 9, (t : TNode) => [.i .i64 t.next0, .i .i64 t.next1, .b t.set, .i .i64 t.value]
  | 10, (t : TRule) => [.i .u32 t.fromAddr, .i .i64 t.fromLong, .i .u32 t.toAddr, .i .i64 t.toLong, .i .i64 t.proto, .i .i64 t.fromLow, .i .i64 t.fromHigh, .i .i64 t.toLow, .i .i64 t.toHigh, .b t.pass]
  | 11, (t : TDrop) => [.i .i64 t.at', .i .i64 t.n]
  | 12, (t : TQueue) => [.i .i64 t.share, .i .i64 t.saved, .st 0 t.sizes]
  | 13, (t : TSent) => [.i .i64 t.queue, .i .i64 t.size]
  | 14, (t : TDue) => [.i .i64 t.id, .i .i64 t.at']
  | 15, (t : TStation) => [.i .u8 t.m0, .i .u8 t.m1, .i .u8 t.m2, .i .u8 t.m3, .i .u8 t.m4, .i .u8 t.m5, .i .i64 t.port, .i .i64 t.at']
  | 16, (t : TTalk) => [.i .u32 t.from', .i .u32 t.to, .i .i64 t.fromPort, .i .i64 t.toPort, .i .i64 t.state, .i .i64 t.over, .i .i64 t.at']
  | 17, (t : TMap) => [.i .i64 t.proto, .i .u32 t.addr, .i .i64 t.port, .i .i64 t.out, .i .i64 t.at']
  | 18, (t : TGuarded) => [.i .u32 t.from', .i .u32 t.to, .i .i64 t.fromPort, .i .i64 t.toPort, .i .u32 t.seq, .i .u32 t.cookie, .i .u32 t.delta, .b t.open', .i .i64 t.at']
  | 19, (t : TMeter) => [.i .u32 t.addr, .i .i64 t.rate, .i .i64 t.most, .i .i64 t.has, .i .i64 t.at']
  | 20, (t : TPacket) => [.i .i64 t.tos, .i .i64 t.id, .b t.whole, .b t.more, .i .i64 t.start, .i .i64 t.life, .i .i64 t.proto, .i .u32 t.from', .i .u32 t.to, .s t.options, .s t.data]
  | 21, (t : TNet) => [.i .u32 t.addr, .i .i64 t.long]
  | 22, (t : List Int) => [.st 0 t]
  | 23, (t : TSegment) => [.i .i64 t.from', .i .i64 t.to, .i .u32 t.seq, .i .u32 t.ack, .i .i64 t.flags, .i .i64 t.window, .i .i64 t.urgent, .st 4 t.options, .s t.data]
  | 24, (t : TCame) => [.b t.inside, .s t.data, .i .i64 t.at']
  | 25, (t : TWent) => [.s t.data, .i .i64 t.reason, .i .i64 t.err]
  | 26, (t : TRoad) => [.i .u32 t.from', .i .u32 t.to, .i .i64 t.fromPort, .i .i64 t.toPort]
  | 27, (n : Int) => [.i .u64 n]
  | 28, (n : Int) => [.i .u32 n]
  | _, _ => []

/-- How many cells. -/
def esz : Nat → Nat
  | 0 => 1 | 1 => 1 | 2 => 1 | 3 => 1 | 4 => 2 | 5 => 3 | 6 => 8 | 7 => 3 | 8 => 2 | 9 => 4 | 10 => 10 | 11 => 2 | 12 => 3 | 13 => 2 | 14 => 2 | 15 => 8 | 16 => 7 | 17 => 5 | 18 => 9 | 19 => 5 | 20 => 11 | 21 => 2 | 22 => 1 | 23 => 9 | 24 => 3 | 25 => 3 | 26 => 4 | 27 => 1 | 28 => 1 | _ => 0

theorem enc_len : ∀ (c : Nat) (t : τ c), (enc c t).length = esz c := by
  intro c t
  match c, t with
  | 0, _ | 1, _ | 2, _ | 3, _ | 4, _ | 5, _ | 6, _ | 7, _ | 8, _ | 9, _ | 10, _ | 11, _ | 12, _ | 13, _ | 14, _ | 15, _ | 16, _ | 17, _ | 18, _ | 19, _ | 20, _ | 21, _ | 22, _ | 23, _ | 24, _ | 25, _ | 26, _ | 27, _ | 28, _ => rfl
  | n + 29, _ => rfl

/-- What a temporary, or a cell of the call's own, holds. -/
inductive C where
  | d (x : D)
  | f (x : D)
  | nil
  | own (k ver len : Nat)
  | sub (k ver sz off len : Nat)
  | ptr (k off : Nat)
  | pr (k ver sz i off : Nat)
  | asl (k off len : Nat)
  | pre (k ver sz len : Nat)
  | nn (x : D)
  | pv (cells : List D)
  | clo (f : FuncId) (caps : List D)
  | clp (f : FuncId) (ks : List (Nat × Nat))
  | un
  | bad

inductive V where
  | one (c : C)
  | agg (cs : List C)
  | tup (vs : List V)

/-- A block of the call's own. -/
inductive Blk where
  | cells (cs : List C)
  | row (ver : Nat) (e : TypeId) (sz : Nat) (ap fr : Bool) (rows : List (List D))
  | rowT (ver : Nat) (e : TypeId) (c : Nat) (ap fr : Bool) (xs : List (τ c))

/-- Where a block lies. -/
inductive Place where
  | cells (b o : Nat)
  | row (v : Value) (ver : Nat)

structure St where
  n : Nat
  env : List (Nat × V)
  mem : List (Nat × Blk)

def look {α : Type} (t : Nat) : List (Nat × α) → Option α
  | [] => none
  | (j, v) :: r => if j = t then some v else look t r

def St.get (s : St) (t : Nat) : V := (look t s.env).getD (.one .bad)
def St.blk (s : St) (k : Nat) : Option Blk := look k s.mem

/-! ### Immutable data -/
inductive RepI (w : World) (U : Nat → Prop) : Value → D → Prop
  | i (k : IntKind) (n : Int) : RepI w U (.int k n) (.i k n)
  | b (x : Bool) : RepI w U (.bool x) (.b x)
  | s (l : List UInt8) : RepI w U (.string ⟨l.toArray⟩) (.s l)
  | z (v : Value) (h1 : v.oneCell' = true) : RepI w U v (.z v)
  | nil (a : Option Addr) (cap sz : Nat) (hn : a = none → cap = 0) : RepI w U (.slice a 0 cap) (.sl sz [])
  | sl (b o cap sz : Nat) (rows : List (List D)) (vals : Nat → Nat → Value) (hU : U b) (hlen : ∀ r ∈ rows, r.length = sz) (hcap : rows.length ≤ cap)
      (hc : ∀ (i j : Nat) (r : List D) (d : D), rows[i]? = some r → r[j]? = some d → w.cell? ⟨b, o + i * sz + j, none⟩ = some (vals i j))
      (hr : ∀ (i j : Nat) (r : List D) (d : D), rows[i]? = some r → r[j]? = some d → RepI w U (vals i j) d) : RepI w U (.slice (some ⟨b, o, none⟩) rows.length cap) (.sl sz rows)
  | st (v : Value) (c : Nat) (xs : List (τ c)) (h : RepI w U v (.sl (esz c) (xs.map (enc c)))) (h1 : v.oneCell' = true) : RepI w U v (.st c xs)

theorem RepI.unst {w : World} {U : Nat → Prop} {v : Value} {c : Nat} {xs : List (τ c)} (h : RepI w U v (.st c xs)) : RepI w U v (.sl (esz c) (xs.map (enc c))) := by
  cases h; assumption
theorem RepI.oneCell {w : World} {U : Nat → Prop} {v : Value} {d : D} (h : RepI w U v d) : v.oneCell' = true := by cases h <;> first | rfl | assumption

theorem RepI.toSt {w : World} {U : Nat → Prop} {v : Value} {c : Nat} {xs : List (τ c)} (h : RepI w U v (.sl (esz c) (xs.map (enc c)))) : RepI w U v (.st c xs) :=
  .st v c xs h h.oneCell

theorem RepI.mono {w w' : World} {U U' : Nat → Prop} {v : Value} {d : D} (h : RepI w U v d) (hU : ∀ b, U b → U' b) (hw : ∀ b, U b → w'.heap[b]? = w.heap[b]?) : RepI w' U' v d := by
  induction h with
  | i k n => exact .i k n
  | b x => exact .b x
  | s l => exact .s l
  | z v h1 => exact .z v h1
  | nil a cap sz hn => exact .nil a cap sz hn
  | sl b o cap sz rows vals hb hlen hcap hc hr ih =>
    refine .sl b o cap sz rows vals (hU b hb) hlen hcap (fun i j r d h1 h2 => ?_) (fun i j r d h1 h2 => ih i j r d h1 h2)
    rw [World.cell?_of_block (w := w) (hw b hb)]
    exact hc i j r d h1 h2
  | st v c xs h h1 ih => exact .st v c xs ih h1

/-! ### Temporaries -/
def RepC (w : World) (β : Nat → Option Place) (U : Nat → Prop) (base : Nat) (v : Value) : C → Prop
  | .d x => RepI w U v x
  | .f x => RepI w (fun b => U b ∧ base ≤ b) v x
  | .nil => v = .slice none 0 0
  | .own k ver len => ∃ (a : Option Addr) (cap : Nat) (v0 : Value) (ver0 : Nat), v = .slice a len cap ∧ len ≤ cap ∧ (a = none → len = 0 ∧ cap = 0) ∧ (∀ x, a = some x → ∃ g, x = ⟨g, 0, none⟩) ∧ β k = some (.row v0 ver0) ∧ ver ≤ ver0 ∧ (ver = ver0 → v = v0)
  | .sub k ver sz off len => ∃ (a : Option Addr) (cap : Nat) (v0 : Value) (ver0 : Nat), v = .slice a len cap ∧ len ≤ cap ∧ (a = none → len = 0 ∧ cap = 0) ∧ β k = some (.row v0 ver0) ∧ ver ≤ ver0 ∧
      (ver = ver0 → 0 < len → ∃ g n c, v0 = .slice (some ⟨g, 0, none⟩) n c ∧ a = some ⟨g, off * sz, none⟩)
  | .ptr k off => ∃ b o, β k = some (.cells b o) ∧ v = .pointer (some ⟨b, o + off, none⟩)
  | .pr k ver sz i off => ∃ (a : Addr) (v0 : Value) (ver0 : Nat), v = .pointer (some a) ∧ β k = some (.row v0 ver0) ∧ ver ≤ ver0 ∧
      (ver = ver0 → ∃ g n c, v0 = .slice (some ⟨g, 0, none⟩) n c ∧ a = ⟨g, i * sz + off, none⟩)
  | .asl k off len => ∃ b o, β k = some (.cells b o) ∧ v = .slice (some ⟨b, o + off, none⟩) len len
  | .pre k ver _ len => ∃ (a : Option Addr) (cap : Nat) (v0 : Value) (ver0 : Nat), v = .slice a len cap ∧ len ≤ cap ∧ (a = none → len = 0 ∧ cap = 0) ∧ β k = some (.row v0 ver0) ∧ ver ≤ ver0 ∧ (ver = ver0 → ∃ n, v0 = .slice a n cap ∧ len ≤ n)
  | .nn x => RepI w U v x ∧ ∃ a l c, v = .slice (some a) l c
  | .pv cells => ∃ (b o : Nat) (vals : Nat → Value), v = .pointer (some ⟨b, o, none⟩) ∧ U b ∧
      ∀ (j : Nat) (d : D), cells[j]? = some d → w.cell? ⟨b, o + j, none⟩ = some (vals j) ∧ RepI w U (vals j) d
  | .clo f caps => ∃ vs : List Value, v = .func (.func f) #[] vs.toArray ∧ vs.length = caps.length ∧ ∀ (j : Nat) (u : Value) (d : D), vs[j]? = some u → caps[j]? = some d → RepI w U u d
  | .clp f ks => ∃ vs : List Value, v = .func (.func f) #[] vs.toArray ∧ vs.length = ks.length ∧ ∀ (j : Nat) (u : Value) (p : Nat × Nat), vs[j]? = some u → ks[j]? = some p → ∃ b o, β p.1 = some (.cells b o) ∧ u = .pointer (some ⟨b, o + p.2, none⟩)
  | .un => v = undef
  | .bad => True

inductive RepV (w : World) (β : Nat → Option Place) (U : Nat → Prop) (base : Nat) : Value → V → Prop
  | one (v : Value) (c : C) (h : RepC w β U base v c) : RepV w β U base v (.one c)
  | agg (vs : List Value) (cs : List C) (hl : vs.length = cs.length) (h1 : ∀ u ∈ vs, u.oneCell' = true) (h : ∀ (j : Nat) (u : Value) (c : C), vs[j]? = some u → cs[j]? = some c → RepC w β U base u c) : RepV w β U base (.agg vs.toArray) (.agg cs)
  | tup (vs : List Value) (xs : List V) (hl : vs.length = xs.length) (h : ∀ (j : Nat) (u : Value) (x : V), vs[j]? = some u → xs[j]? = some x → RepV w β U base u x) : RepV w β U base (.tuple vs.toArray) (.tup xs)

/-- Places stay, or a row becomes a younger one. -/
def Evo (β β' : Nat → Option Place) : Prop := ∀ k p, β k = some p → β' k = some p ∨ ∃ v0 ver0 v1 ver1, p = .row v0 ver0 ∧ β' k = some (.row v1 ver1) ∧ ver0 < ver1

theorem Evo.refl (β : Nat → Option Place) : Evo β β := fun _ _ h => .inl h
theorem Evo.sub {β β' : Nat → Option Place} (h : ∀ k p, β k = some p → β' k = some p) : Evo β β' := fun k p hk => .inl (h k p hk)

theorem RepC.map {w w' : World} {β β' : Nat → Option Place} {U U' : Nat → Prop} {base : Nat} {v : Value} {c : C} (h : RepC w β U base v c) (hU : ∀ b, U b → U' b)
    (hw : ∀ b, U b → w'.heap[b]? = w.heap[b]?) (hβ : Evo β β') : RepC w' β' U' base v c := by
  cases c with
  | d x => exact RepI.mono h hU hw
  | f x => exact RepI.mono (U := fun b => U b ∧ base ≤ b) h (fun b hb => ⟨hU b hb.1, hb.2⟩) (fun b hb => hw b hb.1)
  | nil => exact h
  | own k ver len =>
    obtain ⟨a, cap, v0, ver0, h1, q1, q2, q3, h2, h3, h4⟩ := h
    rcases hβ _ _ h2 with e | ⟨x0, y0, x1, y1, e, e2, e3⟩
    · exact ⟨a, cap, v0, ver0, h1, q1, q2, q3, e, h3, h4⟩
    · cases e; exact ⟨a, cap, x1, y1, h1, q1, q2, q3, e2, by omega, fun e => by omega⟩
  | sub k ver sz off len =>
    obtain ⟨a, cap, v0, ver0, h1, h2, q1, h3, h4, h5⟩ := h
    rcases hβ _ _ h3 with e | ⟨x0, y0, x1, y1, e, e2, e3⟩
    · exact ⟨a, cap, v0, ver0, h1, h2, q1, e, h4, h5⟩
    · cases e; exact ⟨a, cap, x1, y1, h1, h2, q1, e2, by omega, fun e => by omega⟩
  | ptr k off =>
    obtain ⟨b, o, h1, h2⟩ := h
    rcases hβ _ _ h1 with e | ⟨x0, y0, x1, y1, e, e2, e3⟩
    · exact ⟨b, o, e, h2⟩
    · cases e
  | pr k ver sz i off =>
    obtain ⟨a, v0, ver0, h1, h2, h3, h4⟩ := h
    rcases hβ _ _ h2 with e | ⟨x0, y0, x1, y1, e, e2, e3⟩
    · exact ⟨a, v0, ver0, h1, e, h3, h4⟩
    · cases e; exact ⟨a, x1, y1, h1, e2, by omega, fun e => by omega⟩
  | asl k off len =>
    obtain ⟨b, o, h1, h2⟩ := h
    rcases hβ _ _ h1 with e | ⟨x0, y0, x1, y1, e, e2, e3⟩
    · exact ⟨b, o, e, h2⟩
    · cases e
  | pre k ver sz len =>
    obtain ⟨a, cap, v0, ver0, h1, q1, q2, h2, h3, h4⟩ := h
    rcases hβ _ _ h2 with e | ⟨x0, y0, x1, y1, e, e2, e3⟩
    · exact ⟨a, cap, v0, ver0, h1, q1, q2, e, h3, h4⟩
    · cases e; exact ⟨a, cap, x1, y1, h1, q1, q2, e2, by omega, fun e => by omega⟩
  | nn x => exact ⟨RepI.mono h.1 hU hw, h.2⟩
  | pv cells =>
    obtain ⟨b, o, vals, h1, h2, h3⟩ := h
    refine ⟨b, o, vals, h1, hU b h2, fun j d hj => ⟨?_, ((h3 j d hj).2).mono hU hw⟩⟩
    rw [World.cell?_of_block (w := w) (hw b h2)]; exact (h3 j d hj).1
  | clo f caps => obtain ⟨vs, h1, h2, h3⟩ := h; exact ⟨vs, h1, h2, fun j u d hu hd => (h3 j u d hu hd).mono hU hw⟩
  | clp f ks =>
    obtain ⟨vs, h1, h2, h3⟩ := h
    refine ⟨vs, h1, h2, fun j u p hu hp => ?_⟩
    obtain ⟨b, o, e1, e2⟩ := h3 j u p hu hp
    rcases hβ _ _ e1 with e | ⟨x0, y0, x1, y1, e, _, _⟩
    · exact ⟨b, o, e, e2⟩
    · cases e
  | un => exact h
  | bad => trivial

theorem RepV.map {w w' : World} {β β' : Nat → Option Place} {U U' : Nat → Prop} {base : Nat} {v : Value} {x : V} (h : RepV w β U base v x) (hU : ∀ b, U b → U' b)
    (hw : ∀ b, U b → w'.heap[b]? = w.heap[b]?) (hβ : Evo β β') : RepV w' β' U' base v x := by
  induction h with
  | one v c h => exact .one v c (h.map hU hw hβ)
  | agg vs cs hl h1 h => exact .agg vs cs hl h1 fun j u c hu hc => (h j u c hu hc).map hU hw hβ
  | tup vs xs hl h ih => exact .tup vs xs hl fun j u x hu hx => ih j u x hu hx

theorem RepV.bad {w : World} {β : Nat → Option Place} {U : Nat → Prop} {base : Nat} (v : Value) : RepV w β U base v (.one .bad) := .one v .bad trivial

/-! ### Memory -/
def Blk.std : Blk → Blk
  | .rowT ver e c ap fr xs => .row ver e (esz c) ap fr (xs.map (enc c))
  | b => b
def RepB0 (w : World) (β : Nat → Option Place) (U : Nat → Prop) (base : Nat) : Place → Blk → Prop
  | .cells b o, .cells cs => 0 < cs.length ∧ ∀ (j : Nat) (c : C), cs[j]? = some c → ∃ v, w.cell? ⟨b, o + j, none⟩ = some v ∧ w.frozen? ⟨b, o + j, none⟩ = false ∧ v.oneCell' = true ∧ RepC w β U base v c
  | .row v ver0, .row ver e sz ap fr rows => ver = ver0 ∧ (∀ r ∈ rows, r.length = sz) ∧
      ((v = .slice none 0 0 ∧ rows = []) ∨
       ∃ (g cap : Nat) (cur : Array Value) (fz : Nat × Nat), v = .slice (some ⟨g, 0, none⟩) rows.length cap ∧ w.heap[g]? = some (.cells cur e fz) ∧ rows.length ≤ cap ∧ cap ≤ maxLen ∧ cur.size = cap * sz ∧
         (ap = true → fz = (0, 0)) ∧ (∀ i, i < rows.length * sz → w.frozen? ⟨g, i, none⟩ = false) ∧
         ∀ (i j : Nat) (r : List D) (d : D), rows[i]? = some r → r[j]? = some d → ∃ u, cur[i * sz + j]? = some u ∧ u.oneCell' = true ∧ RepI w (fun b => U b ∧ (fr = true → base ≤ b)) u d)
  | _, _ => False
def RepB (w : World) (β : Nat → Option Place) (U : Nat → Prop) (base : Nat) (p : Place) (blk : Blk) : Prop := RepB0 w β U base p blk.std

def Place.block : Place → Option Nat
  | .cells b _ => some b
  | .row v _ => v.ownBlock

/-- The cells that a block may fill. -/
def Place.covers (p : Place) (blk : Blk) (b j : Nat) : Prop :=
  match p, blk with
  | .cells b' o, .cells cs => b = b' ∧ o ≤ j ∧ j < o + cs.length
  | .row v _, _ => v.ownBlock = some b
  | _, _ => False

/-- What has turned between two worlds below block B: but for new blocks only cells that X lets. -/
structure Chg (B : Nat) (X : Nat → Nat → Prop) (w w' : World) : Prop where
  os : w'.os = w.os
  tape : w'.tape = w.tape
  output : w'.output = w.output
  size : w.heap.size ≤ w'.heap.size
  block : ∀ b, b < B → w'.heap[b]? = w.heap[b]? ∨
    (∃ c c' e f, w.heap[b]? = some (.cells c e f) ∧ w'.heap[b]? = some (.cells c' e f) ∧ c.size = c'.size ∧ ∀ j, ¬ X b j → c'[j]? = c[j]?) ∨ ∀ j, X b j

theorem Chg.refl (B : Nat) (X : Nat → Nat → Prop) (w : World) : Chg B X w w := ⟨rfl, rfl, rfl, Nat.le_refl _, fun _ _ => .inl rfl⟩

theorem Chg.trans {B : Nat} {X : Nat → Nat → Prop} {a b c : World} (h : Chg B X a b) (k : Chg B X b c) : Chg B X a c := by
  refine ⟨k.os.trans h.os, k.tape.trans h.tape, k.output.trans h.output, Nat.le_trans h.size k.size, fun i hi => ?_⟩
  rcases h.block i hi with h1 | ⟨x, x', e, f, h1, h2, h3, h4⟩ | h1
  · rcases k.block i hi with k1 | ⟨y, y', e', f', k1, k2, k3, k4⟩ | k1
    · exact .inl (k1.trans h1)
    · exact .inr (.inl ⟨y, y', e', f', h1 ▸ k1, k2, k3, k4⟩)
    · exact .inr (.inr k1)
  · rcases k.block i hi with k1 | ⟨y, y', e', f', k1, k2, k3, k4⟩ | k1
    · exact .inr (.inl ⟨x, x', e, f, h1, k1.trans h2, h3, h4⟩)
    · rw [h2] at k1
      obtain ⟨rfl, rfl, rfl⟩ : x' = y ∧ e = e' ∧ f = f' := by simpa using k1
      exact .inr (.inl ⟨x, y', e, f, h1, k2, h3.trans k3, fun j hj => (k4 j hj).trans (h4 j hj)⟩)
    · exact .inr (.inr k1)
  · exact .inr (.inr h1)

theorem Chg.below {B : Nat} {w w' : World} {X : Nat → Nat → Prop} (hX : ∀ b j, ¬ X b j) (h : Chg B X w w') : Below B w w' := by
  refine ⟨h.os, h.tape, h.output, h.size, fun b hb => ?_⟩
  rcases h.block b hb with h1 | ⟨x, x', e, f, h1, h2, h3, h4⟩ | h1
  · exact h1
  · have : x' = x := Array.ext_getElem? fun j => h4 j (hX b j)
    rw [h1, h2, this]
  · exact absurd (h1 0) (hX b 0)

/-- How a state stands to a frame and a world: w0: the world when the call began; U0: the blocks that nobody changes, then; X: the cells of elder blocks that the call may change; β0: where the blocks lay that were handed in. -/
structure SimB (w0 : World) (U0 : Nat → Prop) (X : Nat → Nat → Prop) (β0 : Nat → Option Place) (β : Nat → Option Place) (U : Nat → Prop) (s : St) (a : Act) (w : World) : Prop where
  n : a.tmps.size = s.n
  small : s.n ≤ 900
  args : ∀ k, (k < 1000000 ∨ 2000000 ≤ k) → β0 k = none
  ver0 : ∀ k v ver, β0 k = some (.row v ver) → ver = 0
  hist : ∀ k p, β0 k = some p → (s.blk k).isSome = true → β k = some p ∨ ∃ v0 ver0 v1 ver1, p = .row v0 ver0 ∧ β k = some (.row v1 ver1) ∧ ver0 < ver1
  defers : a.defers = []
  env : ∀ t, RepV w β U w0.heap.size (a.tmps.getD t undef) (s.get t)
  mem : ∀ k blk, s.blk k = some blk → ∃ p, β k = some p ∧ RepB w β U w0.heap.size p blk
  dom : ∀ k p, β k = some p → (s.blk k).isSome = true
  apart : ∀ k p b, β k = some p → p.block = some b → ¬ U b ∧ b < w.heap.size
  inj : ∀ k k' p p' blk blk' b j, k ≠ k' → β k = some p → β k' = some p' → s.blk k = some blk → s.blk k' = some blk' → p.covers blk b j → ¬ p'.covers blk' b j
  stab : ∀ b, U b → b < w.heap.size
  old : ∀ b, U0 b → U b
  new : ∀ b, b < w0.heap.size → U b → U0 b
  chg : Chg w0.heap.size X w0 w
  may : ∀ k p blk b j, β k = some p → s.blk k = some blk → p.covers blk b j → b < w0.heap.size → X b j

theorem SimB.kinds {w0 : World} {U0 : Nat → Prop} {X : Nat → Nat → Prop} {β0 β : Nat → Option Place} {U : Nat → Prop} {s : St} {a : Act} {w : World} (h : SimB w0 U0 X β0 β U s a w)
    (k k' : Nat) (v : Value) (ver b o : Nat) (hk : β k = some (.row v ver)) (hk' : β k' = some (.cells b o)) : v.ownBlock ≠ some b := by
  intro e
  obtain ⟨b1, hb1⟩ := Option.isSome_iff_exists.1 (h.dom k _ hk)
  obtain ⟨b2, hb2⟩ := Option.isSome_iff_exists.1 (h.dom k' _ hk')
  obtain ⟨p1, hp1, hr1⟩ := h.mem k b1 hb1
  obtain ⟨p2, hp2, hr2⟩ := h.mem k' b2 hb2
  rw [hk] at hp1; cases hp1
  rw [hk'] at hp2; cases hp2
  have hne : k ≠ k' := fun q => by subst q; rw [hk] at hk'; cases hk'
  cases b2 with
  | row => exact hr2.elim
  | rowT => exact hr2.elim
  | cells cs =>
    cases b1 with
    | cells => exact hr1.elim
    | row ver' el sz ap fr rows => exact h.inj k k' _ _ _ _ b o hne hk hk' hb1 hb2 e ⟨rfl, Nat.le_refl _, by have := hr2.1; omega⟩
    | rowT ver' el c ap fr xs => exact h.inj k k' _ _ _ _ b o hne hk hk' hb1 hb2 e ⟨rfl, Nat.le_refl _, by have := hr2.1; omega⟩

def Sim (w0 : World) (U0 : Nat → Prop) (X : Nat → Nat → Prop) (β0 : Nat → Option Place) (s : St) (a : Act) (w : World) : Prop := ∃ β U, SimB w0 U0 X β0 β U s a w
end Go.Proofs.Ytjehhmeaigkbnaa.Abs
