/- Texts towards the law TurnsOwn, put together (part 1): an abstract walk and its proof, functions of the program as trees, and plain laws. Conditions: none. -/
import Derived.Test.YthnijeclidpooaaRows
import Derived.WalkKit
import Derived.ProofKit
import Derived.OpenShut
import Derived.ShutString
import Derived.SizedLaws
import Derived.Below
import Derived.Carry
import Derived.ChangeOld
import Derived.Deep.Slices
import Derived.Handy
import Derived.Laws.AppendOwn
import Derived.Laws.IdiomCopy
import Derived.Laws.Entries
import Derived.Laws.Strings
import Derived.Lib.Strings
import Derived.ChangeKeysEq
import Derived.Laws.StructEq
import Derived.Laws.Tables
import Derived.Laws.IdiomStrings
import Derived.Maps.AppendAt
import Derived.Great.BuildSlice
import Derived.Lib.AppendStr
import Derived.Lib.FrozenHead
namespace Go.Proofs.Ythnijeclidpooaa.Read
open Go.ChangeShapes Go.WideShapes Go.ChangeAt Go.RowKit
def Rd (P : Program) (w : World) (t : TypeId) (cs : List Value) : Prop :=
 ∃ (H : Type) (enc : TypeId × Value -> H) (fuel : Nat) (x : DataW H × List MemPlace), DataW.trod enc P w 0 (fun _ => true) true fuel t cs = some x /\ ∀ n ∈ x.1.weights P t, n <= reachBytes

section
variable {P : Program} {w : World} {t : TypeId} {cs : List Value}

theorem Rd.of_trod {H : Type} {enc : TypeId × Value -> H} {v : Value} {d : DataW H} {ps : List MemPlace} (h : DataW.Trod enc P w 0 (fun _ => true) true t v d ps)
  (hz : ∀ n ∈ d.weights P t, n <= reachBytes) : Rd P w t v.cells.toList := by
 obtain ⟨fuel, hf⟩ := h
 exact ⟨H, enc, fuel, (d, ps), hf, hz⟩

theorem Rd.bool (ht : P.underlying t = some .bool) (h : Rd P w t cs) : ∃ b, cs = [.bool b] := by
 obtain ⟨H, enc, fuel, x, hf, _⟩ := h
 obtain ⟨b, h1, _⟩ := DataW.trod_bool ht hf
 exact ⟨b, h1⟩

theorem Rd.int {k : IntKind} (ht : P.underlying t = some (.int k)) (h : Rd P w t cs) : ∃ n, cs = [.int k n] /\ (Lit.int k n).wf = true := by
 obtain ⟨H, enc, fuel, x, hf, _⟩ := h
 obtain ⟨n, h1, _, h2⟩ := DataW.trod_int ht hf
 exact ⟨n, h1, h2⟩

theorem Rd.string (ht : P.underlying t = some .string) (h : Rd P w t cs) : ∃ s : ByteArray, cs = [.string s] /\ s.size <= 140737488351232 := by
 obtain ⟨H, enc, fuel, x, hf, hz⟩ := h
 obtain ⟨s, h1, h2, _⟩ := DataW.trod_string ht hf
 refine ⟨s, h1, ?_⟩
 subst h2
 have := hz s.data.toList.length (by simp [DataW.weights])
 have e : s.data.toList.length = s.size := by rw [Array.length_toList]; rfl
 have e2 : reachBytes = 140737488351232 := by decide
 omega

theorem weightsAll_mem {H : Type} {e : TypeId} : ∀ {l : List (DataW H)} {d : DataW H}, d ∈ l -> ∀ n ∈ d.weights P e, n ∈ DataW.weightsAll P e l
 | a :: r, d, hd, n, hn => by
  simp only [DataW.weightsAll, List.mem_append]
  rcases List.mem_cons.1 hd with rfl | h
  . exact Or.inl hn
  . exact Or.inr (weightsAll_mem h n hn)

theorem Rd.struct {fs : Array Field} (ht : P.underlying t = some (.struct fs)) (h : Rd P w t cs) :
  cs.length = P.cellsOf t /\ ∀ (i : Nat) (f : Field), fs[i]? = some f -> Rd P w f.type ((cs.drop f.offset).take (P.cellsOf f.type)) := by
 obtain ⟨H, enc, fuel, x, hf, hz⟩ := h
 obtain ⟨xs, n, _, rfl, hl, hlen, hfs⟩ := DataW.trod_struct ht hf
 refine ⟨hl, fun i f hi => ?_⟩
 have hi' : i < xs.length := by
  have := (Array.getElem?_eq_some_iff.1 hi).1
  omega
 refine ⟨H, enc, n, xs[i], by rw [hfs i f hi]; exact List.getElem?_eq_getElem hi', fun m hm => hz m ?_⟩
 simp only [DataW.weights, ht]
 exact DataW.weights_mem_each (j := i) (t := f.type) (d := xs[i].1) (by simp [hi]) (by simp [hi']) m hm

theorem Rd.array {n : Nat} {e : TypeId} (ht : P.underlying t = some (.array n e)) (h : Rd P w t cs) :
  cs.length = P.cellsOf t /\ ∀ i, i < n -> Rd P w e ((cs.drop (i * P.cellsOf e)).take (P.cellsOf e)) := by
 obtain ⟨H, enc, fuel, x, hf, hz⟩ := h
 obtain ⟨xs, m, _, rfl, hl, hlen, hfs⟩ := DataW.trod_array ht hf
 refine ⟨hl, fun i hi => ?_⟩
 refine ⟨H, enc, m, xs[i], by rw [hfs i hi]; exact List.getElem?_eq_getElem (by omega), fun q hq => hz q ?_⟩
 simp only [DataW.weights, ht]
 exact weightsAll_mem (d := xs[i].1) (List.mem_map.2 ⟨xs[i], List.getElem_mem _, rfl⟩) q hq

theorem Rd.slice {e : TypeId} (ht : P.underlying t = some (.slice e)) (h : Rd P w t cs) :
   ∃ (a : Option Addr) (len cap : Nat), cs = [.slice a len cap] /\ len <= cap /\ cap <= maxLen /\ cap * P.bytesOf e <= 140737488351232 /\ (a = none -> cap = 0) /\
   ∀ x, a = some x -> ∀ i, i < cap -> ∃ row, w.cells? 0 (x.add (i * P.cellsOf e)) (P.cellsOf e) = some row /\ Rd P w e row := by
 obtain ⟨H, enc, fuel, x, hf, hz⟩ := h
 rcases Go.Deep.open_slice ht hf with ⟨rfl, _⟩ | ⟨a, len, cap, m, n, D, Pl, rfl, _, hl, hm, hmm, rfl, hx⟩
 . exact ⟨none, 0, 0, rfl, Nat.le_refl _, Nat.zero_le _, by simp, fun _ => rfl, fun x hx => by cases hx⟩
 . have hmc : m = cap := by simpa using hmm
   subst hmc
   have e2 : reachBytes = 140737488351232 := by decide
   have hw : m * P.bytesOf e <= reachBytes := by
     refine hz _ ?_
     simp only [DataW.weights, ht, List.length_map, List.length_range]
     rw [show len + (m - len) = m by omega]
     exact List.mem_cons_self
   refine ⟨some a, len, m, rfl, hl, hm, by omega, (fun h => by cases h), fun x hxa i hi => ?_⟩
   cases hxa
   obtain ⟨row, h1, h2⟩ := hx i hi
   refine ⟨row, h1, H, enc, n, _, h2, fun q hq => hz q ?_⟩
   simp only [DataW.weights, ht, List.mem_cons, List.mem_append]
   right
   by_cases hil : i < len
   . exact Or.inl (weightsAll_mem (d := D i) (List.mem_map.2 ⟨i, List.mem_range.2 hil, rfl⟩) q hq)
   . exact Or.inr (weightsAll_mem (d := D i) (List.mem_map.2 ⟨i - len, List.mem_range.2 (by omega), by rw [show len + (i - len) = i by omega]⟩) q hq)

theorem cells_at {x : Addr} {n : Nat} {row : List Value} (h : w.cells? 0 x n = some row) : row.length = n /\ ∀ j (hj : j < row.length), w.cell? (x.add j) = some row[j] := by
 unfold World.cells? at h
 rw [if_pos (Nat.zero_le _)] at h
 have hl : row.length = n := by rw [mapM_some_length h, List.length_range]
 refine ⟨hl, fun j hj => ?_⟩
 have := mapM_some_get h j j (by rw [List.getElem?_range (by omega)])
 rw [this]
 exact List.getElem?_eq_getElem hj

theorem spot_none {w : World} {x : Addr} {v : Value} (h : w.cell? x = some v) : x.spot = none /\ x.block < w.heap.size := by
 unfold World.cell? at h
 constructor
 . cases hs : x.spot with
   | none => rfl
   | some k =>
     rw [hs] at h
     split at h <;> simp at h
 . by_cases hb : x.block < w.heap.size
   . exact hb
   . rw [Array.getElem?_eq_none (by simpa using hb)] at h; simp at h

theorem add_none (b o k : Nat) : (⟨b, o, none⟩ : Addr).add k = ⟨b, o + k, none⟩ := by
 unfold Addr.add; split
 . rename_i h; subst h; rfl
 . rfl

theorem exists_list {α : Type} {P : Nat -> α -> Prop} : ∀ (n : Nat), (∀ i, i < n -> ∃ a, P i a) -> ∃ l : List α, l.length = n /\ ∀ i (hi : i < l.length), P i l[i]
 | 0, _ => ⟨[], rfl, fun i hi => by simp at hi⟩
 | n + 1, h => by
  obtain ⟨l, hl, hP⟩ := exists_list n fun i hi => h i (by omega)
  obtain ⟨a, ha⟩ := h n (by omega)
  refine ⟨l ++ [a], by simp [hl], fun i hi => ?_⟩
  by_cases hin : i < l.length
  . rw [List.getElem_append_left hin]; exact hP i hin
  . have : i = n := by simp at hi; omega
    subst this
    rw [List.getElem_append_right (by omega)]
    simpa [hl] using ha

end

theorem weights_at {H : Type} {P : Program} {ts us : List TypeId} {ds gs : List (DataW H)} (h : (DataW.weightsEach P (ts ++ us) (ds ++ gs)).all (fun x => decide (x <= reachBytes)) = true) {j : Nat} {t : TypeId} {d : DataW H}
  (ht : ts[j]? = some t) (hd : ds[j]? = some d) : ∀ n ∈ d.weights P t, n <= reachBytes := by
 intro n hn
 have ht' : (ts ++ us)[j]? = some t := by
  rw [List.getElem?_append_left (by have := (List.getElem?_eq_some_iff.1 ht).1; omega)]; exact ht
 have hd' : (ds ++ gs)[j]? = some d := by
  rw [List.getElem?_append_left (by have := (List.getElem?_eq_some_iff.1 hd).1; omega)]; exact hd
 simpa using List.all_eq_true.1 h _ (DataW.weights_mem_each ht' hd' n hn)

end Go.Proofs.Ythnijeclidpooaa.Read
namespace Go.Proofs.Ythnijeclidpooaa.Abs
structure TOption where (kind : Int) (data : List UInt8) deriving DecidableEq
structure TPart where (at' : Int) (data : List UInt8) (last : Bool) deriving DecidableEq
structure THeap where (from' to : Int) (proto id tos life : Int) (options : List UInt8) (parts : List TPart) deriving DecidableEq
structure TSlot where (used : Bool) (key value : Int) deriving DecidableEq
structure TStay where (room at' : Int) deriving DecidableEq
structure TNode where (next0 next1 : Int) (set : Bool) (value : Int) deriving DecidableEq
structure TRule where (fromAddr fromLong toAddr toLong proto fromLow fromHigh toLow toHigh : Int) (pass : Bool) deriving DecidableEq
structure TDrop where (at' n : Int) deriving DecidableEq
structure TQueue where (share saved : Int) (sizes : List Int) deriving DecidableEq
structure TSent where (queue size : Int) deriving DecidableEq
structure TDue where (id at' : Int) deriving DecidableEq
structure TStation where (m0 m1 m2 m3 m4 m5 port at' : Int) deriving DecidableEq
structure TTalk where (from' to fromPort toPort state over at' : Int) deriving DecidableEq
structure TMap where (proto addr port out at' : Int) deriving DecidableEq
structure TGuarded where (from' to fromPort toPort seq cookie delta : Int) (open' : Bool) (at' : Int) deriving DecidableEq
structure TMeter where (addr rate most has at' : Int) deriving DecidableEq
structure TPacket where (tos id : Int) (whole more : Bool) (start life proto from' to : Int) (options data : List UInt8) deriving DecidableEq
structure TNet where (addr long : Int) deriving DecidableEq
structure TSegment where (from' to seq ack flags window urgent : Int) (options : List TOption) (data : List UInt8) deriving DecidableEq
structure TCame where (inside : Bool) (data : List UInt8) (at' : Int) deriving DecidableEq
structure TWent where (data : List UInt8) (reason err : Int) deriving DecidableEq
structure TRoad where (from' to fromPort toPort : Int) deriving DecidableEq
structure TMac where (m0 m1 m2 m3 m4 m5 : Int) deriving DecidableEq

def τ : Nat -> Type
 | 0 => Int
 | 1 => Bool
 | 2 => UInt8
 | 3 => List UInt8
 | 4 => TOption
 | 5 => TPart
 | 6 => THeap
 | 7 => TSlot
 | 8 => TStay
 | 9 => TNode
 | 10 => TRule
 | 11 => TDrop
 | 12 => TQueue
 | 13 => TSent
 | 14 => TDue
 | 15 => TStation
 | 16 => TTalk
 | 17 => TMap
 | 18 => TGuarded
 | 19 => TMeter
 | 20 => TPacket
 | 21 => TNet
 | 22 => List Int
 | 23 => TSegment
 | 24 => TCame
 | 25 => TWent
 | 26 => TRoad
 | 27 => Int
 | 28 => Int
 | 29 => TMac
 | _ => Unit
end Go.Proofs.Ythnijeclidpooaa.Abs
namespace Go.Proofs.Ythnijeclidpooaa.Abs
open Go Go.RowKit

inductive TT where
 | nil
 | node (l r : TT) (s : Bool) (v : Int)
def TT.left : TT -> TT
 | .nil => .nil
 | .node l _ _ _ => l
def TT.right : TT -> TT
 | .nil => .nil
 | .node _ r _ _ => r
def TT.on : TT -> Bool
 | .nil => false
 | .node _ _ s _ => s
def TT.val : TT -> Int
 | .nil => 0
 | .node _ _ _ v => v
def TT.isNil : TT -> Bool
 | .nil => true
 | .node .. => false

inductive D where
 | i (k : IntKind) (n : Int)
 | b (x : Bool)
 | s (l : List UInt8)
 | sl (sz : Nat) (rows : List (List D))
 | z (v : Value)
 | st (c : Nat) (xs : List (τ c))
 | tr (t : TT)

def enc : (c : Nat) -> τ c -> List D
 | 0, (n : Int) => [.i .i64 n]
 | 1, (b : Bool) => [.b b]
 | 2, (b : UInt8) => [.i .u8 b.toNat]
 | 3, (l : List UInt8) => [.s l]
 | 4, (t : TOption) => [.i .i64 t.kind, .s t.data]
 | 5, (t : TPart) => [.i .i64 t.at', .s t.data, .b t.last]
 | 6, (t : THeap) => [.i .u32 t.from', .i .u32 t.to, .i .i64 t.proto, .i .i64 t.id, .i .i64 t.tos, .i .i64 t.life, .s t.options, .st 5 t.parts]
 | 7, (t : TSlot) => [.b t.used, .i .u64 t.key, .i .i64 t.value]
 | 8, (t : TStay) => [.i .i64 t.room, .i .i64 t.at']
 | 9, (t : TNode) => [.i .i64 t.next0, .i .i64 t.next1, .b t.set, .i .i64 t.value]
 | 10, (t : TRule) => [.i .u32 t.fromAddr, .i .i64 t.fromLong, .i .u32 t.toAddr, .i .i64 t.toLong, .i .i64 t.proto, .i .i64 t.fromLow, .i .i64 t.fromHigh, .i .i64 t.toLow, .i .i64 t.toHigh, .b t.pass]
 | 11, (t : TDrop) => [.i .i64 t.at', .i .i64 t.n]
 | 12, (t : TQueue) => [.i .i64 t.share, .i .i64 t.saved, .st 0 t.sizes]
 | 13, (t : TSent) => [.i .i64 t.queue, .i .i64 t.size]
 | 14, (t : TDue) => [.i .i64 t.id, .i .i64 t.at']
 | 15, (t : TStation) => [.i .u8 t.m0, .i .u8 t.m1, .i .u8 t.m2, .i .u8 t.m3, .i .u8 t.m4, .i .u8 t.m5, .i .i64 t.port, .i .i64 t.at']
 | 16, (t : TTalk) => [.i .u32 t.from', .i .u32 t.to, .i .i64 t.fromPort, .i .i64 t.toPort, .i .i64 t.state, .i .i64 t.over, .i .i64 t.at']
 | 17, (t : TMap) => [.i .i64 t.proto, .i .u32 t.addr, .i .i64 t.port, .i .i64 t.out, .i .i64 t.at']
 | 18, (t : TGuarded) => [.i .u32 t.from', .i .u32 t.to, .i .i64 t.fromPort, .i .i64 t.toPort, .i .u32 t.seq, .i .u32 t.cookie, .i .u32 t.delta, .b t.open', .i .i64 t.at']
 | 19, (t : TMeter) => [.i .u32 t.addr, .i .i64 t.rate, .i .i64 t.most, .i .i64 t.has, .i .i64 t.at']
 | 20, (t : TPacket) => [.i .i64 t.tos, .i .i64 t.id, .b t.whole, .b t.more, .i .i64 t.start, .i .i64 t.life, .i .i64 t.proto, .i .u32 t.from', .i .u32 t.to, .s t.options, .s t.data]
 | 21, (t : TNet) => [.i .u32 t.addr, .i .i64 t.long]
 | 22, (t : List Int) => [.st 0 t]
 | 23, (t : TSegment) => [.i .i64 t.from', .i .i64 t.to, .i .u32 t.seq, .i .u32 t.ack, .i .i64 t.flags, .i .i64 t.window, .i .i64 t.urgent, .st 4 t.options, .s t.data]
 | 24, (t : TCame) => [.b t.inside, .s t.data, .i .i64 t.at']
 | 25, (t : TWent) => [.s t.data, .i .i64 t.reason, .i .i64 t.err]
 | 26, (t : TRoad) => [.i .u32 t.from', .i .u32 t.to, .i .i64 t.fromPort, .i .i64 t.toPort]
 | 27, (n : Int) => [.i .u64 n]
 | 28, (n : Int) => [.i .u32 n]
 | 29, (t : TMac) => [.i .u8 t.m0, .i .u8 t.m1, .i .u8 t.m2, .i .u8 t.m3, .i .u8 t.m4, .i .u8 t.m5]
 | _, _ => []

def esz : Nat -> Nat
 | 0 => 1 | 1 => 1 | 2 => 1 | 3 => 1 | 4 => 2 | 5 => 3 | 6 => 8 | 7 => 3 | 8 => 2 | 9 => 4 | 10 => 10 | 11 => 2 | 12 => 3 | 13 => 2 | 14 => 2 | 15 => 8 | 16 => 7 | 17 => 5 | 18 => 9 | 19 => 5 | 20 => 11 | 21 => 2 | 22 => 1 | 23 => 9 | 24 => 3 | 25 => 3 | 26 => 4 | 27 => 1 | 28 => 1 | 29 => 6 | _ => 0

theorem enc_len : ∀ (c : Nat) (t : τ c), (enc c t).length = esz c := by
 intro c t
 match c, t with
 | 0, _ | 1, _ | 2, _ | 3, _ | 4, _ | 5, _ | 6, _ | 7, _ | 8, _ | 9, _ | 10, _ | 11, _ | 12, _ | 13, _ | 14, _ | 15, _ | 16, _ | 17, _ | 18, _ | 19, _ | 20, _ | 21, _ | 22, _ | 23, _ | 24, _ | 25, _ | 26, _ | 27, _ | 28, _ | 29, _ => rfl
 | n + 30, _ => rfl

inductive C where
 | d (x : D)
 | f (x : D)
 | nil
 | own (k ver len : Nat)
 | sub (k ver sz off len : Nat)
 | ptr (k off : Nat)
 | pr (k ver sz i off : Nat)
 | asl (k off len : Nat)
 | pre (k ver sz len : Nat)
 | nn (x : D)
 | pv (cells : List D)
 | clo (f : FuncId) (caps : List D)
 | clp (f : FuncId) (ks : List (Nat × Nat))
 | mp (k : Nat)
 | ne
 | un
 | bad
 | dp (k ver len room : Nat)
 | dsub (k ver sz off len : Nat)
 | dpr (k ver sz i off : Nat)
 | ui
 | gr (k ver j : Nat)
 | gp (k kg off n i : Nat)
 | gd (c : Nat) (L : List (List (τ c))) (j : Nat)

inductive V where
 | one (c : C)
 | agg (cs : List C)
 | tup (vs : List V)

def bxs : List (Nat × Nat) := [(146, 5)]
inductive Blk where
 | cells (cs : List C)
 | row (ver : Nat) (e : TypeId) (sz : Nat) (ap fr : Bool) (rows : List (List D))
 | rowT (ver : Nat) (e : TypeId) (c : Nat) (ap fr : Bool) (xs : List (τ c))
 | mp (kt : Nat) (es : List (τ kt × Int))
 | junk (ver : Nat) (e : TypeId) (sz len N : Nat)
 | bx (T : TypeId) (l : Option (Nat × Nat))
 | buf (ver : Nat) (e : TypeId) (xs : List UInt8)
 | deep (ver : Nat) (e ei : TypeId) (c : Nat) (hole : Option (Nat × Option (Nat × Nat))) (xs : List (τ c))
 | jd (ver : Nat) (e ei : TypeId) (sz ic szi : Nat) (o : Option (Nat × Nat)) (pz : Option (List Nat)) (hole : Option (Nat × Option (Nat × Nat))) (ls : List (Nat × Nat))
 | grp (ver : Nat) (ei : TypeId) (c m : Nat) (o : Bool) (hole : Option (Nat × Option (Nat × Nat))) (L : List (List (τ c)))
 | dx (ver : Nat) (e ei : TypeId) (c : Nat) (os : List Nat) (hole : Option (Nat × Option (Nat × Nat))) (xs : List (τ c))

def dIc : Nat -> Nat
 | 6 => 7
 | 12 => 2
 | _ => 0
def dIn : Nat -> Nat
 | 6 => 5
 | _ => 0
def dOk : Nat -> Bool
 | 6 => true
 | 12 => true
 | 22 => true
 | _ => false
def dGet : (c : Nat) -> τ c -> List (τ (dIn c))
 | 6, (t : THeap) => t.parts
 | 12, (t : TQueue) => t.sizes
 | 22, (t : List Int) => t
 | _, _ => []
def dSet : (c : Nat) -> τ c -> List (τ (dIn c)) -> τ c
 | 6, (t : THeap), (y : List TPart) => { t with parts := y }
 | 12, (t : TQueue), (y : List Int) => { t with sizes := y }
 | 22, _, (y : List Int) => y
 | _, t, _ => t

def hkey (k : Nat) : Nat := k + 4000000
inductive Place where
 | cells (b o : Nat)
 | row (v : Value) (ver : Nat)
 | deep (v : Value) (ver : Nat) (us : List Value)

structure St where
 n : Nat
 env : List (Nat × V)
 mem : List (Nat × Blk)

def look {α : Type} (t : Nat) : List (Nat × α) -> Option α
 | [] => none
 | (j, v) :: r => if j = t then some v else look t r

def St.get (s : St) (t : Nat) : V := (look t s.env).getD (.one .bad)
def St.blk (s : St) (k : Nat) : Option Blk := look k s.mem

inductive RepI (w : World) (U : Nat -> Prop) : Value -> D -> Prop
 | i (k : IntKind) (n : Int) : RepI w U (.int k n) (.i k n)
 | b (x : Bool) : RepI w U (.bool x) (.b x)
 | s (l : List UInt8) : RepI w U (.string ⟨l.toArray⟩) (.s l)
 | z (v : Value) (h1 : v.oneCell' = true) : RepI w U v (.z v)
 | nil (a : Option Addr) (cap sz : Nat) (hn : a = none -> cap = 0) : RepI w U (.slice a 0 cap) (.sl sz [])
 | sl (b o cap sz : Nat) (rows : List (List D)) (vals : Nat -> Nat -> Value) (hU : U b) (hlen : ∀ r ∈ rows, r.length = sz) (hcap : rows.length <= cap)
  (hc : ∀ (i j : Nat) (r : List D) (d : D), rows[i]? = some r -> r[j]? = some d -> w.cell? ⟨b, o + i * sz + j, none⟩ = some (vals i j))
  (hr : ∀ (i j : Nat) (r : List D) (d : D), rows[i]? = some r -> r[j]? = some d -> RepI w U (vals i j) d) : RepI w U (.slice (some ⟨b, o, none⟩) rows.length cap) (.sl sz rows)
 | st (v : Value) (c : Nat) (xs : List (τ c)) (h : RepI w U v (.sl (esz c) (xs.map (enc c)))) (h1 : v.oneCell' = true) : RepI w U v (.st c xs)
 | tn : RepI w U (.pointer none) (.tr .nil)
 | tr (b : Nat) (pl pr : Value) (l r : TT) (s : Bool) (x : Int) (hU : U b) (h0 : w.cell? ⟨b, 0 + 0, none⟩ = some pl) (h1 : w.cell? ⟨b, 0 + 1, none⟩ = some pr) (h2 : w.cell? ⟨b, 0 + 2, none⟩ = some (.bool s)) (h3 : w.cell? ⟨b, 0 + 3, none⟩ = some (.int .i64 x))
  (hl : RepI w U pl (.tr l)) (hr : RepI w U pr (.tr r)) : RepI w U (.pointer (some ⟨b, 0, none⟩)) (.tr (.node l r s x))

theorem RepI.unst {w : World} {U : Nat -> Prop} {v : Value} {c : Nat} {xs : List (τ c)} (h : RepI w U v (.st c xs)) : RepI w U v (.sl (esz c) (xs.map (enc c))) := by
 cases h; assumption
theorem RepI.oneCell {w : World} {U : Nat -> Prop} {v : Value} {d : D} (h : RepI w U v d) : v.oneCell' = true := by cases h <;> first | rfl | assumption

theorem RepI.toSt {w : World} {U : Nat -> Prop} {v : Value} {c : Nat} {xs : List (τ c)} (h : RepI w U v (.sl (esz c) (xs.map (enc c)))) : RepI w U v (.st c xs) :=
 .st v c xs h h.oneCell

theorem RepI.mono {w w' : World} {U U' : Nat -> Prop} {v : Value} {d : D} (h : RepI w U v d) (hU : ∀ b, U b -> U' b) (hw : ∀ b, U b -> w'.heap[b]? = w.heap[b]?) : RepI w' U' v d := by
 induction h with
 | i k n => exact .i k n
 | b x => exact .b x
 | s l => exact .s l
 | z v h1 => exact .z v h1
 | nil a cap sz hn => exact .nil a cap sz hn
 | sl b o cap sz rows vals hb hlen hcap hc hr ih =>
  refine .sl b o cap sz rows vals (hU b hb) hlen hcap (fun i j r d h1 h2 => ?_) (fun i j r d h1 h2 => ih i j r d h1 h2)
  rw [World.cell?_of_block (w := w) (hw b hb)]
  exact hc i j r d h1 h2
 | st v c xs h h1 ih => exact .st v c xs ih h1
 | tn => exact .tn
 | tr b pl pr l r s x hb h0 h1 h2 h3 hl hr ihl ihr =>
  have e := hw b hb
  refine .tr b pl pr l r s x (hU b hb) ?_ ?_ ?_ ?_ ihl ihr <;> (rw [World.cell?_of_block (w := w) e]; assumption)

def SubAt (v0 : Value) (a : Option Addr) (off cap : Nat) : Prop := (v0 = .slice none 0 0 /\ a = none /\ off = 0) \/ ∃ g o n c, v0 = .slice (some ⟨g, 0, none⟩) n c /\ a = some ⟨g, o, none⟩ /\ off + cap = c
def RepC (w : World) (β : Nat -> Option Place) (U : Nat -> Prop) (base : Nat) (v : Value) : C -> Prop
 | .d x => RepI w U v x
 | .f x => RepI w (fun b => U b /\ base <= b) v x
 | .nil => v = .slice none 0 0
 | .own k ver len => ∃ (a : Option Addr) (cap : Nat) (v0 : Value) (ver0 : Nat), v = .slice a len cap /\ len <= cap /\ (a = none -> len = 0 /\ cap = 0) /\ (∀ x, a = some x -> ∃ g, x = ⟨g, 0, none⟩) /\ β k = some (.row v0 ver0) /\ ver <= ver0 /\ (ver = ver0 -> v = v0)
 | .sub k ver sz off len => ∃ (a : Option Addr) (cap : Nat) (v0 : Value) (ver0 : Nat), v = .slice a len cap /\ len <= cap /\ (a = none -> len = 0 /\ cap = 0) /\ β k = some (.row v0 ver0) /\ ver <= ver0 /\
  (ver = ver0 -> (0 < cap -> ∃ g n c, v0 = .slice (some ⟨g, 0, none⟩) n c /\ a = some ⟨g, off * sz, none⟩ /\ off + cap <= c) /\ SubAt v0 a off cap)
 | .ptr k off => ∃ b o, β k = some (.cells b o) /\ v = .pointer (some ⟨b, o + off, none⟩)
 | .pr k ver sz i off => ∃ (a : Addr) (v0 : Value) (ver0 : Nat), v = .pointer (some a) /\ β k = some (.row v0 ver0) /\ ver <= ver0 /\
  (ver = ver0 -> ∃ g n c, v0 = .slice (some ⟨g, 0, none⟩) n c /\ a = ⟨g, i * sz + off, none⟩)
 | .asl k off len => ∃ b o, β k = some (.cells b o) /\ v = .slice (some ⟨b, o + off, none⟩) len len
 | .pre k ver _ len => ∃ (a : Option Addr) (cap : Nat) (v0 : Value) (ver0 : Nat), v = .slice a len cap /\ len <= cap /\ (a = none -> len = 0 /\ cap = 0) /\ β k = some (.row v0 ver0) /\ ver <= ver0 /\ (ver = ver0 -> ∃ n, v0 = .slice a n cap /\ len <= n)
 | .nn x => RepI w U v x /\ ∃ a l c, v = .slice (some a) l c
 | .pv cells => ∃ (b o : Nat) (vals : Nat -> Value), v = .pointer (some ⟨b, o, none⟩) /\ U b /\
  ∀ (j : Nat) (d : D), cells[j]? = some d -> w.cell? ⟨b, o + j, none⟩ = some (vals j) /\ RepI w U (vals j) d
 | .clo f caps => ∃ vs : List Value, v = .func (.func f) #[] vs.toArray /\ vs.length = caps.length /\ ∀ (j : Nat) (u : Value) (d : D), vs[j]? = some u -> caps[j]? = some d -> RepI w U u d
 | .clp f ks => ∃ vs : List Value, v = .func (.func f) #[] vs.toArray /\ vs.length = ks.length /\ ∀ (j : Nat) (u : Value) (p : Nat × Nat), vs[j]? = some u -> ks[j]? = some p -> ∃ b o, β p.1 = some (.cells b o) /\ u = .pointer (some ⟨b, o + p.2, none⟩)
 | .mp k => ∃ b, β k = some (.cells b 0) /\ v = .map (some b)
 | .ne => ∃ te pe, v = .iface te pe
 | .un => v = undef
 | .bad => True
 | .dp k ver len room => ∃ (a : Option Addr) (cap : Nat) (v0 : Value) (ver0 : Nat) (us : List Value), v = .slice a len cap /\ len <= room /\ room <= cap /\ (a = none -> len = 0 /\ cap = 0) /\ (∀ x, a = some x -> ∃ g, x = ⟨g, 0, none⟩) /\ β k = some (.deep v0 ver0 us) /\ ver <= ver0 /\ (ver = ver0 -> v = v0)
 | .dsub k ver sz off len => ∃ (a : Option Addr) (cap : Nat) (v0 : Value) (ver0 : Nat) (us : List Value), v = .slice a len cap /\ β k = some (.deep v0 ver0 us) /\ ver <= ver0 /\
  (ver = ver0 -> (v0 = .slice none 0 0 /\ a = none /\ len = 0 /\ cap = 0) \/ ∃ g n c, v0 = .slice (some ⟨g, 0, none⟩) n c /\ off + len <= c /\ cap = c - off /\ a = some ⟨g, if off < c then off * sz else 0, none⟩)
 | .dpr k ver sz i off => ∃ (a : Addr) (v0 : Value) (ver0 : Nat) (us : List Value), v = .pointer (some a) /\ β k = some (.deep v0 ver0 us) /\ ver <= ver0 /\
  (ver = ver0 -> ∃ g n c, v0 = .slice (some ⟨g, 0, none⟩) n c /\ a = ⟨g, i * sz + off, none⟩)
 | .ui => ∃ n, v = .int .i64 n
 | .gr k ver j => v.oneCell' = true /\ ∃ (v0 : Value) (ver0 : Nat) (us : List Value), β k = some (.deep v0 ver0 us) /\ ver <= ver0 /\ (ver = ver0 -> ∃ vs : List Value, v0 = .agg vs.toArray /\ vs[j]? = some v)
 | .gd c L j => RepI w U v (.st c (L.getD j []))
 | .gp k kg off n i => i < n /\ ∃ b o, β k = some (.cells b o) /\ v = .pointer (some ⟨b, o + off + i, none⟩)

inductive RepV (w : World) (β : Nat -> Option Place) (U : Nat -> Prop) (base : Nat) : Value -> V -> Prop
 | one (v : Value) (c : C) (h : RepC w β U base v c) : RepV w β U base v (.one c)
 | agg (vs : List Value) (cs : List C) (hl : vs.length = cs.length) (h1 : ∀ u ∈ vs, u.oneCell' = true) (h : ∀ (j : Nat) (u : Value) (c : C), vs[j]? = some u -> cs[j]? = some c -> RepC w β U base u c) : RepV w β U base (.agg vs.toArray) (.agg cs)
 | tup (vs : List Value) (xs : List V) (hl : vs.length = xs.length) (h : ∀ (j : Nat) (u : Value) (x : V), vs[j]? = some u -> xs[j]? = some x -> RepV w β U base u x) : RepV w β U base (.tuple vs.toArray) (.tup xs)

def Evo (β β' : Nat -> Option Place) : Prop := ∀ k p, β k = some p -> β' k = some p \/ (∃ v0 ver0 v1 ver1, p = .row v0 ver0 /\ β' k = some (.row v1 ver1) /\ ver0 < ver1) \/
 ∃ v0 ver0 us0 v1 ver1 us1, p = .deep v0 ver0 us0 /\ β' k = some (.deep v1 ver1 us1) /\ ver0 <= ver1 /\ (ver0 = ver1 -> v0 = v1)
def Place.flat : Place -> Bool
 | .deep _ _ _ => false
 | _ => true
theorem Evo.old {β β' : Nat -> Option Place} (h : Evo β β') {k : Nat} {p : Place} (hk : β k = some p) (hf : p.flat = true := by rfl) : β' k = some p \/ ∃ v0 ver0 v1 ver1, p = .row v0 ver0 /\ β' k = some (.row v1 ver1) /\ ver0 < ver1 := by
 rcases h k p hk with e | e | ⟨_, _, _, _, _, _, e, _⟩
 . exact .inl e
 . exact .inr e
 . subst e; cases hf
theorem Evo.deep {β β' : Nat -> Option Place} (h : Evo β β') {k : Nat} {v0 : Value} {ver0 : Nat} {us0 : List Value} (hk : β k = some (.deep v0 ver0 us0)) : ∃ v1 ver1 us1, β' k = some (.deep v1 ver1 us1) /\ ver0 <= ver1 /\ (ver0 = ver1 -> v0 = v1) := by
 rcases h k _ hk with e | ⟨_, _, _, _, e, _⟩ | ⟨_, _, _, _, _, _, e, e2, e3, e4⟩
 . exact ⟨_, _, _, e, Nat.le_refl _, fun _ => rfl⟩
 . cases e
 . cases e; exact ⟨_, _, _, e2, e3, e4⟩

theorem Evo.refl (β : Nat -> Option Place) : Evo β β := fun _ _ h => .inl h
theorem Evo.sub {β β' : Nat -> Option Place} (h : ∀ k p, β k = some p -> β' k = some p) : Evo β β' := fun k p hk => .inl (h k p hk)

theorem RepC.map {w w' : World} {β β' : Nat -> Option Place} {U U' : Nat -> Prop} {base : Nat} {v : Value} {c : C} (h : RepC w β U base v c) (hU : ∀ b, U b -> U' b)
  (hw : ∀ b, U b -> w'.heap[b]? = w.heap[b]?) (hβ : Evo β β') : RepC w' β' U' base v c := by
 cases c with
 | d x => exact RepI.mono h hU hw
 | f x => exact RepI.mono (U := fun b => U b /\ base <= b) h (fun b hb => ⟨hU b hb.1, hb.2⟩) (fun b hb => hw b hb.1)
 | nil => exact h
 | own k ver len =>
  obtain ⟨a, cap, v0, ver0, h1, q1, q2, q3, h2, h3, h4⟩ := h
  rcases hβ.old h2 with e | ⟨x0, y0, x1, y1, e, e2, e3⟩
  . exact ⟨a, cap, v0, ver0, h1, q1, q2, q3, e, h3, h4⟩
  . cases e; exact ⟨a, cap, x1, y1, h1, q1, q2, q3, e2, by omega, fun e => by omega⟩
 | sub k ver sz off len =>
  obtain ⟨a, cap, v0, ver0, h1, h2, q1, h3, h4, h5⟩ := h
  rcases hβ.old h3 with e | ⟨x0, y0, x1, y1, e, e2, e3⟩
  . exact ⟨a, cap, v0, ver0, h1, h2, q1, e, h4, h5⟩
  . cases e; exact ⟨a, cap, x1, y1, h1, h2, q1, e2, by omega, fun e => by omega⟩
 | ptr k off =>
  obtain ⟨b, o, h1, h2⟩ := h
  rcases hβ.old h1 with e | ⟨x0, y0, x1, y1, e, e2, e3⟩
  . exact ⟨b, o, e, h2⟩
  . cases e
 | pr k ver sz i off =>
  obtain ⟨a, v0, ver0, h1, h2, h3, h4⟩ := h
  rcases hβ.old h2 with e | ⟨x0, y0, x1, y1, e, e2, e3⟩
  . exact ⟨a, v0, ver0, h1, e, h3, h4⟩
  . cases e; exact ⟨a, x1, y1, h1, e2, by omega, fun e => by omega⟩
 | asl k off len =>
  obtain ⟨b, o, h1, h2⟩ := h
  rcases hβ.old h1 with e | ⟨x0, y0, x1, y1, e, e2, e3⟩
  . exact ⟨b, o, e, h2⟩
  . cases e
 | pre k ver sz len =>
  obtain ⟨a, cap, v0, ver0, h1, q1, q2, h2, h3, h4⟩ := h
  rcases hβ.old h2 with e | ⟨x0, y0, x1, y1, e, e2, e3⟩
  . exact ⟨a, cap, v0, ver0, h1, q1, q2, e, h3, h4⟩
  . cases e; exact ⟨a, cap, x1, y1, h1, q1, q2, e2, by omega, fun e => by omega⟩
 | nn x => exact ⟨RepI.mono h.1 hU hw, h.2⟩
 | pv cells =>
  obtain ⟨b, o, vals, h1, h2, h3⟩ := h
  refine ⟨b, o, vals, h1, hU b h2, fun j d hj => ⟨?_, ((h3 j d hj).2).mono hU hw⟩⟩
  rw [World.cell?_of_block (w := w) (hw b h2)]; exact (h3 j d hj).1
 | clo f caps => obtain ⟨vs, h1, h2, h3⟩ := h; exact ⟨vs, h1, h2, fun j u d hu hd => (h3 j u d hu hd).mono hU hw⟩
 | clp f ks =>
  obtain ⟨vs, h1, h2, h3⟩ := h
  refine ⟨vs, h1, h2, fun j u p hu hp => ?_⟩
  obtain ⟨b, o, e1, e2⟩ := h3 j u p hu hp
  rcases hβ.old e1 with e | ⟨x0, y0, x1, y1, e, _, _⟩
  . exact ⟨b, o, e, e2⟩
  . cases e
 | mp k =>
  obtain ⟨b, h1, h2⟩ := h
  rcases hβ.old h1 with e | ⟨x0, y0, x1, y1, e, e2, e3⟩
  . exact ⟨b, e, h2⟩
  . cases e
 | ne => exact h
 | un => exact h
 | bad => trivial
 | dp k ver len room =>
  obtain ⟨a, cap, v0, ver0, us, h1, q1, q2, q3, q4, h2, h3, h4⟩ := h
  obtain ⟨v1, ver1, us1, e1, e2, e3⟩ := hβ.deep h2
  exact ⟨a, cap, v1, ver1, us1, h1, q1, q2, q3, q4, e1, by omega, fun e => (h4 (by omega)).trans (e3 (by omega))⟩
 | dsub k ver sz off len =>
  obtain ⟨a, cap, v0, ver0, us, h1, h2, h3, h4⟩ := h
  obtain ⟨v1, ver1, us1, e1, e2, e3⟩ := hβ.deep h2
  exact ⟨a, cap, v1, ver1, us1, h1, e1, by omega, fun e => by rw [<- e3 (by omega)]; exact h4 (by omega)⟩
 | dpr k ver sz i off =>
  obtain ⟨a, v0, ver0, us, h1, h2, h3, h4⟩ := h
  obtain ⟨v1, ver1, us1, e1, e2, e3⟩ := hβ.deep h2
  exact ⟨a, v1, ver1, us1, h1, e1, by omega, fun e => by rw [<- e3 (by omega)]; exact h4 (by omega)⟩
 | ui => exact h
 | gd c L j => exact RepI.mono h hU hw
 | gr k ver j =>
  obtain ⟨q1, v0, ver0, us, h2, h3, h4⟩ := h
  obtain ⟨v1, ver1, us1, e1, e2, e3⟩ := hβ.deep h2
  exact ⟨q1, v1, ver1, us1, e1, by omega, fun e => by rw [<- e3 (by omega)]; exact h4 (by omega)⟩
 | gp k kg off n i =>
  obtain ⟨q1, b, o, h1, h2⟩ := h
  rcases hβ.old h1 with e | ⟨x0, y0, x1, y1, e, e2, e3⟩
  . exact ⟨q1, b, o, e, h2⟩
  . cases e

theorem RepV.map {w w' : World} {β β' : Nat -> Option Place} {U U' : Nat -> Prop} {base : Nat} {v : Value} {x : V} (h : RepV w β U base v x) (hU : ∀ b, U b -> U' b)
  (hw : ∀ b, U b -> w'.heap[b]? = w.heap[b]?) (hβ : Evo β β') : RepV w' β' U' base v x := by
 induction h with
 | one v c h => exact .one v c (h.map hU hw hβ)
 | agg vs cs hl h1 h => exact .agg vs cs hl h1 fun j u c hu hc => (h j u c hu hc).map hU hw hβ
 | tup vs xs hl h ih => exact .tup vs xs hl fun j u x hu hx => ih j u x hu hx

theorem RepV.bad {w : World} {β : Nat -> Option Place} {U : Nat -> Prop} {base : Nat} (v : Value) : RepV w β U base v (.one .bad) := .one v .bad trivial

def dv : D -> Value
 | .i k n => .int k n
 | .b x => .bool x
 | .s l => .string ⟨l.toArray⟩
 | _ => undef
def cvals : List D -> Value
 | [d] => dv d
 | ds => .agg (ds.map dv).toArray
def zipE (kt : Nat) (es : List (τ kt × Int)) (bs : List Nat) : List MapEntry := List.zipWith (fun e b => ⟨cvals (enc kt e.1), .int .i64 e.2, b⟩) es bs
def keyN : (kt : Nat) -> τ kt -> Int
 | 0, (n : Int) => n
 | 27, (n : Int) => n
 | 28, (n : Int) => n
 | _, _ => 0
def keyL : (kt : Nat) -> τ kt -> List Int
 | 17, (t : TMap) => [t.proto, t.addr, t.port, t.out, t.at']
 | 29, (t : TMac) => [t.m0, t.m1, t.m2, t.m3, t.m4, t.m5]
 | _, _ => []
def keyEq : (kt : Nat) -> τ kt -> τ kt -> Bool
 | 17, a, b => decide (keyL 17 a = keyL 17 b)
 | 29, a, b => decide (keyL 29 a = keyL 29 b)
 | kt, a, b => decide (keyN kt a = keyN kt b)
def mIdx (kt : Nat) (t : τ kt) : List (τ kt × Int) -> Option Nat
 | [] => none
 | e :: r => match keyEq kt t e.1 with
  | true => some 0
  | false => (mIdx kt t r).map (· + 1)
def mVal {κ : Type} (es : List (κ × Int)) (j : Nat) : Int := ((es[j]?).map (·.2)).getD 0
def mGet (kt : Nat) (t : τ kt) (es : List (τ kt × Int)) : Option Int := (mIdx kt t es).map (mVal es)
def mPut (kt : Nat) (t : τ kt) (v : Int) (es : List (τ kt × Int)) : List (τ kt × Int) := match mIdx kt t es with
 | some j => es.set j (t, v)
 | none => es ++ [(t, v)]
def lits : List Nat := [33, 23]
def stamps : Bool := false
def Births (bs : List Nat) (cl n : Nat) : Prop := bs.length = n /\ (stamps = true -> bs = List.range n /\ cl = n)
def Blk.whole : Blk -> Bool
 | .cells _ => false
 | _ => true
def Blk.std : Blk -> Blk
 | .rowT ver e c ap fr xs => .row ver e (esz c) ap fr (xs.map (enc c))
 | b => b
def sps : List (Nat × Nat) := [(66, 9)]
def spIn (e : Nat) : List (Nat × Nat) -> Option Nat
 | [] => none
 | (e', c) :: r => match Nat.beq e e' with | true => some c | false => spIn e r
def keepSp (e : Nat) : Bool := match spIn e sps with | none => true | some _ => false
def its : List (Nat × Nat) := [(3, 0)]
def isIt (e : Nat) : Bool := match spIn e its with | none => false | some _ => true
def AllI (cur : Array Value) : Prop := ∀ (j : Nat) (v : Value), cur[j]? = some v -> ∃ n : Int, v = .int .i64 n
def noSp (e : Nat) : Bool := keepSp e && !isIt e
def jts : List (Nat × Nat) := [(35, 12)]
def isJt (e : Nat) : Bool := match spIn e jts with | none => false | some _ => true
def isN : D -> Bool
 | .i .i64 _ => true
 | _ => false
def isNC : C -> Bool
 | .d x => isN x
 | _ => false
def itC : Nat -> Bool
 | 0 => true
 | 8 => true
 | 11 => true
 | 13 => true
 | 14 => true
 | _ => false
def itFlag (e : Nat) (zs : List C) (new : List (List D)) : Bool := keepSp e && (!isIt e || (zs.all isNC && new.all fun r => r.all isN))
theorem isN_eq {d : D} (h : isN d = true) : ∃ n, d = .i .i64 n := by
 cases d with
 | i k n => cases k <;> first | exact ⟨n, rfl⟩ | cases h
 | _ => cases h
theorem itC_enc : ∀ {c : Nat} (x : τ c), itC c = true -> (enc c x).all isN = true
 | 0, _, _ | 8, _, _ | 11, _, _ | 13, _, _ | 14, _, _ => rfl
 | 1, _, h | 2, _, h | 3, _, h | 4, _, h | 5, _, h | 6, _, h | 7, _, h | 9, _, h | 10, _, h | 12, _, h => by cases h
 | n + 15, _, h => by cases h
theorem repI_int {w : World} {U : Nat -> Prop} {v : Value} {d : D} (h : RepI w U v d) (hd : isN d = true) : ∃ n : Int, v = .int .i64 n := by
 obtain ⟨n, rfl⟩ := isN_eq hd
 cases h; exact ⟨n, rfl⟩
def Spare (e sz n cap : Nat) (cur : Array Value) : Prop := (∀ c, spIn e sps = some c -> ∃ ys : List (τ c), n + ys.length = cap /\
 ∀ (i j : Nat) (y : τ c) (d : D), ys[i]? = some y -> (enc c y)[j]? = some d -> ∃ u, cur[(n + i) * sz + j]? = some u /\ u.oneCell' = true /\ ∀ (w : World) (U : Nat -> Prop), RepI w U u d) /\ (isIt e = true -> AllI cur)
theorem keep_none {e c : Nat} (h : keepSp e = true) (hc : spIn e sps = some c) : False := by rw [keepSp, hc] at h; cases h
theorem keep_spare {e sz n cap : Nat} {cur : Array Value} (h : keepSp e = true) (hi : isIt e = true -> AllI cur) : Spare e sz n cap cur := ⟨fun c hc => (keep_none h hc).elim, hi⟩
theorem keep_and {e sz n cap : Nat} {ap : Bool} {cur cur' : Array Value} {fz : Nat × Nat} (h : ap = true -> fz = (0, 0) /\ Spare e sz n cap cur) (hi : isIt e = true -> AllI cur -> AllI cur') : ∀ {n' cap' : Nat}, (ap && keepSp e) = true -> fz = (0, 0) /\ Spare e sz n' cap' cur' := fun h2 => by
 rw [Bool.and_eq_true] at h2; exact ⟨(h h2.1).1, keep_spare h2.2 fun q => hi q ((h h2.1).2.2 q)⟩
theorem noSp_spare {e sz n cap : Nat} {cur : Array Value} (h : noSp e = true) : Spare e sz n cap cur := by
 rw [noSp, Bool.and_eq_true] at h
 exact keep_spare h.1 fun q => by rw [q] at h; cases h.2
theorem noSp_and {e sz n cap : Nat} {ap : Bool} {cur cur' : Array Value} {fz : Nat × Nat} (h : ap = true -> fz = (0, 0) /\ Spare e sz n cap cur) : ∀ {n' cap' : Nat}, (ap && noSp e) = true -> fz = (0, 0) /\ Spare e sz n' cap' cur' := fun h2 => by
 rw [Bool.and_eq_true] at h2; exact ⟨(h h2.1).1, noSp_spare h2.2⟩
def Inner (w : World) (e : TypeId) (c : Nat) (u : Value) (ys : List (τ c)) : Prop :=
 (u = .slice none 0 0 /\ ys = []) \/ ∃ (g cap : Nat) (cur : Array Value), u = .slice (some ⟨g, 0, none⟩) ys.length cap /\ w.heap[g]? = some (.cells cur e (0, 0)) /\ ys.length <= cap /\ cap <= maxLen /\ cur.size = cap * esz c /\ Spare e (esz c) ys.length cap cur /\
  ∀ (i j : Nat) (y : τ c) (d : D), ys[i]? = some y -> (enc c y)[j]? = some d -> ∃ u, cur[i * esz c + j]? = some u /\ u.oneCell' = true /\ RepI w (fun _ => False) u d
def DSep (v : Value) (us : List Value) : Prop := (∀ (i j : Nat) (u u' : Value) (b : Nat), i ≠ j -> us[i]? = some u -> us[j]? = some u' -> u.ownBlock = some b -> u'.ownBlock ≠ some b) /\
 ∀ (i : Nat) (u : Value) (b : Nat), us[i]? = some u -> u.ownBlock = some b -> v.ownBlock ≠ some b
def Loose (w : World) (e : TypeId) (sz : Nat) (u : Value) (len N : Nat) : Prop :=
 (u = .slice none 0 0 /\ len = 0 /\ N = 0) \/ ∃ (g : Nat) (cur : Array Value), u = .slice (some ⟨g, 0, none⟩) len N /\ len <= N /\ w.heap[g]? = some (.cells cur e (0, 0)) /\ cur.size = N * sz /\ N <= maxLen /\ Spare e sz 0 N cur
def noHole (hole : Option (Nat × Option (Nat × Nat))) (i : Nat) : Bool := match hole with | some (j, _) => !Nat.beq j i | none => true
def PartO (sz o : Nat) (u0 u : Value) : Prop := (o = 0 /\ u = u0) \/ ∃ (g n cap o' : Nat), u0 = .slice (some ⟨g, 0, none⟩) n cap /\ u = .slice (some ⟨g, o', none⟩) (n - o) (cap - o) /\ o <= n /\ (o < cap -> o' = o * sz)
def PartM (sz : Nat) (pz : Option (List Nat)) (i : Nat) (u0 u : Value) : Prop := match pz with
 | none => u = u0
 | some os => PartO sz (os.getD i 0) u0 u
def JdOk (w : World) (β : Nat -> Option Place) (v : Value) (us : List Value) (e ei : TypeId) (sz ic szi : Nat) (pz : Option (List Nat)) (hole : Option (Nat × Option (Nat × Nat))) (ls : List (Nat × Nat)) : Prop :=
 us.length = ls.length /\ DSep v us /\ ic < sz /\
 (∀ (i : Nat) (u : Value) (l : Nat × Nat), us[i]? = some u -> ls[i]? = some l -> noHole hole i = true -> Loose w ei szi u l.1 l.2) /\
 (∀ (i : Nat) (l : Option (Nat × Nat)), hole = some (i, l) -> i < ls.length /\ us[i]? = some (.slice none 0 0)) /\
 ((v = .slice none 0 0 /\ ls = []) \/
  (∃ (g cap : Nat) (cur : Array Value), v = .slice (some ⟨g, 0, none⟩) ls.length cap /\ w.heap[g]? = some (.cells cur e (0, 0)) /\ ls.length <= cap /\ cap <= maxLen /\ cur.size = cap * sz /\
   ∀ (i j : Nat), i < ls.length -> j < sz -> ∃ u, cur[i * sz + j]? = some u /\ (u.oneCell' = true /\ (isJt e = true -> j ≠ ic -> ∃ n : Int, u = .int .i64 n)) /\ (j = ic -> noHole hole i = true -> ∃ u0, us[i]? = some u0 /\ PartM szi pz i u0 u) /\
    (j = ic -> ∀ (k' ver' : Nat), hole = some (i, some (k', ver')) -> ∃ v1 ver1, β k' = some (.row v1 ver1) /\ ver' <= ver1 /\ (ver' = ver1 -> PartM szi pz i v1 u))) \/
  (pz = none /\ ∃ vs : List Value, v = .agg vs.toArray /\ (vs.length = ls.length /\ e = ei) /\ (∀ u ∈ vs, u.oneCell' = true) /\ (∀ (i : Nat) (u : Value), us[i]? = some u -> noHole hole i = true -> vs[i]? = some u) /\
   ∀ (i k' ver' : Nat), hole = some (i, some (k', ver')) -> ∃ u v1 ver1, vs[i]? = some u /\ β k' = some (.row v1 ver1) /\ ver' <= ver1 /\ (ver' = ver1 -> u = v1)))
def DxOk (w : World) (β : Nat -> Option Place) (v : Value) (us : List Value) (e ei : TypeId) (c : Nat) (os : List Nat) (hole : Option (Nat × Option (Nat × Nat))) (xs : List (τ c)) : Prop :=
 dOk c = true /\ us.length = xs.length /\ DSep v us /\
 (∀ (i : Nat) (u : Value) (x : τ c), us[i]? = some u -> xs[i]? = some x -> noHole hole i = true -> Inner w ei (dIn c) u (dGet c x)) /\
 (∀ (i : Nat) (l : Option (Nat × Nat)), hole = some (i, l) -> i < xs.length /\ us[i]? = some (.slice none 0 0)) /\
 ((v = .slice none 0 0 /\ xs = []) \/
  ∃ (g cap : Nat) (cur : Array Value), v = .slice (some ⟨g, 0, none⟩) xs.length cap /\ w.heap[g]? = some (.cells cur e (0, 0)) /\ xs.length <= cap /\ cap <= maxLen /\ cur.size = cap * esz c /\
   ∀ (i j : Nat) (x : τ c) (d : D), xs[i]? = some x -> (enc c x)[j]? = some d -> ∃ u, cur[i * esz c + j]? = some u /\ u.oneCell' = true /\
    (j ≠ dIc c -> RepI w (fun _ => False) u d) /\ (j = dIc c -> noHole hole i = true -> ∃ u0, us[i]? = some u0 /\ PartO (esz (dIn c)) (os.getD i 0) u0 u) /\
    (j = dIc c -> ∀ (k' ver' : Nat), hole = some (i, some (k', ver')) -> ∃ v1 ver1, β k' = some (.row v1 ver1) /\ ver' <= ver1 /\ (ver' = ver1 -> PartO (esz (dIn c)) (os.getD i 0) v1 u)))
def GrpOk (w : World) (β : Nat -> Option Place) (U : Nat -> Prop) (v : Value) (us : List Value) (ei : TypeId) (c m : Nat) (hole : Option (Nat × Option (Nat × Nat))) (L : List (List (τ c))) : Prop :=
 us.length = m /\ m <= L.length /\ DSep v us /\ ∃ vs : List Value, v = .agg vs.toArray /\ vs.length = L.length /\ (∀ u ∈ vs, u.oneCell' = true) /\
 (∀ (i : Nat) (u : Value) (l : List (τ c)), us[i]? = some u -> L[i]? = some l -> noHole hole i = true -> vs[i]? = some u /\ Inner w ei c u l) /\
 (∀ (i : Nat) (l : Option (Nat × Nat)), hole = some (i, l) -> i < m /\ us[i]? = some (.slice none 0 0)) /\
 (∀ (i k' ver' : Nat), hole = some (i, some (k', ver')) -> ∃ u v1 ver1, vs[i]? = some u /\ β k' = some (.row v1 ver1) /\ ver' <= ver1 /\ (ver' = ver1 -> u = v1)) /\
 ∀ (i : Nat) (u : Value) (l : List (τ c)), m <= i -> vs[i]? = some u -> L[i]? = some l -> RepI w U u (.st c l)
def RepB0 (w : World) (β : Nat -> Option Place) (U : Nat -> Prop) (base : Nat) : Place -> Blk -> Prop
 | .cells b o, .cells cs => 0 < cs.length /\ ∀ (j : Nat) (c : C), cs[j]? = some c -> ∃ v, w.cell? ⟨b, o + j, none⟩ = some v /\ w.frozen? ⟨b, o + j, none⟩ = false /\ v.oneCell' = true /\ RepC w β U base v c
 | .row v ver0, .row ver e sz ap fr rows => ver = ver0 /\ (∀ r ∈ rows, r.length = sz) /\
   ((v = .slice none 0 0 /\ rows = []) \/
    ∃ (g cap : Nat) (cur : Array Value) (fz : Nat × Nat), v = .slice (some ⟨g, 0, none⟩) rows.length cap /\ w.heap[g]? = some (.cells cur e fz) /\ rows.length <= cap /\ cap <= maxLen /\ cur.size = cap * sz /\
     (ap = true -> fz = (0, 0) /\ Spare e sz rows.length cap cur) /\ (∀ i, i < rows.length * sz -> w.frozen? ⟨g, i, none⟩ = false) /\
     ∀ (i j : Nat) (r : List D) (d : D), rows[i]? = some r -> r[j]? = some d -> ∃ u, cur[i * sz + j]? = some u /\ u.oneCell' = true /\ RepI w (fun b => U b /\ (fr = true -> base <= b)) u d)
 | .row v ver0, .junk ver e sz len N => ver = ver0 /\ ((v = .slice none 0 0 /\ len = 0 /\ N = 0) \/ ∃ (g : Nat) (cur : Array Value), v = .slice (some ⟨g, 0, none⟩) len N /\ len <= N /\ w.heap[g]? = some (.cells cur e (0, 0)) /\ cur.size = N * sz /\ N <= maxLen /\ Spare e sz 0 N cur)
 | .row v ver0, .buf ver e xs => ver = ver0 /\ w.ownsRowF 0 e 1 v xs.length (xs.map fun x => .int .u8 x.toNat)
 | .cells b o, .bx T l => o = 0 /\ ∃ p v, w.heap[b]? = some (.cells #[p, v] T (0, 0)) /\ (p = .pointer none \/ p = .pointer (some ⟨b, 0, none⟩)) /\ v.oneCell' = true /\ match l with
  | none => True
  | some (k, ver) => ∃ v0 ver0, β k = some (.row v0 ver0) /\ ver <= ver0 /\ (ver = ver0 -> v = v0)
 | .cells b o, .mp kt es => o = 0 /\ ∃ (bs : List Nat) (cl : Nat), Births bs cl es.length /\ w.heap[b]? = some (.map (zipE kt es bs).toArray cl)
 | .deep v ver0 us, .deep ver e ei c hole xs => ver = ver0 /\ dOk c = true /\ us.length = xs.length /\ DSep v us /\
   (∀ (i : Nat) (u : Value) (x : τ c), us[i]? = some u -> xs[i]? = some x -> noHole hole i = true -> Inner w ei (dIn c) u (dGet c x)) /\
   (∀ (i : Nat) (l : Option (Nat × Nat)), hole = some (i, l) -> i < xs.length /\ us[i]? = some (.slice none 0 0)) /\
   ((v = .slice none 0 0 /\ xs = []) \/
    ∃ (g cap : Nat) (cur : Array Value), v = .slice (some ⟨g, 0, none⟩) xs.length cap /\ w.heap[g]? = some (.cells cur e (0, 0)) /\ xs.length <= cap /\ cap <= maxLen /\ cur.size = cap * esz c /\
     ∀ (i j : Nat) (x : τ c) (d : D), xs[i]? = some x -> (enc c x)[j]? = some d -> ∃ u, cur[i * esz c + j]? = some u /\ u.oneCell' = true /\
      (j ≠ dIc c -> RepI w (fun _ => False) u d) /\ (j = dIc c -> noHole hole i = true -> us[i]? = some u) /\
      (j = dIc c -> ∀ (k' ver' : Nat), hole = some (i, some (k', ver')) -> ∃ v1 ver1, β k' = some (.row v1 ver1) /\ ver' <= ver1 /\ (ver' = ver1 -> u = v1)))
 | .deep v ver0 us, .jd ver e ei sz ic szi o pz hole ls => ver = ver0 /\ match o with
   | none => JdOk w β v us e ei sz ic szi pz hole ls
   | some (n, N) => Loose w e sz v n N
 | .deep v ver0 us, .grp ver ei c m o hole L => ver = ver0 /\ GrpOk w β U v us ei c m hole L
 | .deep v ver0 us, .dx ver e ei c os hole xs => ver = ver0 /\ DxOk w β v us e ei c os hole xs
 | _, _ => False
def RepB (w : World) (β : Nat -> Option Place) (U : Nat -> Prop) (base : Nat) (p : Place) (blk : Blk) : Prop := RepB0 w β U base p blk.std

def Place.has : Place -> Nat -> Prop
 | .cells b _, b' => some b = some b'
 | .row v _, b' => v.ownBlock = some b'
 | .deep v _ us, b' => v.ownBlock = some b' \/ ∃ u ∈ us, u.ownBlock = some b'

def Place.covers (p : Place) (blk : Blk) (b j : Nat) : Prop :=
 match p, blk with
 | .cells b' o, .cells cs => b = b' /\ o <= j /\ j < o + cs.length
 | .row v _, _ => v.ownBlock = some b
 | .cells b' _, .mp _ _ => b = b'
 | .cells b' _, .bx _ _ => b = b'
 | .deep v _ us, _ => v.ownBlock = some b \/ ∃ u ∈ us, u.ownBlock = some b
 | _, _ => False

structure Chg (B : Nat) (X : Nat -> Nat -> Prop) (w w' : World) : Prop where
 os : w'.os = w.os
 tape : w'.tape = w.tape
 output : w'.output = w.output
 size : w.heap.size <= w'.heap.size
 block : ∀ b, b < B -> w'.heap[b]? = w.heap[b]? \/
  (∃ c c' e f, w.heap[b]? = some (.cells c e f) /\ w'.heap[b]? = some (.cells c' e f) /\ c.size = c'.size /\ ∀ j, ¬ X b j -> c'[j]? = c[j]?) \/ ∀ j, X b j

theorem Chg.refl (B : Nat) (X : Nat -> Nat -> Prop) (w : World) : Chg B X w w := ⟨rfl, rfl, rfl, Nat.le_refl _, fun _ _ => .inl rfl⟩

theorem Chg.trans {B : Nat} {X : Nat -> Nat -> Prop} {a b c : World} (h : Chg B X a b) (k : Chg B X b c) : Chg B X a c := by
 refine ⟨k.os.trans h.os, k.tape.trans h.tape, k.output.trans h.output, Nat.le_trans h.size k.size, fun i hi => ?_⟩
 rcases h.block i hi with h1 | ⟨x, x', e, f, h1, h2, h3, h4⟩ | h1
 . rcases k.block i hi with k1 | ⟨y, y', e', f', k1, k2, k3, k4⟩ | k1
   . exact .inl (k1.trans h1)
   . exact .inr (.inl ⟨y, y', e', f', h1 ▸ k1, k2, k3, k4⟩)
   . exact .inr (.inr k1)
 . rcases k.block i hi with k1 | ⟨y, y', e', f', k1, k2, k3, k4⟩ | k1
   . exact .inr (.inl ⟨x, x', e, f, h1, k1.trans h2, h3, h4⟩)
   . rw [h2] at k1
     obtain ⟨rfl, rfl, rfl⟩ : x' = y /\ e = e' /\ f = f' := by simpa using k1
     exact .inr (.inl ⟨x, y', e, f, h1, k2, h3.trans k3, fun j hj => (k4 j hj).trans (h4 j hj)⟩)
   . exact .inr (.inr k1)
 . exact .inr (.inr h1)

theorem Chg.below {B : Nat} {w w' : World} {X : Nat -> Nat -> Prop} (hX : ∀ b j, ¬ X b j) (h : Chg B X w w') : Below B w w' := by
 refine ⟨h.os, h.tape, h.output, h.size, fun b hb => ?_⟩
 rcases h.block b hb with h1 | ⟨x, x', e, f, h1, h2, h3, h4⟩ | h1
 . exact h1
 . have : x' = x := Array.ext_getElem? fun j => h4 j (hX b j)
   rw [h1, h2, this]
 . exact absurd (h1 0) (hX b 0)

def globs : List (Nat × Array Value) := []
def gints : List Nat := []
def gerrs : List Nat := []
structure Glob (U : Nat -> Prop) (w : World) : Prop where
 tabs : ∀ e ∈ globs, U e.1 /\ ∃ x y, w.heap[e.1]? = some (.cells e.2 x y)
 ints : ∀ g ∈ gints, U g /\ ∃ m, w.cell? ⟨g, 0, none⟩ = some (.int .i64 m)
 errs : ∀ g ∈ gerrs, U g /\ ∃ v, w.cell? ⟨g, 0, none⟩ = some v /\ (v = .nilIface \/ ∃ te pe, v = .iface te pe)
theorem Glob.map {U U' : Nat -> Prop} {w w' : World} (h : Glob U w) (hU : ∀ b, U b -> U' b) (hw : ∀ b, U b -> w'.heap[b]? = w.heap[b]?) : Glob U' w' := by
 refine ⟨fun e he => ?_, fun g hg => ?_, fun g hg => ?_⟩
 . obtain ⟨h1, x, y, h2⟩ := h.tabs e he
   exact ⟨hU _ h1, x, y, by rw [hw _ h1]; exact h2⟩
 . obtain ⟨h1, m, h2⟩ := h.ints g hg
   exact ⟨hU _ h1, m, (World.cell?_of_block (w := w) (hw _ h1)).trans h2⟩
 . obtain ⟨h1, v, h2, h3⟩ := h.errs g hg
   exact ⟨hU _ h1, v, (World.cell?_of_block (w := w) (hw _ h1)).trans h2, h3⟩

structure SimB (w0 : World) (U0 : Nat -> Prop) (X : Nat -> Nat -> Prop) (β0 : Nat -> Option Place) (β : Nat -> Option Place) (U : Nat -> Prop) (s : St) (a : Act) (w : World) : Prop where
 n : a.tmps.size = s.n
 small : s.n <= 900
 args : ∀ k, (k < 1000000 \/ 2000000 <= k) -> β0 k = none
 ver0 : (∀ k v ver, β0 k = some (.row v ver) -> ver = 0) /\ ∀ k v ver us, β0 k = some (.deep v ver us) -> ver = 0
 hist : ∀ k p, β0 k = some p -> (s.blk k).isSome = true -> β k = some p \/ (∃ v0 ver0 v1 ver1, p = .row v0 ver0 /\ β k = some (.row v1 ver1) /\ ver0 < ver1) \/ ∃ v0 ver0 us0 v1 ver1 us1, p = .deep v0 ver0 us0 /\ β k = some (.deep v1 ver1 us1) /\ ver0 <= ver1 /\ (ver0 = ver1 -> v0 = v1)
 defers : a.defers = []
 env : ∀ t, RepV w β U w0.heap.size (a.tmps.getD t undef) (s.get t)
 mem : ∀ k blk, s.blk k = some blk -> ∃ p, β k = some p /\ RepB w β U w0.heap.size p blk
 dom : ∀ k p, β k = some p -> (s.blk k).isSome = true
 apart : ∀ k p b, β k = some p -> p.has b -> ¬ U b /\ b < w.heap.size
 inj : ∀ k k' p p' blk blk' b j, k ≠ k' -> β k = some p -> β k' = some p' -> s.blk k = some blk -> s.blk k' = some blk' -> p.covers blk b j -> ¬ p'.covers blk' b j
 stab : ∀ b, U b -> b < w.heap.size
 glob : Glob U w
 old : ∀ b, U0 b -> U b
 new : ∀ b, b < w0.heap.size -> U b -> U0 b
 chg : Chg w0.heap.size X w0 w
 may : ∀ k p blk b j, β k = some p -> s.blk k = some blk -> p.covers blk b j -> b < w0.heap.size -> X b j

def Place.nocells : Place -> Bool
 | .cells _ _ => false
 | _ => true
theorem SimB.hasApart {w0 : World} {U0 : Nat -> Prop} {X : Nat -> Nat -> Prop} {β0 β : Nat -> Option Place} {U : Nat -> Prop} {s : St} {a : Act} {w : World} (h : SimB w0 U0 X β0 β U s a w)
  {k k' : Nat} {p p' : Place} {b : Nat} (hne : k ≠ k') (hk : β k = some p) (hk' : β k' = some p') (hn : p'.nocells = true) (hb : p.has b) : ¬ p'.has b := by
 intro hb'
 obtain ⟨b1, hb1⟩ := Option.isSome_iff_exists.1 (h.dom k _ hk)
 obtain ⟨b2, hb2⟩ := Option.isSome_iff_exists.1 (h.dom k' _ hk')
 obtain ⟨p1, hp1, hr1⟩ := h.mem k b1 hb1
 rw [hk] at hp1; cases hp1
 have c2 : ∀ j, p'.covers b2 b j := fun j => by
  cases p' with
  | cells => cases hn
  | row => cases b2 <;> exact hb'
  | deep => cases b2 <;> exact hb'
 have c1 : ∃ j, p.covers b1 b j := by
  cases p with
  | row => exact ⟨0, by cases b1 <;> exact hb⟩
  | deep => exact ⟨0, by cases b1 <;> exact hb⟩
  | cells x o =>
   cases b1 with
   | cells cs => exact ⟨o, (Option.some.inj hb).symm, Nat.le_refl _, by have := hr1.1; omega⟩
   | mp => exact ⟨0, (Option.some.inj hb).symm⟩
   | bx => exact ⟨0, (Option.some.inj hb).symm⟩
   | _ => exact hr1.elim
 obtain ⟨j, c1⟩ := c1
 exact h.inj k k' _ _ b1 b2 b j hne hk hk' hb1 hb2 c1 (c2 j)

def Sim (w0 : World) (U0 : Nat -> Prop) (X : Nat -> Nat -> Prop) (β0 : Nat -> Option Place) (s : St) (a : Act) (w : World) : Prop := ∃ β U, SimB w0 U0 X β0 β U s a w
end Go.Proofs.Ythnijeclidpooaa.Abs
namespace Go.Proofs.Ythnijeclidpooaa.Abs
open Go Go.RowKit

theorem look_cons {α : Type} (t j : Nat) (v : α) (r : List (Nat × α)) : look t ((j, v) :: r) = if j = t then some v else look t r := rfl
theorem look_cons_self {α : Type} (t : Nat) (v : α) (r : List (Nat × α)) : look t ((t, v) :: r) = some v := by simp [look]
theorem look_cons_ne {α : Type} {t j : Nat} (h : j ≠ t) (v : α) (r : List (Nat × α)) : look t ((j, v) :: r) = look t r := by simp [look, h]

def St.put (s : St) (dst : Option Nat) (x : V) : St :=
 match dst with
 | some t => { s with env := (t, x) :: s.env }
 | none => s
def St.set (s : St) (k : Nat) (blk : Blk) : St := { s with mem := (k, blk) :: s.mem }

theorem St.get_put (s : St) (d t : Nat) (x : V) : (s.put (some d) x).get t = if d = t then x else s.get t := by
 unfold St.put St.get; simp only [look_cons]; split <;> rfl
@[simp] theorem St.blk_put (s : St) (d : Option Nat) (x : V) (k : Nat) : (s.put d x).blk k = s.blk k := by cases d <;> rfl
@[simp] theorem St.n_put (s : St) (d : Option Nat) (x : V) : (s.put d x).n = s.n := by cases d <;> rfl
theorem St.blk_set (s : St) (k k' : Nat) (blk : Blk) : (s.set k blk).blk k' = if k = k' then some blk else s.blk k' := by
 unfold St.set St.blk; simp only [look_cons]
@[simp] theorem St.get_set (s : St) (k t : Nat) (blk : Blk) : (s.set k blk).get t = s.get t := rfl
@[simp] theorem St.n_set (s : St) (k : Nat) (blk : Blk) : (s.set k blk).n = s.n := rfl

def upd (β : Nat -> Option Place) (k : Nat) (p : Place) : Nat -> Option Place := fun k' => if k = k' then some p else β k'
theorem upd_self (β : Nat -> Option Place) (k : Nat) (p : Place) : upd β k p k = some p := by simp [upd]
theorem upd_ne (β : Nat -> Option Place) {k k' : Nat} (h : k ≠ k') (p : Place) : upd β k p k' = β k' := by simp [upd, h]

theorem size_alloc (w : World) (o : Obj) : (w.alloc o).heap.size = w.heap.size + 1 := by simp

theorem covers_block {p : Place} {blk : Blk} {b j : Nat} (h : p.covers blk b j) : p.has b := by
 cases p with
 | cells b' o => cases blk with
  | cells cs => obtain ⟨h1, _⟩ := h; rw [h1]; rfl
  | mp => have h1 : b = b' := h; rw [h1]; rfl
  | bx => have h1 : b = b' := h; rw [h1]; rfl
  | row => exact h.elim
  | rowT => exact h.elim
  | junk => exact h.elim
  | buf => exact h.elim
  | deep => exact h.elim
  | jd => exact h.elim
  | grp => exact h.elim
  | dx => exact h.elim
 | row v ver => cases blk <;> exact h
 | deep v ver us => cases blk <;> exact h

theorem Inner.map {w w' : World} {e : TypeId} {c : Nat} {u : Value} {ys : List (τ c)} (h : Inner w e c u ys) (hb : ∀ b, u.ownBlock = some b -> w'.heap[b]? = w.heap[b]?) : Inner w' e c u ys := by
 rcases h with h | ⟨g, cap, cur, rfl, h1, h2, h3, h4, hs, h5⟩
 . exact .inl h
 . exact .inr ⟨g, cap, cur, rfl, (hb g rfl).trans h1, h2, h3, h4, hs, fun i j y d hi hj => by
    obtain ⟨u, k1, k2, k3⟩ := h5 i j y d hi hj
    exact ⟨u, k1, k2, k3.mono (fun _ hb => hb) (fun _ hb => hb.elim)⟩⟩

theorem Loose.map {w w' : World} {e : TypeId} {sz : Nat} {u : Value} {n N : Nat} (h : Loose w e sz u n N) (hb : ∀ b, u.ownBlock = some b -> w'.heap[b]? = w.heap[b]?) : Loose w' e sz u n N := by
 rcases h with h | ⟨g, cur, rfl, h1, h2, h3⟩
 . exact .inl h
 . exact .inr ⟨g, cur, rfl, h1, (hb g rfl).trans h2, h3⟩

section
variable {w0 : World} {U0 : Nat -> Prop} {X : Nat -> Nat -> Prop} {β0 : Nat -> Option Place} {β : Nat -> Option Place} {U : Nat -> Prop} {s : St} {a : Act} {w : World}

theorem SimB.baseLe (h : SimB w0 U0 X β0 β U s a w) : w0.heap.size <= w.heap.size := h.chg.size

theorem SimB.put (h : SimB w0 U0 X β0 β U s a w) {v : Value} {x : V} (hx : RepV w β U w0.heap.size v x) {dst : Option Nat} (hd : ∀ d, dst = some d -> d < s.n) :
  SimB w0 U0 X β0 β U (s.put dst x) (a.put dst v) w := by
 cases dst with
 | none => exact h
 | some d =>
  have hd' : d < a.tmps.size := by rw [h.n]; exact hd d rfl
  have henv : ∀ t, RepV w β U w0.heap.size ((a.put (some d) v).tmps.getD t undef) ((s.put (some d) x).get t) := fun t => by
   rw [St.get_put]
   by_cases hdt : d = t
   . subst hdt
     rw [if_pos rfl]
     have : (a.put (some d) v).tmps.getD d undef = v := by simp [Act.put, hd']
     rw [this]; exact hx
   . rw [if_neg hdt]
     have : (a.put (some d) v).tmps.getD t undef = a.tmps.getD t undef := by
      simp only [Act.put, Array.getD_eq_getD_getElem?]
      rw [Array.getElem?_setIfInBounds_ne hdt]
     rw [this]; exact h.env t
  exact { n := by simpa [Act.put] using h.n, small := by simpa using h.small, args := h.args, ver0 := h.ver0, hist := by simpa using h.hist, defers := by simpa [Act.put] using h.defers, mem := by simpa using h.mem, dom := by simpa using h.dom, apart := h.apart, inj := by simpa using h.inj, stab := h.stab, glob := h.glob, old := h.old, new := h.new, chg := h.chg, may := by simpa using h.may, env := henv }

theorem RepB.map {w' : World} {β' : Nat -> Option Place} {U' : Nat -> Prop} {base : Nat} {p : Place} {blk : Blk} (h : RepB w β U base p blk) (hU : ∀ b, U b -> U' b)
  (hw : ∀ b, U b -> w'.heap[b]? = w.heap[b]?) (hβ : Evo β β')
  (hc : ∀ b j, p.covers blk b j -> w'.cell? ⟨b, j, none⟩ = w.cell? ⟨b, j, none⟩ /\ w'.frozen? ⟨b, j, none⟩ = w.frozen? ⟨b, j, none⟩)
  (hb : ∀ b, p.has b -> blk.whole = true -> w'.heap[b]? = w.heap[b]?) : RepB w' β' U' base p blk := by
 cases p with
 | cells b o =>
  cases blk with
  | cells cs =>
   refine ⟨h.1, fun j c hj => ?_⟩
   obtain ⟨v, h1, h2, h3, h4⟩ := h.2 j c hj
   have e := hc b (o + j) ⟨rfl, by omega, by have := (List.getElem?_eq_some_iff.1 hj).1; omega⟩
   exact ⟨v, by rw [e.1]; exact h1, by rw [e.2]; exact h2, h3, h4.map hU hw hβ⟩
  | row => exact h.elim
  | rowT => exact h.elim
  | junk => exact h.elim
  | buf => exact h.elim
  | deep => exact h.elim
  | jd => exact h.elim
  | grp => exact h.elim
  | dx => exact h.elim
  | mp kt es => obtain ⟨h1, bs, cl, h2, h3⟩ := h; exact ⟨h1, bs, cl, h2, (hb b rfl rfl).trans h3⟩
  | bx T l =>
   obtain ⟨h1, p, v, h2, h3, h4, h5⟩ := h
   refine ⟨h1, p, v, (hb b rfl rfl).trans h2, h3, h4, ?_⟩
   cases l with
   | none => trivial
   | some q =>
     obtain ⟨v0, ver0, e1, e2, e3⟩ := h5
     rcases hβ.old e1 with e | ⟨x0, y0, x1, y1, e, e4, e5⟩
     . exact ⟨v0, ver0, e, e2, e3⟩
     . cases e; exact ⟨x1, y1, e4, by omega, fun q => by omega⟩
 | deep v ver0 us =>
  cases blk with
  | deep ver e ei c hole xs =>
   obtain ⟨h0, hok, h1, h2, h3, h4, h5⟩ := h
   have hin : ∀ (u : Value), u ∈ us -> ∀ b, u.ownBlock = some b -> w'.heap[b]? = w.heap[b]? := fun u hu b e => hb b (.inr ⟨u, hu, e⟩) rfl
   refine ⟨h0, hok, h1, h2, fun i u x hu hx hn => (h3 i u x hu hx hn).map (hin u (List.mem_of_getElem? hu)), h4, ?_⟩
   rcases h5 with h5 | ⟨g, cap, cur, rfl, hg, k1, k2, k3, k4⟩
   . exact .inl h5
   . refine .inr ⟨g, cap, cur, rfl, (hb g (.inl rfl) rfl).trans hg, k1, k2, k3, fun i j x d hx hd => ?_⟩
     obtain ⟨u, z1, z2, z3, z4, z5⟩ := k4 i j x d hx hd
     refine ⟨u, z1, z2, fun hj => (z3 hj).mono (fun _ hb => hb) (fun _ hb => hb.elim), z4, fun hj k' ver' hh => ?_⟩
     obtain ⟨v1, ver1, e1, e2, e3⟩ := z5 hj k' ver' hh
     rcases hβ.old e1 with e | ⟨x0, y0, x1, y1, e, e4, e5⟩
     . exact ⟨v1, ver1, e, e2, e3⟩
     . cases e; exact ⟨x1, y1, e4, by omega, fun q => by omega⟩
  | jd ver e ei sz ic szi o pz hole ls =>
   obtain ⟨h0, h⟩ := h
   refine ⟨h0, ?_⟩
   cases o with
   | some q => exact Loose.map h fun b e => hb b (.inl e) rfl
   | none =>
     obtain ⟨h1, h2, h2', h3, h4, h5⟩ := h
     have hin : ∀ (u : Value), u ∈ us -> ∀ b, u.ownBlock = some b -> w'.heap[b]? = w.heap[b]? := fun u hu b e => hb b (.inr ⟨u, hu, e⟩) rfl
     refine ⟨h1, h2, h2', fun i u l hu hl hn => (h3 i u l hu hl hn).map (hin u (List.mem_of_getElem? hu)), h4, ?_⟩
     rcases h5 with h5 | ⟨g, cap, cur, rfl, hg, k1, k2, k3, k4⟩ | ⟨gz, vs, g1, g2, g3, g4, g5⟩
     . exact .inl h5
     . refine .inr (.inl ⟨g, cap, cur, rfl, (hb g (.inl rfl) rfl).trans hg, k1, k2, k3, fun i j hi hj => ?_⟩)
       obtain ⟨u, z1, z2, z4, z5⟩ := k4 i j hi hj
       refine ⟨u, z1, z2, z4, fun hj k' ver' hh => ?_⟩
       obtain ⟨v1, ver1, e1, e2, e3⟩ := z5 hj k' ver' hh
       rcases hβ.old e1 with e | ⟨x0, y0, x1, y1, e, e4, e5⟩
       . exact ⟨v1, ver1, e, e2, e3⟩
       . cases e; exact ⟨x1, y1, e4, by omega, fun q => by omega⟩
     . refine .inr (.inr ⟨gz, vs, g1, g2, g3, g4, fun i k' ver' hh => ?_⟩)
       obtain ⟨u, v1, ver1, e0, e1, e2, e3⟩ := g5 i k' ver' hh
       rcases hβ.old e1 with e | ⟨x0, y0, x1, y1, e, e4, e5⟩
       . exact ⟨u, v1, ver1, e0, e, e2, e3⟩
       . cases e; exact ⟨u, x1, y1, e0, e4, by omega, fun q => by omega⟩
  | dx ver e ei c os hole xs =>
   obtain ⟨h0, hok, h1, h2, h3, h4, h5⟩ := h
   have hin : ∀ (u : Value), u ∈ us -> ∀ b, u.ownBlock = some b -> w'.heap[b]? = w.heap[b]? := fun u hu b e => hb b (.inr ⟨u, hu, e⟩) rfl
   refine ⟨h0, hok, h1, h2, fun i u x hu hx hn => (h3 i u x hu hx hn).map (hin u (List.mem_of_getElem? hu)), h4, ?_⟩
   rcases h5 with h5 | ⟨g, cap, cur, rfl, hg, k1, k2, k3, k4⟩
   . exact .inl h5
   . refine .inr ⟨g, cap, cur, rfl, (hb g (.inl rfl) rfl).trans hg, k1, k2, k3, fun i j x d hx hd => ?_⟩
     obtain ⟨u, z1, z2, z3, z4, z5⟩ := k4 i j x d hx hd
     refine ⟨u, z1, z2, fun hj => (z3 hj).mono (fun _ hb => hb) (fun _ hb => hb.elim), z4, fun hj k' ver' hh => ?_⟩
     obtain ⟨v1, ver1, e1, e2, e3⟩ := z5 hj k' ver' hh
     rcases hβ.old e1 with e | ⟨x0, y0, x1, y1, e, e4, e5⟩
     . exact ⟨v1, ver1, e, e2, e3⟩
     . cases e; exact ⟨x1, y1, e4, by omega, fun q => by omega⟩
  | grp ver ei c m o hole L =>
   obtain ⟨h0, h1, h2, h3, vs, h4, h5, h6, h7, h8, h9, h10⟩ := h
   have hin : ∀ (u : Value), u ∈ us -> ∀ b, u.ownBlock = some b -> w'.heap[b]? = w.heap[b]? := fun u hu b e => hb b (.inr ⟨u, hu, e⟩) rfl
   refine ⟨h0, h1, h2, h3, vs, h4, h5, h6, fun i u l hu hl hn => ⟨(h7 i u l hu hl hn).1, (h7 i u l hu hl hn).2.map (hin u (List.mem_of_getElem? hu))⟩, h8, fun i k' ver' hh => ?_, fun i u l hi hu hl => (h10 i u l hi hu hl).mono hU hw⟩
   obtain ⟨u, v1, ver1, e0, e1, e2, e3⟩ := h9 i k' ver' hh
   rcases hβ.old e1 with e | ⟨x0, y0, x1, y1, e, e4, e5⟩
   . exact ⟨u, v1, ver1, e0, e, e2, e3⟩
   . cases e; exact ⟨u, x1, y1, e0, e4, by omega, fun q => by omega⟩
  | _ => exact h.elim
 | row v ver0 =>
  cases blk with
  | cells => exact h.elim
  | mp => exact h.elim
  | bx => exact h.elim
  | deep => exact h.elim
  | jd => exact h.elim
  | grp => exact h.elim
  | dx => exact h.elim
  | buf ver e xs =>
   obtain ⟨h0, h1, h2⟩ := h
   refine ⟨h0, h1, ?_⟩
   rcases h2 with h2 | ⟨g, cap, cur, fz, rfl, q1, q2, q3⟩
   . exact .inl h2
   . exact .inr ⟨g, cap, cur, fz, rfl, q1, (hb g rfl rfl).trans q2, q3⟩
  | junk ver e sz len N =>
   obtain ⟨h0, h1⟩ := h
   refine ⟨h0, ?_⟩
   rcases h1 with h1 | ⟨g, cur, rfl, h2, h3, h4⟩
   . exact .inl h1
   . exact .inr ⟨g, cur, rfl, h2, (hb g rfl rfl).trans h3, h4⟩
  | row ver e sz ap fr rows =>
   obtain ⟨h0, h1, h2⟩ := h
   refine ⟨h0, h1, ?_⟩
   rcases h2 with h2 | ⟨g, cap, cur, fz, rfl, hg, h3, h4, h5, h6, h7, h8⟩
   . exact .inl h2
   . have e' := hb g rfl rfl
     refine .inr ⟨g, cap, cur, fz, rfl, e'.trans hg, h3, h4, h5, h6, fun i hi => by rw [World.frozen?_of_block (w := w) e']; exact h7 i hi, fun i j r d hi hj => ?_⟩
     obtain ⟨u, k1, k2, k3⟩ := h8 i j r d hi hj
     exact ⟨u, k1, k2, k3.mono (fun b hb => ⟨hU b hb.1, hb.2⟩) (fun b hb => hw b hb.1)⟩
  | rowT ver e c ap fr xs =>
   obtain ⟨h0, h1, h2⟩ := h
   refine ⟨h0, h1, ?_⟩
   rcases h2 with h2 | ⟨g, cap, cur, fz, rfl, hg, h3, h4, h5, h6, h7, h8⟩
   . exact .inl h2
   . have e' := hb g rfl rfl
     refine .inr ⟨g, cap, cur, fz, rfl, e'.trans hg, h3, h4, h5, h6, fun i hi => by rw [World.frozen?_of_block (w := w) e']; exact h7 i hi, fun i j r d hi hj => ?_⟩
     obtain ⟨u, k1, k2, k3⟩ := h8 i j r d hi hj
     exact ⟨u, k1, k2, k3.mono (fun b hb => ⟨hU b hb.1, hb.2⟩) (fun b hb => hw b hb.1)⟩

theorem RepB.mapBlock {w' : World} {β' : Nat -> Option Place} {U' : Nat -> Prop} {base : Nat} {p : Place} {blk : Blk} (h : RepB w β U base p blk) (hU : ∀ b, U b -> U' b)
  (hw : ∀ b, U b -> w'.heap[b]? = w.heap[b]?) (hβ : Evo β β') (hb : ∀ b, p.has b -> w'.heap[b]? = w.heap[b]?) : RepB w' β' U' base p blk :=
 h.map hU hw hβ (fun b j hc => ⟨World.cell?_of_block (w := w) (hb b (covers_block hc)), World.frozen?_of_block (w := w) (hb b (covers_block hc))⟩) (fun b h _ => hb b h)

theorem SimB.heapEq (h : SimB w0 U0 X β0 β U s a w) {w' : World} (hh : w'.heap = w.heap) (ho : w'.os = w.os) (ht : w'.tape = w.tape) (hp : w'.output = w.output) : SimB w0 U0 X β0 β U s a w' := by
  have e : ∀ b : Nat, w'.heap[b]? = w.heap[b]? := fun b => by rw [hh]
  exact { n := h.n, small := h.small, args := h.args, ver0 := h.ver0, hist := h.hist, defers := h.defers, env := fun t => (h.env t).map (fun _ hb => hb) (fun b _ => e b) (Evo.refl _), dom := h.dom, inj := h.inj, glob := h.glob.map (fun _ hb => hb) (fun b _ => e b), old := h.old, new := h.new, may := h.may,
                mem := fun k blk hk => by obtain ⟨p, h1, h2⟩ := h.mem k blk hk; exact ⟨p, h1, h2.mapBlock (fun _ hb => hb) (fun b _ => e b) (Evo.refl _) (fun b _ => e b)⟩,
                apart := fun k p b h1 h2 => by rw [hh]; exact h.apart k p b h1 h2,
                stab := fun b hb => by rw [hh]; exact h.stab b hb,
                chg := h.chg.trans ⟨ho, ht, hp, by rw [hh]; exact Nat.le_refl _, fun b _ => .inl (e b)⟩ }

theorem SimB.drew (h : SimB w0 U0 X β0 β U s a w) : SimB w0 U0 X β0 β U s a w.drew := h.heapEq rfl rfl rfl rfl

theorem SimB.noKey (h : SimB w0 U0 X β0 β U s a w) {k : Nat} (hk : s.blk k = none) : β k = none := by
 cases hb : β k with
 | none => rfl
 | some p => have := h.dom k p hb; rw [hk] at this; cases this

theorem SimB.updOld (h : SimB w0 U0 X β0 β U s a w) {k : Nat} (hk : s.blk k = none) (p : Place) : ∀ k' p', β k' = some p' -> upd β k p k' = some p' := by
 intro k' p' hp
 have : k ≠ k' := fun e => by subst e; rw [h.noKey hk] at hp; cases hp
 rw [upd_ne β this]; exact hp

theorem SimB.blockOld (h : SimB w0 U0 X β0 β U s a w) {k : Nat} {p : Place} (hk : β k = some p) : ∀ b, p.has b -> b < w.heap.size := fun b hb => (h.apart k p b hk hb).2

theorem SimB.newKeyG (h : SimB w0 U0 X β0 β U s a w) {k : Nat} (hk0 : k < 1000000 \/ 2000000 <= k) (hk : s.blk k = none) {w' : World} {p : Place} {blk : Blk}
  (hos : w'.os = w.os) (htape : w'.tape = w.tape) (hout : w'.output = w.output) (hsize : w.heap.size <= w'.heap.size)
  (hold : ∀ b, b < w.heap.size -> w'.heap[b]? = w.heap[b]?) (hblock : ∀ b, p.has b -> w.heap.size <= b /\ b < w'.heap.size)
  (hrep : RepB w' (upd β k p) U w0.heap.size p blk) :
  SimB w0 U0 X β0 (upd β k p) U (s.set k blk) a w' /\ (∀ k' p', β k' = some p' -> upd β k p k' = some p') := by
 have hupd := h.updOld hk p
 have hUold : ∀ b, U b -> w'.heap[b]? = w.heap[b]? := fun b hb => hold b (h.stab b hb)
 have hget : ∀ k' p', upd β k p k' = some p' -> (k = k' /\ p' = p) \/ (k ≠ k' /\ β k' = some p') := by
  intro k' p' hp
  by_cases e : k = k'
  . subst e; rw [upd_self] at hp; exact .inl ⟨rfl, by simpa using hp.symm⟩
  . rw [upd_ne β e] at hp; exact .inr ⟨e, hp⟩
 refine ⟨?_, hupd⟩
 exact {
  n := h.n, small := h.small, args := h.args, ver0 := h.ver0, defers := h.defers, glob := h.glob.map (fun _ hb => hb) hUold
  hist := fun k' p' hp hb => by
    have e : k ≠ k' := fun e => by subst e; rw [h.args k hk0] at hp; cases hp
    rw [St.blk_set, if_neg e] at hb
    rw [upd_ne β e]
    exact h.hist k' p' hp hb
  env := fun t => (h.env t).map (fun _ hb => hb) hUold (Evo.sub hupd)
  mem := fun k' blk' hk' => by
    rw [St.blk_set] at hk'
    by_cases e : k = k'
    . subst e
      rw [if_pos rfl] at hk'
      obtain rfl : blk = blk' := by simpa using hk'
      exact ⟨p, upd_self _ _ _, hrep⟩
    . rw [if_neg e] at hk'
      obtain ⟨p', hp1, hp2⟩ := h.mem k' blk' hk'
      exact ⟨p', hupd _ _ hp1, hp2.mapBlock (fun _ hb => hb) hUold (Evo.sub hupd) (fun b hb => hold b (h.blockOld hp1 b hb))⟩
  dom := fun k' p' hp => by
    rw [St.blk_set]
    rcases hget k' p' hp with ⟨e, _⟩ | ⟨e, hp'⟩
    . rw [if_pos e]; rfl
    . rw [if_neg e]; exact h.dom k' p' hp'
  apart := fun k' p' b hp hb => by
    rcases hget k' p' hp with ⟨e, rfl⟩ | ⟨e, hp'⟩
    . obtain ⟨q1, q2⟩ := hblock b hb
      exact ⟨fun hu => by have := h.stab _ hu; omega, q2⟩
    . obtain ⟨h1, h2⟩ := h.apart k' p' b hp' hb
      exact ⟨h1, by omega⟩
  inj := fun k1 k2 p1 p2 b1 b2 b j hne hp1 hp2 hb1 hb2 hc1 hc2 => by
    rcases hget k1 p1 hp1 with ⟨e1, rfl⟩ | ⟨e1, hp1'⟩ <;> rcases hget k2 p2 hp2 with ⟨e2, rfl⟩ | ⟨e2, hp2'⟩
    . exact hne (e1.symm.trans e2)
    . have := hblock b (covers_block hc1)
      have := h.blockOld hp2' b (covers_block hc2)
      omega
    . have := hblock b (covers_block hc2)
      have := h.blockOld hp1' b (covers_block hc1)
      omega
    . rw [St.blk_set, if_neg e1] at hb1; rw [St.blk_set, if_neg e2] at hb2
      exact h.inj k1 k2 p1 p2 b1 b2 b j hne hp1' hp2' hb1 hb2 hc1 hc2
  stab := fun b hb => by have := h.stab b hb; omega
  old := h.old, new := h.new
  chg := h.chg.trans ⟨hos, htape, hout, hsize, fun b hb => .inl (hold b (Nat.lt_of_lt_of_le hb h.baseLe))⟩
  may := fun k' p' blk' b j hp hb hc hlt => by
    rcases hget k' p' hp with ⟨e, rfl⟩ | ⟨e, hp'⟩
    . have := hblock b (covers_block hc)
      have := h.baseLe
      omega
    . rw [St.blk_set, if_neg e] at hb
      exact h.may k' p' blk' b j hp' hb hc hlt }

theorem SimB.newKey (h : SimB w0 U0 X β0 β U s a w) {k : Nat} (hk0 : k < 1000000) (hk : s.blk k = none) {w' : World} {p : Place} {blk : Blk}
  (hos : w'.os = w.os) (htape : w'.tape = w.tape) (hout : w'.output = w.output) (hsize : w.heap.size <= w'.heap.size)
  (hold : ∀ b, b < w.heap.size -> w'.heap[b]? = w.heap[b]?) (hblock : ∀ b, p.has b -> w.heap.size <= b /\ b < w'.heap.size)
  (hrep : RepB w' (upd β k p) U w0.heap.size p blk) :
  SimB w0 U0 X β0 (upd β k p) U (s.set k blk) a w' /\ (∀ k' p', β k' = some p' -> upd β k p k' = some p') :=
 h.newKeyG (.inl hk0) hk hos htape hout hsize hold hblock hrep

theorem SimB.allocData (h : SimB w0 U0 X β0 β U s a w) (cur : Array Value) (e : TypeId) : SimB w0 U0 X β0 β (fun b => U b \/ b = w.heap.size) s a (w.alloc (.cells cur e (0, 0))) := by
 have hold : ∀ b, b < w.heap.size -> (w.alloc (.cells cur e (0, 0))).heap[b]? = w.heap[b]? := fun b hb => Below.heap_alloc _ _ _ hb
 have hUold : ∀ b, U b -> (w.alloc (.cells cur e (0, 0))).heap[b]? = w.heap[b]? := fun b hb => hold b (h.stab b hb)
 have hsz : (w.alloc (.cells cur e (0, 0))).heap.size = w.heap.size + 1 := size_alloc w _
 have hbl := h.baseLe
 exact {
  n := h.n, small := h.small, args := h.args, ver0 := h.ver0, defers := h.defers, glob := h.glob.map (fun _ hb => .inl hb) hUold
  hist := h.hist
  env := fun t => (h.env t).map (fun _ hb => .inl hb) hUold (Evo.refl _)
  mem := fun k' blk' hk' => by
   obtain ⟨p', hp1, hp2⟩ := h.mem k' blk' hk'
   exact ⟨p', hp1, hp2.mapBlock (fun _ hb => .inl hb) hUold (Evo.refl _) (fun b hb => hold b (h.blockOld hp1 b hb))⟩
  dom := h.dom
  apart := fun k' p' b hp hb => by
   obtain ⟨h1, h2⟩ := h.apart k' p' b hp hb
   refine ⟨fun hu => ?_, by omega⟩
   rcases hu with hu | hu
   . exact h1 hu
   . omega
  inj := h.inj
  stab := fun b hb => by
   rcases hb with hb | hb
   . have := h.stab b hb; omega
   . omega
  old := fun b hb => .inl (h.old b hb)
  new := fun b hb hu => by
   rcases hu with hu | hu
   . exact h.new b hb hu
   . omega
  chg := h.chg.trans ⟨rfl, rfl, rfl, by omega, fun b hb => .inl (hold b (Nat.lt_of_lt_of_le hb h.baseLe))⟩
  may := h.may }

theorem SimB.allocCells (h : SimB w0 U0 X β0 β U s a w) {k : Nat} (hk0 : k < 1000000) (hk : s.blk k = none) (T : TypeId) (vs : List Value) (cs : List C) (hl : vs.length = cs.length) (hne : 0 < cs.length)
   (hrep : ∀ (j : Nat) (u : Value) (c : C), vs[j]? = some u -> cs[j]? = some c -> RepC w β U w0.heap.size u c) (h1 : ∀ u ∈ vs, u.oneCell' = true) :
   SimB w0 U0 X β0 (upd β k (.cells w.heap.size 0)) U (s.set k (.cells cs)) a (w.alloc (.cells vs.toArray T)) /\ ∀ k' p', β k' = some p' -> upd β k (.cells w.heap.size 0) k' = some p' := by
 have hold : ∀ b, b < w.heap.size -> (w.alloc (.cells vs.toArray T)).heap[b]? = w.heap[b]? := fun b hb => Below.heap_alloc _ _ _ hb
 have hUold : ∀ b, U b -> (w.alloc (.cells vs.toArray T)).heap[b]? = w.heap[b]? := fun b hb => hold b (h.stab b hb)
 have hnewb : (w.alloc (.cells vs.toArray T)).heap[w.heap.size]? = some (.cells vs.toArray T (0, 0)) := heap_alloc_new w _
 refine h.newKey hk0 hk rfl rfl rfl (by rw [size_alloc]; omega) hold (fun b hb => ?_) ⟨hne, fun j c hj => ?_⟩
 . obtain rfl : w.heap.size = b := by simpa [Place.has] using hb
   rw [size_alloc]; omega
 . have hj' : j < vs.length := by rw [hl]; exact (List.getElem?_eq_some_iff.1 hj).1
   refine ⟨vs[j], ?_, ?_, h1 _ (List.getElem_mem hj'), ((hrep j _ c (List.getElem?_eq_getElem hj') hj).map (fun _ hb => hb) hUold (Evo.sub (h.updOld hk _)))⟩
   . simp only [World.cell?, hnewb, Nat.zero_add]; simp [hj']
   . simp only [World.frozen?, hnewb]; simp

theorem SimB.replE (h : SimB w0 U0 X β0 β U s a w) {k : Nat} {p : Place} {blk : Blk} (hk : β k = some p) (hb : s.blk k = some blk) {w' : World} {p' : Place} {blk' : Blk}
  (hos : w'.os = w.os) (htape : w'.tape = w.tape) (hout : w'.output = w.output) (hsize : w.heap.size <= w'.heap.size)
  (hother : ∀ b, b < w.heap.size -> ¬ p.has b -> w'.heap[b]? = w.heap[b]?)
  (hcell : ∀ b j, b < w.heap.size -> ¬ p.covers blk b j -> w'.cell? ⟨b, j, none⟩ = w.cell? ⟨b, j, none⟩ /\ w'.frozen? ⟨b, j, none⟩ = w.frozen? ⟨b, j, none⟩)
  (hshape : ∀ b, b < w.heap.size -> p.has b -> w'.heap[b]? = w.heap[b]? \/ (∃ c c' e f, w.heap[b]? = some (.cells c e f) /\ w'.heap[b]? = some (.cells c' e f) /\ c.size = c'.size /\ ∀ j, ¬ p.covers blk b j -> c'[j]? = c[j]?) \/ ∀ j, p.covers blk b j)
  (hp' : p' = p \/ (∃ v0 ver0 v1 ver1, p = .row v0 ver0 /\ p' = .row v1 ver1 /\ ver0 < ver1) \/ ∃ v0 ver0 us0 v1 ver1 us1, p = .deep v0 ver0 us0 /\ p' = .deep v1 ver1 us1 /\ ver0 <= ver1 /\ (ver0 = ver1 -> v0 = v1))
  (hblock : ∀ b, p'.has b -> p.has b \/ (w.heap.size <= b /\ b < w'.heap.size))
  (hcov : ∀ b j, p'.covers blk' b j -> p.covers blk b j \/ w.heap.size <= b)
  (hrep : RepB w' (upd β k p') U w0.heap.size p' blk') :
  SimB w0 U0 X β0 (upd β k p') U (s.set k blk') a w' := by
 have hevo : Evo β (upd β k p') := by
  intro k1 p1 h1
  by_cases e : k = k1
  . subst e
    rw [hk] at h1; cases h1
    rcases hp' with rfl | ⟨v0, ver0, v1, ver1, rfl, rfl, hlt⟩ | ⟨v0, ver0, us0, v1, ver1, us1, rfl, rfl, hlt, he⟩
    . exact .inl (upd_self _ _ _)
    . exact .inr (.inl ⟨v0, ver0, v1, ver1, rfl, upd_self _ _ _, hlt⟩)
    . exact .inr (.inr ⟨v0, ver0, us0, v1, ver1, us1, rfl, upd_self _ _ _, hlt, he⟩)
  . exact .inl (by rw [upd_ne β e]; exact h1)
 have hU : ∀ b, U b -> w'.heap[b]? = w.heap[b]? := fun b hb => hother b (h.stab b hb) (fun e => (h.apart k p b hk e).1 hb)
 have hget : ∀ k1 p1, upd β k p' k1 = some p1 -> (k = k1 /\ p1 = p') \/ (k ≠ k1 /\ β k1 = some p1) := by
  intro k1 p1 h1
  by_cases e : k = k1
  . subst e; rw [upd_self] at h1; exact .inl ⟨rfl, by simpa using h1.symm⟩
  . rw [upd_ne β e] at h1; exact .inr ⟨e, h1⟩
 have hmem : ∀ k1 b1, (s.set k blk').blk k1 = some b1 -> ∃ p1, upd β k p' k1 = some p1 /\ RepB w' (upd β k p') U w0.heap.size p1 b1 := by
  intro k1 b1 h1
  rw [St.blk_set] at h1
  by_cases e : k = k1
  . subst e
    rw [if_pos rfl] at h1
    obtain rfl : blk' = b1 := by simpa using h1
    exact ⟨p', upd_self _ _ _, hrep⟩
  . rw [if_neg e] at h1
    obtain ⟨p1, hp1, hr1⟩ := h.mem k1 b1 h1
    refine ⟨p1, by rw [upd_ne β e]; exact hp1, hr1.map (fun _ hb => hb) hU hevo (fun b j hc => ?_) (fun b hb1 hwh => ?_)⟩
    . exact hcell b j (h.blockOld hp1 b (covers_block hc)) (fun hc2 => h.inj k k1 p p1 blk b1 b j e hk hp1 hb h1 hc2 hc)
    . refine hother b (h.blockOld hp1 b hb1) (fun e2 => ?_)
      have c1 : ∀ j, p1.covers b1 b j := by
        intro j
        cases p1 with
        | row v ver => cases b1 <;> exact hb1
        | deep v ver us => cases b1 <;> exact hb1
        | cells b0 o =>
          cases b1 with
          | cells => cases hwh
          | row => exact hr1.elim
          | rowT => exact hr1.elim
          | junk => exact hr1.elim
          | deep => exact hr1.elim
          | jd => exact hr1.elim
          | grp => exact hr1.elim
          | dx => exact hr1.elim
          | buf => exact hr1.elim
          | mp => exact (Option.some.inj hb1).symm
          | bx => exact (Option.some.inj hb1).symm
      have c2 : ∃ j, p.covers blk b j := by
        obtain ⟨pp, hpp, hrr⟩ := h.mem k blk hb
        rw [hk] at hpp; cases hpp
        cases p with
        | row v2 ver2 => exact ⟨0, by cases blk <;> exact e2⟩
        | deep v2 ver2 us2 => exact ⟨0, by cases blk <;> exact e2⟩
        | cells b2 o2 =>
          cases blk with
          | cells cs => exact ⟨o2, (Option.some.inj e2).symm, Nat.le_refl _, by have := hrr.1; omega⟩
          | mp => exact ⟨0, (Option.some.inj e2).symm⟩
          | bx => exact ⟨0, (Option.some.inj e2).symm⟩
          | row => exact hrr.elim
          | rowT => exact hrr.elim
          | junk => exact hrr.elim
          | deep => exact hrr.elim
          | jd => exact hrr.elim
          | grp => exact hrr.elim
          | dx => exact hrr.elim
          | buf => exact hrr.elim
      obtain ⟨j, c2⟩ := c2
      exact h.inj k k1 p p1 blk b1 b j e hk hp1 hb h1 c2 (c1 j)
 exact {
  n := h.n, small := h.small, args := h.args, ver0 := h.ver0, defers := h.defers, glob := h.glob.map (fun _ hb => hb) hU, env := fun t => (h.env t).map (fun _ hb => hb) hU hevo, mem := hmem,
  hist := fun k1 p1 h1 hb1 => by
    rw [St.blk_set] at hb1
    by_cases e : k = k1
    . subst e
      rcases h.hist k p1 h1 (by rw [hb]; rfl) with q | ⟨v0, ver0, v1, ver1, e1, e2, e3⟩ | ⟨v0, ver0, us0, v1, ver1, us1, e1, e2, e3, e3'⟩
      . rw [hk] at q; cases q
        rcases hp' with rfl | ⟨v0, ver0, v1, ver1, rfl, rfl, hlt⟩ | ⟨v0, ver0, us0, v1, ver1, us1, rfl, rfl, hlt, he⟩
        . exact .inl (upd_self _ _ _)
        . exact .inr (.inl ⟨v0, ver0, v1, ver1, rfl, upd_self _ _ _, hlt⟩)
        . exact .inr (.inr ⟨v0, ver0, us0, v1, ver1, us1, rfl, upd_self _ _ _, hlt, he⟩)
      . rw [hk] at e2; cases e2
        rcases hp' with rfl | ⟨v0', ver0', v1', ver1', e4, rfl, hlt⟩ | ⟨v0', ver0', us0', v1', ver1', us1', e4, rfl, hlt, he⟩
        . exact .inr (.inl ⟨v0, ver0, _, _, e1, upd_self _ _ _, e3⟩)
        . cases e4; exact .inr (.inl ⟨v0, ver0, _, _, e1, upd_self _ _ _, by omega⟩)
        . cases e4
      . rw [hk] at e2; cases e2
        rcases hp' with rfl | ⟨v0', ver0', v1', ver1', e4, rfl, hlt⟩ | ⟨v0', ver0', us0', v1', ver1', us1', e4, rfl, hlt, he⟩
        . exact .inr (.inr ⟨v0, ver0, us0, _, _, _, e1, upd_self _ _ _, e3, e3'⟩)
        . cases e4
        . cases e4; exact .inr (.inr ⟨v0, ver0, us0, _, _, _, e1, upd_self _ _ _, by omega, fun q => (e3' (by omega)).trans (he (by omega))⟩)
    . rw [if_neg e] at hb1
      rw [upd_ne β e]
      exact h.hist k1 p1 h1 hb1
  dom := fun k1 p1 h1 => by
    rw [St.blk_set]
    rcases hget k1 p1 h1 with ⟨e, _⟩ | ⟨e, h2⟩
    . rw [if_pos e]; rfl
    . rw [if_neg e]; exact h.dom k1 p1 h2
  apart := fun k1 p1 b h1 hb1 => by
    rcases hget k1 p1 h1 with ⟨e, rfl⟩ | ⟨e, h2⟩
    . rcases hblock b hb1 with h3 | ⟨h3, h4⟩
      . obtain ⟨q1, q2⟩ := h.apart k p b hk h3; exact ⟨q1, by omega⟩
      . exact ⟨fun hu => by have := h.stab b hu; omega, h4⟩
    . obtain ⟨q1, q2⟩ := h.apart k1 p1 b h2 hb1; exact ⟨q1, by omega⟩
  inj := fun k1 k2 p1 p2 b1 b2 b j hne hp1 hp2 hb1 hb2 hc1 hc2 => by
    rcases hget k1 p1 hp1 with ⟨e1, rfl⟩ | ⟨e1, hp1'⟩ <;> rcases hget k2 p2 hp2 with ⟨e2, rfl⟩ | ⟨e2, hp2'⟩
    . exact hne (e1.symm.trans e2)
    . subst e1
      rw [St.blk_set, if_pos rfl] at hb1; rw [St.blk_set, if_neg e2] at hb2
      obtain rfl : blk' = b1 := by simpa using hb1
      rcases hcov b j hc1 with h3 | h3
      . exact h.inj k k2 p p2 blk b2 b j hne hk hp2' hb hb2 h3 hc2
      . have := h.blockOld hp2' b (covers_block hc2); omega
    . subst e2
      rw [St.blk_set, if_neg e1] at hb1; rw [St.blk_set, if_pos rfl] at hb2
      obtain rfl : blk' = b2 := by simpa using hb2
      rcases hcov b j hc2 with h3 | h3
      . exact h.inj k1 k p1 p b1 blk b j hne hp1' hk hb1 hb hc1 h3
      . have := h.blockOld hp1' b (covers_block hc1); omega
    . rw [St.blk_set, if_neg e1] at hb1; rw [St.blk_set, if_neg e2] at hb2
      exact h.inj k1 k2 p1 p2 b1 b2 b j hne hp1' hp2' hb1 hb2 hc1 hc2
  stab := fun b hb1 => by have := h.stab b hb1; omega
  old := h.old, new := h.new
  chg := by
    refine h.chg.trans ⟨hos, htape, hout, hsize, fun b hb1 => ?_⟩
    have hb2 : b < w.heap.size := Nat.lt_of_lt_of_le hb1 h.baseLe
    by_cases e : p.has b
    . rcases hshape b hb2 e with q | ⟨c, c', e1, f, q1, q2, q3, q4⟩ | q
      . exact .inl q
      . exact .inr (.inl ⟨c, c', e1, f, q1, q2, q3, fun j hj => q4 j (fun hc => hj (h.may k p blk b j hk hb hc hb1))⟩)
      . exact .inr (.inr fun j => h.may k p blk b j hk hb (q j) hb1)
    . exact .inl (hother b hb2 e)
  may := fun k1 p1 b1 b j hp1 hb1 hc hlt => by
    rcases hget k1 p1 hp1 with ⟨e1, rfl⟩ | ⟨e1, hp1'⟩
    . subst e1
      rw [St.blk_set, if_pos rfl] at hb1
      obtain rfl : blk' = b1 := by simpa using hb1
      rcases hcov b j hc with h3 | h3
      . exact h.may k p blk b j hk hb h3 hlt
      . have := h.baseLe; omega
    . rw [St.blk_set, if_neg e1] at hb1
      exact h.may k1 p1 b1 b j hp1' hb1 hc hlt }
theorem SimB.repl (h : SimB w0 U0 X β0 β U s a w) {k : Nat} {p : Place} {blk : Blk} (hk : β k = some p) (hb : s.blk k = some blk) {w' : World} {p' : Place} {blk' : Blk}
  (hos : w'.os = w.os) (htape : w'.tape = w.tape) (hout : w'.output = w.output) (hsize : w.heap.size <= w'.heap.size)
  (hother : ∀ b, b < w.heap.size -> ¬ p.has b -> w'.heap[b]? = w.heap[b]?)
  (hcell : ∀ b j, b < w.heap.size -> ¬ p.covers blk b j -> w'.cell? ⟨b, j, none⟩ = w.cell? ⟨b, j, none⟩ /\ w'.frozen? ⟨b, j, none⟩ = w.frozen? ⟨b, j, none⟩)
  (hshape : ∀ b, b < w.heap.size -> p.has b -> w'.heap[b]? = w.heap[b]? \/ (∃ c c' e f, w.heap[b]? = some (.cells c e f) /\ w'.heap[b]? = some (.cells c' e f) /\ c.size = c'.size /\ ∀ j, ¬ p.covers blk b j -> c'[j]? = c[j]?) \/ ∀ j, p.covers blk b j)
  (hp' : p' = p \/ ∃ v0 ver0 v1 ver1, p = .row v0 ver0 /\ p' = .row v1 ver1 /\ ver0 < ver1)
  (hblock : ∀ b, p'.has b -> p.has b \/ (w.heap.size <= b /\ b < w'.heap.size))
  (hcov : ∀ b j, p'.covers blk' b j -> p.covers blk b j \/ w.heap.size <= b)
  (hrep : RepB w' (upd β k p') U w0.heap.size p' blk') :
  SimB w0 U0 X β0 (upd β k p') U (s.set k blk') a w' :=
 h.replE hk hb hos htape hout hsize hother hcell hshape (hp'.elim .inl fun e => .inr (.inl e)) hblock hcov hrep
end
end Go.Proofs.Ythnijeclidpooaa.Abs
namespace Go.Proofs.Ythnijeclidpooaa.Abs
open Go Go.RowKit

abbrev vd (x : D) : V := .one (.d x)
abbrev vi (k : IntKind) (n : Int) : V := .one (.d (.i k n))
abbrev vb (x : Bool) : V := .one (.d (.b x))
abbrev vs (l : List UInt8) : V := .one (.d (.s l))

def cv1 : Value -> C
 | .int k n => .d (.i k n)
 | .bool x => .d (.b x)
 | .string s => .d (.s s.data.toList)
 | .slice none 0 0 => .nil
 | v => if v.oneCell' then .d (.z v) else .bad
def cv : Value -> V
 | .agg cs => if cs.all (·.oneCell') then .agg (cs.toList.map cv1) else .one .bad
 | v => .one (cv1 v)

def St.eval (s : St) : Operand -> V
 | .tmp t => s.get t
 | .const v => cv v
 | .global _ => .one .bad
 | .func f => .one (.clo f [])

def mkgd (t : Bool) (x : V) : V := if t then x else .one .un
def pickV (t : Bool) (x y : V) : V := if t then x else y
def yl (v : V) (want : Bool) : Option Bool :=
 match v with
 | .one (.d (.b x)) => some (x == want)
 | .one .un => some false
 | _ => none
theorem yl_b (x want : Bool) : yl (vb x) want = some (x == want) := rfl
def binI (op : BinOp) (k : IntKind) (x : Int) (k' : IntKind) (y : Int) : Option D :=
 match op with
 | .shl => if 0 <= y then some (.i k (k.wrap (x * 2 ^ min y.toNat k.bits))) else none
 | .shr => if 0 <= y then some (.i k (x.fdiv (2 ^ min y.toNat k.bits))) else none
 | op => if k = k' then match op with
  | .add => some (.i k (k.wrap (x + y)))
  | .sub => some (.i k (k.wrap (x - y)))
  | .mul => some (.i k (k.wrap (x * y)))
  | .quo => if y ≠ 0 then some (.i k (k.wrap (x.tdiv y))) else none
  | .rem => if y ≠ 0 then some (.i k (x.tmod y)) else none
  | .and => some (.i k (bits .and k x y))
  | .or => some (.i k (bits .or k x y))
  | .xor => some (.i k (bits .xor k x y))
  | .andNot => some (.i k (bits .andNot k x y))
  | .eql => some (.b (decide (x = y)))
  | .neq => some (.b (!decide (x = y)))
  | .lss => some (.b (decide (x < y)))
  | .leq => some (.b (decide (x <= y)))
  | .gtr => some (.b (decide (y < x)))
  | .geq => some (.b (decide (y <= x)))
  | _ => none
  else none

def binS (op : BinOp) (x y : List UInt8) : Option D :=
 match op with
 | .add => if x.length + y.length <= 9223372036854775807 then some (.s (x ++ y)) else none
 | .eql => some (.b (decide (x = y)))
 | .neq => some (.b (!decide (x = y)))
 | _ => none

def binB (op : BinOp) (x y : Bool) : Option D :=
 match op with
 | .eql => some (.b (x == y))
 | .neq => some (.b (!(x == y)))
 | _ => none

def unA (op : UnOp) (x : V) : Option V :=
 match op, x with
 | .neg, .one (.d (.i k n)) => some (vi k (k.wrap (0 - n)))
 | .xor, .one (.d (.i k n)) => some (vi k (bits .xor k (if k.signed then -1 else k.max) n))
 | .not, .one (.d (.b x)) => some (vb (!x))
 | _, _ => none

def tsz (P : Program) (t : TypeId) : Nat := P.cellsOf t
def tagg (P : Program) (t : TypeId) : Bool := match P.underlying t with | some (.struct _) | some (.array _ _) => true | _ => false
def eqA (P : Program) : Nat -> TypeId -> List C -> List C -> Option Bool
 | 0, _, _, _ => none
 | d + 1, t, xs, ys =>
  match P.underlying t with
  | some .bool => match xs, ys with | [.d (.b x)], [.d (.b y)] => some (x == y) | _, _ => none
  | some (.int _) => match xs, ys with | [.d (.i k x)], [.d (.i k' y)] => if k = k' then some (decide (x = y)) else none | _, _ => none
  | some .string => match xs, ys with | [.d (.s x)], [.d (.s y)] => some (decide (x = y)) | _, _ => none
  | some (.struct fs) => if P.stoodInHeld t then none else
   fs.toList.foldr (fun f r => if f.name = "_" then none else match eqA P d f.type ((xs.drop f.offset).take (P.cellsOf f.type)) ((ys.drop f.offset).take (P.cellsOf f.type)), r with
    | some p, some q => some (p && q)
    | _, _ => none) (some true)
  | some (.array n e) => if (P.info? e).isNone then none else
   (List.range n).foldr (fun i r => match eqA P d e ((xs.drop (i * P.cellsOf e)).take (P.cellsOf e)) ((ys.drop (i * P.cellsOf e)).take (P.cellsOf e)), r with
    | some p, some q => some (p && q)
    | _, _ => none) (some true)
  | _ => none

def eqV (P : Program) (t : TypeId) (xs ys : List C) : Option Bool :=
 if P.eqGuardType P.depth t then none else if tagg P t then eqA P 12 t xs ys else none

def binA (P : Program) (op : BinOp) (t : TypeId) (x y : V) : Option V :=
 match x, y with
 | .one (.d (.i k a)), .one (.d (.i k' b)) => (binI op k a k' b).map vd
 | .one (.d (.s a)), .one (.d (.s b)) => (binS op a b).map vd
 | .one (.d (.b a)), .one (.d (.b b)) => match P.underlying t with | some .bool => (binB op a b).map vd | _ => none
 | .agg xs, .agg ys => match op with
  | .eql => (eqV P t xs ys).map vb
  | .neq => (eqV P t xs ys).map fun r => vb (!r)
  | _ => none
 | _, _ => none

def partC (P : Program) (t : TypeId) (cs : List C) (off : Nat) : Option V :=
 if (P.underlying t).isNone then none else
 if tagg P t then (if off + tsz P t <= cs.length then some (.agg ((cs.drop off).take (tsz P t))) else none)
 else (cs[off]?).map V.one
def tfield (P : Program) (t : TypeId) (f : Nat) : Option (Nat × TypeId) :=
 match P.underlying t with
 | some (.struct fs) => (fs[f]?).map fun x => (x.offset, x.type)
 | _ => none
def telem (P : Program) (t : TypeId) : Option TypeId :=
 match P.underlying t with
 | some (.slice e) => some e
 | _ => none
def V.cells : V -> Option (List C)
 | .one c => match c with | .bad | .un => none | c => some [c]
 | .agg cs => some cs
 | .tup _ => none

def spliceC {α : Type} (cells : List α) (off : Nat) (xs : List α) : List α := cells.take off ++ xs ++ cells.drop (off + xs.length)

def fillA (place : Nat -> Option (Nat × Nat)) (cells : List C) : List (Nat × V) -> Option (List C)
 | [] => some cells
 | (i, v) :: rest => match place i, v.cells with
  | some (off, size), some xs => if xs.length ≠ size \/ cells.length < off + xs.length then none else fillA place (spliceC cells off xs) rest
  | _, _ => none

def tzero (P : Program) (t : TypeId) : Option (List C) :=
 match P.info? t with
 | some i => match i.zero with
  | some z => if z.cells.all (·.oneCell') && z.cells.size == i.size then some (z.cells.toList.map cv1) else none
  | none => none
 | none => none

def buildA (P : Program) (t : TypeId) (parts : List (Nat × V)) : Option V :=
 match tzero P t with
 | none => none
 | some zero => match P.underlying t with
  | some (.struct fs) => if fs.all (fun f => (P.info? f.type).isSome) then (fillA (fun i => (fs[i]?).map fun f => (f.offset, P.cellsOf f.type)) zero parts).map V.agg else none
  | some (.array _ e) => if (P.info? e).isSome then (fillA (fun i => some (i * P.cellsOf e, P.cellsOf e)) zero parts).map V.agg else none
  | _ => none

def convA (P : Program) (src dst : TypeId) (x : V) : Option V :=
 match P.underlying src, P.underlying dst, x with
 | some _, some (.int k), .one (.d (.i _ n)) => some (vi k (k.wrap n))
 | some _, some .string, .one (.d (.s l)) => some (vs l)
 | _, _, _ => none

def optI (d : Int) : Option V -> Option Int
 | none => some d
 | some (.one (.d (.i _ n))) => some n
 | _ => none

def sliceA (P : Program) (t : TypeId) (x : V) (lo hi : Option V) : Option V :=
 match P.underlying t, x with
 | some .string, .one (.d (.s l)) => match optI 0 lo, optI l.length hi with
  | some a, some b => if 0 <= a /\ a <= b /\ b <= l.length then some (vs ((l.take b.toNat).drop a.toNat)) else none
  | _, _ => none
 | some (.slice e), .one (.d (.sl sz rows)) => match optI 0 lo, optI rows.length hi with
  | some a, some b => if 0 <= a /\ a <= b /\ b <= rows.length /\ sz = P.cellsOf e /\ (P.info? e).isSome then some (.one (.d (.sl sz ((rows.take b.toNat).drop a.toNat)))) else none
  | _, _ => none
 | some (.slice e), .one (.f (.sl sz rows)) => match optI 0 lo, optI rows.length hi with
  | some a, some b => if 0 <= a /\ a <= b /\ b <= rows.length /\ sz = P.cellsOf e /\ (P.info? e).isSome then some (.one (.f (.sl sz ((rows.take b.toNat).drop a.toNat)))) else none
  | _, _ => none
 | some (.slice e), .one (.own k ver len) => match optI 0 lo, optI len hi with
  | some a, some b => if 0 <= a /\ a <= b /\ b <= len /\ (P.info? e).isSome then some (.one (.sub k ver (P.cellsOf e) a.toNat (b - a).toNat)) else none
  | _, _ => none
 | some (.slice e), .one (.sub k ver sz off len) => match optI 0 lo, optI len hi with
  | some a, some b => if 0 <= a /\ a <= b /\ b <= len /\ sz = P.cellsOf e /\ (P.info? e).isSome then some (.one (.sub k ver sz (off + a.toNat) (b - a).toNat)) else none
  | _, _ => none
 | some (.slice e), .one .nil => match optI 0 lo, optI 0 hi with
  | some a, some b => if a = 0 /\ b = 0 /\ (P.info? e).isSome then some (.one .nil) else none
  | _, _ => none
 | some (.slice e), .one (.d (.st c xs)) => match optI 0 lo, optI xs.length hi with
  | some a, some b => if 0 <= a /\ a <= b /\ b <= xs.length /\ esz c = P.cellsOf e /\ (P.info? e).isSome then some (.one (.d (.st c ((xs.take b.toNat).drop a.toNat)))) else none
  | _, _ => none
 | some (.slice e), .one (.f (.st c xs)) => match optI 0 lo, optI xs.length hi with
  | some a, some b => if 0 <= a /\ a <= b /\ b <= xs.length /\ esz c = P.cellsOf e /\ (P.info? e).isSome then some (.one (.f (.st c ((xs.take b.toNat).drop a.toNat)))) else none
  | _, _ => none
 | _, _ => none

def fieldAddrA (P : Program) (t : TypeId) (x : V) (f : Nat) : Option V :=
 match tfield P t f with
 | none => none
 | some (o, u) => if tsz P u = 0 \/ (P.info? u).isNone then none else match x with
  | .one (.ptr k off) => some (.one (.ptr k (off + o)))
  | .one (.pr k ver sz i off) => some (.one (.pr k ver sz i (off + o)))
  | .one (.pv cells) => some (.one (.pv (cells.drop o)))
  | .one (.dpr k ver sz i off) => some (.one (.dpr k ver sz i (off + o)))
  | _ => none

def indexAddrA (P : Program) (t : TypeId) (x i : V) : Option V :=
 match i with
 | .one (.d (.i _ n)) => if 0 <= n then match P.underlying t, x with
  | some (.array len e), .one (.ptr k off) => if n < len /\ (P.info? e).isSome then some (.one (.ptr k (off + n.toNat * P.cellsOf e))) else none
  | some (.array len e), .one (.pr k ver sz i off) => if n < len /\ (P.info? e).isSome then some (.one (.pr k ver sz i (off + n.toNat * P.cellsOf e))) else none
  | some (.array len e), .one (.pv cells) => if n < len /\ (P.info? e).isSome then some (.one (.pv (cells.drop (n.toNat * P.cellsOf e)))) else none
  | some (.slice e), .one (.d (.sl sz rows)) => if sz = P.cellsOf e /\ (P.info? e).isSome then (rows[n.toNat]?).map fun r => .one (.pv r) else none
  | some (.slice e), .one (.f (.sl sz rows)) => if sz = P.cellsOf e /\ (P.info? e).isSome then (rows[n.toNat]?).map fun r => .one (.pv r) else none
  | some (.slice e), .one (.own k ver len) => if n < len /\ (P.info? e).isSome then some (.one (.pr k ver (P.cellsOf e) n.toNat 0)) else none
  | some (.slice e), .one (.sub k ver sz off len) => if n < len /\ sz = P.cellsOf e /\ (P.info? e).isSome then some (.one (.pr k ver sz (off + n.toNat) 0)) else none
  | some (.slice e), .one (.dp k ver len room) => if n < len /\ (P.info? e).isSome then some (.one (.dpr k ver (P.cellsOf e) n.toNat 0)) else none
  | some (.slice e), .one (.d (.st c xs)) => if esz c = P.cellsOf e /\ (P.info? e).isSome then (xs[n.toNat]?).map fun t => .one (.pv (enc c t)) else none
  | some (.slice e), .one (.f (.st c xs)) => if esz c = P.cellsOf e /\ (P.info? e).isSome then (xs[n.toNat]?).map fun t => .one (.pv (enc c t)) else none
  | _, _ => none
  else none
 | _ => none

def indexA (P : Program) (t : TypeId) (x i : V) : Option V :=
 match i with
 | .one (.d (.i _ n)) => if 0 <= n then match P.underlying t, x with
  | some .string, .one (.d (.s l)) => (l[n.toNat]?).map fun b => vi .u8 b.toNat
  | some (.array len e), .agg cs => if n < len /\ (P.info? e).isSome then partC P e cs (n.toNat * P.cellsOf e) else none
  | _, _ => none
  else none
 | _ => none

def fieldA (P : Program) (t : TypeId) (x : V) (f : Nat) : Option V :=
 match tfield P t f, x with
 | some (o, u), .agg cs => if (P.info? u).isSome then partC P u cs o else none
 | _, _ => none

def lenA (P : Program) (t : TypeId) (x : V) : Option V :=
 match P.underlying t, x with
 | some .string, .one (.d (.s l)) => some (vi .i64 l.length)
 | some (.array n _), _ => some (vi .i64 n)
 | some (.slice _), .one (.d (.sl _ rows)) => some (vi .i64 rows.length)
 | some (.slice _), .one (.f (.sl _ rows)) => some (vi .i64 rows.length)
 | some (.slice _), .one .nil => some (vi .i64 0)
 | some (.slice _), .one (.own _ _ len) => some (vi .i64 len)
 | some (.slice _), .one (.sub _ _ _ _ len) => some (vi .i64 len)
 | some (.slice _), .one (.dp _ _ len _) => some (vi .i64 len)
 | some (.slice _), .one (.dsub _ _ _ _ len) => some (vi .i64 len)
 | some (.slice _), .one (.d (.st _ xs)) => some (vi .i64 xs.length)
 | some (.slice _), .one (.f (.st _ xs)) => some (vi .i64 xs.length)
 | _, _ => none

def nilA : V -> Option V
 | .one (.ptr k off) => some (.one (.ptr k off))
 | .one (.pr k ver sz i off) => some (.one (.pr k ver sz i off))
 | .one (.pv cells) => some (.one (.pv cells))
 | .one (.clo f caps) => some (.one (.clo f caps))
 | .one (.clp f ks) => some (.one (.clp f ks))
 | .one (.dpr k ver sz i off) => some (.one (.dpr k ver sz i off))
 | _ => none

def toD1 : V -> Option D
 | .one (.d x) => some x
 | .one (.f x) => some x
 | _ => none

def toP1 : V -> Option (Nat × Nat)
 | .one (.ptr k o) => some (k, o)
 | _ => none

def minmaxA (mn : Bool) : List V -> Option V
 | [.one (.d (.i k x)), .one (.d (.i k' y))] => if k = k' then some (vi k (if mn then (if y < x then y else x) else (if y > x then y else x))) else none
 | _ => none

def effQ (P : Program) (op : Op) (ρ : Operand -> V) : Option V :=
 match op with
 | .move x | .assign x => some (ρ x)
 | .pick c a b => match ρ c with | .one (.d (.b t)) => some (pickV t (ρ a) (ρ b)) | _ => none
 | .build t parts => buildA P t (parts.toList.map fun p => (p.1, ρ p.2))
 | .binOp op t x y _ => binA P op t (ρ x) (ρ y)
 | .unOp op _ x => unA op (ρ x)
 | .convert src dst x => convA P src dst (ρ x)
 | .slice t x lo hi none => sliceA P t (ρ x) (lo.map ρ) (hi.map ρ)
 | .fieldAddr t x f => fieldAddrA P t (ρ x) f
 | .field t x f => fieldA P t (ρ x) f
 | .indexAddr t x i => indexAddrA P t (ρ x) (ρ i)
 | .index t x i => indexA P t (ρ x) (ρ i)
 | .extract t i => match ρ t with | .tup vs => vs[i]? | _ => none
 | .nilCheck x => nilA (ρ x)
 | .makeFunc (.func f) first captured => if first.size = 0 then (match (captured.toList.map ρ).mapM toD1 with | some ds => some (.one (.clo f ds)) | none => ((captured.toList.map ρ).mapM toP1).map fun ks => .one (.clp f ks)) else none
 | .call { callee := .builtin .len, args, argTypes } => match argTypes.toList, args.toList with | [t], [x] => lenA P t (ρ x) | _, _ => none
 | .call { callee := .builtin .min, args, .. } => minmaxA true (args.toList.map ρ)
 | .call { callee := .builtin .max, args, .. } => minmaxA false (args.toList.map ρ)
 | _ => none
end Go.Proofs.Ythnijeclidpooaa.Abs
namespace Go.Proofs.Ythnijeclidpooaa.Abs
open Go Go.RowKit

section
variable {P : Program} {w : World} {β : Nat -> Option Place} {U : Nat -> Prop} {base : Nat}

theorem RepV.toC {v : Value} {c : C} (h : RepV w β U base v (.one c)) : RepC w β U base v c := by cases h; assumption
theorem RepV.int {v : Value} {k : IntKind} {n : Int} (h : RepV w β U base v (vi k n)) : v = .int k n := by have := h.toC; cases this; rfl
theorem RepV.bool {v : Value} {x : Bool} (h : RepV w β U base v (vb x)) : v = .bool x := by have := h.toC; cases this; rfl
theorem RepV.str {v : Value} {l : List UInt8} (h : RepV w β U base v (vs l)) : v = .string ⟨l.toArray⟩ := by have := h.toC; cases this; rfl
theorem repI (k : IntKind) (n : Int) : RepV w β U base (.int k n) (vi k n) := .one _ _ (.i k n)
theorem repB (x : Bool) : RepV w β U base (.bool x) (vb x) := .one _ _ (.b x)
theorem repS (l : List UInt8) : RepV w β U base (.string ⟨l.toArray⟩) (vs l) := .one _ _ (.s l)
theorem repS' (s : ByteArray) (l : List UInt8) (h : s.data.toList = l) : RepV w β U base (.string s) (vs l) := by
 have : s = ⟨l.toArray⟩ := by cases s; subst h; simp
 rw [this]; exact repS l

theorem rep_cv1 (v : Value) : RepC w β U base v (cv1 v) := by
 unfold cv1
 split
 . exact .i _ _
 . exact .b _
 . rename_i s
   have := repS' (w := w) (β := β) (U := U) (base := base) s _ rfl
   exact this.toC
 . exact rfl
 . split
   . rename_i h; exact .z _ h
   . trivial

theorem rep_cv (v : Value) : RepV w β U base v (cv v) := by
 unfold cv
 split
 . rename_i cs
   split
   . rename_i h
     have h' : ∀ u ∈ cs.toList, u.oneCell' = true := by
      intro u hu
      exact (Array.all_eq_true_iff_forall_mem.1 h) u (by simpa using hu)
     have := RepV.agg (w := w) (β := β) (U := U) (base := base) cs.toList (cs.toList.map cv1) (by simp) h' (fun j u c hu hc => by
      rw [List.getElem?_map, hu] at hc
      obtain rfl : cv1 u = c := by simpa using hc
      exact rep_cv1 u)
     simpa using this
   . exact .bad _
 . exact .one _ _ (rep_cv1 v)

theorem SimB.eval {w0 : World} {U0 : Nat -> Prop} {X : Nat -> Nat -> Prop} {β0 : Nat -> Option Place} {s : St} {a : Act} (h : SimB w0 U0 X β0 β U s a w) (x : Operand) : RepV w β U w0.heap.size (a.eval x) (s.eval x) := by
 cases x with
 | tmp t => exact h.env t
 | const v => exact rep_cv v
 | global g => exact .bad _
 | func f => exact .one _ _ ⟨[], rfl, rfl, fun j u d hu hd => by simp at hu⟩

theorem pickV_sound {t : Bool} {u v : Value} {x y : V} (hx : RepV w β U base u x) (hy : RepV w β U base v y) : RepV w β U base (if t then u else v) (pickV t x y) := by
 cases t
 . exact hy
 . exact hx

theorem repD {v : Value} {x : D} (h : RepI w U v x) : RepV w β U base v (vd x) := .one _ _ h

theorem binI_sound {op : BinOp} {t : TypeId} {k k' : IntKind} {x y : Int} {z : D} (h : binI op k x k' y = some z) : ∃ v, (binOp op t (.int k x) (.int k' y)).run P w = .ok v w /\ RepI w U v z := by
 unfold binI at h
 cases op <;> simp only at h
 case shl =>
  split at h
  . rename_i hy
    obtain rfl := Option.some.inj h
    refine ⟨_, ?_, .i _ _⟩
    simp [binOp, Op.shift, show ¬ y < 0 by omega]
  . cases h
 case shr =>
  split at h
  . rename_i hy
    obtain rfl := Option.some.inj h
    refine ⟨_, ?_, .i _ _⟩
    simp [binOp, Op.shift, show ¬ y < 0 by omega]
  . cases h
 all_goals
  split at h
  case isFalse => cases h
  rename_i hk
  subst hk
 case quo =>
  split at h
  . rename_i hy
    obtain rfl := Option.some.inj h
    exact ⟨_, by simp [binOp, Op.intDiv, hy], .i _ _⟩
  . cases h
 case rem =>
  split at h
  . rename_i hy
    obtain rfl := Option.some.inj h
    exact ⟨_, by simp [binOp, Op.intDiv, hy], .i _ _⟩
  . cases h
 all_goals
  obtain rfl := Option.some.inj h
 case add => exact ⟨_, by simp [binOp, Op.intArith], .i _ _⟩
 case sub => exact ⟨_, by simp [binOp, Op.intArith], .i _ _⟩
 case mul => exact ⟨_, by simp [binOp, Op.intArith], .i _ _⟩
 case and => exact ⟨_, by simp [binOp, Op.intBits, bits], .i _ _⟩
 case or => exact ⟨_, by simp [binOp, Op.intBits, bits], .i _ _⟩
 case xor => exact ⟨_, by simp [binOp, Op.intBits, bits], .i _ _⟩
 case andNot => exact ⟨_, by simp [binOp, Op.intBits, bits], .i _ _⟩
 case eql => exact ⟨.bool (decide (x = y)), by simp [binOp, Op.intCmp]; rfl, .b _⟩
 case neq => exact ⟨.bool (!decide (x = y)), by simp [binOp, Op.intCmp]; rfl, .b _⟩
 case lss => exact ⟨.bool (decide (x < y)), by simp [binOp, Op.intCmp], .b _⟩
 case leq => exact ⟨.bool (decide (x <= y)), by simp [binOp, Op.intCmp], .b _⟩
 case gtr => exact ⟨.bool (decide (y < x)), by simp [binOp, Op.intCmp], .b _⟩
 case geq => exact ⟨.bool (decide (y <= x)), by simp [binOp, Op.intCmp], .b _⟩

theorem binS_sound {op : BinOp} {t : TypeId} {x y : List UInt8} {z : D} (h : binS op x y = some z) : ∃ v, (binOp op t (.string ⟨x.toArray⟩) (.string ⟨y.toArray⟩)).run P w = .ok v w /\ RepI w U v z := by
 unfold binS at h
 cases op <;> simp only at h <;> first | (cases h; done) | skip
 case add =>
  split at h
  . rename_i hl
    obtain rfl := Option.some.inj h
    refine ⟨.string ⟨(x ++ y).toArray⟩, ?_, .s _⟩
    have e1 : (⟨x.toArray⟩ : ByteArray).size = x.length := by simp [ByteArray.size]
    have e2 : (⟨y.toArray⟩ : ByteArray).size = y.length := by simp [ByteArray.size]
    have e3 : (IntKind.i64.max : Int) = 9223372036854775807 := by decide
    have e4 : (⟨x.toArray⟩ : ByteArray) ++ ⟨y.toArray⟩ = ⟨(x ++ y).toArray⟩ := by
     apply ByteArray.ext
     rw [ByteArray.data_append]
     simp
    have hn : ¬ (((⟨x.toArray⟩ : ByteArray).size + (⟨y.toArray⟩ : ByteArray).size : Nat) : Int) > IntKind.i64.max := by rw [e1, e2, e3]; omega
    simp only [binOp, Op.stringOp, if_neg hn, e4, Sem.run_pure]
  . cases h
 case eql =>
  obtain rfl := Option.some.inj h
  refine ⟨.bool (decide (x = y)), ?_, .b _⟩
  simp [binOp, Op.stringOp]
  rw [Bool.eq_iff_iff]; simp
 case neq =>
  obtain rfl := Option.some.inj h
  refine ⟨.bool (!decide (x = y)), ?_, .b _⟩
  simp [binOp, Op.stringOp]
  rw [Bool.eq_iff_iff]; simp

theorem binB_sound {op : BinOp} {t : TypeId} {x y : Bool} {z : D} (ht : P.underlying t = some .bool) (h : binB op x y = some z) : ∃ v, (binOp op t (.bool x) (.bool y)).run P w = .ok v w /\ RepI w U v z := by
 have e : (Op.equal t (.bool x) (.bool y)).run P w = .ok (x == y) w := by
  have gen : ∀ d, (Op.equalIn (d + 1) t (.bool x) (.bool y)).run P w = .ok (x == y) w := fun d => by
   simp only [Op.equalIn, Sem.run_bind, run_underlying ht, Result.andThen_ok, Sem.run_pure]
  exact gen 9999
 unfold binB at h
 cases op <;> simp only at h <;> first | (cases h; done) | skip
 case eql =>
  obtain rfl := Option.some.inj h
  exact ⟨.bool (x == y), by simp [binOp, e], .b _⟩
 case neq =>
  obtain rfl := Option.some.inj h
  exact ⟨.bool (!(x == y)), by simp [binOp, e], .b _⟩

theorem run_part_agg {t : TypeId} {cs : Array Value} {off : Nat} (h : tagg P t = true) : (part t cs off).run P w = .ok (.agg (cs.extract off (off + P.cellsOf t))) w := by
 unfold tagg at h
 split at h
 . rename_i fs hu
   have hi : ∃ i, P.info? t = some i := by
    cases hi : P.info? t with
    | none => simp [Program.underlying, hi] at hu
    | some i => exact ⟨i, rfl⟩
   obtain ⟨i, hi⟩ := hi
   simp [part, isAgg, run_underlying hu, run_sizeOf w hi]
 . rename_i n e hu
   have hi : ∃ i, P.info? t = some i := by
    cases hi : P.info? t with
    | none => simp [Program.underlying, hi] at hu
    | some i => exact ⟨i, rfl⟩
   obtain ⟨i, hi⟩ := hi
   simp [part, isAgg, run_underlying hu, run_sizeOf w hi]
 . cases h

theorem run_isAgg_no {t : TypeId} (h : tagg P t = false) (hi : (P.underlying t).isSome = true) : (isAgg t).run P w = .ok false w := by
 obtain ⟨d, hu⟩ := Option.isSome_iff_exists.1 hi
 unfold tagg at h
 simp only [hu] at h
 unfold isAgg
 rw [Sem.run_bind, run_underlying hu, Result.andThen_ok]
 cases d <;> simp_all

theorem run_part_one {t : TypeId} {cs : Array Value} {off : Nat} {v : Value} (h : tagg P t = false) (hi : (P.underlying t).isSome = true) (hc : cs[off]? = some v) : (part t cs off).run P w = .ok v w := by
 simp [part, run_isAgg_no h hi, hc]

theorem unA_sound {op : UnOp} {u : Value} {x z : V} (hx : RepV w β U base u x) (h : unA op x = some z) : ∃ v, (Op.unary op u).run P w = .ok v w /\ RepV w β U base v z := by
 unfold unA at h
 split at h
 . obtain rfl := hx.int
   obtain rfl := Option.some.inj h
   exact ⟨_, by simp [Op.unary, Op.intArith], repI _ _⟩
 . obtain rfl := hx.int
   obtain rfl := Option.some.inj h
   exact ⟨_, by simp [Op.unary, Op.intBits, bits], repI _ _⟩
 . obtain rfl := hx.bool
   obtain rfl := Option.some.inj h
   exact ⟨_, by simp [Op.unary], repB _⟩
 . cases h

theorem info_of_underlying {t : TypeId} (h : (P.underlying t).isSome = true) : ∃ i, P.info? t = some i := by
 cases hi : P.info? t with
 | none => simp [Program.underlying, hi] at h
 | some i => exact ⟨i, rfl⟩

theorem RepV.aggOf {v : Value} {cs : List C} (h : RepV w β U base v (.agg cs)) : ∃ vs : List Value, v = .agg vs.toArray /\ vs.length = cs.length /\ (∀ u ∈ vs, u.oneCell' = true) /\
  ∀ (j : Nat) (u : Value) (c : C), vs[j]? = some u -> cs[j]? = some c -> RepC w β U base u c := by
 cases h with
 | agg vs cs hl h1 h => exact ⟨vs, rfl, hl, h1, h⟩

theorem partC_sound {t : TypeId} {vs : List Value} {cs : List C} {off : Nat} {x : V} (hl : vs.length = cs.length) (h1 : ∀ u ∈ vs, u.oneCell' = true)
   (hr : ∀ (j : Nat) (u : Value) (c : C), vs[j]? = some u -> cs[j]? = some c -> RepC w β U base u c) (h : partC P t cs off = some x) :
   ∃ v, (part t vs.toArray off).run P w = .ok v w /\ RepV w β U base v x := by
 unfold partC at h
 split at h
 . cases h
 rename_i hn
 have hs : (P.underlying t).isSome = true := by cases hu : P.underlying t <;> simp_all
 split at h
 . rename_i ha
   split at h
   . rename_i hle
     obtain rfl := Option.some.inj h
     refine ⟨_, run_part_agg ha, ?_⟩
     have e : vs.toArray.extract off (off + P.cellsOf t) = ((vs.drop off).take (tsz P t)).toArray := by
       apply Array.ext'
       simp [tsz]
     rw [e]
     refine .agg _ _ (by simp [hl]) (fun u hu => h1 u (List.mem_of_mem_drop (List.mem_of_mem_take hu))) (fun j u c hu hc => ?_)
     rw [List.getElem?_take] at hu hc
     split at hu
     . rename_i hj
       rw [if_pos hj] at hc
       rw [List.getElem?_drop] at hu hc
       exact hr _ u c hu hc
     . cases hu
   . cases h
 . rename_i ha
   rw [Option.map_eq_some_iff] at h
   obtain ⟨c, hc, rfl⟩ := h
   have hj : off < vs.length := by rw [hl]; exact (List.getElem?_eq_some_iff.1 hc).1
   refine ⟨vs[off], run_part_one (by simpa using ha) hs (by simp [hj]), .one _ _ (hr off _ c (List.getElem?_eq_getElem hj) hc)⟩

theorem fieldA_sound {t : TypeId} {u : Value} {x z : V} {f : Nat} (hx : RepV w β U base u x) (h : fieldA P t x f = some z) : ∃ v, (Instr.field t u f).run P w = .ok v w /\ RepV w β U base v z := by
 unfold fieldA at h
 split at h
 . rename_i o ty cs ht
   split at h
   . rename_i hi
     obtain ⟨vs, rfl, hl, h1, hr⟩ := hx.aggOf
     obtain ⟨v, hv, hz⟩ := partC_sound (P := P) hl h1 hr h
     unfold tfield at ht
     split at ht
     . rename_i fs hu
       rw [Option.map_eq_some_iff] at ht
       obtain ⟨fl, hf, he⟩ := ht
       cases he
       exact ⟨v, by simp [Instr.field, run_underlying hu, hf, asAgg, hv], hz⟩
     . cases ht
   . cases h
 . cases h

theorem indexA_sound {t : TypeId} {u y : Value} {x i z : V} (hx : RepV w β U base u x) (hi : RepV w β U base y i) (h : indexA P t x i = some z) : ∃ v, (Instr.index t u y).run P w = .ok v w /\ RepV w β U base v z := by
 unfold indexA at h
 split at h
 case h_2 => cases h
 rename_i k n
 obtain rfl := hi.int
 split at h
 case isFalse => cases h
 rename_i hn
 split at h
 . rename_i l hu
   rw [Option.map_eq_some_iff] at h
   obtain ⟨b, hb, rfl⟩ := h
   obtain rfl := hx.str
   have hb' : (⟨l.toArray⟩ : ByteArray)[n.toNat]? = some b := by
     obtain ⟨h1, h2⟩ := List.getElem?_eq_some_iff.1 hb
     have h3 : n.toNat < (⟨l.toArray⟩ : ByteArray).size := by simpa [ByteArray.size] using h1
     rw [getElem?_pos (⟨l.toArray⟩ : ByteArray) n.toNat h3]
     congr 1
   exact ⟨.int .u8 b.toNat, by simp [Instr.index, asIntOf, run_underlying hu, hn, hb'], repI _ _⟩
 . rename_i len e cs hu
   split at h
   . rename_i hc
     obtain ⟨vs, rfl, hl, h1, hr⟩ := hx.aggOf
     obtain ⟨v, hv, hz⟩ := partC_sound (P := P) hl h1 hr h
     obtain ⟨ie, hie⟩ := Option.isSome_iff_exists.1 hc.2
     exact ⟨v, by simp [Instr.index, asIntOf, run_underlying hu, hn, hc.1, run_sizeOf w hie, hv], hz⟩
   . cases h
 . cases h

theorem lenA_sound {t ty : TypeId} {u : Value} {x z : V} (hx : RepV w β U base u x) (h : lenA P t x = some z) : ∃ v, (Builtin.len_ #[t] ty #[u]).run P w = .ok v w /\ RepV w β U base v z := by
 unfold lenA at h
 split at h
 . rename_i l hu
   obtain rfl := hx.str
   obtain rfl := Option.some.inj h
   refine ⟨.int .i64 l.length, ?_, repI _ _⟩
   have : (⟨l.toArray⟩ : ByteArray).size = l.length := by simp [ByteArray.size]
   simp [Builtin.len_, run_underlying hu, goInt, this]
 . rename_i n e hu
   obtain rfl := Option.some.inj h
   exact ⟨.int .i64 n, by simp [Builtin.len_, run_underlying hu, goInt], repI _ _⟩
 . rename_i e sz rows hu
   obtain rfl := Option.some.inj h
   have hc := hx.toC
   cases hc with
   | nil a cap _ _ => exact ⟨.int .i64 0, by simp [Builtin.len_, run_underlying hu, goInt], repI _ _⟩
   | sl b o cap sz rows vals => exact ⟨.int .i64 rows.length, by simp [Builtin.len_, run_underlying hu, goInt], repI _ _⟩
 . rename_i e sz rows hu
   obtain rfl := Option.some.inj h
   have hc := hx.toC
   unfold RepC at hc
   cases hc with
   | nil a cap _ _ => exact ⟨.int .i64 0, by simp [Builtin.len_, run_underlying hu, goInt], repI _ _⟩
   | sl b o cap sz rows vals => exact ⟨.int .i64 rows.length, by simp [Builtin.len_, run_underlying hu, goInt], repI _ _⟩
 . rename_i e hu
   obtain rfl := Option.some.inj h
   have hc : u = .slice none 0 0 := hx.toC
   subst hc
   exact ⟨.int .i64 0, by simp [Builtin.len_, run_underlying hu, goInt], repI _ _⟩
 . rename_i e k ver len hu
   obtain rfl := Option.some.inj h
   obtain ⟨a, cap, v0, ver0, rfl, _⟩ := hx.toC
   exact ⟨.int .i64 len, by simp [Builtin.len_, run_underlying hu, goInt], repI _ _⟩
 . rename_i e k ver sz off len hu
   obtain rfl := Option.some.inj h
   obtain ⟨a, cap, v0, ver0, rfl, _⟩ := hx.toC
   exact ⟨.int .i64 len, by simp [Builtin.len_, run_underlying hu, goInt], repI _ _⟩
 . rename_i e k ver len room hu
   obtain rfl := Option.some.inj h
   obtain ⟨a, cap, v0, ver0, us, rfl, _⟩ := hx.toC
   exact ⟨.int .i64 len, by simp [Builtin.len_, run_underlying hu, goInt], repI _ _⟩
 . rename_i e k ver sz off len hu
   obtain rfl := Option.some.inj h
   obtain ⟨a, cap, v0, ver0, us, rfl, _⟩ := hx.toC
   exact ⟨.int .i64 len, by simp [Builtin.len_, run_underlying hu, goInt], repI _ _⟩
 . rename_i e c xs hu
   obtain rfl := Option.some.inj h
   have hc := RepI.unst (show RepI w U u (.st c xs) from hx.toC)
   rw [show (xs.length : Int) = ((xs.map (enc c)).length : Nat) by simp]
   generalize xs.map (enc c) = rows at hc ⊢
   cases hc with
   | nil a cap _ _ => exact ⟨.int .i64 0, by simp [Builtin.len_, run_underlying hu, goInt], repI _ _⟩
   | sl b o cap sz rows vals => exact ⟨.int .i64 rows.length, by simp [Builtin.len_, run_underlying hu, goInt], repI _ _⟩
 . rename_i e c xs hu
   obtain rfl := Option.some.inj h
   have hc := RepI.unst (show RepI w (fun b => U b /\ base <= b) u (.st c xs) from hx.toC)
   rw [show (xs.length : Int) = ((xs.map (enc c)).length : Nat) by simp]
   generalize xs.map (enc c) = rows at hc ⊢
   cases hc with
   | nil a cap _ _ => exact ⟨.int .i64 0, by simp [Builtin.len_, run_underlying hu, goInt], repI _ _⟩
   | sl b o cap sz rows vals => exact ⟨.int .i64 rows.length, by simp [Builtin.len_, run_underlying hu, goInt], repI _ _⟩
 . cases h

theorem convA_sound {src dst : TypeId} {u : Value} {x z : V} (hx : RepV w β U base u x) (h : convA P src dst x = some z) : ∃ v, (convert src dst u).run P w = .ok v w /\ RepV w β U base v z := by
 unfold convA at h
 split at h
 . rename_i ds k k' n hs hd
   obtain rfl := hx.int
   obtain rfl := Option.some.inj h
   refine ⟨_, ?_, repI _ _⟩
   unfold convert
   simp only [Sem.run_bind, run_underlying hs, run_underlying hd, Result.andThen_ok]
   rfl
 . rename_i ds l hs hd
   obtain rfl := hx.str
   obtain rfl := Option.some.inj h
   refine ⟨_, ?_, repS _⟩
   unfold convert
   simp only [Sem.run_bind, run_underlying hs, run_underlying hd, Result.andThen_ok]
   rfl
 . cases h

theorem nilA_sound {u : Value} {x z : V} (o : Oper) (y : Operand) (ho : o.op = .nilCheck y) (r : Operand -> Value) (hu : r y = u) (hx : RepV w β U base u x) (h : nilA x = some z) :
   (execOp r o).run P w = .ok (.value u) w /\ RepV w β U base u z := by
 unfold nilA at h
 split at h
 . obtain rfl := Option.some.inj h
   obtain ⟨b, o', _, rfl⟩ := hx.toC
   exact ⟨by simp [execOp, ho, hu], hx⟩
 . obtain rfl := Option.some.inj h
   obtain ⟨a, v0, ver0, rfl, _⟩ := hx.toC
   exact ⟨by simp [execOp, ho, hu], hx⟩
 . obtain rfl := Option.some.inj h
   obtain ⟨b, o', vals, rfl, _⟩ := hx.toC
   exact ⟨by simp [execOp, ho, hu], hx⟩
 . obtain rfl := Option.some.inj h
   obtain ⟨vs, rfl, _⟩ := hx.toC
   exact ⟨by simp [execOp, ho, hu], hx⟩
 . obtain rfl := Option.some.inj h
   obtain ⟨vs, rfl, _⟩ := hx.toC
   exact ⟨by simp [execOp, ho, hu], hx⟩
 . obtain rfl := Option.some.inj h
   obtain ⟨a, v0, ver0, us, rfl, _⟩ := hx.toC
   exact ⟨by simp [execOp, ho, hu], hx⟩
 . cases h
end
end Go.Proofs.Ythnijeclidpooaa.Abs
namespace Go.Proofs.Ythnijeclidpooaa.Abs
open Go Go.RowKit

section
variable {P : Program} {w : World} {β : Nat -> Option Place} {U : Nat -> Prop} {base : Nat}

def valOf (P : Program) (t : TypeId) (us : List Value) : Value := if tagg P t then .agg us.toArray else us.getD 0 undef

def RepCs (w : World) (β : Nat -> Option Place) (U : Nat -> Prop) (base : Nat) (us : List Value) (cs : List C) : Prop :=
 us.length = cs.length /\ ∀ (j : Nat) (u : Value) (c : C), us[j]? = some u -> cs[j]? = some c -> RepC w β U base u c

theorem RepCs.sub {us : List Value} {cs : List C} (h : RepCs w β U base us cs) (o n : Nat) : RepCs w β U base ((us.drop o).take n) ((cs.drop o).take n) := by
 refine ⟨by simp [h.1], fun j u c hu hc => ?_⟩
 rw [List.getElem?_take] at hu hc
 split at hu
 . rename_i hj
   rw [if_pos hj] at hc
   rw [List.getElem?_drop] at hu hc
   exact h.2 _ u c hu hc
 . cases hu

theorem RepCs.one {us : List Value} {c : C} (h : RepCs w β U base us [c]) : ∃ u, us = [u] /\ RepC w β U base u c := by
 obtain ⟨hl, hr⟩ := h
 match us, hl with
 | [u], _ => exact ⟨u, rfl, hr 0 u c rfl rfl⟩

theorem eqA_some_underlying {d : Nat} {t : TypeId} {xs ys : List C} {r : Bool} (h : eqA P (d + 1) t xs ys = some r) : (P.underlying t).isSome = true := by
 unfold eqA at h
 cases hu : P.underlying t with
 | none => simp [hu] at h
 | some x => rfl

theorem tagg_iff (P : Program) (t : TypeId) : tagg P t = true ↔ (∃ fs, P.underlying t = some (.struct fs)) \/ ∃ n e, P.underlying t = some (.array n e) := by
 unfold tagg
 split
 . rename_i fs h; simp [h]
 . rename_i n e h; simp [h]
 . rename_i h1 h2
   constructor
   . intro h; cases h
   . rintro (⟨fs, h⟩ | ⟨n, e, h⟩)
     . exact absurd h (h1 fs)
     . exact absurd h (h2 n e)

theorem eqA_leaf_len {d : Nat} {t : TypeId} {xs ys : List C} {r : Bool} (ha : tagg P t = false) (h : eqA P (d + 1) t xs ys = some r) : xs.length = 1 /\ ys.length = 1 := by
 have hs : ∀ fs, P.underlying t ≠ some (.struct fs) := fun fs e => by rw [(tagg_iff P t).2 (.inl ⟨fs, e⟩)] at ha; cases ha
 have hr : ∀ n e', P.underlying t ≠ some (.array n e') := fun n e' e => by rw [(tagg_iff P t).2 (.inr ⟨n, e', e⟩)] at ha; cases ha
 unfold eqA at h
 split at h
 all_goals first
  | (split at h <;> first | (exact ⟨rfl, rfl⟩) | cases h)
  | (rename_i hu; exact absurd hu (hs _))
  | (rename_i hu; exact absurd hu (hr _ _))
  | cases h

theorem run_part_val {t : TypeId} {us : List Value} {o : Nat} (hs : (P.underlying t).isSome = true) (h : tagg P t = false -> ((us.drop o).take (P.cellsOf t)).length = 1) :
   (part t us.toArray o).run P w = .ok (valOf P t ((us.drop o).take (P.cellsOf t))) w := by
 unfold valOf
 by_cases ha : tagg P t = true
 . rw [if_pos ha, run_part_agg ha]
   congr 2
   apply Array.ext'
   simp
 . have ha' : tagg P t = false := by simpa using ha
   rw [if_neg ha]
   have hl := h ha'
   have hx : us[o]? = some (((us.drop o).take (P.cellsOf t)).getD 0 undef) := by
    rw [List.length_take, List.length_drop] at hl
    have h1 : o < us.length := by omega
    rw [List.getD_eq_getElem?_getD, List.getElem?_take, if_pos (by omega), List.getElem?_drop, Nat.add_zero, List.getElem?_eq_getElem h1]
    rfl
   exact run_part_one ha' hs (by simpa using hx)

theorem eqA_sound : ∀ (d : Nat) (t : TypeId) (xs ys : List C) (r : Bool), eqA P d t xs ys = some r -> ∀ (us vs : List Value), RepCs w β U base us xs -> RepCs w β U base vs ys ->
  ∀ D, d <= D -> (Op.equalIn D t (valOf P t us) (valOf P t vs)).run P w = .ok r w := by
 intro d
 induction d with
 | zero => intro t xs ys r h; simp [eqA] at h
 | succ d ih =>
  intro t xs ys r h us vs hus hvs D hD
  obtain ⟨D, rfl⟩ : ∃ D', D = D' + 1 := ⟨D - 1, by omega⟩
  have hdD : d <= D := by omega
  have step : ∀ (ty : TypeId) (o n : Nat) (p : Bool), n = P.cellsOf ty -> eqA P d ty ((xs.drop o).take n) ((ys.drop o).take n) = some p ->
      ∃ a b, (part ty us.toArray o).run P w = .ok a w /\ (part ty vs.toArray o).run P w = .ok b w /\ (Op.equalIn D ty a b).run P w = .ok p w := by
    intro ty o n p hn hp
    subst hn
    cases d with
    | zero => simp [eqA] at hp
    | succ d' =>
      have hs := eqA_some_underlying hp
      have hu1 := hus.sub o (P.cellsOf ty)
      have hv1 := hvs.sub o (P.cellsOf ty)
      refine ⟨_, _, run_part_val hs (fun ha => ?_), run_part_val hs (fun ha => ?_), ih ty _ _ p hp _ _ hu1 hv1 D hdD⟩
      . rw [hu1.1]; exact (eqA_leaf_len ha hp).1
      . rw [hv1.1]; exact (eqA_leaf_len ha hp).2
  unfold eqA at h
  split at h
  . rename_i hu
    have ha : tagg P t = false := by simp [tagg, hu]
    split at h
    . rename_i x y
      obtain rfl := Option.some.inj h
      obtain ⟨u, rfl, h1⟩ := hus.one
      obtain ⟨v, rfl, h2⟩ := hvs.one
      cases h1; cases h2
      simp only [valOf, ha, Bool.false_eq_true, if_false]
      exact run_equalIn_bool w D t _ _ hu
    . cases h
  . rename_i k0 hu
    have ha : tagg P t = false := by simp [tagg, hu]
    split at h
    . rename_i k x k' y
      split at h
      . rename_i hk
        subst hk
        obtain rfl := Option.some.inj h
        obtain ⟨u, rfl, h1⟩ := hus.one
        obtain ⟨v, rfl, h2⟩ := hvs.one
        cases h1; cases h2
        simp only [valOf, ha, Bool.false_eq_true, if_false]
        exact run_equalIn_int w D t _ _ _ _ hu
      . cases h
    . cases h
  . rename_i hu
    have ha : tagg P t = false := by simp [tagg, hu]
    split at h
    . rename_i x y
      obtain rfl := Option.some.inj h
      obtain ⟨u, rfl, h1⟩ := hus.one
      obtain ⟨v, rfl, h2⟩ := hvs.one
      cases h1; cases h2
      simp only [valOf, ha, Bool.false_eq_true, if_false]
      have := run_equalIn_string (P := P) w D t ⟨x.toArray⟩ ⟨y.toArray⟩ hu
      simp only [List.getD_cons_zero]
      rw [this, ByteArray.toList_mk, ByteArray.toList_mk]
      congr 1
      rw [Bool.eq_iff_iff]; simp
    . cases h
  . rename_i fs hu
    have ha : tagg P t = true := (tagg_iff P t).2 (.inl ⟨fs, hu⟩)
    have hfs : P.fieldsOf t = fs := by simp [Program.fieldsOf, hu]
    split at h
    . cases h
    rename_i hst
    simp only [valOf, ha, if_true]
    rw [run_equalIn_struct w D t us.toArray vs.toArray (by rw [hfs]; exact hu) (by simpa using hst), hfs]
    generalize fs.toList = l at h
    clear hu hfs hst ha
    induction l generalizing r with
    | nil => obtain rfl := Option.some.inj h; rfl
    | cons f l ihl =>
      rw [List.foldr_cons] at h
      split at h
      . cases h
      rename_i hn
      split at h
      . rename_i p q hp hq
        obtain rfl := Option.some.inj h
        obtain ⟨a, b, h1, h2, h3⟩ := step f.type f.offset _ p rfl hp
        simp only [Op.eqFields, hn, ne_eq, not_false_eq_true, if_true, Sem.run_bind, h1, h2, h3, Result.andThen_ok]
        cases p
        . simp
        . simpa using ihl q hq
      . cases h
  . rename_i n e hu
    have ha : tagg P t = true := (tagg_iff P t).2 (.inr ⟨n, e, hu⟩)
    split at h
    . cases h
    rename_i hi
    obtain ⟨i, hi⟩ : ∃ i, P.info? e = some i := by cases hi' : P.info? e <;> simp_all
    simp only [valOf, ha, if_true]
    rw [run_equalIn_array w D us.toArray vs.toArray hu hi]
    generalize List.range n = l at h
    clear hu ha
    induction l generalizing r with
    | nil => obtain rfl := Option.some.inj h; rfl
    | cons q l ihl =>
      rw [List.foldr_cons] at h
      split at h
      . rename_i p q' hp hq
        obtain rfl := Option.some.inj h
        obtain ⟨a, b, h1, h2, h3⟩ := step e (q * P.cellsOf e) _ p rfl hp
        simp only [Op.eqItems, Sem.run_bind, h1, h2, h3, Result.andThen_ok]
        cases p
        . simp
        . simpa using ihl q' hq
      . cases h
  . cases h

theorem eqV_sound {t : TypeId} {xs ys : List C} {r : Bool} {us vs : List Value} (hus : RepCs w β U base us xs) (hvs : RepCs w β U base vs ys) (h : eqV P t xs ys = some r) :
   P.eqGuardType P.depth t = false /\ (Op.equalIn 10000 t (.agg us.toArray) (.agg vs.toArray)).run P w = .ok r w := by
 unfold eqV at h
 split at h
 . cases h
 rename_i hg
 split at h
 . rename_i ha
   refine ⟨by simpa using hg, ?_⟩
   have hq := eqA_sound 12 t xs ys r h us vs hus hvs 10000 (by omega)
   simpa [valOf, ha] using hq
 . cases h

theorem binA_sound {op : BinOp} {t : TypeId} {u v : Value} {x y z : V} (xo yo : Operand) (hx : RepV w β U base u x) (hy : RepV w β U base v y) (h : binA P op t x y = some z) :
   ∃ r, ((do eqGuard op t xo yo u v; binOp op t u v) : Sem Value).run P w = .ok r w /\ RepV w β U base r z := by
 unfold binA at h
 split at h
 . rename_i k a k' b
   obtain rfl := hx.int
   obtain rfl := hy.int
   rw [Option.map_eq_some_iff] at h
   obtain ⟨d, hd, rfl⟩ := h
   obtain ⟨r, h1, h2⟩ := binI_sound (P := P) (w := w) (U := U) (t := t) hd
   refine ⟨r, ?_, repD h2⟩
   have : (eqGuard op t xo yo (.int k a) (.int k' b)).run P w = .ok () w := by cases op <;> rfl
   rw [Sem.run_bind, this, Result.andThen_ok, h1]
 . rename_i a b
   obtain rfl := hx.str
   obtain rfl := hy.str
   rw [Option.map_eq_some_iff] at h
   obtain ⟨d, hd, rfl⟩ := h
   obtain ⟨r, h1, h2⟩ := binS_sound (P := P) (w := w) (U := U) (t := t) hd
   refine ⟨r, ?_, repD h2⟩
   have : (eqGuard op t xo yo (.string ⟨a.toArray⟩) (.string ⟨b.toArray⟩)).run P w = .ok () w := by cases op <;> rfl
   rw [Sem.run_bind, this, Result.andThen_ok, h1]
 . rename_i a b
   obtain rfl := hx.bool
   obtain rfl := hy.bool
   split at h
   . rename_i ht
     rw [Option.map_eq_some_iff] at h
     obtain ⟨d, hd, rfl⟩ := h
     obtain ⟨r, h1, h2⟩ := binB_sound (P := P) (w := w) (U := U) (t := t) ht hd
     refine ⟨r, ?_, repD h2⟩
     have : (eqGuard op t xo yo (.bool a) (.bool b)).run P w = .ok () w := by cases op <;> rfl
     rw [Sem.run_bind, this, Result.andThen_ok, h1]
   . cases h
 . rename_i xs ys
   obtain ⟨us, rfl, hl, h1, hr⟩ := hx.aggOf
   obtain ⟨vs, rfl, hl', h1', hr'⟩ := hy.aggOf
   split at h
   . rw [Option.map_eq_some_iff] at h
     obtain ⟨r, hr2, rfl⟩ := h
     obtain ⟨hg, he⟩ := eqV_sound (P := P) ⟨hl, hr⟩ ⟨hl', hr'⟩ hr2
     refine ⟨.bool r, ?_, repB r⟩
     rw [Sem.run_bind, run_eqGuard_agg w _ t xo yo _ _ hg, Result.andThen_ok, run_eql_struct, he]
     rfl
   . rw [Option.map_eq_some_iff] at h
     obtain ⟨r, hr2, rfl⟩ := h
     obtain ⟨hg, he⟩ := eqV_sound (P := P) ⟨hl, hr⟩ ⟨hl', hr'⟩ hr2
     refine ⟨.bool (!r), ?_, repB _⟩
     rw [Sem.run_bind, run_eqGuard_agg w _ t xo yo _ _ hg, Result.andThen_ok, run_neq_struct, he]
     rfl
   . cases h
 . cases h

theorem V.cells_sound {v : Value} {x : V} {cs : List C} (hx : RepV w β U base v x) (h : x.cells = some cs) : RepCs w β U base v.cells.toList cs /\ ∀ u ∈ v.cells.toList, u.oneCell' = true := by
 unfold V.cells at h
 split at h
 . rename_i c
   have hc := hx.toC
   have hone : ∀ c', c = c' -> (∀ (e : v.oneCell' = true), RepCs w β U base v.cells.toList [c'] /\ ∀ u ∈ v.cells.toList, u.oneCell' = true) := by
    rintro c' rfl e
    have e2 : v.cells = #[v] := by cases v <;> first | rfl | (simp [Value.oneCell'] at e)
    rw [e2]
    refine ⟨⟨rfl, fun j u c2 hu hc2 => ?_⟩, by simpa using e⟩
    cases j with
    | zero => simp at hu hc2; subst hu; subst hc2; exact hc
    | succ j => simp at hu
   split at h
   all_goals first | (cases h; done) | skip
   rename_i hb1 hb2
   obtain rfl := Option.some.inj h
   refine hone _ rfl ?_
   cases c with
   | d x => exact RepI.oneCell (show RepI w U v x from hc)
   | f x => exact RepI.oneCell (show RepI w _ v x from hc)
   | nil => rw [show v = .slice none 0 0 from hc]; rfl
   | own k ver len => obtain ⟨a, cap, v0, ver0, rfl, _⟩ := hc; rfl
   | sub k ver sz off len => obtain ⟨a, cap, v0, ver0, rfl, _⟩ := hc; rfl
   | ptr k off => obtain ⟨b, o, _, rfl⟩ := hc; rfl
   | pr k ver sz i off => obtain ⟨a, v0, ver0, rfl, _⟩ := hc; rfl
   | asl k off len => obtain ⟨b, o, _, rfl⟩ := hc; rfl
   | pre k ver sz len => obtain ⟨a, cap, v0, ver0, rfl, _⟩ := hc; rfl
   | nn x => obtain ⟨_, a, l, c, rfl⟩ := hc; rfl
   | pv cells => obtain ⟨b, o, vals, rfl, _⟩ := hc; rfl
   | clo f caps => obtain ⟨vs, rfl, _⟩ := hc; rfl
   | clp f ks => obtain ⟨vs, rfl, _⟩ := hc; rfl
   | mp k => obtain ⟨b, _, rfl⟩ := hc; rfl
   | ne => obtain ⟨te, pe, rfl⟩ := hc; rfl
   | dp k ver len room => obtain ⟨a, cap, v0, ver0, us, rfl, _⟩ := hc; rfl
   | dsub k ver sz off len => obtain ⟨a, cap, v0, ver0, us, rfl, _⟩ := hc; rfl
   | dpr k ver sz i off => obtain ⟨a, v0, ver0, us, rfl, _⟩ := hc; rfl
   | ui => obtain ⟨n, rfl⟩ := hc; rfl
   | gd c L j => exact RepI.oneCell (show RepI w U v (.st c (L.getD j [])) from hc)
   | gr k ver j => exact hc.1
   | gp k kg off n i => obtain ⟨_, b, o, _, rfl⟩ := hc; rfl
   | un => exact absurd rfl hb2
   | bad => exact absurd rfl hb1
 . obtain ⟨vs, rfl, hl, h1, hr⟩ := hx.aggOf
   obtain rfl := Option.some.inj h
   exact ⟨⟨hl, hr⟩, h1⟩
 . cases h
end
end Go.Proofs.Ythnijeclidpooaa.Abs
namespace Go.Proofs.Ythnijeclidpooaa.Abs
open Go Go.RowKit

section
variable {P : Program} {w : World} {β : Nat -> Option Place} {U : Nat -> Prop} {base : Nat}

theorem foldl_set (off : Nat) : ∀ (l : List Value) (k : Nat) (cells : Array Value) (j : Nat), off + k + l.length <= cells.size ->
  ((l.zipIdx k).foldl (fun cs (x : Value × Nat) => cs.setIfInBounds (off + x.2) x.1) cells)[j]? = if off + k <= j /\ j < off + k + l.length then l[j - (off + k)]? else cells[j]? := by
 intro l
 induction l with
 | nil => intro k cells j _; simp; omega
 | cons v l ih =>
  intro k cells j hle
  simp only [List.length_cons] at hle
  rw [List.zipIdx_cons, List.foldl_cons, ih (k + 1) _ j (by simp <;> omega)]
  by_cases h1 : off + (k + 1) <= j /\ j < off + (k + 1) + l.length
  . rw [if_pos h1, if_pos (by simp <;> omega)]
    rw [show j - (off + k) = (j - (off + (k + 1))) + 1 by omega]
    simp
  . rw [if_neg h1]
    by_cases h2 : j = off + k
    . subst h2
      rw [if_pos (by simp)]
      have : off + k < cells.size := by omega
      simp [this]
    . rw [if_neg (by simp <;> omega)]
      rw [Array.getElem?_setIfInBounds_ne (by simp <;> omega)]

theorem foldl_set_size (off : Nat) : ∀ (l : List (Value × Nat)) (cells : Array Value), (l.foldl (fun cs (x : Value × Nat) => cs.setIfInBounds (off + x.2) x.1) cells).size = cells.size := by
 intro l
 induction l with
 | nil => intro cells; rfl
 | cons v l ih => intro cells; rw [List.foldl_cons, ih]; simp

theorem spliceC_get {α : Type} (cells xs : List α) (off j : Nat) (h : off + xs.length <= cells.length) : (spliceC cells off xs)[j]? = if off <= j /\ j < off + xs.length then xs[j - off]? else cells[j]? := by
 unfold spliceC
 by_cases h1 : j < off
 . rw [if_neg (by omega), List.append_assoc, List.getElem?_append_left (by simp <;> omega), List.getElem?_take, if_pos h1]
 . by_cases h2 : j < off + xs.length
   . rw [if_pos (by omega), List.append_assoc, List.getElem?_append_right (by simp <;> omega), List.getElem?_append_left (by simp <;> omega)]
     congr 1
     simp; omega
   . rw [if_neg (by omega), List.getElem?_append_right (by simp <;> omega), List.getElem?_drop]
     congr 1
     simp; omega

theorem spliceC_len {α : Type} (cells xs : List α) (off : Nat) (h : off + xs.length <= cells.length) : (spliceC cells off xs).length = cells.length := by
 unfold spliceC; simp; omega

def RepParts (w : World) (β : Nat -> Option Place) (U : Nat -> Prop) (base : Nat) : List (Nat × Value) -> List (Nat × V) -> Prop
 | [], [] => True
 | (i, u) :: r, (j, x) :: s => i = j /\ RepV w β U base u x /\ RepParts w β U base r s
 | _, _ => False

theorem fill_sound (place : Nat -> Option (Nat × Nat)) : ∀ (ps : List (Nat × Value)) (xs : List (Nat × V)) (us : Array Value) (cs cs' : List C), RepParts w β U base ps xs -> RepCs w β U base us.toList cs ->
  (∀ u ∈ us.toList, u.oneCell' = true) -> fillA place cs xs = some cs' ->
  ∃ us' : Array Value, Instr.fill place us ps = some us' /\ RepCs w β U base us'.toList cs' /\ ∀ u ∈ us'.toList, u.oneCell' = true := by
 intro ps
 induction ps with
 | nil =>
  intro xs us cs cs' hp hr h1 h
  cases xs with
  | nil => obtain rfl := Option.some.inj h; exact ⟨us, rfl, hr, h1⟩
  | cons => exact hp.elim
 | cons p ps ih =>
  intro xs us cs cs' hp hr h1 h
  obtain ⟨i, u⟩ := p
  cases xs with
  | nil => exact hp.elim
  | cons x xs =>
   obtain ⟨j, x⟩ := x
   obtain ⟨rfl, hx, hrest⟩ := hp
   unfold fillA at h
   split at h
   . rename_i off size ys hpl hys
     split at h
     . cases h
     rename_i hcond
     obtain ⟨⟨hyl, hyr⟩, hy1⟩ := V.cells_sound hx hys
     have hsz : u.cells.size = ys.length := by simpa using hyl
     have hul : us.size = cs.length := by simpa using hr.1
     have hlen : ys.length = size := by omega
     have hle : off + ys.length <= cs.length := by omega
     have hnot : ¬ (u.cells.size ≠ size || decide (off + u.cells.size > us.size)) = true := by
       simp; omega
     obtain ⟨us', h2, h3, h4⟩ := ih xs (u.cells.zipIdx.foldl (fun cs (c, j) => cs.setIfInBounds (off + j) c) us) (spliceC cs off ys) cs' hrest (by
        refine ⟨by
          rw [spliceC_len _ _ _ hle, Array.length_toList, <- Array.foldl_toList, Array.toList_zipIdx, foldl_set_size]; exact hul, fun q v c hv hc => ?_⟩
        rw [Array.getElem?_toList, <- Array.foldl_toList, Array.toList_zipIdx, foldl_set off _ 0 us q (by simp <;> omega)] at hv
        rw [spliceC_get _ _ _ _ hle] at hc
        simp only [Nat.add_zero, Array.length_toList, hsz] at hv
        split at hv
        . rename_i hq
          rw [if_pos hq] at hc
          exact hyr _ v c hv hc
        . rename_i hq
          rw [if_neg hq] at hc
          exact hr.2 q v c (by simpa using hv) hc)
       (by
        intro v hv
        obtain ⟨q, hq⟩ := List.mem_iff_getElem?.1 hv
        rw [Array.getElem?_toList, <- Array.foldl_toList, Array.toList_zipIdx, foldl_set off _ 0 us q (by simp <;> omega)] at hq
        split at hq
        . exact hy1 v (List.mem_of_getElem? hq)
        . exact h1 v (by simpa using Array.mem_of_getElem? hq)) h
     refine ⟨us', ?_, h3, h4⟩
     unfold Instr.fill
     simp only [hpl]
     rw [if_neg hnot]
     exact h2
   . cases h

theorem tzero_sound {t : TypeId} {cs : List C} (h : tzero P t = some cs) : ∃ (i : TypeInfo) (z : Value), P.info? t = some i /\ i.zero = some z /\ RepCs w β U base z.cells.toList cs /\ (∀ u ∈ z.cells.toList, u.oneCell' = true) /\ z.cells.size = i.size := by
 unfold tzero at h
 split at h
 . rename_i i hi
   split at h
   . rename_i z hz
     split at h
     . rename_i hc
       simp only [Bool.and_eq_true, beq_iff_eq] at hc
       obtain rfl := Option.some.inj h
       refine ⟨i, z, hi, hz, ⟨by simp, fun j u c hu hc => ?_⟩, fun u hu => (Array.all_eq_true_iff_forall_mem.1 hc.1) u (by simpa using hu), hc.2⟩
       rw [List.getElem?_map, hu] at hc
       obtain rfl : cv1 u = c := by simpa using hc
       exact rep_cv1 u
     . cases h
   . cases h
 . cases h

theorem mapM_places (P : Program) : ∀ (fs : List Field), (∀ f ∈ fs, (P.info? f.type).isSome = true) -> fs.mapM (fun f => (P.info? f.type).map fun i => (f.offset, i.size)) = some (fs.map fun f => (f.offset, P.cellsOf f.type))
 | [], _ => rfl
 | f :: fs, h => by
  obtain ⟨i, hi⟩ := Option.isSome_iff_exists.1 (h f (by simp))
  simp [List.mapM_cons, hi, mapM_places P fs (fun g hg => h g (by simp [hg])), Program.cellsOf]

theorem buildA_sound {t : TypeId} {ps : Array (Nat × Value)} {xs : List (Nat × V)} {z : V} (hp : RepParts w β U base ps.toList xs) (h : buildA P t xs = some z) :
   ∃ v, (Instr.build t ps).run P w = .ok v w /\ RepV w β U base v z := by
 unfold buildA at h
 split at h
 . cases h
 rename_i zero hz
 obtain ⟨i, z0, hi, hz0, hzr, hz1, hzs⟩ := tzero_sound (w := w) (β := β) (U := U) (base := base) hz
 split at h
 . rename_i fs hu
   split at h
   case isFalse => cases h
   rename_i hall
   rw [Option.map_eq_some_iff] at h
   obtain ⟨cs, hcs, rfl⟩ := h
   obtain ⟨us', h1, h2, h3⟩ := fill_sound (w := w) (β := β) (U := U) (base := base) _ ps.toList xs z0.cells zero cs hp hzr hz1 hcs
   refine ⟨.agg us', run_build w t ps us' ?_, ?_⟩
   . unfold Program.built
     simp only [hi, hu, hz0, mapM_places P fs.toList (fun f hf => (Array.all_eq_true_iff_forall_mem.1 hall) f (by simpa using hf))]
     rw [<- h1]
     congr 1
     funext i
     simp
   . have := RepV.agg us'.toList cs h2.1 h3 h2.2
     simpa using this
 . rename_i n e hu
   split at h
   case isFalse => cases h
   rename_i he
   rw [Option.map_eq_some_iff] at h
   obtain ⟨cs, hcs, rfl⟩ := h
   obtain ⟨ie, hie⟩ := Option.isSome_iff_exists.1 he
   have hce : P.cellsOf e = ie.size := by simp [Program.cellsOf, hie]
   obtain ⟨us', h1, h2, h3⟩ := fill_sound (w := w) (β := β) (U := U) (base := base) _ ps.toList xs z0.cells zero cs hp hzr hz1 hcs
   refine ⟨.agg us', run_build w t ps us' ?_, ?_⟩
   . unfold Program.built
     simp only [hi, hu, hz0, hie]
     rw [<- h1, hce]
   . have := RepV.agg us'.toList cs h2.1 h3 h2.2
     simpa using this
 . cases h

theorem optI_sound {d : Int} {o : Option Value} {x : Option V} {n : Int} (hn : (o = none /\ x = none) \/ ∃ u y, o = some u /\ x = some y /\ RepV w β U base u y) (h : optI d x = some n) :
   (o = none /\ n = d) \/ ∃ k, o = some (.int k n) := by
 rcases hn with ⟨rfl, rfl⟩ | ⟨u, y, rfl, rfl, hy⟩
 . exact .inl ⟨rfl, (Option.some.inj h).symm⟩
 . unfold optI at h
   split at h
   . rename_i heq; cases heq
   . rename_i k m heq
     obtain rfl := Option.some.inj heq
     obtain rfl := Option.some.inj h
     obtain rfl := hy.int
     exact .inr ⟨k, rfl⟩
   . cases h

theorem run_sliceBounds {isSlice : Bool} {len cap : Nat} {lo hi : Option Value} {a b : Int} (h1 : (lo = none /\ a = 0) \/ ∃ k, lo = some (.int k a)) (h2 : (hi = none /\ b = len) \/ ∃ k, hi = some (.int k b))
   (ha : 0 <= a) (hab : a <= b) (hb : b <= len) (hlc : len <= cap) : (Instr.sliceBounds isSlice len cap lo hi none).run P w = .ok (a.toNat, b.toNat, cap) w := by
 have hbc : b <= cap := by omega
 have hb0 : 0 <= b := by omega
 have hbt : (b.toNat : Int) = b := by omega
 rcases h1 with ⟨rfl, rfl⟩ | ⟨k, rfl⟩ <;> rcases h2 with ⟨rfl, rfl⟩ | ⟨k', rfl⟩
 . simp [Instr.sliceBounds]
 . simp [Instr.sliceBounds, Instr.sliceBound, asIntOf, hb0, hbc]
 . have : a <= (len : Int) := by omega
   simp [Instr.sliceBounds, Instr.sliceBound, asIntOf, ha, this]
 . simp [Instr.sliceBounds, Instr.sliceBound, asIntOf, hb0, hbc, ha, hbt, hab]

theorem RepI.drop {v : Value} {sz : Nat} {rows : List (List D)} {U : Nat -> Prop} (h : RepI w U v (.sl sz rows)) : ∃ (a : Option Addr) (cap : Nat), v = .slice a rows.length cap /\ rows.length <= cap /\ ∀ lo hi : Nat, lo <= hi -> hi <= rows.length ->
  RepI w U (.slice (if cap - lo = cap - lo /\ cap = lo then a else a.map (·.add (lo * sz))) (hi - lo) (cap - lo)) (.sl sz ((rows.take hi).drop lo)) := by
 cases h with
 | nil a cap _ hn =>
  refine ⟨a, cap, rfl, Nat.zero_le _, fun lo hi h1 h2 => ?_⟩
  obtain rfl : hi = 0 := by simpa using h2
  obtain rfl : lo = 0 := by omega
  refine .nil _ _ _ fun he => ?_
  have : a = none := by
    split at he
    . exact he
    . simpa using he
  have := hn this
  omega
 | sl b o cap sz rows vals hU hlen hcap hc hr =>
  refine ⟨_, cap, rfl, hcap, fun lo hi h1 h2 => ?_⟩
  by_cases he : hi = lo
  . subst he
    have e : (rows.take hi).drop hi = [] := by
      apply List.drop_eq_nil_of_le; simp; omega
    rw [e, Nat.sub_self]
    exact .nil _ _ _ (fun he => by split at he <;> simp at he)
  . rw [if_neg (by omega)]
    have el : ((rows.take hi).drop lo).length = hi - lo := by simp; omega
    have := RepI.sl (w := w) (U := U) b (o + lo * sz) (cap - lo) sz ((rows.take hi).drop lo) (fun i j => vals (lo + i) j) hU
      (fun r hr' => hlen r (List.mem_of_mem_take (List.mem_of_mem_drop hr'))) (by rw [el]; omega)
      (fun i j r d hi' hj => by
       rw [List.getElem?_drop, List.getElem?_take] at hi'
       split at hi'
       . have := hc (lo + i) j r d hi' hj
         rw [show o + lo * sz + i * sz + j = o + (lo + i) * sz + j by rw [Nat.add_mul]; omega]
         exact this
       . cases hi')
      (fun i j r d hi' hj => by
       rw [List.getElem?_drop, List.getElem?_take] at hi'
       split at hi'
       . exact hr (lo + i) j r d hi' hj
       . cases hi')
    rw [el] at this
    simpa [Addr.add_lit] using this

theorem sliceA_sound {t : TypeId} {u : Value} {x z : V} {lo hi : Option Value} {xlo xhi : Option V} (hx : RepV w β U base u x)
   (hlo : (lo = none /\ xlo = none) \/ ∃ u y, lo = some u /\ xlo = some y /\ RepV w β U base u y) (hhi : (hi = none /\ xhi = none) \/ ∃ u y, hi = some u /\ xhi = some y /\ RepV w β U base u y)
   (h : sliceA P t x xlo xhi = some z) : ∃ v, (Instr.sliceAt t u lo hi none).run P w = .ok v w /\ RepV w β U base v z := by
 unfold sliceA at h
 split at h
 . rename_i l hu
   obtain rfl := hx.str
   split at h
   . rename_i a b h1 h2
     split at h
     . rename_i hc
       obtain rfl := Option.some.inj h
       have hl : (⟨l.toArray⟩ : ByteArray).size = l.length := by simp [ByteArray.size]
       have hb := run_sliceBounds (P := P) (w := w) (isSlice := false) (len := l.length) (cap := l.length) (optI_sound hlo h1) (optI_sound hhi h2) hc.1 hc.2.1 hc.2.2 (Nat.le_refl _)
       refine ⟨.string ((⟨l.toArray⟩ : ByteArray).extract a.toNat b.toNat), ?_, repS' _ _ ?_⟩
       . simp [Instr.sliceAt, Instr.slice, run_underlying hu, hl, hb]
       . rw [Lib.extract_data]
         simp only
         rw [List.drop_take]
     . cases h
   . cases h
 . rename_i e sz rows hu
   split at h
   . rename_i a b h1 h2
     split at h
     . rename_i hc
       obtain ⟨ha, hab, hbl, rfl, hie⟩ := hc
       obtain ⟨ie, hie⟩ := Option.isSome_iff_exists.1 hie
       obtain rfl := Option.some.inj h
       obtain ⟨a0, cap, rfl, hcap, hdrop⟩ := RepI.drop (show RepI w U u (.sl (P.cellsOf e) rows) from hx.toC)
       have hb := run_sliceBounds (P := P) (w := w) (isSlice := true) (len := rows.length) (cap := cap) (optI_sound hlo h1) (optI_sound hhi h2) ha hab hbl hcap
       refine ⟨_, ?_, repD (hdrop a.toNat b.toNat (by omega) (by omega))⟩
       simp [Instr.sliceAt, Instr.slice, run_underlying hu, hb, run_sizeOf w hie]
     . cases h
   . cases h
 . rename_i e sz rows hu
   split at h
   . rename_i a b h1 h2
     split at h
     . rename_i hc
       obtain ⟨ha, hab, hbl, rfl, hie⟩ := hc
       obtain ⟨ie, hie⟩ := Option.isSome_iff_exists.1 hie
       obtain rfl := Option.some.inj h
       obtain ⟨a0, cap, rfl, hcap, hdrop⟩ := RepI.drop (U := fun b => U b /\ base <= b) (show RepI w _ u (.sl (P.cellsOf e) rows) from hx.toC)
       have hb := run_sliceBounds (P := P) (w := w) (isSlice := true) (len := rows.length) (cap := cap) (optI_sound hlo h1) (optI_sound hhi h2) ha hab hbl hcap
       refine ⟨_, ?_, .one _ _ (hdrop a.toNat b.toNat (by omega) (by omega))⟩
       simp [Instr.sliceAt, Instr.slice, run_underlying hu, hb, run_sizeOf w hie]
     . cases h
   . cases h
 . rename_i e k ver len hu
   split at h
   . rename_i a b h1 h2
     split at h
     . rename_i hc
       obtain ⟨ha, hab, hbl, hie⟩ := hc
       obtain ⟨ie, hie⟩ := Option.isSome_iff_exists.1 hie
       obtain rfl := Option.some.inj h
       obtain ⟨a0, cap, v0, ver0, rfl, hlc, hn0, hs0, hk, hv1, hv2⟩ := hx.toC
       have hb := run_sliceBounds (P := P) (w := w) (isSlice := true) (len := len) (cap := cap) (optI_sound hlo h1) (optI_sound hhi h2) ha hab hbl hlc
       refine ⟨.slice (if cap = a.toNat then a0 else a0.map (·.add (a.toNat * P.cellsOf e))) (b.toNat - a.toNat) (cap - a.toNat), ?_, .one _ _ ⟨_, cap - a.toNat, v0, ver0, by rw [show (b - a).toNat = b.toNat - a.toNat by omega], by omega, fun hq => ?_, hk, hv1, fun hv => ⟨fun hpos => ?_, ?_⟩⟩⟩
       . simp [Instr.sliceAt, Instr.slice, run_underlying hu, hb, run_sizeOf w hie]
       . cases a0 with
         | none => obtain ⟨q1, q2⟩ := hn0 rfl; exact ⟨by omega, by omega⟩
         | some y => split at hq <;> simp at hq
       . rw [if_neg (by omega)]
         cases a0 with
         | none => have := hn0 rfl; omega
         | some y =>
           obtain ⟨g, rfl⟩ := hs0 y rfl
           exact ⟨g, len, cap, (hv2 hv).symm, by simp [Addr.add_lit], by omega⟩
       . cases a0 with
         | none =>
           obtain ⟨q1, q2⟩ := hn0 rfl
           subst q1 q2
           exact .inl ⟨(hv2 hv).symm, by split <;> rfl, by omega⟩
         | some y =>
           obtain ⟨g, rfl⟩ := hs0 y rfl
           exact .inr ⟨g, if cap = a.toNat then 0 else a.toNat * P.cellsOf e, len, cap, (hv2 hv).symm, by split <;> simp [Addr.add_lit], by omega⟩
     . cases h
   . cases h
 . rename_i e k ver sz off len hu
   split at h
   . rename_i a b h1 h2
     split at h
     . rename_i hc
       obtain ⟨ha, hab, hbl, rfl, hie⟩ := hc
       obtain ⟨ie, hie⟩ := Option.isSome_iff_exists.1 hie
       obtain rfl := Option.some.inj h
       obtain ⟨a0, cap, v0, ver0, rfl, hlc, hn0, hk, hv1, hv2⟩ := hx.toC
       have hb := run_sliceBounds (P := P) (w := w) (isSlice := true) (len := len) (cap := cap) (optI_sound hlo h1) (optI_sound hhi h2) ha hab hbl hlc
       refine ⟨.slice (if cap = a.toNat then a0 else a0.map (·.add (a.toNat * P.cellsOf e))) (b.toNat - a.toNat) (cap - a.toNat), ?_, .one _ _ ⟨_, cap - a.toNat, v0, ver0, by rw [show (b - a).toNat = b.toNat - a.toNat by omega], by omega, fun hq => ?_, hk, hv1, fun hv => ⟨fun hpos => ?_, ?_⟩⟩⟩
       . simp [Instr.sliceAt, Instr.slice, run_underlying hu, hb, run_sizeOf w hie]
       . cases a0 with
         | none => obtain ⟨q1, q2⟩ := hn0 rfl; exact ⟨by omega, by omega⟩
         | some y => split at hq <;> simp at hq
       . rw [if_neg (by omega)]
         obtain ⟨g, n, c, e1, rfl, h9⟩ := (hv2 hv).1 (by omega)
         exact ⟨g, n, c, e1, by simp [Addr.add_lit, Nat.add_mul], by clear hb e1 hv2; omega⟩
       . rcases (hv2 hv).2 with ⟨e1, rfl, e3⟩ | ⟨g, o, n, c, e1, rfl, e3⟩
         . have := hn0 rfl
           exact .inl ⟨e1, by split <;> rfl, by omega⟩
         . exact .inr ⟨g, if cap = a.toNat then o else o + a.toNat * P.cellsOf e, n, c, e1, by split <;> simp [Addr.add_lit], by omega⟩
     . cases h
   . cases h
 . rename_i e hu
   split at h
   . rename_i a b h1 h2
     split at h
     . rename_i hc
       obtain ⟨rfl, rfl, hie⟩ := hc
       obtain ⟨ie, hie⟩ := Option.isSome_iff_exists.1 hie
       obtain rfl := Option.some.inj h
       have hq : u = .slice none 0 0 := hx.toC
       subst hq
       have hb := run_sliceBounds (P := P) (w := w) (isSlice := true) (len := 0) (cap := 0) (optI_sound hlo h1) (optI_sound hhi h2) (by omega) (by omega) (by omega) (Nat.le_refl _)
       refine ⟨.slice none 0 0, ?_, .one _ _ rfl⟩
       simp [Instr.sliceAt, Instr.slice, run_underlying hu, hb, run_sizeOf w hie]
     . cases h
   . cases h
 . rename_i e c xs hu
   split at h
   . rename_i a b h1 h2
     split at h
     . rename_i hc
       obtain ⟨ha, hab, hbl, hsz, hie⟩ := hc
       obtain ⟨ie, hie⟩ := Option.isSome_iff_exists.1 hie
       obtain rfl := Option.some.inj h
       have hlen : (xs.map (enc c)).length = xs.length := by simp
       obtain ⟨a0, cap, rfl, hcap, hdrop⟩ := RepI.drop (U := U) (RepI.unst (show RepI w _ u (.st c xs) from hx.toC))
       rw [hlen] at hcap hdrop ⊢
       have hb := run_sliceBounds (P := P) (w := w) (isSlice := true) (len := xs.length) (cap := cap) (optI_sound hlo h1) (optI_sound hhi h2) ha hab hbl hcap
       have hd := hdrop a.toNat b.toNat (by omega) (by omega)
       rw [<- List.map_take, <- List.map_drop] at hd
       refine ⟨_, ?_, .one _ _ (RepI.toSt hd)⟩
       simp [Instr.sliceAt, Instr.slice, run_underlying hu, hb, run_sizeOf w hie, hsz]
     . cases h
   . cases h
 . rename_i e c xs hu
   split at h
   . rename_i a b h1 h2
     split at h
     . rename_i hc
       obtain ⟨ha, hab, hbl, hsz, hie⟩ := hc
       obtain ⟨ie, hie⟩ := Option.isSome_iff_exists.1 hie
       obtain rfl := Option.some.inj h
       have hlen : (xs.map (enc c)).length = xs.length := by simp
       obtain ⟨a0, cap, rfl, hcap, hdrop⟩ := RepI.drop (U := fun b => U b /\ base <= b) (RepI.unst (show RepI w _ u (.st c xs) from hx.toC))
       rw [hlen] at hcap hdrop ⊢
       have hb := run_sliceBounds (P := P) (w := w) (isSlice := true) (len := xs.length) (cap := cap) (optI_sound hlo h1) (optI_sound hhi h2) ha hab hbl hcap
       have hd := hdrop a.toNat b.toNat (by omega) (by omega)
       rw [<- List.map_take, <- List.map_drop] at hd
       refine ⟨_, ?_, .one _ _ (RepI.toSt hd)⟩
       simp [Instr.sliceAt, Instr.slice, run_underlying hu, hb, run_sizeOf w hie, hsz]
     . cases h
   . cases h
 . cases h

theorem fieldAddrA_sound {t : TypeId} {u : Value} {x z : V} {f : Nat} (hx : RepV w β U base u x) (h : fieldAddrA P t x f = some z) : ∃ v, (Instr.fieldAt t u f).run P w = .ok v w /\ RepV w β U base v z := by
 unfold fieldAddrA at h
 split at h
 . cases h
 rename_i o ty ht
 split at h
 . cases h
 rename_i hc
 have hsz : ¬ P.cellsOf ty = 0 := fun e => hc (.inl e)
 obtain ⟨ity, hity⟩ : ∃ i, P.info? ty = some i := by cases hi : P.info? ty <;> simp_all
 unfold tfield at ht
 split at ht
 case h_2 => cases ht
 rename_i fs hu
 rw [Option.map_eq_some_iff] at ht
 obtain ⟨fl, hf, he⟩ := ht
 cases he
 have run : ∀ a : Addr, (Instr.fieldAt t (.pointer (some a)) f).run P w = .ok (.pointer (some (a.add fl.offset))) w := fun a => by
   simp [Instr.fieldAt, run_underlying hu, hf, Instr.sureAddr, fieldPlace, run_sizeOf w hity, hsz]
 split at h
 . obtain rfl := Option.some.inj h
   obtain ⟨b, o', hk, rfl⟩ := hx.toC
   exact ⟨_, run _, .one _ _ ⟨b, o', hk, by rw [Addr.add_lit, Nat.add_assoc]⟩⟩
 . obtain rfl := Option.some.inj h
   obtain ⟨a, v0, ver0, rfl, hk, h1, h2⟩ := hx.toC
   refine ⟨_, run _, .one _ _ ⟨_, v0, ver0, rfl, hk, h1, fun e => ?_⟩⟩
   obtain ⟨g, n, c, e1, rfl⟩ := h2 e
   exact ⟨g, n, c, e1, by rw [Addr.add_lit, Nat.add_assoc]⟩
 . obtain rfl := Option.some.inj h
   obtain ⟨b, o', vals, rfl, hU, hv⟩ := hx.toC
   refine ⟨_, run _, .one _ _ ⟨b, o' + fl.offset, fun j => vals (fl.offset + j), by rw [Addr.add_lit], hU, fun j d hj => ?_⟩⟩
   rw [List.getElem?_drop] at hj
   obtain ⟨q1, q2⟩ := hv _ d hj
   exact ⟨by rw [Nat.add_assoc]; exact q1, q2⟩
 . obtain rfl := Option.some.inj h
   obtain ⟨a, v0, ver0, us, rfl, hk, h1, h2⟩ := hx.toC
   refine ⟨_, run _, .one _ _ ⟨_, v0, ver0, us, rfl, hk, h1, fun e => ?_⟩⟩
   obtain ⟨g, n, c, e1, rfl⟩ := h2 e
   exact ⟨g, n, c, e1, by rw [Addr.add_lit, Nat.add_assoc]⟩
 . cases h

theorem RepI.row {v : Value} {sz : Nat} {rows : List (List D)} {U : Nat -> Prop} (h : RepI w U v (.sl sz rows)) {i : Nat} {r : List D} (hi : rows[i]? = some r) : ∃ (b o cap : Nat) (vals : Nat -> Value), v = .slice (some ⟨b, o, none⟩) rows.length cap /\ U b /\
  ∀ (j : Nat) (d : D), r[j]? = some d -> w.cell? ⟨b, o + i * sz + j, none⟩ = some (vals j) /\ RepI w U (vals j) d := by
 cases h with
 | nil a cap _ _ => simp at hi
 | sl b o cap sz rows vals hU hlen hcap hc hr => exact ⟨b, o, cap, vals i, rfl, hU, fun j d hj => ⟨hc i j r d hi hj, hr i j r d hi hj⟩⟩

theorem indexAddrA_sound {t : TypeId} {u y : Value} {x i z : V} (hx : RepV w β U base u x) (hi : RepV w β U base y i) (h : indexAddrA P t x i = some z) : ∃ v, (Instr.indexAt t u y).run P w = .ok v w /\ RepV w β U base v z := by
 unfold indexAddrA at h
 split at h
 case h_2 => cases h
 rename_i kk n
 obtain rfl := hi.int
 split at h
 case isFalse => cases h
 rename_i hn
 have arr : ∀ (len : Nat) (e : TypeId) (a : Addr), P.underlying t = some (.array len e) -> n < len -> (P.info? e).isSome = true -> (Instr.indexAt t (.pointer (some a)) (.int kk n)).run P w = .ok (.pointer (some (a.add (n.toNat * P.cellsOf e)))) w := by
   intro len e a hu hl hie
   obtain ⟨ie, hie⟩ := Option.isSome_iff_exists.1 hie
   simp [Instr.indexAt, asIntOf, run_underlying hu, Instr.sureAddr, hn, hl, run_sizeOf w hie]
 have sl : ∀ (e : TypeId) (a : Addr) (len cap : Nat), P.underlying t = some (.slice e) -> n < len -> (P.info? e).isSome = true -> (Instr.indexAt t (.slice (some a) len cap) (.int kk n)).run P w = .ok (.pointer (some (a.add (n.toNat * P.cellsOf e)))) w := by
   intro e a len cap hu hl hie
   obtain ⟨ie, hie⟩ := Option.isSome_iff_exists.1 hie
   simp [Instr.indexAt, asIntOf, run_underlying hu, hn, hl, run_sizeOf w hie]
 split at h
 . rename_i len e k off hu
   split at h
   case isFalse => cases h
   rename_i hc
   obtain rfl := Option.some.inj h
   obtain ⟨b, o', hk, rfl⟩ := hx.toC
   exact ⟨_, arr len e _ hu hc.1 hc.2, .one _ _ ⟨b, o', hk, by rw [Addr.add_lit, Nat.add_assoc]⟩⟩
 . rename_i len e k ver sz i off hu
   split at h
   case isFalse => cases h
   rename_i hc
   obtain rfl := Option.some.inj h
   obtain ⟨a, v0, ver0, rfl, hk, h1, h2⟩ := hx.toC
   refine ⟨_, arr len e _ hu hc.1 hc.2, .one _ _ ⟨_, v0, ver0, rfl, hk, h1, fun e' => ?_⟩⟩
   obtain ⟨g, m, c, e1, rfl⟩ := h2 e'
   exact ⟨g, m, c, e1, by rw [Addr.add_lit, Nat.add_assoc]⟩
 . rename_i len e cells hu
   split at h
   case isFalse => cases h
   rename_i hc
   obtain rfl := Option.some.inj h
   obtain ⟨b, o', vals, rfl, hU, hv⟩ := hx.toC
   refine ⟨_, arr len e _ hu hc.1 hc.2, .one _ _ ⟨b, _, fun j => vals (n.toNat * P.cellsOf e + j), by rw [Addr.add_lit], hU, fun j d hj => ?_⟩⟩
   rw [List.getElem?_drop] at hj
   obtain ⟨q1, q2⟩ := hv _ d hj
   exact ⟨by rw [Nat.add_assoc]; exact q1, q2⟩
 . rename_i e sz rows hu
   split at h
   case isFalse => cases h
   rename_i hc
   rw [Option.map_eq_some_iff] at h
   obtain ⟨r, hr, rfl⟩ := h
   obtain ⟨b, o, cap, vals, rfl, hU, hv⟩ := RepI.row (show RepI w U u (.sl sz rows) from hx.toC) hr
   have hlt : n < rows.length := by have := (List.getElem?_eq_some_iff.1 hr).1; omega
   exact ⟨_, sl e _ _ cap hu hlt hc.2, .one _ _ ⟨b, o + n.toNat * sz, vals, by rw [Addr.add_lit, hc.1], hU, hv⟩⟩
 . rename_i e sz rows hu
   split at h
   case isFalse => cases h
   rename_i hc
   rw [Option.map_eq_some_iff] at h
   obtain ⟨r, hr, rfl⟩ := h
   obtain ⟨b, o, cap, vals, rfl, hU, hv⟩ := RepI.row (U := fun b => U b /\ base <= b) (show RepI w _ u (.sl sz rows) from hx.toC) hr
   have hlt : n < rows.length := by have := (List.getElem?_eq_some_iff.1 hr).1; omega
   exact ⟨_, sl e _ _ cap hu hlt hc.2, .one _ _ ⟨b, o + n.toNat * sz, vals, by rw [Addr.add_lit, hc.1], hU.1, fun j d hj => ⟨(hv j d hj).1, ((hv j d hj).2).mono (fun _ hb => hb.1) (fun _ _ => rfl)⟩⟩⟩
 . rename_i e k ver len hu
   split at h
   case isFalse => cases h
   rename_i hc
   obtain rfl := Option.some.inj h
   obtain ⟨a0, cap, v0, ver0, rfl, hlc, hn0, hs0, hk, hv1, hv2⟩ := hx.toC
   cases a0 with
   | none => have := hn0 rfl; omega
   | some a0 =>
    obtain ⟨g, rfl⟩ := hs0 a0 rfl
    exact ⟨_, sl e _ _ cap hu hc.1 hc.2, .one _ _ ⟨_, v0, ver0, rfl, hk, hv1, fun e' => ⟨g, len, cap, (hv2 e').symm, by rw [Addr.add_lit]; simp⟩⟩⟩
 . rename_i e k ver sz off len hu
   split at h
   case isFalse => cases h
   rename_i hc
   obtain rfl := Option.some.inj h
   obtain ⟨a0, cap, v0, ver0, rfl, hlc, hn0, hk, hv1, hv2⟩ := hx.toC
   cases a0 with
   | none => have := hn0 rfl; omega
   | some a0 =>
    refine ⟨_, sl e _ _ cap hu hc.1 hc.2.2, .one _ _ ⟨_, v0, ver0, rfl, hk, hv1, fun e' => ?_⟩⟩
    obtain ⟨g, m, c, e1, e2, _⟩ := (hv2 e').1 (by omega)
    cases e2
    exact ⟨g, m, c, e1, by rw [Addr.add_lit, <- hc.2.1, Nat.add_mul]; simp⟩
 . rename_i e k ver len room hu
   split at h
   case isFalse => cases h
   rename_i hc
   obtain rfl := Option.some.inj h
   obtain ⟨a0, cap, v0, ver0, us, rfl, hlr, hlc, hn0, hs0, hk, hv1, hv2⟩ := hx.toC
   cases a0 with
   | none => have := hn0 rfl; omega
   | some a0 =>
    obtain ⟨g, rfl⟩ := hs0 a0 rfl
    exact ⟨_, sl e _ _ cap hu hc.1 hc.2, .one _ _ ⟨_, v0, ver0, us, rfl, hk, hv1, fun e' => ⟨g, len, cap, (hv2 e').symm, by rw [Addr.add_lit]; simp⟩⟩⟩
 . rename_i e c xs hu
   split at h
   case isFalse => cases h
   rename_i hc
   rw [Option.map_eq_some_iff] at h
   obtain ⟨t', ht, rfl⟩ := h
   have hr : (xs.map (enc c))[n.toNat]? = some (enc c t') := by rw [List.getElem?_map, ht]; rfl
   obtain ⟨b, o, cap, vals, rfl, hU, hv⟩ := RepI.row (U := U) (RepI.unst (show RepI w _ u (.st c xs) from hx.toC)) hr
   have hlt : n < (xs.map (enc c)).length := by have := (List.getElem?_eq_some_iff.1 hr).1; omega
   exact ⟨_, sl e _ _ cap hu hlt hc.2, .one _ _ ⟨b, o + n.toNat * esz c, vals, by rw [Addr.add_lit, hc.1], hU, hv⟩⟩
 . rename_i e c xs hu
   split at h
   case isFalse => cases h
   rename_i hc
   rw [Option.map_eq_some_iff] at h
   obtain ⟨t', ht, rfl⟩ := h
   have hr : (xs.map (enc c))[n.toNat]? = some (enc c t') := by rw [List.getElem?_map, ht]; rfl
   obtain ⟨b, o, cap, vals, rfl, hU, hv⟩ := RepI.row (U := fun b => U b /\ base <= b) (RepI.unst (show RepI w _ u (.st c xs) from hx.toC)) hr
   have hlt : n < (xs.map (enc c)).length := by have := (List.getElem?_eq_some_iff.1 hr).1; omega
   exact ⟨_, sl e _ _ cap hu hlt hc.2, .one _ _ ⟨b, o + n.toNat * esz c, vals, by rw [Addr.add_lit, hc.1], hU.1, fun j d hj => ⟨(hv j d hj).1, ((hv j d hj).2).mono (fun _ hb => hb.1) (fun _ _ => rfl)⟩⟩⟩
 . cases h

theorem clp_sound {r : Operand -> Value} {ρ : Operand -> V} (hρ : ∀ y, RepV w β U base (r y) (ρ y)) : ∀ (l : List Operand) (ks : List (Nat × Nat)), (l.map ρ).mapM toP1 = some ks ->
  (l.map r).length = ks.length /\ ∀ (j : Nat) (u : Value) (p : Nat × Nat), (l.map r)[j]? = some u -> ks[j]? = some p -> ∃ b o, β p.1 = some (.cells b o) /\ u = .pointer (some ⟨b, o + p.2, none⟩) := by
 intro l
 induction l with
 | nil => intro ds h; simp at h; subst h; exact ⟨rfl, fun j u d hu hd => by simp at hu⟩
 | cons y l ih =>
  intro ds h
  simp only [List.map_cons, List.mapM_cons, Option.bind_eq_bind, Option.pure_def, Option.bind_eq_some_iff, Option.some.injEq] at h
  obtain ⟨d, hd, ds', hds, rfl⟩ := h
  obtain ⟨h1, h2⟩ := ih ds' hds
  refine ⟨by simpa using h1, fun j u d' hu hd' => ?_⟩
  cases j with
  | zero =>
   simp at hu hd'
   subst hu; subst hd'
   have hy := hρ y
   unfold toP1 at hd
   split at hd
   . rename_i k o e
     obtain rfl := Option.some.inj hd
     rw [e] at hy; exact hy.toC
   . cases hd
  | succ j => exact h2 j u d' (by simpa using hu) (by simpa using hd')

theorem clo_sound {r : Operand -> Value} {ρ : Operand -> V} (hρ : ∀ y, RepV w β U base (r y) (ρ y)) : ∀ (l : List Operand) (ds : List D), (l.map ρ).mapM toD1 = some ds ->
  (l.map r).length = ds.length /\ ∀ (j : Nat) (u : Value) (d : D), (l.map r)[j]? = some u -> ds[j]? = some d -> RepI w U u d := by
 intro l
 induction l with
 | nil => intro ds h; simp at h; subst h; exact ⟨rfl, fun j u d hu hd => by simp at hu⟩
 | cons y l ih =>
  intro ds h
  simp only [List.map_cons, List.mapM_cons, Option.bind_eq_bind, Option.pure_def, Option.bind_eq_some_iff, Option.some.injEq] at h
  obtain ⟨d, hd, ds', hds, rfl⟩ := h
  obtain ⟨h1, h2⟩ := ih ds' hds
  refine ⟨by simpa using h1, fun j u d' hu hd' => ?_⟩
  cases j with
  | zero =>
   simp at hu hd'
   subst hu; subst hd'
   have hy := hρ y
   unfold toD1 at hd
   split at hd
   . rename_i x e
     obtain rfl := Option.some.inj hd
     rw [e] at hy; exact hy.toC
   . rename_i x e
     obtain rfl := Option.some.inj hd
     rw [e] at hy
     have hc : RepI w (fun b => U b /\ base <= b) _ x := hy.toC
     exact hc.mono (fun _ hb => hb.1) (fun _ _ => rfl)
   . cases hd
  | succ j => exact h2 j u d' (by simpa using hu) (by simpa using hd')

theorem minmaxA_sound {mn : Bool} {r : Operand -> Value} {ρ : Operand -> V} (hρ : ∀ y, RepV w β U base (r y) (ρ y)) {ats : Array TypeId} {ty : TypeId} {args : Array Operand} {z : V} (h : minmaxA mn (args.toList.map ρ) = some z) :
  ∃ v, (if mn then Builtin.min_ ats ty (args.map r) else Builtin.max_ ats ty (args.map r)).run P w = .ok v w /\ RepV w β U base v z := by
 obtain ⟨l⟩ := args
 match l with
 | [] => simp [minmaxA] at h
 | [p] => simp [minmaxA] at h
 | p :: q :: t :: u =>
  unfold minmaxA at h
  split at h
  . rename_i e; simp at e
  . cases h
 | [p, q] =>
  simp only [List.map_cons, List.map_nil] at h
  have hp := hρ p
  have hq := hρ q
  unfold minmaxA at h
  split at h
  . rename_i k x k' y e
    simp only [List.cons.injEq, and_true] at e
    rw [e.1] at hp; rw [e.2] at hq
    split at h
    . rename_i hk
      subst hk
      obtain rfl := Option.some.inj h
      cases mn
      . exact ⟨.int k (if y > x then y else x), by simp [Builtin.max_, hp.int, hq.int, Builtin.max2], repI _ _⟩
      . exact ⟨.int k (if y < x then y else x), by simp [Builtin.min_, hp.int, hq.int, Builtin.min2], repI _ _⟩
    . cases h
  . cases h

theorem parts_sound {r : Operand -> Value} {ρ : Operand -> V} (hρ : ∀ y, RepV w β U base (r y) (ρ y)) : ∀ (l : List (Nat × Operand)), RepParts w β U base (l.map fun p => (p.1, r p.2)) (l.map fun p => (p.1, ρ p.2))
 | [] => trivial
 | _ :: l => ⟨rfl, hρ _, parts_sound hρ l⟩

theorem opt_sound {r : Operand -> Value} {ρ : Operand -> V} (hρ : ∀ y, RepV w β U base (r y) (ρ y)) (o : Option Operand) : (o.map r = none /\ o.map ρ = none) \/ ∃ u y, o.map r = some u /\ o.map ρ = some y /\ RepV w β U base u y := by
 cases o with
 | none => exact .inl ⟨rfl, rfl⟩
 | some x => exact .inr ⟨_, _, rfl, rfl, hρ x⟩

theorem effQ_sound {r : Operand -> Value} {ρ : Operand -> V} (hρ : ∀ y, RepV w β U base (r y) (ρ y)) (o : Oper) {x : V} (h : effQ P o.op ρ = some x) :
   ∃ v, (execOp r o).run P w = .ok (.value v) w /\ RepV w β U base v x := by
 have wrap : ∀ {s : Sem Value} {v : Value}, s.run P w = .ok v w -> (do pure (.value (<- s)) : Sem Next).run P w = .ok (.value v) w := fun {s v} hs => by
   rw [Sem.run_bind, hs]; rfl
 unfold effQ at h
 split at h
 . rename_i y ho
   obtain rfl := Option.some.inj h
   exact ⟨_, by simp [execOp, ho], hρ y⟩
 . rename_i y ho
   obtain rfl := Option.some.inj h
   exact ⟨_, by simp [execOp, ho], hρ y⟩
 . rename_i c a b ho
   split at h
   . rename_i t e
     obtain rfl := Option.some.inj h
     have hc := hρ c
     rw [e] at hc
     exact ⟨_, by simp [execOp, ho, hc.bool, asBool], pickV_sound (hρ a) (hρ b)⟩
   . cases h
 . rename_i t parts ho
   obtain ⟨v, h1, h2⟩ := buildA_sound (P := P) (ps := parts.map fun (i, y) => (i, r y)) (by simpa using parts_sound hρ parts.toList) h
   exact ⟨v, by simp only [execOp, ho]; exact wrap h1, h2⟩
 . rename_i op t a b u ho
   obtain ⟨v, h1, h2⟩ := binA_sound (P := P) a b (hρ a) (hρ b) h
   exact ⟨v, by simp only [execOp, ho]; exact wrap h1, h2⟩
 . rename_i op t a ho
   obtain ⟨v, h1, h2⟩ := unA_sound (P := P) (hρ a) h
   exact ⟨v, by simp only [execOp, ho]; exact wrap h1, h2⟩
 . rename_i src dst a ho
   obtain ⟨v, h1, h2⟩ := convA_sound (P := P) (hρ a) h
   exact ⟨v, by simp only [execOp, ho]; exact wrap h1, h2⟩
 . rename_i t a lo hi ho
   obtain ⟨v, h1, h2⟩ := sliceA_sound (P := P) (hρ a) (opt_sound hρ lo) (opt_sound hρ hi) h
   exact ⟨v, by simp only [execOp, ho]; exact wrap h1, h2⟩
 . rename_i t a f ho
   obtain ⟨v, h1, h2⟩ := fieldAddrA_sound (P := P) (hρ a) h
   exact ⟨v, by simp only [execOp, ho]; exact wrap h1, h2⟩
 . rename_i t a f ho
   obtain ⟨v, h1, h2⟩ := fieldA_sound (P := P) (hρ a) h
   exact ⟨v, by simp only [execOp, ho]; exact wrap h1, h2⟩
 . rename_i t a i ho
   obtain ⟨v, h1, h2⟩ := indexAddrA_sound (P := P) (hρ a) (hρ i) h
   exact ⟨v, by simp only [execOp, ho]; exact wrap h1, h2⟩
 . rename_i t a i ho
   obtain ⟨v, h1, h2⟩ := indexA_sound (P := P) (hρ a) (hρ i) h
   exact ⟨v, by simp only [execOp, ho]; exact wrap h1, h2⟩
 . rename_i t i ho
   split at h
   . rename_i vs e
     have ht := hρ t
     rw [e] at ht
     cases ht' : r t with
     | tuple us =>
       rw [ht'] at ht
       cases ht with
       | tup us xs hl hr =>
        have hj : i < us.length := by rw [hl]; exact (List.getElem?_eq_some_iff.1 h).1
        refine ⟨us[i], ?_, hr i _ x (List.getElem?_eq_getElem hj) h⟩
        simp [execOp, ho, ht', Instr.extract, hj]
     | _ => rw [ht'] at ht; cases ht
   . cases h
 . rename_i y ho
   obtain ⟨h1, h2⟩ := nilA_sound (P := P) o y ho r rfl (hρ y) h
   exact ⟨_, h1, h2⟩
 . rename_i f first captured ho
   split at h
   . rename_i hf
     have hf' : first = #[] := by simpa using hf
     split at h
     . rename_i ds hds
       obtain rfl := Option.some.inj h
       obtain ⟨h1, h2⟩ := clo_sound hρ captured.toList ds hds
       refine ⟨.func (.func f) #[] (captured.toList.map r).toArray, ?_, .one _ _ ⟨_, rfl, h1, h2⟩⟩
       obtain ⟨l⟩ := captured
       simp [execOp, ho, Instr.makeFunc, hf']
     . rw [Option.map_eq_some_iff] at h
       obtain ⟨ks, hks, rfl⟩ := h
       obtain ⟨h1, h2⟩ := clp_sound hρ captured.toList ks hks
       refine ⟨.func (.func f) #[] (captured.toList.map r).toArray, ?_, .one _ _ ⟨_, rfl, h1, h2⟩⟩
       obtain ⟨l⟩ := captured
       simp [execOp, ho, Instr.makeFunc, hf']
   . cases h
 . rename_i args ats ho
   split at h
   . rename_i t y e1 e2
     obtain ⟨v, h1, h2⟩ := lenA_sound (P := P) (ty := o.type) (hρ y) h
     have ea : ats = #[t] := by cases ats; simp_all
     have eb : args = #[y] := by cases args; simp_all
     subst ea; subst eb
     exact ⟨v, by simp only [execOp, ho, resolve, Sem.run_bind, Sem.run_pure, Result.andThen_ok, invoke, builtin]; rw [show Builtin.len_ #[t] o.type (Array.map r #[y]) = Builtin.len_ #[t] o.type #[r y] by simp, h1]; rfl, h2⟩
   . cases h
 . rename_i args ats ho
   obtain ⟨v, h1, h2⟩ := minmaxA_sound (P := P) hρ (ats := ats) (ty := o.type) h
   exact ⟨v, by simp only [execOp, ho, resolve, Sem.run_bind, Sem.run_pure, Result.andThen_ok, invoke, builtin]; simp only [if_true] at h1; rw [h1]; rfl, h2⟩
 . rename_i args ats ho
   obtain ⟨v, h1, h2⟩ := minmaxA_sound (P := P) hρ (ats := ats) (ty := o.type) h
   exact ⟨v, by simp only [execOp, ho, resolve, Sem.run_bind, Sem.run_pure, Result.andThen_ok, invoke, builtin]; simp only [Bool.false_eq_true, if_false] at h1; rw [h1]; rfl, h2⟩
 . cases h
end
end Go.Proofs.Ythnijeclidpooaa.Abs
namespace Go.Proofs.Ythnijeclidpooaa.Abs
open Go Go.RowKit

structure Eff where
 val : V
 mem : Option (Nat × Blk)

def St.app (s : St) (dst : Option Nat) (E : Eff) : St := (match E.mem with | some (k, b) => s.set k b | none => s).put dst E.val

def toC (fr : Bool) (x : D) : C := match x with | .sl sz rows => (match fr with | true => .f (.sl sz rows) | false => .d (.sl sz rows)) | .st c xs => (match fr with | true => .f (.st c xs) | false => .d (.st c xs)) | x => .d x
def toD (c : C) : Option D := match c with | .d x => some x | .f x => some x | .nil => some (.sl 0 []) | _ => none
def D.flat (x : D) : Bool := match x with | .sl _ _ => false | .st _ _ => false | .tr _ => false | _ => true
def C.fresh (c : C) : Bool := match c with | .d x => x.flat | .f _ => true | .nil => true | _ => false
def rowInt (r : List D) : Option Int := match r with | [.i .u8 n] => some n | _ => none
def rowBytes (rows : List (List D)) : Option (List UInt8) := (rows.mapM rowInt).map fun l => l.map fun n => UInt8.ofNat n.toNat

def flatT (c : Nat) : Bool := match c with | 6 => false | 12 => false | 22 => false | 23 => false | _ => true
theorem flatT_all : ∀ (c : Nat) (t : τ c), flatT c = true -> (enc c t).all D.flat = true := by
 intro c t h
 match c, t with
 | 6, _ | 12, _ | 22, _ | 23, _ => cases h
 | 0, _ | 1, _ | 2, _ | 3, _ | 4, _ | 5, _ | 7, _ | 8, _ | 9, _ | 10, _ | 11, _ | 13, _ | 14, _ | 15, _ | 16, _ | 17, _ | 18, _ | 19, _ | 20, _ | 21, _ | 24, _ | 25, _ | 26, _ | 27, _ | 28, _ | 29, _ => rfl
 | n + 30, _ => rfl
def rowsOf (m : Nat -> Option Blk) (x : V) : Option (Nat × List (List D) × Bool) :=
 match x with
 | .one (.d (.sl sz rows)) => some (sz, rows, rows.all fun r => r.all D.flat)
 | .one (.f (.sl sz rows)) => some (sz, rows, true)
 | .one (.own k ver _) => match (m k).map Blk.std with
  | some (.row ver' _ sz _ fr rows) => if ver = ver' then some (sz, rows, fr) else none
  | _ => none
 | .one (.sub k ver sz off len) => match (m k).map Blk.std with
  | some (.row ver' _ sz' _ fr rows) => if ver = ver' /\ sz = sz' /\ off + len <= rows.length then some (sz, (rows.drop off).take len, fr) else none
  | _ => none
 | .one (.d (.st c xs)) => some (esz c, xs.map (enc c), flatT c)
 | .one (.f (.st c xs)) => some (esz c, xs.map (enc c), true)
 | .one (.pre k ver _ len) => match (m k).map Blk.std with
  | some (.row ver' _ sz _ fr rows) => if ver = ver' then some (sz, rows.take len, fr) else none
  | _ => none
 | .one (.nn (.st c xs)) => some (esz c, xs.map (enc c), flatT c)
 | _ => none

def effR (P : Program) (op : Op) (ρ : Operand -> V) (m : Nat -> Option Blk) : Option V :=
 match op with
 | .load t a => match ρ a with
  | .one (.ptr k off) => match m k with
   | some (.cells cs) => partC P t cs off
   | _ => none
  | .one (.pv cells) => partC P t (cells.map C.d) 0
  | .one (.pr k ver sz i off) => match m k with
   | some (.row ver' _ sz' _ fr rows) => if ver = ver' /\ sz = sz' then match rows[i]? with
    | some r => partC P t (r.map (toC fr)) off
    | none => none
    else none
   | some (.rowT ver' _ c _ fr xs) => if ver = ver' /\ sz = esz c then match xs[i]? with
    | some r => partC P t ((enc c r).map (toC fr)) off
    | none => none
    else none
   | _ => none
  | _ => none
 | .convert src dst x => match telem P src, P.underlying dst with
  | some e, some .string => match P.underlying e with
   | some (.int .u8) => match ρ x with
    | .one .nil => some (vs [])
    | y => match rowsOf m y with
     | some (1, rows, _) => (rowBytes rows).map vs
     | _ => none
   | _ => none
  | _, _ => none
 | _ => none

def chunks {α : Type} (n sz : Nat) (cs : List α) : List (List α) := (List.range n).map fun i => (cs.drop (i * sz)).take sz

def effW (P : Program) (dst : Option Nat) (op : Op) (ρ : Operand -> V) (m : Nat -> Option Blk) : Option Eff :=
 match dst, op with
 | some k, .alloc t => match m k, tzero P t with
  | none, some cs => if 0 < cs.length then some ⟨.one (.ptr k 0), some (k, .cells cs)⟩ else none
  | _, _ => none
 | some k, .box _ x => match m k, (ρ x).cells with
  | none, some cs => if 0 < cs.length then some ⟨.one (.ptr k 0), some (k, .cells cs)⟩ else none
  | _, _ => none
 | none, .store t a x => match (ρ x).cells with
  | some xs => if xs.length = tsz P t /\ (P.info? t).isSome then match ρ a with
   | .one (.ptr k off) => match m k with
    | some (.cells cs) => if off + xs.length <= cs.length then some ⟨.one .un, some (k, .cells (spliceC cs off xs))⟩ else none
    | _ => none
   | _ => none
   else none
  | none => none
 | some k, .buildSlice t len parts => match m k, telem P t with
  | none, some e => match tzero P e with
   | some zero => if len * zero.length <= 2 ^ 24 /\ len <= maxLen /\ 0 < len * zero.length then
     match fillA (fun i => some (i * zero.length, zero.length)) ((List.range (len * zero.length)).map fun i => zero.getD (i % zero.length) .bad) (parts.toList.map fun p => (p.1, ρ p.2)) with
     | some cs => match cs.mapM toD with
      | some ds => some ⟨.one (.own k 0 len), some (k, .row 0 e zero.length (noSp e) (cs.all C.fresh) (chunks len zero.length ds))⟩
      | none => none
     | none => none
    else none
   | none => none
  | _, _ => none
 | some k, .convert src dst x => match m k, P.underlying src, telem P dst with
  | none, some .string, some e => match P.underlying e, ρ x with
   | some (.int .u8), .one (.d (.s l)) => if l.length <= maxLen then some ⟨.one (.own k 0 l.length), some (k, .row 0 e 1 false true (l.map fun b => [.i .u8 b.toNat]))⟩ else none
   | _, _ => none
  | _, _, _ => none
 | some d, .call { callee := .builtin .append, args, argTypes } => match args.toList, argTypes.toList with
  | [x, y], [t, t'] => if t = t' then match telem P t with
   | some e => match rowsOf m (ρ y) with
    | some (sz, new, fr') => if sz = P.cellsOf e /\ 0 < sz /\ tzero P e ≠ none then match ρ x with
     | .one .nil => if m d = none /\ new.length * P.bytesOf e <= 140737488355328 /\ new.length <= maxLen then some ⟨.one (.own d 0 new.length), some (d, .row 0 e sz (itFlag e ((tzero P e).getD []) new) fr' new)⟩ else none
     | .one (.own k ver _) => match (m k).map Blk.std with
      | some (.row ver' e' sz' ap fr rows) => if ver = ver' /\ e = e' /\ sz = sz' /\ ap = true /\ (rows.length + new.length) * P.bytesOf e <= 140737488355328 /\ rows.length + new.length <= maxLen then
       some ⟨.one (.own k (ver + 1) (rows.length + new.length)), some (k, .row (ver + 1) e sz (itFlag e ((tzero P e).getD []) new) (fr && fr') (rows ++ new))⟩ else none
      | _ => none
     | _ => none
     else none
    | none => none
   | none => none
   else none
  | _, _ => none
 | _, _ => none

def eff (P : Program) (dst : Option Nat) (op : Op) (ρ : Operand -> V) (m : Nat -> Option Blk) : Option Eff :=
 match effQ P op ρ with
 | some v => some ⟨v, none⟩
 | none => match effR P op ρ m with
  | some v => some ⟨v, none⟩
  | none => effW P dst op ρ m

section
variable {P : Program} {w0 : World} {U0 : Nat -> Prop} {X : Nat -> Nat -> Prop} {β0 : Nat -> Option Place} {β : Nat -> Option Place} {U : Nat -> Prop} {s : St} {a : Act} {w : World} {base : Nat}

theorem SimB.placeCells (h : SimB w0 U0 X β0 β U s a w) {k : Nat} {cs : List C} (hb : s.blk k = some (.cells cs)) {b o : Nat} (hk : β k = some (.cells b o)) : RepB w β U w0.heap.size (.cells b o) (.cells cs) := by
 obtain ⟨p, hp, hr⟩ := h.mem k _ hb
 rw [hk] at hp
 cases hp
 exact hr

theorem SimB.placeRow (h : SimB w0 U0 X β0 β U s a w) {k : Nat} {ver : Nat} {e : TypeId} {sz : Nat} {ap fr : Bool} {rows : List (List D)} (hb : s.blk k = some (.row ver e sz ap fr rows)) {v : Value} {ver0 : Nat} (hk : β k = some (.row v ver0)) :
  RepB w β U w0.heap.size (.row v ver0) (.row ver e sz ap fr rows) := by
 obtain ⟨p, hp, hr⟩ := h.mem k _ hb
 rw [hk] at hp
 cases hp
 exact hr

theorem SimB.placeStd (h : SimB w0 U0 X β0 β U s a w) {k : Nat} {ver : Nat} {e : TypeId} {sz : Nat} {ap fr : Bool} {rows : List (List D)} (hb : (s.blk k).map Blk.std = some (.row ver e sz ap fr rows)) {v : Value} {ver0 : Nat} (hk : β k = some (.row v ver0)) :
  RepB w β U w0.heap.size (.row v ver0) (.row ver e sz ap fr rows) := by
 obtain ⟨b, hb1, hb2⟩ := Option.map_eq_some_iff.1 hb
 obtain ⟨p, hp, hr⟩ := h.mem k _ hb1
 rw [hk] at hp
 cases hp
 unfold RepB at hr ⊢
 rw [hb2] at hr
 exact hr

theorem load_part {t : TypeId} {b o off : Nat} {cs : List C} {x : V} (hc : ∀ (j : Nat) (c : C), cs[j]? = some c -> ∃ v, w.cell? ⟨b, o + j, none⟩ = some v /\ v.oneCell' = true /\ RepC w β U base v c)
   (h : partC P t cs off = some x) : ∃ v, (Instr.loadAt t (.pointer (some ⟨b, o + off, none⟩))).run P w = .ok v w /\ RepV w β U base v x := by
 unfold partC at h
 split at h
 . cases h
 rename_i hn
 have hs : (P.underlying t).isSome = true := by cases hu : P.underlying t <;> simp_all
 split at h
 . rename_i ha
   split at h
   . rename_i hle
     obtain rfl := Option.some.inj h
     obtain ⟨it, hit⟩ := info_of_underlying hs
     have hsz : tsz P t = it.size := by simp [tsz, Program.cellsOf, hit]
     -- the cells' values
     have hv : ∃ vs : List Value, vs.length = tsz P t /\ ∀ j v, vs[j]? = some v -> w.cell? ⟨b, o + off + j, none⟩ = some v /\ v.oneCell' = true /\ ∀ c, cs[off + j]? = some c -> RepC w β U base v c := by
       generalize tsz P t = n at hle
       clear hsz
       induction n with
       | zero => exact ⟨[], rfl, fun j v hv => by simp at hv⟩
       | succ n ih =>
         obtain ⟨vs, hl, hvs⟩ := ih (by omega)
         have hlt : off + n < cs.length := by omega
         obtain ⟨v, h1, h2, h3⟩ := hc (off + n) cs[off + n] (List.getElem?_eq_getElem hlt)
         refine ⟨vs ++ [v], by simp [hl], fun j u hu => ?_⟩
         by_cases hj : j < vs.length
         . rw [List.getElem?_append_left hj] at hu; exact hvs j u hu
         . have : j = n := by
            have := (List.getElem?_eq_some_iff.1 hu).1
            simp at this; omega
           subst this
           rw [List.getElem?_append_right (by omega), hl, Nat.sub_self] at hu
           obtain rfl : v = u := by simpa using hu
           exact ⟨by rw [Nat.add_assoc]; exact h1, h2, fun c hcc => by rw [List.getElem?_eq_getElem hlt] at hcc; cases hcc; exact h3⟩
     obtain ⟨vs, hl, hvs⟩ := hv
     have hload : (loadCells ⟨b, o + off, none⟩ it.size).run P w = .ok vs.toArray w := by
       rw [<- hsz, <- hl]
       exact run_loadCells_list (P := P) w ⟨b, o + off, none⟩ vs fun j v hv => by rw [Addr.add_lit]; exact (hvs j v hv).1
     refine ⟨.agg vs.toArray, ?_, .agg _ _ (by simp [hl]; omega) (fun u hu => ?_) (fun j u c hu hc' => ?_)⟩
     . have hagg : (isAgg t).run P w = .ok true w := by
         unfold tagg at ha
         unfold isAgg
         split at ha
         . rename_i fs hu; rw [Sem.run_bind, run_underlying hu]; rfl
         . rename_i n e hu; rw [Sem.run_bind, run_underlying hu]; rfl
         . cases ha
       simp [Instr.loadAt, Instr.sureAddr, loadVar, hagg, sizeOf, typeInfo, hit, hload]
     . obtain ⟨j, hj⟩ := List.mem_iff_getElem?.1 hu
       exact (hvs j u hj).2.1
     . have := (hvs j u hu).2.2
       rw [List.getElem?_take] at hc'
       split at hc'
       . rw [List.getElem?_drop] at hc'; exact this c hc'
       . cases hc'
   . cases h
 . rename_i ha
   rw [Option.map_eq_some_iff] at h
   obtain ⟨c, hcc, rfl⟩ := h
   obtain ⟨v, h1, h2, h3⟩ := hc off c hcc
   refine ⟨v, ?_, .one _ _ h3⟩
   simp [Instr.loadAt, Instr.sureAddr, loadVar, run_isAgg_no (by simpa using ha) hs, h1]

theorem toC_sound {fr : Bool} {u : Value} {x : D} (h : RepI w (fun b => U b /\ (fr = true -> base <= b)) u x) : RepC w β U base u (toC fr x) := by
 have hU : RepI w U u x := h.mono (fun _ hb => hb.1) (fun _ _ => rfl)
 cases x with
 | sl sz rows => cases fr; exact hU; exact h.mono (fun b hb => ⟨hb.1, hb.2 rfl⟩) (fun _ _ => rfl)
 | st c xs => cases fr; exact hU; exact h.mono (fun b hb => ⟨hb.1, hb.2 rfl⟩) (fun _ _ => rfl)
 | _ => exact hU

theorem rowInts_get : ∀ (rows : List (List D)) (l : List Int), rows.mapM rowInt = some l -> rows.length = l.length /\ ∀ (j : Nat) (n : Int), l[j]? = some n -> rows[j]? = some [.i .u8 n]
 | [], l, h => by simp at h; subst h; exact ⟨rfl, fun j n hr => by simp at hr⟩
 | r :: rows, l, h => by
  simp only [List.mapM_cons, Option.bind_eq_bind, Option.pure_def, Option.bind_eq_some_iff, Option.some.injEq] at h
  obtain ⟨b, hb, l', hl', rfl⟩ := h
  obtain ⟨h1, h2⟩ := rowInts_get rows l' hl'
  refine ⟨by simp [h1], fun j n hn => ?_⟩
  cases j with
  | zero =>
   simp at hn
   subst hn
   unfold rowInt at hb
   split at hb
   . cases hb; rfl
   . cases hb
  | succ j => simpa using h2 j n (by simpa using hn)

theorem foldl_push (l : List Int) : ∀ r : ByteArray, l.foldl (fun r n => r.push (UInt8.ofNat n.toNat)) r = ⟨r.data ++ (l.map fun n => UInt8.ofNat n.toNat).toArray⟩ := by
 induction l with
 | nil => intro r; simp
 | cons b l ih =>
  intro r
  simp only [List.foldl_cons, List.map_cons]
  rw [ih]
  simp [ByteArray.push]

theorem run_bytes_back {src dst e : TypeId} {g o cap : Nat} {rows : List (List D)} {l : List UInt8} (hs : P.underlying src = some (.slice e)) (he : P.underlying e = some (.int .u8)) (hd : P.underlying dst = some .string)
  (hl : rowBytes rows = some l) (hc : ∀ (i : Nat) (n : Int), rows[i]? = some [.i .u8 n] -> w.cell? ⟨g, o + i, none⟩ = some (.int .u8 n)) :
  (convert src dst (.slice (some ⟨g, o, none⟩) rows.length cap)).run P w = .ok (.string ⟨l.toArray⟩) w := by
 unfold rowBytes at hl
 rw [Option.map_eq_some_iff] at hl
 obtain ⟨ns, hns, rfl⟩ := hl
 obtain ⟨h1, h2⟩ := rowInts_get rows ns hns
 rw [run_convert_bytes_string w src dst e (some ⟨g, o, none⟩) rows.length cap hs he hd]
 have hload := run_loadCells_list (P := P) w ⟨g, o, none⟩ (ns.map (Value.int .u8)) (fun j v hv => by
  rw [List.getElem?_map, Option.map_eq_some_iff] at hv
  obtain ⟨n, hn, rfl⟩ := hv
  rw [Addr.add_lit]
  exact hc j n (h2 j n hn))
 rw [List.length_map, <- h1] at hload
 rw [run_bytesToString w _ rows.length cap ns hload, foldl_push]
 have he0 : ByteArray.empty.data = #[] := rfl
 rw [he0]
 simp

theorem rowsOf_sound (h : SimB w0 U0 X β0 β U s a w) {v : Value} {x : V} (hx : RepV w β U w0.heap.size v x) {sz : Nat} {rows : List (List D)} {fr : Bool} (hr : rowsOf s.blk x = some (sz, rows, fr)) :
   ∃ (ao : Option Addr) (cap : Nat), v = .slice ao rows.length cap /\ (∀ r ∈ rows, r.length = sz) /\ (ao = none -> rows = [] /\ cap = 0) /\
     ∀ ad, ao = some ad -> rows ≠ [] -> ad.spot = none /\ ∀ (i j : Nat) (r : List D) (d : D), rows[i]? = some r -> r[j]? = some d ->
       ∃ u, w.cell? ⟨ad.block, ad.off + i * sz + j, none⟩ = some u /\ u.oneCell' = true /\ RepI w (fun b => U b /\ (fr = true -> w0.heap.size <= b)) u d := by
 have data : ∀ (U' : Nat -> Prop) (fr : Bool) (rows : List (List D)) (sz : Nat), RepI w U' v (.sl sz rows) -> (∀ (u : Value) (d : D) (r : List D), r ∈ rows -> d ∈ r -> RepI w U' u d -> RepI w (fun b => U b /\ (fr = true -> w0.heap.size <= b)) u d) ->
     ∃ (ao : Option Addr) (cap : Nat), v = .slice ao rows.length cap /\ (∀ r ∈ rows, r.length = sz) /\ (ao = none -> rows = [] /\ cap = 0) /\
     ∀ ad, ao = some ad -> rows ≠ [] -> ad.spot = none /\ ∀ (i j : Nat) (r : List D) (d : D), rows[i]? = some r -> r[j]? = some d ->
       ∃ u, w.cell? ⟨ad.block, ad.off + i * sz + j, none⟩ = some u /\ u.oneCell' = true /\ RepI w (fun b => U b /\ (fr = true -> w0.heap.size <= b)) u d := by
   intro U' fr rows sz hd hup
   cases hd with
   | nil ao cap _ hn => exact ⟨ao, cap, rfl, fun r hr => by simp at hr, fun e => ⟨rfl, hn e⟩, fun ad _ hne => absurd rfl hne⟩
   | sl b o cap _ _ vals hU hlen hcap hc hr =>
     refine ⟨some ⟨b, o, none⟩, cap, rfl, hlen, (fun e => by cases e), fun ad e _ => ?_⟩
     cases e
     exact ⟨rfl, fun i j r d hi hj => ⟨vals i j, hc i j r d hi hj, (hr i j r d hi hj).oneCell, hup _ d r (List.mem_of_getElem? hi) (List.mem_of_getElem? hj) (hr i j r d hi hj)⟩⟩
 unfold rowsOf at hr
 split at hr
 . rename_i sz' rows'
   simp only [Option.some.injEq, Prod.mk.injEq] at hr
   obtain ⟨rfl, rfl, rfl⟩ := hr
   refine data U _ _ _ hx.toC (fun u d r hr hd hrep => ?_)
   by_cases hfl : (rows'.all fun r => r.all D.flat) = true
   . have hflat : d.flat = true := by
       have := List.all_eq_true.1 hfl r hr
       exact List.all_eq_true.1 this d hd
     cases hrep with
     | i k n => exact .i k n
     | b x => exact .b x
     | s l => exact .s l
     | z v h1 => exact .z _ h1
     | nil => simp [D.flat] at hflat
     | st => simp [D.flat] at hflat
     | tn => simp [D.flat] at hflat
     | tr => simp [D.flat] at hflat
     | sl => simp [D.flat] at hflat
   . exact hrep.mono (fun b hb => ⟨hb, fun e => absurd e hfl⟩) (fun _ _ => rfl)
 . rename_i sz' rows'
   simp only [Option.some.injEq, Prod.mk.injEq] at hr
   obtain ⟨rfl, rfl, rfl⟩ := hr
   exact data (fun b => U b /\ w0.heap.size <= b) true _ _ hx.toC (fun u d r hr hd hrep => hrep.mono (fun b hb => ⟨hb.1, fun _ => hb.2⟩) (fun _ _ => rfl))
 . rename_i k ver len
   split at hr
   . rename_i ver' e sz' ap fr' rows' hb
     split at hr
     . rename_i hv
       subst hv
       simp only [Option.some.injEq, Prod.mk.injEq] at hr
       obtain ⟨rfl, rfl, rfl⟩ := hr
       obtain ⟨a0, cap, v0, ver0, rfl, hlc, hn0, hs0, hk, hv1, hv2⟩ := hx.toC
       obtain ⟨q1, q2, q3⟩ := h.placeStd hb hk
       have hv0 := hv2 q1
       rcases q3 with ⟨rfl, rfl⟩ | ⟨g, cap', cur, fz, rfl, hg, h3, h4, h5, h6, h7, h8⟩
       . cases hv0
         exact ⟨none, 0, rfl, fun r hr => by simp at hr, fun _ => ⟨rfl, rfl⟩, fun ad e => by cases e⟩
       . cases hv0
         refine ⟨some ⟨g, 0, none⟩, cap, rfl, q2, (fun e => by cases e), fun ad e _ => ?_⟩
         cases e
         refine ⟨rfl, fun i j r d hi hj => ?_⟩
         obtain ⟨u, k1, k2, k3⟩ := h8 i j r d hi hj
         exact ⟨u, by simp only [World.cell?, hg, Nat.zero_add]; simpa using k1, k2, k3⟩
     . cases hr
   . cases hr
 . rename_i k ver sz' off len
   split at hr
   . rename_i ver' e sz'' ap fr' rows' hb
     split at hr
     . rename_i hv
       obtain ⟨rfl, rfl, hle⟩ := hv
       simp only [Option.some.injEq, Prod.mk.injEq] at hr
       obtain ⟨rfl, rfl, rfl⟩ := hr
       obtain ⟨a0, cap, v0, ver0, rfl, hlc, hn0, hk, hv1, hv2⟩ := hx.toC
       obtain ⟨q1, q2, q3⟩ := h.placeStd hb hk
       have hlen : ((rows'.drop off).take len).length = len := by simp; omega
       by_cases hz : len = 0
       . subst hz
         have : (rows'.drop off).take 0 = [] := by simp
         rw [this]
         exact ⟨a0, cap, rfl, fun r hr => by simp at hr, fun e => ⟨rfl, (hn0 e).2⟩, fun ad _ hne => absurd rfl hne⟩
       . obtain ⟨g, n, c, rfl, rfl, _⟩ := (hv2 q1).1 (by omega)
         rcases q3 with ⟨e1, _⟩ | ⟨g', cap', cur, fz, e1, hg, h3, h4, h5, h6, h7, h8⟩
         . cases e1
         . cases e1
           refine ⟨some ⟨g, off * sz', none⟩, cap, by rw [hlen], fun r hr => q2 r (List.mem_of_mem_drop (List.mem_of_mem_take hr)), (fun e => by cases e), fun ad e _ => ?_⟩
           cases e
           refine ⟨rfl, fun i j r d hi hj => ?_⟩
           rw [List.getElem?_take] at hi
           split at hi
           . rw [List.getElem?_drop] at hi
             obtain ⟨u, k1, k2, k3⟩ := h8 (off + i) j r d hi hj
             refine ⟨u, ?_, k2, k3⟩
             simp only [World.cell?, hg]
             rw [show off * sz' + i * sz' + j = (off + i) * sz' + j by rw [Nat.add_mul]]
             simpa using k1
           . cases hi
     . cases hr
   . cases hr
 . rename_i c xs
   simp only [Option.some.injEq, Prod.mk.injEq] at hr
   obtain ⟨rfl, rfl, rfl⟩ := hr
   refine data U _ _ _ (RepI.unst (show RepI w U v (.st c xs) from hx.toC)) (fun u d r hr hd hrep => ?_)
   by_cases hfl : flatT c = true
   . have hflat : d.flat = true := by
       obtain ⟨t, _, rfl⟩ := List.mem_map.1 hr
       exact List.all_eq_true.1 (flatT_all c t hfl) d hd
     cases hrep with
     | i k n => exact .i k n
     | b x => exact .b x
     | s l => exact .s l
     | z v h1 => exact .z _ h1
     | nil => simp [D.flat] at hflat
     | sl => simp [D.flat] at hflat
     | st => simp [D.flat] at hflat
     | tn => simp [D.flat] at hflat
     | tr => simp [D.flat] at hflat
   . exact hrep.mono (fun b hb => ⟨hb, fun e => absurd e hfl⟩) (fun _ _ => rfl)
 . rename_i c xs
   simp only [Option.some.injEq, Prod.mk.injEq] at hr
   obtain ⟨rfl, rfl, rfl⟩ := hr
   exact data (fun b => U b /\ w0.heap.size <= b) true _ _ (RepI.unst (show RepI w (fun b => U b /\ w0.heap.size <= b) v (.st c xs) from hx.toC)) (fun u d r hr hd hrep => hrep.mono (fun b hb => ⟨hb.1, fun _ => hb.2⟩) (fun _ _ => rfl))
 . rename_i k ver len
   split at hr
   . rename_i ver' e sz' ap fr' rows' hb
     split at hr
     . rename_i hv
       subst hv
       simp only [Option.some.injEq, Prod.mk.injEq] at hr
       obtain ⟨rfl, rfl, rfl⟩ := hr
       obtain ⟨a0, cap, v0, ver0, rfl, hlc, hn0, hk, hv1, hv2⟩ := hx.toC
       obtain ⟨q1, q2, q3⟩ := h.placeStd hb hk
       obtain ⟨n, hv0, hln⟩ := hv2 q1
       rcases q3 with ⟨rfl, rfl⟩ | ⟨g, cap', cur, fz, rfl, hg, h3, h4, h5, h6, h7, h8⟩
       . cases hv0
         obtain rfl : len = 0 := by omega
         exact ⟨none, 0, rfl, fun r hr => by simp at hr, fun _ => ⟨rfl, rfl⟩, fun ad e => by cases e⟩
       . cases hv0
         refine ⟨some ⟨g, 0, none⟩, cap, by rw [List.length_take, Nat.min_eq_left hln], fun r hr => q2 r (List.mem_of_mem_take hr), (fun e => by cases e), fun ad e _ => ?_⟩
         cases e
         refine ⟨rfl, fun i j r d hi hj => ?_⟩
         rw [List.getElem?_take] at hi
         split at hi
         . obtain ⟨u, k1, k2, k3⟩ := h8 i j r d hi hj
           exact ⟨u, by simp only [World.cell?, hg, Nat.zero_add]; simpa using k1, k2, k3⟩
         . cases hi
     . cases hr
   . cases hr
 . rename_i c xs
   simp only [Option.some.injEq, Prod.mk.injEq] at hr
   obtain ⟨rfl, rfl, rfl⟩ := hr
   refine data U _ _ _ (RepI.unst (show RepI w U v (.st c xs) from hx.toC.1)) (fun u d r hr hd hrep => ?_)
   by_cases hfl : flatT c = true
   . have hflat : d.flat = true := by
       obtain ⟨t, _, rfl⟩ := List.mem_map.1 hr
       exact List.all_eq_true.1 (flatT_all c t hfl) d hd
     cases hrep with
     | i k n => exact .i k n
     | b x => exact .b x
     | s l => exact .s l
     | z v h1 => exact .z _ h1
     | nil => simp [D.flat] at hflat
     | sl => simp [D.flat] at hflat
     | st => simp [D.flat] at hflat
     | tn => simp [D.flat] at hflat
     | tr => simp [D.flat] at hflat
   . exact hrep.mono (fun b hb => ⟨hb, fun e => absurd e hfl⟩) (fun _ _ => rfl)
 . cases hr

theorem effR_sound (h : SimB w0 U0 X β0 β U s a w) {ρ : Operand -> V} (hρ : ∀ y, RepV w β U w0.heap.size (a.eval y) (ρ y)) (o : Oper) {x : V} (he : effR P o.op ρ s.blk = some x) :
   ∃ v, (execOp a.eval o).run P w = .ok (.value v) w /\ RepV w β U w0.heap.size v x := by
 have wrap : ∀ {s : Sem Value} {v : Value}, s.run P w = .ok v w -> (do pure (.value (<- s)) : Sem Next).run P w = .ok (.value v) w := fun {s v} hs => by
   rw [Sem.run_bind, hs]; rfl
 unfold effR at he
 split at he
 . rename_i t y ho
   have hy := hρ y
   split at he
   . rename_i k off e
     rw [e] at hy
     split at he
     . rename_i cs hb
       obtain ⟨b, o', hk, hv⟩ := hy.toC
       have hr := h.placeCells hb hk
       obtain ⟨v, h1, h2⟩ := load_part (P := P) (w := w) (β := β) (U := U) (base := w0.heap.size) (b := b) (o := o') (fun j c hj => by
         obtain ⟨v, q1, q2, q3, q4⟩ := hr.2 j c hj; exact ⟨v, q1, q3, q4⟩) he
       exact ⟨v, by simp only [execOp, ho, hv]; exact wrap h1, h2⟩
     . cases he
   . rename_i cells e
     rw [e] at hy
     obtain ⟨b, o', vals, hv, hU, hc⟩ := hy.toC
     obtain ⟨v, h1, h2⟩ := load_part (P := P) (w := w) (β := β) (U := U) (base := w0.heap.size) (b := b) (o := o') (off := 0) (fun j c hj => by
       rw [List.getElem?_map, Option.map_eq_some_iff] at hj
       obtain ⟨d, hd, rfl⟩ := hj
       exact ⟨vals j, (hc j d hd).1, (hc j d hd).2.oneCell, (hc j d hd).2⟩) he
     exact ⟨v, by simp only [execOp, ho, hv]; exact wrap h1, h2⟩
   . rename_i k ver sz i off e
     rw [e] at hy
     split at he
     . rename_i ver' e' sz' ap fr rows hb
       split at he
       . rename_i hvs
         obtain ⟨rfl, rfl⟩ := hvs
         split at he
         . rename_i r hr
           obtain ⟨a0, v0, ver0, hv, hk, hv1, hv2⟩ := hy.toC
           obtain ⟨q1, q2, q3⟩ := h.placeRow hb hk
           obtain ⟨g, n, c, rfl, rfl⟩ := hv2 q1
           rcases q3 with ⟨e1, _⟩ | ⟨g', cap', cur, fz, e1, hg, h3, h4, h5, h6, h7, h8⟩
           . cases e1
           . cases e1
             obtain ⟨v, h1, h2⟩ := load_part (P := P) (w := w) (β := β) (U := U) (base := w0.heap.size) (b := g) (o := i * sz) (fun j c hj => by
               rw [List.getElem?_map, Option.map_eq_some_iff] at hj
               obtain ⟨d, hd, rfl⟩ := hj
               obtain ⟨u, k1, k2, k3⟩ := h8 i j r d hr hd
               exact ⟨u, by simp only [World.cell?, hg]; simpa using k1, k2, toC_sound k3⟩) he
             exact ⟨v, by simp only [execOp, ho, hv]; exact wrap h1, h2⟩
         . cases he
       . cases he
     . rename_i ver' e' c' ap fr xs hb
       split at he
       . rename_i hvs
         obtain ⟨rfl, rfl⟩ := hvs
         split at he
         . rename_i r hr
           obtain ⟨a0, v0, ver0, hv, hk, hv1, hv2⟩ := hy.toC
           obtain ⟨q1, q2, q3⟩ := h.placeStd (by rw [hb]; rfl) hk
           obtain ⟨g, n, c, rfl, rfl⟩ := hv2 q1
           have hr' : (xs.map (enc c'))[i]? = some (enc c' r) := by rw [List.getElem?_map, hr]; rfl
           rcases q3 with ⟨e1, _⟩ | ⟨g', cap', cur, fz, e1, hg, h3, h4, h5, h6, h7, h8⟩
           . cases e1
           . cases e1
             obtain ⟨v, h1, h2⟩ := load_part (P := P) (w := w) (β := β) (U := U) (base := w0.heap.size) (b := g) (o := i * esz c') (fun j c hj => by
               rw [List.getElem?_map, Option.map_eq_some_iff] at hj
               obtain ⟨d, hd, rfl⟩ := hj
               obtain ⟨u, k1, k2, k3⟩ := h8 i j (enc c' r) d hr' hd
               exact ⟨u, by simp only [World.cell?, hg]; simpa using k1, k2, toC_sound k3⟩) he
             exact ⟨v, by simp only [execOp, ho, hv]; exact wrap h1, h2⟩
         . cases he
       . cases he
     . cases he
   . cases he
 . rename_i src dst y ho
   split at he
   . rename_i e hte hd
     have hs : P.underlying src = some (.slice e) := by
       unfold telem at hte
       split at hte
       . rename_i hu; cases hte; exact hu
       . cases hte
     split at he
     . rename_i hu8
       have hy := hρ y
       split at he
       . rename_i ey
         rw [ey] at hy
         obtain rfl := Option.some.inj he
         have hq : a.eval y = .slice none 0 0 := hy.toC
         refine ⟨.string .empty, ?_, repS' _ _ rfl⟩
         simp only [execOp, ho, hq]
         refine wrap ?_
         rw [run_convert_bytes_string w src dst e none 0 0 hs hu8 hd]
         rfl
       . split at he
         . rename_i rows fr hrows
           rw [Option.map_eq_some_iff] at he
           obtain ⟨l, hl, rfl⟩ := he
           obtain ⟨ao, cap, hv, hlen, hn, hc⟩ := rowsOf_sound h hy hrows
           refine ⟨.string ⟨l.toArray⟩, ?_, repS _⟩
           simp only [execOp, ho, hv]
           refine wrap ?_
           cases ao with
           | none =>
             obtain ⟨rfl, rfl⟩ := hn rfl
             have : l = [] := by simpa [rowBytes] using hl.symm
             subst this
             show (convert src dst (.slice none 0 0)).run P w = _
             rw [run_convert_bytes_string w src dst e none 0 0 hs hu8 hd]
             rfl
           | some ad =>
             by_cases hne : rows = []
             . subst hne
               have : l = [] := by simpa [rowBytes] using hl.symm
               subst this
               show (convert src dst (.slice (some ad) 0 cap)).run P w = _
               rw [run_convert_bytes_string w src dst e (some ad) 0 cap hs hu8 hd]
               have hload := run_loadCells_list (P := P) w ad [] (fun j v hv => by simp at hv)
               have := run_bytesToString (P := P) w ad 0 cap [] (by simpa using hload)
               rw [this]; rfl
             . obtain ⟨hsp, hcell⟩ := hc ad rfl hne
               obtain ⟨b, off, sp⟩ := ad
               cases hsp
               refine run_bytes_back hs hu8 hd hl (fun i n hi => ?_)
               obtain ⟨u, k1, k2, k3⟩ := hcell i 0 _ _ hi rfl
               cases k3
               simpa using k1
         . cases he
     . cases he
   . cases he
 . cases he
end
end Go.Proofs.Ythnijeclidpooaa.Abs
