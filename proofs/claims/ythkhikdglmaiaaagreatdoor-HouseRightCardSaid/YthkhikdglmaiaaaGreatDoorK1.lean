/- Texts towards the law HouseRight, put together (part 1): an abstract walk and its proof, functions of the program as trees, and plain laws. Conditions: none. -/
import Derived.Test.YthkhikdglmaiaaaGreatDoorRows
import Derived.WalkKit
import Derived.ProofKit
import Derived.OpenShut
import Derived.ShutString
import Derived.SizedLaws
import Derived.Below
import Derived.Carry
import Derived.ChangeOld
import Derived.Deep.Slices
import Derived.Handy
import Derived.Laws.AppendOwn
import Derived.Laws.IdiomCopy
import Derived.Laws.Entries
import Derived.Laws.Strings
import Derived.Lib.Strings
import Derived.ChangeKeysEq
import Derived.Laws.StructEq
import Derived.Laws.Tables
import Derived.Laws.IdiomStrings
import Derived.Maps.AppendAt
import Derived.Great.BuildSlice
import Derived.Lib.AppendStr
namespace Go.Proofs.YthkhikdglmaiaaaGreatDoor.Read
open Go.ChangeShapes Go.WideShapes Go.ChangeAt Go.RowKit
def Rd (P:Program) (w:World) (t:TypeId) (cs:List Value):Prop :=
 ∃ (H:Type) (enc:TypeId×Value->H) (fuel:Nat) (x:DataW H×List MemPlace),DataW.trod enc P w 0 (fun _=>true) true fuel t cs=some x /\ ∀ n∈x.1.weights P t,n<=reachBytes

section
variable {P:Program} {w:World} {t:TypeId} {cs:List Value}

theorem Rd.of_trod {H:Type} {enc:TypeId×Value->H} {v:Value} {d:DataW H} {ps:List MemPlace} (h:DataW.Trod enc P w 0 (fun _=>true) true t v d ps)
  (hz:∀ n∈d.weights P t,n<=reachBytes):Rd P w t v.cells.toList:=by
 obtain ⟨fuel,hf⟩:=h
 exact ⟨H,enc,fuel,(d,ps),hf,hz⟩

theorem Rd.bool (ht:P.underlying t=some .bool) (h:Rd P w t cs):∃ b,cs=[.bool b]:=by
 obtain ⟨H,enc,fuel,x,hf,_⟩:=h
 obtain ⟨b,h1,_⟩:=DataW.trod_bool ht hf
 exact ⟨b,h1⟩

theorem Rd.int {k:IntKind} (ht:P.underlying t=some (.int k)) (h:Rd P w t cs):∃ n,cs=[.int k n]/\(Lit.int k n).wf=true:=by
 obtain ⟨H,enc,fuel,x,hf,_⟩:=h
 obtain ⟨n,h1,_,h2⟩:=DataW.trod_int ht hf
 exact ⟨n,h1,h2⟩

theorem Rd.string (ht:P.underlying t=some .string) (h:Rd P w t cs):∃ s:ByteArray,cs=[.string s]/\s.size<=140737488351232:=by
 obtain ⟨H,enc,fuel,x,hf,hz⟩:=h
 obtain ⟨s,h1,h2,_⟩:=DataW.trod_string ht hf
 refine ⟨s,h1,?_⟩
 subst h2
 have:=hz s.data.toList.length (by simp [DataW.weights])
 have e:s.data.toList.length=s.size:=by rw [Array.length_toList]; rfl
 have e2:reachBytes=140737488351232:=by decide
 omega

theorem zdy {H:Type} {e:TypeId}:∀ {l:List (DataW H)} {d:DataW H},d∈l -> ∀ n∈d.weights P e,n∈DataW.weightsAll P e l
 | a :: r,d,hd,n,hn=>by
  simp only [DataW.weightsAll,List.mem_append]
  rcases List.mem_cons.1 hd with rfl | h
  . exact Or.inl hn
  . exact Or.inr (zdy h n hn)

theorem Rd.struct {fs:Array Field} (ht:P.underlying t=some (.struct fs)) (h:Rd P w t cs) :
  cs.length=P.cellsOf t /\ ∀ (i:Nat) (f:Field),fs[i]?=some f->Rd P w f.type ((cs.drop f.offset).take (P.cellsOf f.type)):=by
 obtain ⟨H,enc,fuel,x,hf,hz⟩:=h
 obtain ⟨xs,n,_,rfl,hl,hlen,hfs⟩:=DataW.trod_struct ht hf
 refine ⟨hl,fun i f hi=>?_⟩
 have hi':i<xs.length:=by
  have:=(Array.getElem?_eq_some_iff.1 hi).1
  omega
 refine ⟨H,enc,n,xs[i],by rw [hfs i f hi]; exact List.getElem?_eq_getElem hi',fun m hm=>hz m ?_⟩
 simp only [DataW.weights,ht]
 exact DataW.weights_mem_each (j:=i) (t:=f.type) (d:=xs[i].1) (by simp [hi]) (by simp [hi']) m hm

theorem Rd.array {n:Nat} {e:TypeId} (ht:P.underlying t=some (.array n e)) (h:Rd P w t cs) :
  cs.length=P.cellsOf t /\ ∀ i,i<n->Rd P w e ((cs.drop (i*P.cellsOf e)).take (P.cellsOf e)):=by
 obtain ⟨H,enc,fuel,x,hf,hz⟩:=h
 obtain ⟨xs,m,_,rfl,hl,hlen,hfs⟩:=DataW.trod_array ht hf
 refine ⟨hl,fun i hi=>?_⟩
 refine ⟨H,enc,m,xs[i],by rw [hfs i hi]; exact List.getElem?_eq_getElem (by omega),fun q hq=>hz q ?_⟩
 simp only [DataW.weights,ht]
 exact zdy (d:=xs[i].1) (List.mem_map.2 ⟨xs[i],List.getElem_mem _,rfl⟩) q hq

theorem Rd.slice {e:TypeId} (ht:P.underlying t=some (.slice e)) (h:Rd P w t cs) :
   ∃ (a:Option Addr) (len cap:Nat),cs=[.slice a len cap]/\len<=cap/\cap<=maxLen/\cap*P.bytesOf e<=140737488351232/\(a=none->cap=0) /\
   ∀ x,a=some x -> ∀ i,i<cap -> ∃ row,w.cells? 0 (x.add (i*P.cellsOf e)) (P.cellsOf e)=some row/\Rd P w e row:=by
 obtain ⟨H,enc,fuel,x,hf,hz⟩:=h
 rcases Go.Deep.open_slice ht hf with ⟨rfl,_⟩ | ⟨a,len,cap,m,n,D,Pl,rfl,_,hl,hm,hmm,rfl,hx⟩
 . exact ⟨none,0,0,rfl,Nat.le_refl _,Nat.zero_le _,by simp,fun _=>rfl,fun x hx=>by cases hx⟩
 . have hmc:m=cap:=by simpa using hmm
   subst hmc
   have e2:reachBytes=140737488351232:=by decide
   have hw:m*P.bytesOf e<=reachBytes:=by
     refine hz _ ?_
     simp only [DataW.weights,ht,List.length_map,List.length_range]
     rw [show len+(m-len)=m by omega]
     exact List.mem_cons_self
   refine ⟨some a,len,m,rfl,hl,hm,by omega,(fun h=>by cases h),fun x hxa i hi=>?_⟩
   cases hxa
   obtain ⟨row,h1,h2⟩:=hx i hi
   refine ⟨row,h1,H,enc,n,_,h2,fun q hq=>hz q ?_⟩
   simp only [DataW.weights,ht,List.mem_cons,List.mem_append]
   right
   by_cases hil:i<len
   . exact Or.inl (zdy (d:=D i) (List.mem_map.2 ⟨i,List.mem_range.2 hil,rfl⟩) q hq)
   . exact Or.inr (zdy (d:=D i) (List.mem_map.2 ⟨i-len,List.mem_range.2 (by omega),by rw [show len+(i-len)=i by omega]⟩) q hq)

theorem zyj {x:Addr} {n:Nat} {row:List Value} (h:w.cells? 0 x n=some row):row.length=n /\ ∀ j (hj:j<row.length),w.cell? (x.add j)=some row[j]:=by
 unfold World.cells? at h
 rw [if_pos (Nat.zero_le _)] at h
 have hl:row.length=n:=by rw [mapM_some_length h,List.length_range]
 refine ⟨hl,fun j hj=>?_⟩
 have:=mapM_some_get h j j (by rw [List.getElem?_range (by omega)])
 rw [this]
 exact List.getElem?_eq_getElem hj

theorem za4b {w:World} {x:Addr} {v:Value} (h:w.cell? x=some v):x.spot=none/\x.block<w.heap.size:=by
 unfold World.cell? at h
 constructor
 . cases hs:x.spot with
   | none=>rfl
   | some k =>
     rw [hs] at h
     split at h <;> simp at h
 . by_cases hb:x.block<w.heap.size
   . exact hb
   . rw [Array.getElem?_eq_none (by simpa using hb)] at h; simp at h

theorem z56 (b o k:Nat):(⟨b,o,none⟩:Addr).add k=⟨b,o+k,none⟩:=by
 unfold Addr.add; split
 . rename_i h; subst h; rfl
 . rfl

theorem ztk {α:Type} {P:Nat->α->Prop}:∀ (n:Nat),(∀ i,i<n -> ∃ a,P i a) -> ∃ l:List α,l.length=n /\ ∀ i (hi:i<l.length),P i l[i]
 | 0,_=>⟨[],rfl,fun i hi=>by simp at hi⟩
 | n+1,h=>by
  obtain ⟨l,hl,hP⟩:=ztk n fun i hi=>h i (by omega)
  obtain ⟨a,ha⟩:=h n (by omega)
  refine ⟨l++[a],by simp [hl],fun i hi=>?_⟩
  by_cases hin:i<l.length
  . rw [List.getElem_append_left hin]; exact hP i hin
  . have:i=n:=by simp at hi; omega
    subst this
    rw [List.getElem_append_right (by omega)]
    simpa [hl] using ha

end

theorem weights_at {H:Type} {P:Program} {ts us:List TypeId} {ds gs:List (DataW H)} (h:(DataW.weightsEach P (ts++us) (ds++gs)).all (fun x=>decide (x<=reachBytes))=true) {j:Nat} {t:TypeId} {d:DataW H}
  (ht:ts[j]?=some t) (hd:ds[j]?=some d):∀ n∈d.weights P t,n<=reachBytes:=by
 intro n hn
 have ht':(ts++us)[j]?=some t:=by
  rw [List.getElem?_append_left (by have:=(List.getElem?_eq_some_iff.1 ht).1; omega)]; exact ht
 have hd':(ds++gs)[j]?=some d:=by
  rw [List.getElem?_append_left (by have:=(List.getElem?_eq_some_iff.1 hd).1; omega)]; exact hd
 simpa using List.all_eq_true.1 h _ (DataW.weights_mem_each ht' hd' n hn)

end Go.Proofs.YthkhikdglmaiaaaGreatDoor.Read
namespace Go.Proofs.YthkhikdglmaiaaaGreatDoor.Abs
structure TOption where (kind:Int) (data:List UInt8)
structure TPart where (at':Int) (data:List UInt8) (last:Bool)
structure THeap where (from' to:Int) (proto id tos life:Int) (options:List UInt8) (parts:List TPart)
structure TSlot where (used:Bool) (key value:Int)
structure TStay where (room at':Int)
structure TNode where (next0 next1:Int) (set:Bool) (value:Int)
structure TRule where (fromAddr fromLong toAddr toLong proto fromLow fromHigh toLow toHigh:Int) (pass:Bool)
structure TDrop where (at' n:Int)
structure TQueue where (share saved:Int) (sizes:List Int)
structure TSent where (queue size:Int)
structure TDue where (id at':Int)
structure TStation where (m0 m1 m2 m3 m4 m5 port at':Int)
structure TTalk where (from' to fromPort toPort state over at':Int)
structure TMap where (proto addr port out at':Int)
structure TGuarded where (from' to fromPort toPort seq cookie delta:Int) (open':Bool) (at':Int)
structure TMeter where (addr rate most has at':Int)
structure TPacket where (tos id:Int) (whole more:Bool) (start life proto from' to:Int) (options data:List UInt8)
structure TNet where (addr long:Int)
structure TSegment where (from' to seq ack flags window urgent:Int) (options:List TOption) (data:List UInt8)
structure TCame where (inside:Bool) (data:List UInt8) (at':Int)
structure TWent where (data:List UInt8) (reason err:Int)
structure TRoad where (from' to fromPort toPort:Int)
structure TMac where (m0 m1 m2 m3 m4 m5:Int)

def τ:Nat->Type
 | 0=>Int
 | 1=>Bool
 | 2=>UInt8
 | 3=>List UInt8
 | 4=>TOption
 | 5=>TPart
 | 6=>THeap
 | 7=>TSlot
 | 8=>TStay
 | 9=>TNode
 | 10=>TRule
 | 11=>TDrop
 | 12=>TQueue
 | 13=>TSent
 | 14=>TDue
 | 15=>TStation
 | 16=>TTalk
 | 17=>TMap
 | 18=>TGuarded
 | 19=>TMeter
 | 20=>TPacket
 | 21=>TNet
 | 22=>List Int
 | 23=>TSegment
 | 24=>TCame
 | 25=>TWent
 | 26=>TRoad
 | 27=>Int
 | 28=>Int
 | 29=>TMac
 | _=>Unit
end Go.Proofs.YthkhikdglmaiaaaGreatDoor.Abs
namespace Go.Proofs.YthkhikdglmaiaaaGreatDoor.Abs
open Go Go.RowKit

inductive D where
 | i (k:IntKind) (n:Int)
 | b (x:Bool)
 | s (l:List UInt8)
 | sl (sz:Nat) (rows:List (List D))
 | z (v:Value)
 | st (c:Nat) (xs:List (τ c))

def enc:(c:Nat)->τ c->List D
 | 0,(n:Int)=>[.i .i64 n]
 | 1,(b:Bool)=>[.b b]
 | 2,(b:UInt8)=>[.i .u8 b.toNat]
 | 3,(l:List UInt8)=>[.s l]
 | 4,(t:TOption)=>[.i .i64 t.kind,.s t.data]
 | 5,(t:TPart)=>[.i .i64 t.at',.s t.data,.b t.last]
 | 6,(t:THeap)=>[.i .u32 t.from',.i .u32 t.to,.i .i64 t.proto,.i .i64 t.id,.i .i64 t.tos,.i .i64 t.life,.s t.options,.st 5 t.parts]
 | 7,(t:TSlot)=>[.b t.used,.i .u64 t.key,.i .i64 t.value]
 | 8,(t:TStay)=>[.i .i64 t.room,.i .i64 t.at']
 | 9,(t:TNode)=>[.i .i64 t.next0,.i .i64 t.next1,.b t.set,.i .i64 t.value]
 | 10,(t:TRule)=>[.i .u32 t.fromAddr,.i .i64 t.fromLong,.i .u32 t.toAddr,.i .i64 t.toLong,.i .i64 t.proto,.i .i64 t.fromLow,.i .i64 t.fromHigh,.i .i64 t.toLow,.i .i64 t.toHigh,.b t.pass]
 | 11,(t:TDrop)=>[.i .i64 t.at',.i .i64 t.n]
 | 12,(t:TQueue)=>[.i .i64 t.share,.i .i64 t.saved,.st 0 t.sizes]
 | 13,(t:TSent)=>[.i .i64 t.queue,.i .i64 t.size]
 | 14,(t:TDue)=>[.i .i64 t.id,.i .i64 t.at']
 | 15,(t:TStation)=>[.i .u8 t.m0,.i .u8 t.m1,.i .u8 t.m2,.i .u8 t.m3,.i .u8 t.m4,.i .u8 t.m5,.i .i64 t.port,.i .i64 t.at']
 | 16,(t:TTalk)=>[.i .u32 t.from',.i .u32 t.to,.i .i64 t.fromPort,.i .i64 t.toPort,.i .i64 t.state,.i .i64 t.over,.i .i64 t.at']
 | 17,(t:TMap)=>[.i .i64 t.proto,.i .u32 t.addr,.i .i64 t.port,.i .i64 t.out,.i .i64 t.at']
 | 18,(t:TGuarded)=>[.i .u32 t.from',.i .u32 t.to,.i .i64 t.fromPort,.i .i64 t.toPort,.i .u32 t.seq,.i .u32 t.cookie,.i .u32 t.delta,.b t.open',.i .i64 t.at']
 | 19,(t:TMeter)=>[.i .u32 t.addr,.i .i64 t.rate,.i .i64 t.most,.i .i64 t.has,.i .i64 t.at']
 | 20,(t:TPacket)=>[.i .i64 t.tos,.i .i64 t.id,.b t.whole,.b t.more,.i .i64 t.start,.i .i64 t.life,.i .i64 t.proto,.i .u32 t.from',.i .u32 t.to,.s t.options,.s t.data]
 | 21,(t:TNet)=>[.i .u32 t.addr,.i .i64 t.long]
 | 22,(t:List Int)=>[.st 0 t]
 | 23,(t:TSegment)=>[.i .i64 t.from',.i .i64 t.to,.i .u32 t.seq,.i .u32 t.ack,.i .i64 t.flags,.i .i64 t.window,.i .i64 t.urgent,.st 4 t.options,.s t.data]
 | 24,(t:TCame)=>[.b t.inside,.s t.data,.i .i64 t.at']
 | 25,(t:TWent)=>[.s t.data,.i .i64 t.reason,.i .i64 t.err]
 | 26,(t:TRoad)=>[.i .u32 t.from',.i .u32 t.to,.i .i64 t.fromPort,.i .i64 t.toPort]
 | 27,(n:Int)=>[.i .u64 n]
 | 28,(n:Int)=>[.i .u32 n]
 | 29,(t:TMac)=>[.i .u8 t.m0,.i .u8 t.m1,.i .u8 t.m2,.i .u8 t.m3,.i .u8 t.m4,.i .u8 t.m5]
 | _,_=>[]

def esz:Nat->Nat
 | 0=>1 | 1=>1 | 2=>1 | 3=>1 | 4=>2 | 5=>3 | 6=>8 | 7=>3 | 8=>2 | 9=>4 | 10=>10 | 11=>2 | 12=>3 | 13=>2 | 14=>2 | 15=>8 | 16=>7 | 17=>5 | 18=>9 | 19=>5 | 20=>11 | 21=>2 | 22=>1 | 23=>9 | 24=>3 | 25=>3 | 26=>4 | 27=>1 | 28=>1 | 29=>6 | _=>0

theorem zeq:∀ (c:Nat) (t:τ c),(enc c t).length=esz c:=by
 intro c t
 match c,t with
 | 0,_ | 1,_ | 2,_ | 3,_ | 4,_ | 5,_ | 6,_ | 7,_ | 8,_ | 9,_ | 10,_ | 11,_ | 12,_ | 13,_ | 14,_ | 15,_ | 16,_ | 17,_ | 18,_ | 19,_ | 20,_ | 21,_ | 22,_ | 23,_ | 24,_ | 25,_ | 26,_ | 27,_ | 28,_ | 29,_=>rfl
 | n+30,_=>rfl

inductive C where
 | d (x:D)
 | f (x:D)
 | nil
 | own (k ver len:Nat)
 | sub (k ver sz off len:Nat)
 | ptr (k off:Nat)
 | pr (k ver sz i off:Nat)
 | asl (k off len:Nat)
 | pre (k ver sz len:Nat)
 | nn (x:D)
 | pv (cells:List D)
 | clo (f:FuncId) (caps:List D)
 | clp (f:FuncId) (ks:List (Nat×Nat))
 | mp (k:Nat)
 | un
 | bad

inductive V where
 | one (c:C)
 | agg (cs:List C)
 | tup (vs:List V)

inductive Blk where
 | cells (cs:List C)
 | row (ver:Nat) (e:TypeId) (sz:Nat) (ap fr:Bool) (rows:List (List D))
 | rowT (ver:Nat) (e:TypeId) (c:Nat) (ap fr:Bool) (xs:List (τ c))
 | mp (kt:Nat) (es:List (τ kt×Int))
 | junk (ver:Nat) (e:TypeId) (sz len N:Nat)

inductive Place where
 | cells (b o:Nat)
 | row (v:Value) (ver:Nat)

structure St where
 n:Nat
 env:List (Nat×V)
 mem:List (Nat×Blk)

def look {α:Type} (t:Nat):List (Nat×α)->Option α
 | []=>none
 | (j,v) :: r=>if j=t then some v else look t r

def St.get (s:St) (t:Nat):V:=(look t s.env).getD (.one .bad)
def St.blk (s:St) (k:Nat):Option Blk:=look k s.mem

inductive RepI (w:World) (U:Nat->Prop):Value->D->Prop
 | i (k:IntKind) (n:Int):RepI w U (.int k n) (.i k n)
 | b (x:Bool):RepI w U (.bool x) (.b x)
 | s (l:List UInt8):RepI w U (.string ⟨l.toArray⟩) (.s l)
 | z (v:Value) (h1:v.oneCell'=true):RepI w U v (.z v)
 | nil (a:Option Addr) (cap sz:Nat) (hn:a=none->cap=0):RepI w U (.slice a 0 cap) (.sl sz [])
 | sl (b o cap sz:Nat) (rows:List (List D)) (vals:Nat->Nat->Value) (hU:U b) (hlen:∀ r∈rows,r.length=sz) (hcap:rows.length<=cap)
  (hc:∀ (i j:Nat) (r:List D) (d:D),rows[i]?=some r->r[j]?=some d->w.cell? ⟨b,o+i*sz+j,none⟩=some (vals i j))
  (hr:∀ (i j:Nat) (r:List D) (d:D),rows[i]?=some r->r[j]?=some d->RepI w U (vals i j) d):RepI w U (.slice (some ⟨b,o,none⟩) rows.length cap) (.sl sz rows)
 | st (v:Value) (c:Nat) (xs:List (τ c)) (h:RepI w U v (.sl (esz c) (xs.map (enc c)))) (h1:v.oneCell'=true):RepI w U v (.st c xs)

theorem RepI.unst {w:World} {U:Nat->Prop} {v:Value} {c:Nat} {xs:List (τ c)} (h:RepI w U v (.st c xs)):RepI w U v (.sl (esz c) (xs.map (enc c))):=by
 cases h; assumption
theorem RepI.oneCell {w:World} {U:Nat->Prop} {v:Value} {d:D} (h:RepI w U v d):v.oneCell'=true:=by cases h <;> first | rfl | assumption

theorem RepI.toSt {w:World} {U:Nat->Prop} {v:Value} {c:Nat} {xs:List (τ c)} (h:RepI w U v (.sl (esz c) (xs.map (enc c)))):RepI w U v (.st c xs) :=
 .st v c xs h h.oneCell

theorem RepI.mono {w w':World} {U U':Nat->Prop} {v:Value} {d:D} (h:RepI w U v d) (hU:∀ b,U b->U' b) (hw:∀ b,U b->w'.heap[b]?=w.heap[b]?):RepI w' U' v d:=by
 induction h with
 | i k n=>exact .i k n
 | b x=>exact .b x
 | s l=>exact .s l
 | z v h1=>exact .z v h1
 | nil a cap sz hn=>exact .nil a cap sz hn
 | sl b o cap sz rows vals hb hlen hcap hc hr ih =>
  refine .sl b o cap sz rows vals (hU b hb) hlen hcap (fun i j r d h1 h2=>?_) (fun i j r d h1 h2=>ih i j r d h1 h2)
  rw [World.cell?_of_block (w:=w) (hw b hb)]
  exact hc i j r d h1 h2
 | st v c xs h h1 ih=>exact .st v c xs ih h1

def RepC (w:World) (β:Nat->Option Place) (U:Nat->Prop) (base:Nat) (v:Value):C->Prop
 | .d x=>RepI w U v x
 | .f x=>RepI w (fun b=>U b/\base<=b) v x
 | .nil=>v=.slice none 0 0
 | .own k ver len=>∃ (a:Option Addr) (cap:Nat) (v0:Value) (ver0:Nat),v=.slice a len cap/\len<=cap/\(a=none->len=0/\cap=0)/\(∀ x,a=some x -> ∃ g,x=⟨g,0,none⟩)/\β k=some (.row v0 ver0)/\ver<=ver0/\(ver=ver0->v=v0)
 | .sub k ver sz off len=>∃ (a:Option Addr) (cap:Nat) (v0:Value) (ver0:Nat),v=.slice a len cap/\len<=cap/\(a=none->len=0/\cap=0)/\β k=some (.row v0 ver0)/\ver<=ver0 /\
  (ver=ver0->0<len -> ∃ g n c,v0=.slice (some ⟨g,0,none⟩) n c/\a=some ⟨g,off*sz,none⟩)
 | .ptr k off=>∃ b o,β k=some (.cells b o)/\v=.pointer (some ⟨b,o+off,none⟩)
 | .pr k ver sz i off=>∃ (a:Addr) (v0:Value) (ver0:Nat),v=.pointer (some a)/\β k=some (.row v0 ver0)/\ver<=ver0 /\
  (ver=ver0 -> ∃ g n c,v0=.slice (some ⟨g,0,none⟩) n c/\a=⟨g,i*sz+off,none⟩)
 | .asl k off len=>∃ b o,β k=some (.cells b o)/\v=.slice (some ⟨b,o+off,none⟩) len len
 | .pre k ver _ len=>∃ (a:Option Addr) (cap:Nat) (v0:Value) (ver0:Nat),v=.slice a len cap/\len<=cap/\(a=none->len=0/\cap=0)/\β k=some (.row v0 ver0)/\ver<=ver0/\(ver=ver0 -> ∃ n,v0=.slice a n cap/\len<=n)
 | .nn x=>RepI w U v x /\ ∃ a l c,v=.slice (some a) l c
 | .pv cells=>∃ (b o:Nat) (vals:Nat->Value),v=.pointer (some ⟨b,o,none⟩)/\U b /\
  ∀ (j:Nat) (d:D),cells[j]?=some d->w.cell? ⟨b,o+j,none⟩=some (vals j)/\RepI w U (vals j) d
 | .clo f caps=>∃ vs:List Value,v=.func (.func f) #[] vs.toArray/\vs.length=caps.length /\ ∀ (j:Nat) (u:Value) (d:D),vs[j]?=some u->caps[j]?=some d->RepI w U u d
 | .clp f ks=>∃ vs:List Value,v=.func (.func f) #[] vs.toArray/\vs.length=ks.length /\ ∀ (j:Nat) (u:Value) (p:Nat×Nat),vs[j]?=some u->ks[j]?=some p -> ∃ b o,β p.1=some (.cells b o)/\u=.pointer (some ⟨b,o+p.2,none⟩)
 | .mp k=>∃ b,β k=some (.cells b 0)/\v=.map (some b)
 | .un=>v=undef
 | .bad=>True

inductive RepV (w:World) (β:Nat->Option Place) (U:Nat->Prop) (base:Nat):Value->V->Prop
 | one (v:Value) (c:C) (h:RepC w β U base v c):RepV w β U base v (.one c)
 | agg (vs:List Value) (cs:List C) (hl:vs.length=cs.length) (h1:∀ u∈vs,u.oneCell'=true) (h:∀ (j:Nat) (u:Value) (c:C),vs[j]?=some u->cs[j]?=some c->RepC w β U base u c):RepV w β U base (.agg vs.toArray) (.agg cs)
 | tup (vs:List Value) (xs:List V) (hl:vs.length=xs.length) (h:∀ (j:Nat) (u:Value) (x:V),vs[j]?=some u->xs[j]?=some x->RepV w β U base u x):RepV w β U base (.tuple vs.toArray) (.tup xs)

def Evo (β β':Nat->Option Place):Prop:=∀ k p,β k=some p->β' k=some p \/ ∃ v0 ver0 v1 ver1,p=.row v0 ver0/\β' k=some (.row v1 ver1)/\ver0<ver1

theorem Evo.refl (β:Nat->Option Place):Evo β β:=fun _ _ h=>.inl h
theorem Evo.sub {β β':Nat->Option Place} (h:∀ k p,β k=some p->β' k=some p):Evo β β':=fun k p hk=>.inl (h k p hk)

theorem RepC.map {w w':World} {β β':Nat->Option Place} {U U':Nat->Prop} {base:Nat} {v:Value} {c:C} (h:RepC w β U base v c) (hU:∀ b,U b->U' b)
  (hw:∀ b,U b->w'.heap[b]?=w.heap[b]?) (hβ:Evo β β'):RepC w' β' U' base v c:=by
 cases c with
 | d x=>exact RepI.mono h hU hw
 | f x=>exact RepI.mono (U:=fun b=>U b/\base<=b) h (fun b hb=>⟨hU b hb.1,hb.2⟩) (fun b hb=>hw b hb.1)
 | nil=>exact h
 | own k ver len =>
  obtain ⟨a,cap,v0,ver0,h1,q1,q2,q3,h2,h3,h4⟩:=h
  rcases hβ _ _ h2 with e | ⟨x0,y0,x1,y1,e,e2,e3⟩
  . exact ⟨a,cap,v0,ver0,h1,q1,q2,q3,e,h3,h4⟩
  . cases e; exact ⟨a,cap,x1,y1,h1,q1,q2,q3,e2,by omega,fun e=>by omega⟩
 | sub k ver sz off len =>
  obtain ⟨a,cap,v0,ver0,h1,h2,q1,h3,h4,h5⟩:=h
  rcases hβ _ _ h3 with e | ⟨x0,y0,x1,y1,e,e2,e3⟩
  . exact ⟨a,cap,v0,ver0,h1,h2,q1,e,h4,h5⟩
  . cases e; exact ⟨a,cap,x1,y1,h1,h2,q1,e2,by omega,fun e=>by omega⟩
 | ptr k off =>
  obtain ⟨b,o,h1,h2⟩:=h
  rcases hβ _ _ h1 with e | ⟨x0,y0,x1,y1,e,e2,e3⟩
  . exact ⟨b,o,e,h2⟩
  . cases e
 | pr k ver sz i off =>
  obtain ⟨a,v0,ver0,h1,h2,h3,h4⟩:=h
  rcases hβ _ _ h2 with e | ⟨x0,y0,x1,y1,e,e2,e3⟩
  . exact ⟨a,v0,ver0,h1,e,h3,h4⟩
  . cases e; exact ⟨a,x1,y1,h1,e2,by omega,fun e=>by omega⟩
 | asl k off len =>
  obtain ⟨b,o,h1,h2⟩:=h
  rcases hβ _ _ h1 with e | ⟨x0,y0,x1,y1,e,e2,e3⟩
  . exact ⟨b,o,e,h2⟩
  . cases e
 | pre k ver sz len =>
  obtain ⟨a,cap,v0,ver0,h1,q1,q2,h2,h3,h4⟩:=h
  rcases hβ _ _ h2 with e | ⟨x0,y0,x1,y1,e,e2,e3⟩
  . exact ⟨a,cap,v0,ver0,h1,q1,q2,e,h3,h4⟩
  . cases e; exact ⟨a,cap,x1,y1,h1,q1,q2,e2,by omega,fun e=>by omega⟩
 | nn x=>exact ⟨RepI.mono h.1 hU hw,h.2⟩
 | pv cells =>
  obtain ⟨b,o,vals,h1,h2,h3⟩:=h
  refine ⟨b,o,vals,h1,hU b h2,fun j d hj=>⟨?_,((h3 j d hj).2).mono hU hw⟩⟩
  rw [World.cell?_of_block (w:=w) (hw b h2)]; exact (h3 j d hj).1
 | clo f caps=>obtain ⟨vs,h1,h2,h3⟩:=h; exact ⟨vs,h1,h2,fun j u d hu hd=>(h3 j u d hu hd).mono hU hw⟩
 | clp f ks =>
  obtain ⟨vs,h1,h2,h3⟩:=h
  refine ⟨vs,h1,h2,fun j u p hu hp=>?_⟩
  obtain ⟨b,o,e1,e2⟩:=h3 j u p hu hp
  rcases hβ _ _ e1 with e | ⟨x0,y0,x1,y1,e,_,_⟩
  . exact ⟨b,o,e,e2⟩
  . cases e
 | mp k =>
  obtain ⟨b,h1,h2⟩:=h
  rcases hβ _ _ h1 with e | ⟨x0,y0,x1,y1,e,e2,e3⟩
  . exact ⟨b,e,h2⟩
  . cases e
 | un=>exact h
 | bad=>trivial

theorem RepV.map {w w':World} {β β':Nat->Option Place} {U U':Nat->Prop} {base:Nat} {v:Value} {x:V} (h:RepV w β U base v x) (hU:∀ b,U b->U' b)
  (hw:∀ b,U b->w'.heap[b]?=w.heap[b]?) (hβ:Evo β β'):RepV w' β' U' base v x:=by
 induction h with
 | one v c h=>exact .one v c (h.map hU hw hβ)
 | agg vs cs hl h1 h=>exact .agg vs cs hl h1 fun j u c hu hc=>(h j u c hu hc).map hU hw hβ
 | tup vs xs hl h ih=>exact .tup vs xs hl fun j u x hu hx=>ih j u x hu hx

theorem RepV.bad {w:World} {β:Nat->Option Place} {U:Nat->Prop} {base:Nat} (v:Value):RepV w β U base v (.one .bad):=.one v .bad trivial

def dv:D->Value
 | .i k n=>.int k n
 | .b x=>.bool x
 | .s l=>.string ⟨l.toArray⟩
 | _=>undef
def zcn:List D->Value
 | [d]=>dv d
 | ds=>.agg (ds.map dv).toArray
def zipE (kt:Nat) (es:List (τ kt×Int)) (bs:List Nat):List MapEntry:=List.zipWith (fun e b=>⟨zcn (enc kt e.1),.int .i64 e.2,b⟩) es bs
def keyI:Nat->Option IntKind
 | 0=>some .i64
 | 27=>some .u64
 | 28=>some .u32
 | _=>none
def keyN:(kt:Nat)->τ kt->Int
 | 0,(n:Int)=>n
 | 27,(n:Int)=>n
 | 28,(n:Int)=>n
 | _,_=>0
def keyL:(kt:Nat)->τ kt->List Int
 | 17,(t:TMap)=>[t.proto,t.addr,t.port,t.out,t.at']
 | 29,(t:TMac)=>[t.m0,t.m1,t.m2,t.m3,t.m4,t.m5]
 | _,_=>[]
def keyK:Nat->List IntKind
 | 17=>[.i64,.u32,.i64,.i64,.i64]
 | 29=>[.u8,.u8,.u8,.u8,.u8,.u8]
 | _=>[]
def zdc:(kt:Nat)->τ kt->τ kt->Bool
 | 17,a,b=>decide (keyL 17 a=keyL 17 b)
 | 29,a,b=>decide (keyL 29 a=keyL 29 b)
 | kt,a,b=>decide (keyN kt a=keyN kt b)
def mIdx (kt:Nat) (t:τ kt):List (τ kt×Int)->Option Nat
 | []=>none
 | e :: r=>match zdc kt t e.1 with
  | true=>some 0
  | false=>(mIdx kt t r).map (· + 1)
def mVal {κ:Type} (es:List (κ×Int)) (j:Nat):Int:=((es[j]?).map (·.2)).getD 0
def mGet (kt:Nat) (t:τ kt) (es:List (τ kt×Int)):Option Int:=(mIdx kt t es).map (mVal es)
def mPut (kt:Nat) (t:τ kt) (v:Int) (es:List (τ kt×Int)):List (τ kt×Int):=match mIdx kt t es with
 | some j=>es.set j (t,v)
 | none=>es++[(t,v)]
def lits:List Nat:=[]
def stamps:Bool:=false
def Births (bs:List Nat) (cl n:Nat):Prop:=bs.length=n/\(stamps=true->bs=List.range n/\cl=n)
def Blk.whole:Blk->Bool
 | .cells _=>false
 | _=>true
def Blk.std:Blk->Blk
 | .rowT ver e c ap fr xs=>.row ver e (esz c) ap fr (xs.map (enc c))
 | b=>b
def zpcb (w:World) (β:Nat->Option Place) (U:Nat->Prop) (base:Nat):Place->Blk->Prop
 | .cells b o,.cells cs=>0<cs.length /\ ∀ (j:Nat) (c:C),cs[j]?=some c -> ∃ v,w.cell? ⟨b,o+j,none⟩=some v/\w.frozen? ⟨b,o+j,none⟩=false/\v.oneCell'=true/\RepC w β U base v c
 | .row v ver0,.row ver e sz ap fr rows=>ver=ver0/\(∀ r∈rows,r.length=sz) /\
  ((v=.slice none 0 0/\rows=[]) \/
   ∃ (g cap:Nat) (cur:Array Value) (fz:Nat×Nat),v=.slice (some ⟨g,0,none⟩) rows.length cap/\w.heap[g]?=some (.cells cur e fz)/\rows.length<=cap/\cap<=maxLen/\cur.size=cap*sz /\
    (ap=true->fz=(0,0))/\(∀ i,i<rows.length*sz->w.frozen? ⟨g,i,none⟩=false) /\
    ∀ (i j:Nat) (r:List D) (d:D),rows[i]?=some r->r[j]?=some d -> ∃ u,cur[i*sz+j]?=some u/\u.oneCell'=true/\RepI w (fun b=>U b/\(fr=true->base<=b)) u d)
 | .row v ver0,.junk ver e sz len N=>ver=ver0/\((v=.slice none 0 0/\len=0/\N=0) \/ ∃ (g:Nat) (cur:Array Value),v=.slice (some ⟨g,0,none⟩) len N/\len<=N/\w.heap[g]?=some (.cells cur e (0,0))/\cur.size=N*sz)
 | .cells b o,.mp kt es=>o=0 /\ ∃ (bs:List Nat) (cl:Nat),Births bs cl es.length/\w.heap[b]?=some (.map (zipE kt es bs).toArray cl)
 | _,_=>False
def RepB (w:World) (β:Nat->Option Place) (U:Nat->Prop) (base:Nat) (p:Place) (blk:Blk):Prop:=zpcb w β U base p blk.std

def Place.block:Place->Option Nat
 | .cells b _=>some b
 | .row v _=>v.ownBlock

def Place.covers (p:Place) (blk:Blk) (b j:Nat):Prop :=
 match p,blk with
 | .cells b' o,.cells cs=>b=b'/\o<=j/\j<o+cs.length
 | .row v _,_=>v.ownBlock=some b
 | .cells b' _,.mp _ _=>b=b'
 | _,_=>False

structure Chg (B:Nat) (X:Nat->Nat->Prop) (w w':World):Prop where
 os:w'.os=w.os
 tape:w'.tape=w.tape
 output:w'.output=w.output
 size:w.heap.size<=w'.heap.size
 block:∀ b,b<B->w'.heap[b]?=w.heap[b]? \/
  (∃ c c' e f,w.heap[b]?=some (.cells c e f)/\w'.heap[b]?=some (.cells c' e f)/\c.size=c'.size /\ ∀ j,¬ X b j->c'[j]?=c[j]?) \/ ∀ j,X b j

theorem Chg.refl (B:Nat) (X:Nat->Nat->Prop) (w:World):Chg B X w w:=⟨rfl,rfl,rfl,Nat.le_refl _,fun _ _=>.inl rfl⟩

theorem Chg.trans {B:Nat} {X:Nat->Nat->Prop} {a b c:World} (h:Chg B X a b) (k:Chg B X b c):Chg B X a c:=by
 refine ⟨k.os.trans h.os,k.tape.trans h.tape,k.output.trans h.output,Nat.le_trans h.size k.size,fun i hi=>?_⟩
 rcases h.block i hi with h1 | ⟨x,x',e,f,h1,h2,h3,h4⟩ | h1
 . rcases k.block i hi with k1 | ⟨y,y',e',f',k1,k2,k3,k4⟩ | k1
   . exact .inl (k1.trans h1)
   . exact .inr (.inl ⟨y,y',e',f',h1 ▸ k1,k2,k3,k4⟩)
   . exact .inr (.inr k1)
 . rcases k.block i hi with k1 | ⟨y,y',e',f',k1,k2,k3,k4⟩ | k1
   . exact .inr (.inl ⟨x,x',e,f,h1,k1.trans h2,h3,h4⟩)
   . rw [h2] at k1
     obtain ⟨rfl,rfl,rfl⟩:x'=y/\e=e'/\f=f':=by simpa using k1
     exact .inr (.inl ⟨x,y',e,f,h1,k2,h3.trans k3,fun j hj=>(k4 j hj).trans (h4 j hj)⟩)
   . exact .inr (.inr k1)
 . exact .inr (.inr h1)

theorem Chg.below {B:Nat} {w w':World} {X:Nat->Nat->Prop} (hX:∀ b j,¬ X b j) (h:Chg B X w w'):Below B w w':=by
 refine ⟨h.os,h.tape,h.output,h.size,fun b hb=>?_⟩
 rcases h.block b hb with h1 | ⟨x,x',e,f,h1,h2,h3,h4⟩ | h1
 . exact h1
 . have:x'=x:=Array.ext_getElem? fun j=>h4 j (hX b j)
   rw [h1,h2,this]
 . exact absurd (h1 0) (hX b 0)

def globs:List (Nat×Array Value):=[(1,#[.int .u8 0,.int .u8 1,.int .u8 56,.int .u8 2,.int .u8 57,.int .u8 49,.int .u8 28,.int .u8 3,.int .u8 61,.int .u8 58,.int .u8 42,.int .u8 50,.int .u8 38,.int .u8 29,.int .u8 17,.int .u8 4,.int .u8 62,.int .u8 47,.int .u8 59,.int .u8 36,.int .u8 45,.int .u8 43,.int .u8 51,.int .u8 22,.int .u8 53,.int .u8 39,.int .u8 33,.int .u8 30,.int .u8 24,.int .u8 18,.int .u8 12,.int .u8 5,.int .u8 63,.int .u8 55,.int .u8 48,.int .u8 27,.int .u8 60,.int .u8 41,.int .u8 37,.int .u8 16,.int .u8 46,.int .u8 35,.int .u8 44,.int .u8 21,.int .u8 52,.int .u8 32,.int .u8 23,.int .u8 11,.int .u8 54,.int .u8 26,.int .u8 40,.int .u8 15,.int .u8 34,.int .u8 20,.int .u8 31,.int .u8 10,.int .u8 25,.int .u8 14,.int .u8 19,.int .u8 9,.int .u8 13,.int .u8 8,.int .u8 7,.int .u8 6])]
def gints:List Nat:=[0]
def Glob (U:Nat->Prop) (w:World):Prop:=(∀ e∈globs,U e.1 /\ ∃ x y,w.heap[e.1]?=some (.cells e.2 x y)) /\ ∀ g∈gints,U g /\ ∃ m,w.cell? ⟨g,0,none⟩=some (.int .i64 m)
theorem Glob.map {U U':Nat->Prop} {w w':World} (h:Glob U w) (hU:∀ b,U b->U' b) (hw:∀ b,U b->w'.heap[b]?=w.heap[b]?):Glob U' w':=by
 refine ⟨fun e he=>?_,fun g hg=>?_⟩
 . obtain ⟨h1,x,y,h2⟩:=h.1 e he
   exact ⟨hU _ h1,x,y,by rw [hw _ h1]; exact h2⟩
 . obtain ⟨h1,m,h2⟩:=h.2 g hg
   exact ⟨hU _ h1,m,(World.cell?_of_block (w:=w) (hw _ h1)).trans h2⟩

structure SimB (w0:World) (U0:Nat->Prop) (X:Nat->Nat->Prop) (β0:Nat->Option Place) (β:Nat->Option Place) (U:Nat->Prop) (s:St) (a:Act) (w:World):Prop where
 n:a.tmps.size=s.n
 small:s.n<=900
 args:∀ k,(k<1000000\/2000000<=k)->β0 k=none
 ver0:∀ k v ver,β0 k=some (.row v ver)->ver=0
 hist:∀ k p,β0 k=some p->(s.blk k).isSome=true->β k=some p \/ ∃ v0 ver0 v1 ver1,p=.row v0 ver0/\β k=some (.row v1 ver1)/\ver0<ver1
 defers:a.defers=[]
 env:∀ t,RepV w β U w0.heap.size (a.tmps.getD t undef) (s.get t)
 mem:∀ k blk,s.blk k=some blk -> ∃ p,β k=some p/\RepB w β U w0.heap.size p blk
 dom:∀ k p,β k=some p->(s.blk k).isSome=true
 apart:∀ k p b,β k=some p->p.block=some b->¬ U b/\b<w.heap.size
 inj:∀ k k' p p' blk blk' b j,k≠k'->β k=some p->β k'=some p'->s.blk k=some blk->s.blk k'=some blk'->p.covers blk b j->¬ p'.covers blk' b j
 stab:∀ b,U b->b<w.heap.size
 glob:Glob U w
 old:∀ b,U0 b->U b
 new:∀ b,b<w0.heap.size->U b->U0 b
 chg:Chg w0.heap.size X w0 w
 may:∀ k p blk b j,β k=some p->s.blk k=some blk->p.covers blk b j->b<w0.heap.size->X b j

theorem SimB.kinds {w0:World} {U0:Nat->Prop} {X:Nat->Nat->Prop} {β0 β:Nat->Option Place} {U:Nat->Prop} {s:St} {a:Act} {w:World} (h:SimB w0 U0 X β0 β U s a w)
  (k k':Nat) (v:Value) (ver b o:Nat) (hk:β k=some (.row v ver)) (hk':β k'=some (.cells b o)):v.ownBlock≠some b:=by
 intro e
 obtain ⟨b1,hb1⟩:=Option.isSome_iff_exists.1 (h.dom k _ hk)
 obtain ⟨b2,hb2⟩:=Option.isSome_iff_exists.1 (h.dom k' _ hk')
 obtain ⟨p1,hp1,hr1⟩:=h.mem k b1 hb1
 obtain ⟨p2,hp2,hr2⟩:=h.mem k' b2 hb2
 rw [hk] at hp1; cases hp1
 rw [hk'] at hp2; cases hp2
 have hne:k≠k':=fun q=>by subst q; rw [hk] at hk'; cases hk'
 cases b2 with
 | row=>exact hr2.elim
 | rowT=>exact hr2.elim
 | junk=>exact hr2.elim
 | mp kt es=>exact h.inj k k' _ _ _ _ b 0 hne hk hk' hb1 hb2 (by cases b1 <;> first | exact hr1.elim | exact e) rfl
 | cells cs =>
  cases b1 with
  | cells=>exact hr1.elim
  | mp=>exact hr1.elim
  | row ver' el sz ap fr rows=>exact h.inj k k' _ _ _ _ b o hne hk hk' hb1 hb2 e ⟨rfl,Nat.le_refl _,by have:=hr2.1; omega⟩
  | rowT ver' el c ap fr xs=>exact h.inj k k' _ _ _ _ b o hne hk hk' hb1 hb2 e ⟨rfl,Nat.le_refl _,by have:=hr2.1; omega⟩
  | junk=>exact h.inj k k' _ _ _ _ b o hne hk hk' hb1 hb2 e ⟨rfl,Nat.le_refl _,by have:=hr2.1; omega⟩

def Sim (w0:World) (U0:Nat->Prop) (X:Nat->Nat->Prop) (β0:Nat->Option Place) (s:St) (a:Act) (w:World):Prop:=∃ β U,SimB w0 U0 X β0 β U s a w
end Go.Proofs.YthkhikdglmaiaaaGreatDoor.Abs
namespace Go.Proofs.YthkhikdglmaiaaaGreatDoor.Abs
open Go Go.RowKit

theorem zah {α:Type} (t j:Nat) (v:α) (r:List (Nat×α)):look t ((j,v) :: r)=if j=t then some v else look t r:=rfl
def St.put (s:St) (dst:Option Nat) (x:V):St :=
 match dst with
 | some t=>{ s with env:=(t,x) :: s.env }
 | none=>s
def St.set (s:St) (k:Nat) (blk:Blk):St:={ s with mem:=(k,blk) :: s.mem }

theorem St.get_put (s:St) (d t:Nat) (x:V):(s.put (some d) x).get t=if d=t then x else s.get t:=by
 unfold St.put St.get; simp only [zah]; split <;> rfl
@[simp] theorem St.blk_put (s:St) (d:Option Nat) (x:V) (k:Nat):(s.put d x).blk k=s.blk k:=by cases d <;> rfl
@[simp] theorem St.n_put (s:St) (d:Option Nat) (x:V):(s.put d x).n=s.n:=by cases d <;> rfl
theorem St.blk_set (s:St) (k k':Nat) (blk:Blk):(s.set k blk).blk k'=if k=k' then some blk else s.blk k':=by
 unfold St.set St.blk; simp only [zah]
@[simp] theorem St.get_set (s:St) (k t:Nat) (blk:Blk):(s.set k blk).get t=s.get t:=rfl
@[simp] theorem St.n_set (s:St) (k:Nat) (blk:Blk):(s.set k blk).n=s.n:=rfl

def upd (β:Nat->Option Place) (k:Nat) (p:Place):Nat->Option Place:=fun k'=>if k=k' then some p else β k'
theorem zak (β:Nat->Option Place) (k:Nat) (p:Place):upd β k p k=some p:=by simp [upd]
theorem upd_ne (β:Nat->Option Place) {k k':Nat} (h:k≠k') (p:Place):upd β k p k'=β k':=by simp [upd,h]

theorem size_alloc (w:World) (o:Obj):(w.alloc o).heap.size=w.heap.size+1:=by simp

theorem zan {p:Place} {blk:Blk} {b j:Nat} (h:p.covers blk b j):p.block=some b:=by
 cases p with
 | cells b' o=>cases blk with
  | cells cs=>obtain ⟨h1,_⟩:=h; rw [h1]; rfl
  | mp=>have h1:b=b':=h; rw [h1]; rfl
  | row=>exact h.elim
  | rowT=>exact h.elim
  | junk=>exact h.elim
 | row v ver=>cases blk <;> exact h

section
variable {w0:World} {U0:Nat->Prop} {X:Nat->Nat->Prop} {β0:Nat->Option Place} {β:Nat->Option Place} {U:Nat->Prop} {s:St} {a:Act} {w:World}

theorem SimB.baseLe (h:SimB w0 U0 X β0 β U s a w):w0.heap.size<=w.heap.size:=h.chg.size

theorem SimB.put (h:SimB w0 U0 X β0 β U s a w) {v:Value} {x:V} (hx:RepV w β U w0.heap.size v x) {dst:Option Nat} (hd:∀ d,dst=some d->d<s.n) :
  SimB w0 U0 X β0 β U (s.put dst x) (a.put dst v) w:=by
 cases dst with
 | none=>exact h
 | some d =>
  have hd':d<a.tmps.size:=by rw [h.n]; exact hd d rfl
  have henv:∀ t,RepV w β U w0.heap.size ((a.put (some d) v).tmps.getD t undef) ((s.put (some d) x).get t):=fun t=>by
   rw [St.get_put]
   by_cases hdt:d=t
   . subst hdt
     rw [if_pos rfl]
     have:(a.put (some d) v).tmps.getD d undef=v:=by simp [Act.put,hd']
     rw [this]; exact hx
   . rw [if_neg hdt]
     have:(a.put (some d) v).tmps.getD t undef=a.tmps.getD t undef:=by
      simp only [Act.put,Array.getD_eq_getD_getElem?]
      rw [Array.getElem?_setIfInBounds_ne hdt]
     rw [this]; exact h.env t
  exact { n:=by simpa [Act.put] using h.n,small:=by simpa using h.small,args:=h.args,ver0:=h.ver0,hist:=by simpa using h.hist,defers:=by simpa [Act.put] using h.defers,mem:=by simpa using h.mem,dom:=by simpa using h.dom,apart:=h.apart,inj:=by simpa using h.inj,stab:=h.stab,glob:=h.glob,old:=h.old,new:=h.new,chg:=h.chg,may:=by simpa using h.may,env:=henv }

theorem RepB.map {w':World} {β':Nat->Option Place} {U':Nat->Prop} {base:Nat} {p:Place} {blk:Blk} (h:RepB w β U base p blk) (hU:∀ b,U b->U' b)
  (hw:∀ b,U b->w'.heap[b]?=w.heap[b]?) (hβ:Evo β β')
  (hc:∀ b j,p.covers blk b j->w'.cell? ⟨b,j,none⟩=w.cell? ⟨b,j,none⟩/\w'.frozen? ⟨b,j,none⟩=w.frozen? ⟨b,j,none⟩)
  (hb:∀ b,p.block=some b->blk.whole=true->w'.heap[b]?=w.heap[b]?):RepB w' β' U' base p blk:=by
 cases p with
 | cells b o =>
  cases blk with
  | cells cs =>
   refine ⟨h.1,fun j c hj=>?_⟩
   obtain ⟨v,h1,h2,h3,h4⟩:=h.2 j c hj
   have e:=hc b (o+j) ⟨rfl,by omega,by have:=(List.getElem?_eq_some_iff.1 hj).1; omega⟩
   exact ⟨v,by rw [e.1]; exact h1,by rw [e.2]; exact h2,h3,h4.map hU hw hβ⟩
  | row=>exact h.elim
  | rowT=>exact h.elim
  | junk=>exact h.elim
  | mp kt es=>obtain ⟨h1,bs,cl,h2,h3⟩:=h; exact ⟨h1,bs,cl,h2,(hb b rfl rfl).trans h3⟩
 | row v ver0 =>
  cases blk with
  | cells=>exact h.elim
  | mp=>exact h.elim
  | junk ver e sz len N =>
   obtain ⟨h0,h1⟩:=h
   refine ⟨h0,?_⟩
   rcases h1 with h1 | ⟨g,cur,rfl,h2,h3,h4⟩
   . exact .inl h1
   . exact .inr ⟨g,cur,rfl,h2,(hb g rfl rfl).trans h3,h4⟩
  | row ver e sz ap fr rows =>
   obtain ⟨h0,h1,h2⟩:=h
   refine ⟨h0,h1,?_⟩
   rcases h2 with h2 | ⟨g,cap,cur,fz,rfl,hg,h3,h4,h5,h6,h7,h8⟩
   . exact .inl h2
   . have e':=hb g rfl rfl
     refine .inr ⟨g,cap,cur,fz,rfl,e'.trans hg,h3,h4,h5,h6,fun i hi=>by rw [World.frozen?_of_block (w:=w) e']; exact h7 i hi,fun i j r d hi hj=>?_⟩
     obtain ⟨u,k1,k2,k3⟩:=h8 i j r d hi hj
     exact ⟨u,k1,k2,k3.mono (fun b hb=>⟨hU b hb.1,hb.2⟩) (fun b hb=>hw b hb.1)⟩
  | rowT ver e c ap fr xs =>
   obtain ⟨h0,h1,h2⟩:=h
   refine ⟨h0,h1,?_⟩
   rcases h2 with h2 | ⟨g,cap,cur,fz,rfl,hg,h3,h4,h5,h6,h7,h8⟩
   . exact .inl h2
   . have e':=hb g rfl rfl
     refine .inr ⟨g,cap,cur,fz,rfl,e'.trans hg,h3,h4,h5,h6,fun i hi=>by rw [World.frozen?_of_block (w:=w) e']; exact h7 i hi,fun i j r d hi hj=>?_⟩
     obtain ⟨u,k1,k2,k3⟩:=h8 i j r d hi hj
     exact ⟨u,k1,k2,k3.mono (fun b hb=>⟨hU b hb.1,hb.2⟩) (fun b hb=>hw b hb.1)⟩

theorem RepB.mapBlock {w':World} {β':Nat->Option Place} {U':Nat->Prop} {base:Nat} {p:Place} {blk:Blk} (h:RepB w β U base p blk) (hU:∀ b,U b->U' b)
  (hw:∀ b,U b->w'.heap[b]?=w.heap[b]?) (hβ:Evo β β') (hb:∀ b,p.block=some b->w'.heap[b]?=w.heap[b]?):RepB w' β' U' base p blk :=
 h.map hU hw hβ (fun b j hc=>⟨World.cell?_of_block (w:=w) (hb b (zan hc)),World.frozen?_of_block (w:=w) (hb b (zan hc))⟩) (fun b h _=>hb b h)

theorem SimB.heapEq (h : SimB w0 U0 X β0 β U s a w) {w' : World} (hh : w'.heap = w.heap) (ho : w'.os = w.os) (ht : w'.tape = w.tape) (hp : w'.output = w.output) : SimB w0 U0 X β0 β U s a w' := by
  have e : ∀ b : Nat, w'.heap[b]? = w.heap[b]? := fun b => by rw [hh]
  exact { n := h.n, small := h.small, args := h.args, ver0 := h.ver0, hist := h.hist, defers := h.defers, env := fun t => (h.env t).map (fun _ hb => hb) (fun b _ => e b) (Evo.refl _), dom := h.dom, inj := h.inj, glob := h.glob.map (fun _ hb => hb) (fun b _ => e b), old := h.old, new := h.new, may := h.may,
                mem := fun k blk hk => by obtain ⟨p, h1, h2⟩ := h.mem k blk hk; exact ⟨p, h1, h2.mapBlock (fun _ hb => hb) (fun b _ => e b) (Evo.refl _) (fun b _ => e b)⟩,
                apart := fun k p b h1 h2 => by rw [hh]; exact h.apart k p b h1 h2,
                stab := fun b hb => by rw [hh]; exact h.stab b hb,
                chg := h.chg.trans ⟨ho, ht, hp, by rw [hh]; exact Nat.le_refl _, fun b _ => .inl (e b)⟩ }

theorem SimB.drew (h:SimB w0 U0 X β0 β U s a w):SimB w0 U0 X β0 β U s a w.drew:=h.heapEq rfl rfl rfl rfl

theorem SimB.noKey (h:SimB w0 U0 X β0 β U s a w) {k:Nat} (hk:s.blk k=none):β k=none:=by
 cases hb:β k with
 | none=>rfl
 | some p=>have:=h.dom k p hb; rw [hk] at this; cases this

theorem SimB.updOld (h:SimB w0 U0 X β0 β U s a w) {k:Nat} (hk:s.blk k=none) (p:Place):∀ k' p',β k'=some p'->upd β k p k'=some p':=by
 intro k' p' hp
 have:k≠k':=fun e=>by subst e; rw [h.noKey hk] at hp; cases hp
 rw [upd_ne β this]; exact hp

theorem SimB.blockOld (h:SimB w0 U0 X β0 β U s a w) {k:Nat} {p:Place} (hk:β k=some p):∀ b,p.block=some b->b<w.heap.size:=fun b hb=>(h.apart k p b hk hb).2

theorem SimB.newKey (h:SimB w0 U0 X β0 β U s a w) {k:Nat} (hk0:k<1000000) (hk:s.blk k=none) {w':World} {p:Place} {blk:Blk}
  (hos:w'.os=w.os) (htape:w'.tape=w.tape) (hout:w'.output=w.output) (hsize:w.heap.size<=w'.heap.size)
  (hold:∀ b,b<w.heap.size->w'.heap[b]?=w.heap[b]?) (hblock:∀ b,p.block=some b->w.heap.size<=b/\b<w'.heap.size)
  (hrep:RepB w' (upd β k p) U w0.heap.size p blk) :
  SimB w0 U0 X β0 (upd β k p) U (s.set k blk) a w'/\(∀ k' p',β k'=some p'->upd β k p k'=some p'):=by
 have hupd:=h.updOld hk p
 have hUold:∀ b,U b->w'.heap[b]?=w.heap[b]?:=fun b hb=>hold b (h.stab b hb)
 have hget:∀ k' p',upd β k p k'=some p'->(k=k'/\p'=p)\/(k≠k'/\β k'=some p'):=by
  intro k' p' hp
  by_cases e:k=k'
  . subst e; rw [zak] at hp; exact .inl ⟨rfl,by simpa using hp.symm⟩
  . rw [upd_ne β e] at hp; exact .inr ⟨e,hp⟩
 refine ⟨?_,hupd⟩
 exact {
  n:=h.n,small:=h.small,args:=h.args,ver0:=h.ver0,defers:=h.defers,glob:=h.glob.map (fun _ hb=>hb) hUold
  hist:=fun k' p' hp hb=>by
    have e:k≠k':=fun e=>by subst e; rw [h.args k (.inl hk0)] at hp; cases hp
    rw [St.blk_set,if_neg e] at hb
    rw [upd_ne β e]
    exact h.hist k' p' hp hb
  env:=fun t=>(h.env t).map (fun _ hb=>hb) hUold (Evo.sub hupd)
  mem:=fun k' blk' hk'=>by
    rw [St.blk_set] at hk'
    by_cases e:k=k'
    . subst e
      rw [if_pos rfl] at hk'
      obtain rfl:blk=blk':=by simpa using hk'
      exact ⟨p,zak _ _ _,hrep⟩
    . rw [if_neg e] at hk'
      obtain ⟨p',hp1,hp2⟩:=h.mem k' blk' hk'
      exact ⟨p',hupd _ _ hp1,hp2.mapBlock (fun _ hb=>hb) hUold (Evo.sub hupd) (fun b hb=>hold b (h.blockOld hp1 b hb))⟩
  dom:=fun k' p' hp=>by
    rw [St.blk_set]
    rcases hget k' p' hp with ⟨e,_⟩ | ⟨e,hp'⟩
    . rw [if_pos e]; rfl
    . rw [if_neg e]; exact h.dom k' p' hp'
  apart:=fun k' p' b hp hb=>by
    rcases hget k' p' hp with ⟨e,rfl⟩ | ⟨e,hp'⟩
    . obtain ⟨q1,q2⟩:=hblock b hb
      exact ⟨fun hu=>by have:=h.stab _ hu; omega,q2⟩
    . obtain ⟨h1,h2⟩:=h.apart k' p' b hp' hb
      exact ⟨h1,by omega⟩
  inj:=fun k1 k2 p1 p2 b1 b2 b j hne hp1 hp2 hb1 hb2 hc1 hc2=>by
    rcases hget k1 p1 hp1 with ⟨e1,rfl⟩ | ⟨e1,hp1'⟩ <;> rcases hget k2 p2 hp2 with ⟨e2,rfl⟩ | ⟨e2,hp2'⟩
    . exact hne (e1.symm.trans e2)
    . have:=hblock b (zan hc1)
      have:=h.blockOld hp2' b (zan hc2)
      omega
    . have:=hblock b (zan hc2)
      have:=h.blockOld hp1' b (zan hc1)
      omega
    . rw [St.blk_set,if_neg e1] at hb1; rw [St.blk_set,if_neg e2] at hb2
      exact h.inj k1 k2 p1 p2 b1 b2 b j hne hp1' hp2' hb1 hb2 hc1 hc2
  stab:=fun b hb=>by have:=h.stab b hb; omega
  old:=h.old,new:=h.new
  chg:=h.chg.trans ⟨hos,htape,hout,hsize,fun b hb=>.inl (hold b (Nat.lt_of_lt_of_le hb h.baseLe))⟩
  may:=fun k' p' blk' b j hp hb hc hlt=>by
    rcases hget k' p' hp with ⟨e,rfl⟩ | ⟨e,hp'⟩
    . have:=hblock b (zan hc)
      have:=h.baseLe
      omega
    . rw [St.blk_set,if_neg e] at hb
      exact h.may k' p' blk' b j hp' hb hc hlt }

theorem SimB.allocData (h:SimB w0 U0 X β0 β U s a w) (cur:Array Value) (e:TypeId):SimB w0 U0 X β0 β (fun b=>U b\/b=w.heap.size) s a (w.alloc (.cells cur e (0,0))):=by
 have hold:∀ b,b<w.heap.size->(w.alloc (.cells cur e (0,0))).heap[b]?=w.heap[b]?:=fun b hb=>Below.heap_alloc _ _ _ hb
 have hUold:∀ b,U b->(w.alloc (.cells cur e (0,0))).heap[b]?=w.heap[b]?:=fun b hb=>hold b (h.stab b hb)
 have hsz:(w.alloc (.cells cur e (0,0))).heap.size=w.heap.size+1:=size_alloc w _
 have hbl:=h.baseLe
 exact {
  n:=h.n,small:=h.small,args:=h.args,ver0:=h.ver0,defers:=h.defers,glob:=h.glob.map (fun _ hb=>.inl hb) hUold
  hist:=h.hist
  env:=fun t=>(h.env t).map (fun _ hb=>.inl hb) hUold (Evo.refl _)
  mem:=fun k' blk' hk'=>by
   obtain ⟨p',hp1,hp2⟩:=h.mem k' blk' hk'
   exact ⟨p',hp1,hp2.mapBlock (fun _ hb=>.inl hb) hUold (Evo.refl _) (fun b hb=>hold b (h.blockOld hp1 b hb))⟩
  dom:=h.dom
  apart:=fun k' p' b hp hb=>by
   obtain ⟨h1,h2⟩:=h.apart k' p' b hp hb
   refine ⟨fun hu=>?_,by omega⟩
   rcases hu with hu | hu
   . exact h1 hu
   . omega
  inj:=h.inj
  stab:=fun b hb=>by
   rcases hb with hb | hb
   . have:=h.stab b hb; omega
   . omega
  old:=fun b hb=>.inl (h.old b hb)
  new:=fun b hb hu=>by
   rcases hu with hu | hu
   . exact h.new b hb hu
   . omega
  chg:=h.chg.trans ⟨rfl,rfl,rfl,by omega,fun b hb=>.inl (hold b (Nat.lt_of_lt_of_le hb h.baseLe))⟩
  may:=h.may }

theorem SimB.allocCells (h:SimB w0 U0 X β0 β U s a w) {k:Nat} (hk0:k<1000000) (hk:s.blk k=none) (T:TypeId) (vs:List Value) (cs:List C) (hl:vs.length=cs.length) (hne:0<cs.length)
   (hrep:∀ (j:Nat) (u:Value) (c:C),vs[j]?=some u->cs[j]?=some c->RepC w β U w0.heap.size u c) (h1:∀ u∈vs,u.oneCell'=true) :
   SimB w0 U0 X β0 (upd β k (.cells w.heap.size 0)) U (s.set k (.cells cs)) a (w.alloc (.cells vs.toArray T)) /\ ∀ k' p',β k'=some p'->upd β k (.cells w.heap.size 0) k'=some p':=by
 have hold:∀ b,b<w.heap.size->(w.alloc (.cells vs.toArray T)).heap[b]?=w.heap[b]?:=fun b hb=>Below.heap_alloc _ _ _ hb
 have hUold:∀ b,U b->(w.alloc (.cells vs.toArray T)).heap[b]?=w.heap[b]?:=fun b hb=>hold b (h.stab b hb)
 have hnewb:(w.alloc (.cells vs.toArray T)).heap[w.heap.size]?=some (.cells vs.toArray T (0,0)):=heap_alloc_new w _
 refine h.newKey hk0 hk rfl rfl rfl (by rw [size_alloc]; omega) hold (fun b hb=>?_) ⟨hne,fun j c hj=>?_⟩
 . obtain rfl:w.heap.size=b:=by simpa [Place.block] using hb
   rw [size_alloc]; omega
 . have hj':j<vs.length:=by rw [hl]; exact (List.getElem?_eq_some_iff.1 hj).1
   refine ⟨vs[j],?_,?_,h1 _ (List.getElem_mem hj'),((hrep j _ c (List.getElem?_eq_getElem hj') hj).map (fun _ hb=>hb) hUold (Evo.sub (h.updOld hk _)))⟩
   . simp only [World.cell?,hnewb,Nat.zero_add]; simp [hj']
   . simp only [World.frozen?,hnewb]; simp

theorem SimB.repl (h:SimB w0 U0 X β0 β U s a w) {k:Nat} {p:Place} {blk:Blk} (hk:β k=some p) (hb:s.blk k=some blk) {w':World} {p':Place} {blk':Blk}
  (hos:w'.os=w.os) (htape:w'.tape=w.tape) (hout:w'.output=w.output) (hsize:w.heap.size<=w'.heap.size)
  (hother:∀ b,b<w.heap.size->p.block≠some b->w'.heap[b]?=w.heap[b]?)
  (hcell:∀ b j,b<w.heap.size->¬ p.covers blk b j->w'.cell? ⟨b,j,none⟩=w.cell? ⟨b,j,none⟩/\w'.frozen? ⟨b,j,none⟩=w.frozen? ⟨b,j,none⟩)
  (hshape:∀ b,b<w.heap.size->p.block=some b->w'.heap[b]?=w.heap[b]?\/(∃ c c' e f,w.heap[b]?=some (.cells c e f)/\w'.heap[b]?=some (.cells c' e f)/\c.size=c'.size /\ ∀ j,¬ p.covers blk b j->c'[j]?=c[j]?) \/ ∀ j,p.covers blk b j)
  (hp':p'=p \/ ∃ v0 ver0 v1 ver1,p=.row v0 ver0/\p'=.row v1 ver1/\ver0<ver1)
  (hblock:∀ b,p'.block=some b->p.block=some b\/(w.heap.size<=b/\b<w'.heap.size))
  (hcov:∀ b j,p'.covers blk' b j->p.covers blk b j\/w.heap.size<=b)
  (hrep:RepB w' (upd β k p') U w0.heap.size p' blk') :
  SimB w0 U0 X β0 (upd β k p') U (s.set k blk') a w':=by
 have hevo:Evo β (upd β k p'):=by
  intro k1 p1 h1
  by_cases e:k=k1
  . subst e
    rw [hk] at h1; cases h1
    rcases hp' with rfl | ⟨v0,ver0,v1,ver1,rfl,rfl,hlt⟩
    . exact .inl (zak _ _ _)
    . exact .inr ⟨v0,ver0,v1,ver1,rfl,zak _ _ _,hlt⟩
  . exact .inl (by rw [upd_ne β e]; exact h1)
 have hU:∀ b,U b->w'.heap[b]?=w.heap[b]?:=fun b hb=>hother b (h.stab b hb) (fun e=>(h.apart k p b hk e).1 hb)
 have hget:∀ k1 p1,upd β k p' k1=some p1->(k=k1/\p1=p')\/(k≠k1/\β k1=some p1):=by
  intro k1 p1 h1
  by_cases e:k=k1
  . subst e; rw [zak] at h1; exact .inl ⟨rfl,by simpa using h1.symm⟩
  . rw [upd_ne β e] at h1; exact .inr ⟨e,h1⟩
 have hmem:∀ k1 b1,(s.set k blk').blk k1=some b1 -> ∃ p1,upd β k p' k1=some p1/\RepB w' (upd β k p') U w0.heap.size p1 b1:=by
  intro k1 b1 h1
  rw [St.blk_set] at h1
  by_cases e:k=k1
  . subst e
    rw [if_pos rfl] at h1
    obtain rfl:blk'=b1:=by simpa using h1
    exact ⟨p',zak _ _ _,hrep⟩
  . rw [if_neg e] at h1
    obtain ⟨p1,hp1,hr1⟩:=h.mem k1 b1 h1
    refine ⟨p1,by rw [upd_ne β e]; exact hp1,hr1.map (fun _ hb=>hb) hU hevo (fun b j hc=>?_) (fun b hb1 hwh=>?_)⟩
    . exact hcell b j (h.blockOld hp1 b (zan hc)) (fun hc2=>h.inj k k1 p p1 blk b1 b j e hk hp1 hb h1 hc2 hc)
    . refine hother b (h.blockOld hp1 b hb1) (fun e2=>?_)
      have c1:∀ j,p1.covers b1 b j:=by
        intro j
        cases p1 with
        | row v ver=>cases b1 <;> exact hb1
        | cells b0 o =>
          cases b1 with
          | cells=>cases hwh
          | row=>exact hr1.elim
          | rowT=>exact hr1.elim
          | junk=>exact hr1.elim
          | mp=>exact (Option.some.inj hb1).symm
      have c2:∃ j,p.covers blk b j:=by
        obtain ⟨pp,hpp,hrr⟩:=h.mem k blk hb
        rw [hk] at hpp; cases hpp
        cases p with
        | row v2 ver2=>exact ⟨0,by cases blk <;> exact e2⟩
        | cells b2 o2 =>
          cases blk with
          | cells cs=>exact ⟨o2,(Option.some.inj e2).symm,Nat.le_refl _,by have:=hrr.1; omega⟩
          | mp=>exact ⟨0,(Option.some.inj e2).symm⟩
          | row=>exact hrr.elim
          | rowT=>exact hrr.elim
          | junk=>exact hrr.elim
      obtain ⟨j,c2⟩:=c2
      exact h.inj k k1 p p1 blk b1 b j e hk hp1 hb h1 c2 (c1 j)
 exact {
  n:=h.n,small:=h.small,args:=h.args,ver0:=h.ver0,defers:=h.defers,glob:=h.glob.map (fun _ hb=>hb) hU,env:=fun t=>(h.env t).map (fun _ hb=>hb) hU hevo,mem:=hmem,
  hist:=fun k1 p1 h1 hb1=>by
    rw [St.blk_set] at hb1
    by_cases e:k=k1
    . subst e
      rcases h.hist k p1 h1 (by rw [hb]; rfl) with q | ⟨v0,ver0,v1,ver1,e1,e2,e3⟩
      . rw [hk] at q; cases q
        rcases hp' with rfl | ⟨v0,ver0,v1,ver1,rfl,rfl,hlt⟩
        . exact .inl (zak _ _ _)
        . exact .inr ⟨v0,ver0,v1,ver1,rfl,zak _ _ _,hlt⟩
      . rw [hk] at e2; cases e2
        rcases hp' with rfl | ⟨v0',ver0',v1',ver1',e4,rfl,hlt⟩
        . exact .inr ⟨v0,ver0,_,_,e1,zak _ _ _,e3⟩
        . cases e4; exact .inr ⟨v0,ver0,_,_,e1,zak _ _ _,by omega⟩
    . rw [if_neg e] at hb1
      rw [upd_ne β e]
      exact h.hist k1 p1 h1 hb1
  dom:=fun k1 p1 h1=>by
    rw [St.blk_set]
    rcases hget k1 p1 h1 with ⟨e,_⟩ | ⟨e,h2⟩
    . rw [if_pos e]; rfl
    . rw [if_neg e]; exact h.dom k1 p1 h2
  apart:=fun k1 p1 b h1 hb1=>by
    rcases hget k1 p1 h1 with ⟨e,rfl⟩ | ⟨e,h2⟩
    . rcases hblock b hb1 with h3 | ⟨h3,h4⟩
      . obtain ⟨q1,q2⟩:=h.apart k p b hk h3; exact ⟨q1,by omega⟩
      . exact ⟨fun hu=>by have:=h.stab b hu; omega,h4⟩
    . obtain ⟨q1,q2⟩:=h.apart k1 p1 b h2 hb1; exact ⟨q1,by omega⟩
  inj:=fun k1 k2 p1 p2 b1 b2 b j hne hp1 hp2 hb1 hb2 hc1 hc2=>by
    rcases hget k1 p1 hp1 with ⟨e1,rfl⟩ | ⟨e1,hp1'⟩ <;> rcases hget k2 p2 hp2 with ⟨e2,rfl⟩ | ⟨e2,hp2'⟩
    . exact hne (e1.symm.trans e2)
    . subst e1
      rw [St.blk_set,if_pos rfl] at hb1; rw [St.blk_set,if_neg e2] at hb2
      obtain rfl:blk'=b1:=by simpa using hb1
      rcases hcov b j hc1 with h3 | h3
      . exact h.inj k k2 p p2 blk b2 b j hne hk hp2' hb hb2 h3 hc2
      . have:=h.blockOld hp2' b (zan hc2); omega
    . subst e2
      rw [St.blk_set,if_neg e1] at hb1; rw [St.blk_set,if_pos rfl] at hb2
      obtain rfl:blk'=b2:=by simpa using hb2
      rcases hcov b j hc2 with h3 | h3
      . exact h.inj k1 k p1 p b1 blk b j hne hp1' hk hb1 hb hc1 h3
      . have:=h.blockOld hp1' b (zan hc1); omega
    . rw [St.blk_set,if_neg e1] at hb1; rw [St.blk_set,if_neg e2] at hb2
      exact h.inj k1 k2 p1 p2 b1 b2 b j hne hp1' hp2' hb1 hb2 hc1 hc2
  stab:=fun b hb1=>by have:=h.stab b hb1; omega
  old:=h.old,new:=h.new
  chg:=by
    refine h.chg.trans ⟨hos,htape,hout,hsize,fun b hb1=>?_⟩
    have hb2:b<w.heap.size:=Nat.lt_of_lt_of_le hb1 h.baseLe
    by_cases e:p.block=some b
    . rcases hshape b hb2 e with q | ⟨c,c',e1,f,q1,q2,q3,q4⟩ | q
      . exact .inl q
      . exact .inr (.inl ⟨c,c',e1,f,q1,q2,q3,fun j hj=>q4 j (fun hc=>hj (h.may k p blk b j hk hb hc hb1))⟩)
      . exact .inr (.inr fun j=>h.may k p blk b j hk hb (q j) hb1)
    . exact .inl (hother b hb2 e)
  may:=fun k1 p1 b1 b j hp1 hb1 hc hlt=>by
    rcases hget k1 p1 hp1 with ⟨e1,rfl⟩ | ⟨e1,hp1'⟩
    . subst e1
      rw [St.blk_set,if_pos rfl] at hb1
      obtain rfl:blk'=b1:=by simpa using hb1
      rcases hcov b j hc with h3 | h3
      . exact h.may k p blk b j hk hb h3 hlt
      . have:=h.baseLe; omega
    . rw [St.blk_set,if_neg e1] at hb1
      exact h.may k1 p1 b1 b j hp1' hb1 hc hlt }
end
end Go.Proofs.YthkhikdglmaiaaaGreatDoor.Abs
namespace Go.Proofs.YthkhikdglmaiaaaGreatDoor.Abs
open Go Go.RowKit

abbrev vd (x:D):V:=.one (.d x)
abbrev vi (k:IntKind) (n:Int):V:=.one (.d (.i k n))
abbrev vb (x:Bool):V:=.one (.d (.b x))
abbrev vs (l:List UInt8):V:=.one (.d (.s l))

def cv1:Value->C
 | .int k n=>.d (.i k n)
 | .bool x=>.d (.b x)
 | .string s=>.d (.s s.data.toList)
 | .slice none 0 0=>.nil
 | v=>if v.oneCell' then .d (.z v) else .bad
def cv:Value->V
 | .agg cs=>if cs.all (·.oneCell') then .agg (cs.toList.map cv1) else .one .bad
 | v=>.one (cv1 v)

def St.eval (s:St):Operand->V
 | .tmp t=>s.get t
 | .const v=>cv v
 | .global _=>.one .bad
 | .func f=>.one (.clo f [])

def mkgd (t:Bool) (x:V):V:=if t then x else .one .un
def zobb (t:Bool) (x y:V):V:=if t then x else y
def yl (v:V) (want:Bool):Option Bool :=
 match v with
 | .one (.d (.b x))=>some (x==want)
 | .one .un=>some false
 | _=>none
theorem yl_b (x want:Bool):yl (vb x) want=some (x==want):=rfl
def binI (op:BinOp) (k:IntKind) (x:Int) (k':IntKind) (y:Int):Option D :=
 match op with
 | .shl=>if 0<=y then some (.i k (k.wrap (x*2^min y.toNat k.bits))) else none
 | .shr=>if 0<=y then some (.i k (x.fdiv (2^min y.toNat k.bits))) else none
 | op=>if k=k' then match op with
  | .add=>some (.i k (k.wrap (x+y)))
  | .sub=>some (.i k (k.wrap (x-y)))
  | .mul=>some (.i k (k.wrap (x*y)))
  | .quo=>if y≠0 then some (.i k (k.wrap (x.tdiv y))) else none
  | .rem=>if y≠0 then some (.i k (x.tmod y)) else none
  | .and=>some (.i k (bits .and k x y))
  | .or=>some (.i k (bits .or k x y))
  | .xor=>some (.i k (bits .xor k x y))
  | .andNot=>some (.i k (bits .andNot k x y))
  | .eql=>some (.b (decide (x=y)))
  | .neq=>some (.b (!decide (x=y)))
  | .lss=>some (.b (decide (x<y)))
  | .leq=>some (.b (decide (x<=y)))
  | .gtr=>some (.b (decide (y<x)))
  | .geq=>some (.b (decide (y<=x)))
  | _=>none
  else none

def binS (op:BinOp) (x y:List UInt8):Option D :=
 match op with
 | .add=>if x.length+y.length<=9223372036854775807 then some (.s (x++y)) else none
 | .eql=>some (.b (decide (x=y)))
 | .neq=>some (.b (!decide (x=y)))
 | _=>none

def binB (op:BinOp) (x y:Bool):Option D :=
 match op with
 | .eql=>some (.b (x==y))
 | .neq=>some (.b (!(x==y)))
 | _=>none

def unA (op:UnOp) (x:V):Option V :=
 match op,x with
 | .neg,.one (.d (.i k n))=>some (vi k (k.wrap (0-n)))
 | .xor,.one (.d (.i k n))=>some (vi k (bits .xor k (if k.signed then -1 else k.max) n))
 | .not,.one (.d (.b x))=>some (vb (!x))
 | _,_=>none

def tsz (P:Program) (t:TypeId):Nat:=P.cellsOf t
def tagg (P:Program) (t:TypeId):Bool:=match P.underlying t with | some (.struct _) | some (.array _ _)=>true | _=>false
def eqA (P : Program) : Nat -> TypeId -> List C -> List C -> Option Bool
 | 0, _, _, _ => none
 | d + 1, t, xs, ys =>
  match P.underlying t with
  | some .bool => match xs, ys with | [.d (.b x)], [.d (.b y)] => some (x == y) | _, _ => none
  | some (.int _) => match xs, ys with | [.d (.i k x)], [.d (.i k' y)] => if k = k' then some (decide (x = y)) else none | _, _ => none
  | some .string => match xs, ys with | [.d (.s x)], [.d (.s y)] => some (decide (x = y)) | _, _ => none
  | some (.struct fs) => if P.stoodInHeld t then none else
   fs.toList.foldr (fun f r => if f.name = "_" then none else match eqA P d f.type ((xs.drop f.offset).take (P.cellsOf f.type)) ((ys.drop f.offset).take (P.cellsOf f.type)), r with
    | some p, some q => some (p && q)
    | _, _ => none) (some true)
  | some (.array n e) => if (P.info? e).isNone then none else
   (List.range n).foldr (fun i r => match eqA P d e ((xs.drop (i * P.cellsOf e)).take (P.cellsOf e)) ((ys.drop (i * P.cellsOf e)).take (P.cellsOf e)), r with
    | some p, some q => some (p && q)
    | _, _ => none) (some true)
  | _ => none

def eqV (P:Program) (t:TypeId) (xs ys:List C):Option Bool :=
 if P.eqGuardType P.depth t then none else if tagg P t then eqA P 12 t xs ys else none

def binA (P:Program) (op:BinOp) (t:TypeId) (x y:V):Option V :=
 match x,y with
 | .one (.d (.i k a)),.one (.d (.i k' b))=>(binI op k a k' b).map vd
 | .one (.d (.s a)),.one (.d (.s b))=>(binS op a b).map vd
 | .one (.d (.b a)),.one (.d (.b b))=>match P.underlying t with | some .bool=>(binB op a b).map vd | _=>none
 | .agg xs,.agg ys=>match op with
  | .eql=>(eqV P t xs ys).map vb
  | .neq=>(eqV P t xs ys).map fun r=>vb (!r)
  | _=>none
 | _,_=>none

def zma (P:Program) (t:TypeId) (cs:List C) (off:Nat):Option V :=
 if (P.underlying t).isNone then none else
 if tagg P t then (if off+tsz P t<=cs.length then some (.agg ((cs.drop off).take (tsz P t))) else none)
 else (cs[off]?).map V.one
def z4t (P:Program) (t:TypeId) (f:Nat):Option (Nat×TypeId) :=
 match P.underlying t with
 | some (.struct fs)=>(fs[f]?).map fun x=>(x.offset,x.type)
 | _=>none
def zg0 (P:Program) (t:TypeId):Option TypeId :=
 match P.underlying t with
 | some (.slice e)=>some e
 | _=>none
def V.cells:V->Option (List C)
 | .one c=>match c with | .bad | .un=>none | c=>some [c]
 | .agg cs=>some cs
 | .tup _=>none

def zgo {α:Type} (cells:List α) (off:Nat) (xs:List α):List α:=cells.take off++xs++cells.drop (off+xs.length)

def z3z (place:Nat->Option (Nat×Nat)) (cells:List C):List (Nat×V)->Option (List C)
 | []=>some cells
 | (i,v) :: rest=>match place i,v.cells with
  | some (off,size),some xs=>if xs.length≠size\/cells.length<off+xs.length then none else z3z place (zgo cells off xs) rest
  | _,_=>none

def zja (P:Program) (t:TypeId):Option (List C) :=
 match P.info? t with
 | some i=>match i.zero with
  | some z=>if z.cells.all (·.oneCell')&&z.cells.size==i.size then some (z.cells.toList.map cv1) else none
  | none=>none
 | none=>none

def ze5b (P:Program) (t:TypeId) (parts:List (Nat×V)):Option V :=
 match zja P t with
 | none=>none
 | some zero=>match P.underlying t with
  | some (.struct fs)=>if fs.all (fun f=>(P.info? f.type).isSome) then (z3z (fun i=>(fs[i]?).map fun f=>(f.offset,P.cellsOf f.type)) zero parts).map V.agg else none
  | some (.array _ e)=>if (P.info? e).isSome then (z3z (fun i=>some (i*P.cellsOf e,P.cellsOf e)) zero parts).map V.agg else none
  | _=>none

def z4a (P:Program) (src dst:TypeId) (x:V):Option V :=
 match P.underlying src,P.underlying dst,x with
 | some _,some (.int k),.one (.d (.i _ n))=>some (vi k (k.wrap n))
 | some _,some .string,.one (.d (.s l))=>some (vs l)
 | _,_,_=>none

def optI (d:Int):Option V->Option Int
 | none=>some d
 | some (.one (.d (.i _ n)))=>some n
 | _=>none

def zna (P:Program) (t:TypeId) (x:V) (lo hi:Option V):Option V :=
 match P.underlying t,x with
 | some .string,.one (.d (.s l))=>match optI 0 lo,optI l.length hi with
  | some a,some b=>if 0<=a/\a<=b/\b<=l.length then some (vs ((l.take b.toNat).drop a.toNat)) else none
  | _,_=>none
 | some (.slice e),.one (.d (.sl sz rows))=>match optI 0 lo,optI rows.length hi with
  | some a,some b=>if 0<=a/\a<=b/\b<=rows.length/\sz=P.cellsOf e/\(P.info? e).isSome then some (.one (.d (.sl sz ((rows.take b.toNat).drop a.toNat)))) else none
  | _,_=>none
 | some (.slice e),.one (.f (.sl sz rows))=>match optI 0 lo,optI rows.length hi with
  | some a,some b=>if 0<=a/\a<=b/\b<=rows.length/\sz=P.cellsOf e/\(P.info? e).isSome then some (.one (.f (.sl sz ((rows.take b.toNat).drop a.toNat)))) else none
  | _,_=>none
 | some (.slice e),.one (.own k ver len)=>match optI 0 lo,optI len hi with
  | some a,some b=>if 0<=a/\a<=b/\b<=len/\(P.info? e).isSome then some (.one (.sub k ver (P.cellsOf e) a.toNat (b-a).toNat)) else none
  | _,_=>none
 | some (.slice e),.one (.sub k ver sz off len)=>match optI 0 lo,optI len hi with
  | some a,some b=>if 0<=a/\a<=b/\b<=len/\sz=P.cellsOf e/\(P.info? e).isSome then some (.one (.sub k ver sz (off+a.toNat) (b-a).toNat)) else none
  | _,_=>none
 | some (.slice e),.one .nil=>match optI 0 lo,optI 0 hi with
  | some a,some b=>if a=0/\b=0/\(P.info? e).isSome then some (.one .nil) else none
  | _,_=>none
 | some (.slice e),.one (.d (.st c xs))=>match optI 0 lo,optI xs.length hi with
  | some a,some b=>if 0<=a/\a<=b/\b<=xs.length/\esz c=P.cellsOf e/\(P.info? e).isSome then some (.one (.d (.st c ((xs.take b.toNat).drop a.toNat)))) else none
  | _,_=>none
 | some (.slice e),.one (.f (.st c xs))=>match optI 0 lo,optI xs.length hi with
  | some a,some b=>if 0<=a/\a<=b/\b<=xs.length/\esz c=P.cellsOf e/\(P.info? e).isSome then some (.one (.f (.st c ((xs.take b.toNat).drop a.toNat)))) else none
  | _,_=>none
 | _,_=>none

def zpc (P:Program) (t:TypeId) (x:V) (f:Nat):Option V :=
 match z4t P t f with
 | none=>none
 | some (o,u)=>if tsz P u=0\/(P.info? u).isNone then none else match x with
  | .one (.ptr k off)=>some (.one (.ptr k (off+o)))
  | .one (.pr k ver sz i off)=>some (.one (.pr k ver sz i (off+o)))
  | .one (.pv cells)=>some (.one (.pv (cells.drop o)))
  | _=>none

def zc8 (P:Program) (t:TypeId) (x i:V):Option V :=
 match i with
 | .one (.d (.i _ n))=>if 0<=n then match P.underlying t,x with
  | some (.array len e),.one (.ptr k off)=>if n<len/\(P.info? e).isSome then some (.one (.ptr k (off+n.toNat*P.cellsOf e))) else none
  | some (.array len e),.one (.pr k ver sz i off)=>if n<len/\(P.info? e).isSome then some (.one (.pr k ver sz i (off+n.toNat*P.cellsOf e))) else none
  | some (.array len e),.one (.pv cells)=>if n<len/\(P.info? e).isSome then some (.one (.pv (cells.drop (n.toNat*P.cellsOf e)))) else none
  | some (.slice e),.one (.d (.sl sz rows))=>if sz=P.cellsOf e/\(P.info? e).isSome then (rows[n.toNat]?).map fun r=>.one (.pv r) else none
  | some (.slice e),.one (.f (.sl sz rows))=>if sz=P.cellsOf e/\(P.info? e).isSome then (rows[n.toNat]?).map fun r=>.one (.pv r) else none
  | some (.slice e),.one (.own k ver len)=>if n<len/\(P.info? e).isSome then some (.one (.pr k ver (P.cellsOf e) n.toNat 0)) else none
  | some (.slice e),.one (.sub k ver sz off len)=>if n<len/\sz=P.cellsOf e/\(P.info? e).isSome then some (.one (.pr k ver sz (off+n.toNat) 0)) else none
  | some (.slice e),.one (.d (.st c xs))=>if esz c=P.cellsOf e/\(P.info? e).isSome then (xs[n.toNat]?).map fun t=>.one (.pv (enc c t)) else none
  | some (.slice e),.one (.f (.st c xs))=>if esz c=P.cellsOf e/\(P.info? e).isSome then (xs[n.toNat]?).map fun t=>.one (.pv (enc c t)) else none
  | _,_=>none
  else none
 | _=>none

def zv5 (P:Program) (t:TypeId) (x i:V):Option V :=
 match i with
 | .one (.d (.i _ n))=>if 0<=n then match P.underlying t,x with
  | some .string,.one (.d (.s l))=>(l[n.toNat]?).map fun b=>vi .u8 b.toNat
  | some (.array len e),.agg cs=>if n<len/\(P.info? e).isSome then zma P e cs (n.toNat*P.cellsOf e) else none
  | _,_=>none
  else none
 | _=>none

def zdgb (P:Program) (t:TypeId) (x:V) (f:Nat):Option V :=
 match z4t P t f,x with
 | some (o,u),.agg cs=>if (P.info? u).isSome then zma P u cs o else none
 | _,_=>none

def lenA (P:Program) (t:TypeId) (x:V):Option V :=
 match P.underlying t,x with
 | some .string,.one (.d (.s l))=>some (vi .i64 l.length)
 | some (.array n _),_=>some (vi .i64 n)
 | some (.slice _),.one (.d (.sl _ rows))=>some (vi .i64 rows.length)
 | some (.slice _),.one (.f (.sl _ rows))=>some (vi .i64 rows.length)
 | some (.slice _),.one .nil=>some (vi .i64 0)
 | some (.slice _),.one (.own _ _ len)=>some (vi .i64 len)
 | some (.slice _),.one (.sub _ _ _ _ len)=>some (vi .i64 len)
 | some (.slice _),.one (.d (.st _ xs))=>some (vi .i64 xs.length)
 | some (.slice _),.one (.f (.st _ xs))=>some (vi .i64 xs.length)
 | _,_=>none

def nilA:V->Option V
 | .one (.ptr k off)=>some (.one (.ptr k off))
 | .one (.pr k ver sz i off)=>some (.one (.pr k ver sz i off))
 | .one (.pv cells)=>some (.one (.pv cells))
 | .one (.clo f caps)=>some (.one (.clo f caps))
 | .one (.clp f ks)=>some (.one (.clp f ks))
 | _=>none

def toD1:V->Option D
 | .one (.d x)=>some x
 | .one (.f x)=>some x
 | _=>none

def toP1:V->Option (Nat×Nat)
 | .one (.ptr k o)=>some (k,o)
 | _=>none

def zme (mn:Bool):List V->Option V
 | [.one (.d (.i k x)),.one (.d (.i k' y))]=>if k=k' then some (vi k (if mn then (if y<x then y else x) else (if y>x then y else x))) else none
 | _=>none

def effQ (P:Program) (op:Op) (ρ:Operand->V):Option V :=
 match op with
 | .move x | .assign x=>some (ρ x)
 | .pick c a b=>match ρ c with | .one (.d (.b t))=>some (zobb t (ρ a) (ρ b)) | _=>none
 | .build t parts=>ze5b P t (parts.toList.map fun p=>(p.1,ρ p.2))
 | .binOp op t x y _=>binA P op t (ρ x) (ρ y)
 | .unOp op _ x=>unA op (ρ x)
 | .convert src dst x=>z4a P src dst (ρ x)
 | .slice t x lo hi none=>zna P t (ρ x) (lo.map ρ) (hi.map ρ)
 | .fieldAddr t x f=>zpc P t (ρ x) f
 | .field t x f=>zdgb P t (ρ x) f
 | .indexAddr t x i=>zc8 P t (ρ x) (ρ i)
 | .index t x i=>zv5 P t (ρ x) (ρ i)
 | .extract t i=>match ρ t with | .tup vs=>vs[i]? | _=>none
 | .nilCheck x=>nilA (ρ x)
 | .makeFunc (.func f) first captured=>if first.size=0 then (match (captured.toList.map ρ).mapM toD1 with | some ds=>some (.one (.clo f ds)) | none=>((captured.toList.map ρ).mapM toP1).map fun ks=>.one (.clp f ks)) else none
 | .call { callee:=.builtin .len,args,argTypes } => match argTypes.toList,args.toList with | [t],[x]=>lenA P t (ρ x) | _,_=>none
 | .call { callee:=.builtin .min,args,.. } => zme true (args.toList.map ρ)
 | .call { callee:=.builtin .max,args,.. } => zme false (args.toList.map ρ)
 | _=>none
end Go.Proofs.YthkhikdglmaiaaaGreatDoor.Abs
namespace Go.Proofs.YthkhikdglmaiaaaGreatDoor.Abs
open Go Go.RowKit

section
variable {P:Program} {w:World} {β:Nat->Option Place} {U:Nat->Prop} {base:Nat}

theorem RepV.toC {v:Value} {c:C} (h:RepV w β U base v (.one c)):RepC w β U base v c:=by cases h; assumption
theorem RepV.int {v:Value} {k:IntKind} {n:Int} (h:RepV w β U base v (vi k n)):v=.int k n:=by have:=h.toC; cases this; rfl
theorem RepV.bool {v:Value} {x:Bool} (h:RepV w β U base v (vb x)):v=.bool x:=by have:=h.toC; cases this; rfl
theorem RepV.str {v:Value} {l:List UInt8} (h:RepV w β U base v (vs l)):v=.string ⟨l.toArray⟩:=by have:=h.toC; cases this; rfl
theorem repI (k:IntKind) (n:Int):RepV w β U base (.int k n) (vi k n):=.one _ _ (.i k n)
theorem repB (x:Bool):RepV w β U base (.bool x) (vb x):=.one _ _ (.b x)
theorem repS (l:List UInt8):RepV w β U base (.string ⟨l.toArray⟩) (vs l):=.one _ _ (.s l)
theorem zj0b (s:ByteArray) (l:List UInt8) (h:s.data.toList=l):RepV w β U base (.string s) (vs l):=by
 have:s=⟨l.toArray⟩:=by cases s; subst h; simp
 rw [this]; exact repS l

theorem z2q (v:Value):RepC w β U base v (cv1 v):=by
 unfold cv1
 split
 . exact .i _ _
 . exact .b _
 . rename_i s
   have:=zj0b (w:=w) (β:=β) (U:=U) (base:=base) s _ rfl
   exact this.toC
 . exact rfl
 . split
   . rename_i h; exact .z _ h
   . trivial

theorem zn8b (v:Value):RepV w β U base v (cv v):=by
 unfold cv
 split
 . rename_i cs
   split
   . rename_i h
     have h':∀ u∈cs.toList,u.oneCell'=true:=by
      intro u hu
      exact (Array.all_eq_true_iff_forall_mem.1 h) u (by simpa using hu)
     have:=RepV.agg (w:=w) (β:=β) (U:=U) (base:=base) cs.toList (cs.toList.map cv1) (by simp) h' (fun j u c hu hc=>by
      rw [List.getElem?_map,hu] at hc
      obtain rfl:cv1 u=c:=by simpa using hc
      exact z2q u)
     simpa using this
   . exact .bad _
 . exact .one _ _ (z2q v)

theorem SimB.eval {w0:World} {U0:Nat->Prop} {X:Nat->Nat->Prop} {β0:Nat->Option Place} {s:St} {a:Act} (h:SimB w0 U0 X β0 β U s a w) (x:Operand):RepV w β U w0.heap.size (a.eval x) (s.eval x):=by
 cases x with
 | tmp t=>exact h.env t
 | const v=>exact zn8b v
 | global g=>exact .bad _
 | func f=>exact .one _ _ ⟨[],rfl,rfl,fun j u d hu hd=>by simp at hu⟩

theorem z24 {t:Bool} {u v:Value} {x y:V} (hx:RepV w β U base u x) (hy:RepV w β U base v y):RepV w β U base (if t then u else v) (zobb t x y):=by
 cases t
 . exact hy
 . exact hx

theorem repD {v:Value} {x:D} (h:RepI w U v x):RepV w β U base v (vd x):=.one _ _ h

theorem z9e {op:BinOp} {t:TypeId} {k k':IntKind} {x y:Int} {z:D} (h:binI op k x k' y=some z):∃ v,(binOp op t (.int k x) (.int k' y)).run P w=.ok v w/\RepI w U v z:=by
 unfold binI at h
 cases op <;> simp only at h
 case shl =>
  split at h
  . rename_i hy
    obtain rfl:=Option.some.inj h
    refine ⟨_,?_,.i _ _⟩
    simp [binOp,Op.shift,show ¬ y<0 by omega]
  . cases h
 case shr =>
  split at h
  . rename_i hy
    obtain rfl:=Option.some.inj h
    refine ⟨_,?_,.i _ _⟩
    simp [binOp,Op.shift,show ¬ y<0 by omega]
  . cases h
 all_goals
  split at h
  case isFalse=>cases h
  rename_i hk
  subst hk
 case quo =>
  split at h
  . rename_i hy
    obtain rfl:=Option.some.inj h
    exact ⟨_,by simp [binOp,Op.intDiv,hy],.i _ _⟩
  . cases h
 case rem =>
  split at h
  . rename_i hy
    obtain rfl:=Option.some.inj h
    exact ⟨_,by simp [binOp,Op.intDiv,hy],.i _ _⟩
  . cases h
 all_goals
  obtain rfl:=Option.some.inj h
 case add=>exact ⟨_,by simp [binOp,Op.intArith],.i _ _⟩
 case sub=>exact ⟨_,by simp [binOp,Op.intArith],.i _ _⟩
 case mul=>exact ⟨_,by simp [binOp,Op.intArith],.i _ _⟩
 case and=>exact ⟨_,by simp [binOp,Op.intBits,bits],.i _ _⟩
 case or=>exact ⟨_,by simp [binOp,Op.intBits,bits],.i _ _⟩
 case xor=>exact ⟨_,by simp [binOp,Op.intBits,bits],.i _ _⟩
 case andNot=>exact ⟨_,by simp [binOp,Op.intBits,bits],.i _ _⟩
 case eql=>exact ⟨.bool (decide (x=y)),by simp [binOp,Op.intCmp]; rfl,.b _⟩
 case neq=>exact ⟨.bool (!decide (x=y)),by simp [binOp,Op.intCmp]; rfl,.b _⟩
 case lss=>exact ⟨.bool (decide (x<y)),by simp [binOp,Op.intCmp],.b _⟩
 case leq=>exact ⟨.bool (decide (x<=y)),by simp [binOp,Op.intCmp],.b _⟩
 case gtr=>exact ⟨.bool (decide (y<x)),by simp [binOp,Op.intCmp],.b _⟩
 case geq=>exact ⟨.bool (decide (y<=x)),by simp [binOp,Op.intCmp],.b _⟩

theorem z9d {op:BinOp} {t:TypeId} {x y:List UInt8} {z:D} (h:binS op x y=some z):∃ v,(binOp op t (.string ⟨x.toArray⟩) (.string ⟨y.toArray⟩)).run P w=.ok v w/\RepI w U v z:=by
 unfold binS at h
 cases op <;> simp only at h <;> first | (cases h; done) | skip
 case add =>
  split at h
  . rename_i hl
    obtain rfl:=Option.some.inj h
    refine ⟨.string ⟨(x++y).toArray⟩,?_,.s _⟩
    have e1:(⟨x.toArray⟩:ByteArray).size=x.length:=by simp [ByteArray.size]
    have e2:(⟨y.toArray⟩:ByteArray).size=y.length:=by simp [ByteArray.size]
    have e3:(IntKind.i64.max:Int)=9223372036854775807:=by decide
    have e4:(⟨x.toArray⟩:ByteArray)++⟨y.toArray⟩=⟨(x++y).toArray⟩:=by
     apply ByteArray.ext
     rw [ByteArray.data_append]
     simp
    have hn:¬ (((⟨x.toArray⟩:ByteArray).size+(⟨y.toArray⟩:ByteArray).size:Nat):Int)>IntKind.i64.max:=by rw [e1,e2,e3]; omega
    simp only [binOp,Op.stringOp,if_neg hn,e4,Sem.run_pure]
  . cases h
 case eql =>
  obtain rfl:=Option.some.inj h
  refine ⟨.bool (decide (x=y)),?_,.b _⟩
  simp [binOp,Op.stringOp]
  rw [Bool.eq_iff_iff]; simp
 case neq =>
  obtain rfl:=Option.some.inj h
  refine ⟨.bool (!decide (x=y)),?_,.b _⟩
  simp [binOp,Op.stringOp]
  rw [Bool.eq_iff_iff]; simp

theorem z9f {op:BinOp} {t:TypeId} {x y:Bool} {z:D} (ht:P.underlying t=some .bool) (h:binB op x y=some z):∃ v,(binOp op t (.bool x) (.bool y)).run P w=.ok v w/\RepI w U v z:=by
 have e:(Op.equal t (.bool x) (.bool y)).run P w=.ok (x==y) w:=by
  have gen:∀ d,(Op.equalIn (d+1) t (.bool x) (.bool y)).run P w=.ok (x==y) w:=fun d=>by
   simp only [Op.equalIn,Sem.run_bind,run_underlying ht,Result.andThen_ok,Sem.run_pure]
  exact gen 9999
 unfold binB at h
 cases op <;> simp only at h <;> first | (cases h; done) | skip
 case eql =>
  obtain rfl:=Option.some.inj h
  exact ⟨.bool (x==y),by simp [binOp,e],.b _⟩
 case neq =>
  obtain rfl:=Option.some.inj h
  exact ⟨.bool (!(x==y)),by simp [binOp,e],.b _⟩

theorem zpz {t:TypeId} {cs:Array Value} {off:Nat} (h:tagg P t=true):(part t cs off).run P w=.ok (.agg (cs.extract off (off+P.cellsOf t))) w:=by
 unfold tagg at h
 split at h
 . rename_i fs hu
   have hi:∃ i,P.info? t=some i:=by
    cases hi:P.info? t with
    | none=>simp [Program.underlying,hi] at hu
    | some i=>exact ⟨i,rfl⟩
   obtain ⟨i,hi⟩:=hi
   simp [part,isAgg,run_underlying hu,run_sizeOf w hi]
 . rename_i n e hu
   have hi:∃ i,P.info? t=some i:=by
    cases hi:P.info? t with
    | none=>simp [Program.underlying,hi] at hu
    | some i=>exact ⟨i,rfl⟩
   obtain ⟨i,hi⟩:=hi
   simp [part,isAgg,run_underlying hu,run_sizeOf w hi]
 . cases h

theorem zp0 {t:TypeId} (h:tagg P t=false) (hi:(P.underlying t).isSome=true):(isAgg t).run P w=.ok false w:=by
 obtain ⟨d,hu⟩:=Option.isSome_iff_exists.1 hi
 unfold tagg at h
 simp only [hu] at h
 unfold isAgg
 rw [Sem.run_bind,run_underlying hu,Result.andThen_ok]
 cases d <;> simp_all

theorem zbz {t:TypeId} {cs:Array Value} {off:Nat} {v:Value} (h:tagg P t=false) (hi:(P.underlying t).isSome=true) (hc:cs[off]?=some v):(part t cs off).run P w=.ok v w:=by
 simp [part,zp0 h hi,hc]

theorem z92 {op:UnOp} {u:Value} {x z:V} (hx:RepV w β U base u x) (h:unA op x=some z):∃ v,(Op.unary op u).run P w=.ok v w/\RepV w β U base v z:=by
 unfold unA at h
 split at h
 . obtain rfl:=hx.int
   obtain rfl:=Option.some.inj h
   exact ⟨_,by simp [Op.unary,Op.intArith],repI _ _⟩
 . obtain rfl:=hx.int
   obtain rfl:=Option.some.inj h
   exact ⟨_,by simp [Op.unary,Op.intBits,bits],repI _ _⟩
 . obtain rfl:=hx.bool
   obtain rfl:=Option.some.inj h
   exact ⟨_,by simp [Op.unary],repB _⟩
 . cases h

theorem info_of_underlying {t:TypeId} (h:(P.underlying t).isSome=true):∃ i,P.info? t=some i:=by
 cases hi:P.info? t with
 | none=>simp [Program.underlying,hi] at h
 | some i=>exact ⟨i,rfl⟩

theorem RepV.aggOf {v:Value} {cs:List C} (h:RepV w β U base v (.agg cs)):∃ vs:List Value,v=.agg vs.toArray/\vs.length=cs.length/\(∀ u∈vs,u.oneCell'=true) /\
  ∀ (j:Nat) (u:Value) (c:C),vs[j]?=some u->cs[j]?=some c->RepC w β U base u c:=by
 cases h with
 | agg vs cs hl h1 h=>exact ⟨vs,rfl,hl,h1,h⟩

theorem zsk {t:TypeId} {vs:List Value} {cs:List C} {off:Nat} {x:V} (hl:vs.length=cs.length) (h1:∀ u∈vs,u.oneCell'=true)
   (hr:∀ (j:Nat) (u:Value) (c:C),vs[j]?=some u->cs[j]?=some c->RepC w β U base u c) (h:zma P t cs off=some x) :
   ∃ v,(part t vs.toArray off).run P w=.ok v w/\RepV w β U base v x:=by
 unfold zma at h
 split at h
 . cases h
 rename_i hn
 have hs:(P.underlying t).isSome=true:=by cases hu:P.underlying t <;> simp_all
 split at h
 . rename_i ha
   split at h
   . rename_i hle
     obtain rfl:=Option.some.inj h
     refine ⟨_,zpz ha,?_⟩
     have e:vs.toArray.extract off (off+P.cellsOf t)=((vs.drop off).take (tsz P t)).toArray:=by
       apply Array.ext'
       simp [tsz]
     rw [e]
     refine .agg _ _ (by simp [hl]) (fun u hu=>h1 u (List.mem_of_mem_drop (List.mem_of_mem_take hu))) (fun j u c hu hc=>?_)
     rw [List.getElem?_take] at hu hc
     split at hu
     . rename_i hj
       rw [if_pos hj] at hc
       rw [List.getElem?_drop] at hu hc
       exact hr _ u c hu hc
     . cases hu
   . cases h
 . rename_i ha
   rw [Option.map_eq_some_iff] at h
   obtain ⟨c,hc,rfl⟩:=h
   have hj:off<vs.length:=by rw [hl]; exact (List.getElem?_eq_some_iff.1 hc).1
   refine ⟨vs[off],zbz (by simpa using ha) hs (by simp [hj]),.one _ _ (hr off _ c (List.getElem?_eq_getElem hj) hc)⟩

theorem z06 {t:TypeId} {u:Value} {x z:V} {f:Nat} (hx:RepV w β U base u x) (h:zdgb P t x f=some z):∃ v,(Instr.field t u f).run P w=.ok v w/\RepV w β U base v z:=by
 unfold zdgb at h
 split at h
 . rename_i o ty cs ht
   split at h
   . rename_i hi
     obtain ⟨vs,rfl,hl,h1,hr⟩:=hx.aggOf
     obtain ⟨v,hv,hz⟩:=zsk (P:=P) hl h1 hr h
     unfold z4t at ht
     split at ht
     . rename_i fs hu
       rw [Option.map_eq_some_iff] at ht
       obtain ⟨fl,hf,he⟩:=ht
       cases he
       exact ⟨v,by simp [Instr.field,run_underlying hu,hf,asAgg,hv],hz⟩
     . cases ht
   . cases h
 . cases h

theorem z0y {t:TypeId} {u y:Value} {x i z:V} (hx:RepV w β U base u x) (hi:RepV w β U base y i) (h:zv5 P t x i=some z):∃ v,(Instr.index t u y).run P w=.ok v w/\RepV w β U base v z:=by
 unfold zv5 at h
 split at h
 case h_2=>cases h
 rename_i k n
 obtain rfl:=hi.int
 split at h
 case isFalse=>cases h
 rename_i hn
 split at h
 . rename_i l hu
   rw [Option.map_eq_some_iff] at h
   obtain ⟨b,hb,rfl⟩:=h
   obtain rfl:=hx.str
   have hb':(⟨l.toArray⟩:ByteArray)[n.toNat]?=some b:=by
     obtain ⟨h1,h2⟩:=List.getElem?_eq_some_iff.1 hb
     have h3:n.toNat<(⟨l.toArray⟩:ByteArray).size:=by simpa [ByteArray.size] using h1
     rw [getElem?_pos (⟨l.toArray⟩:ByteArray) n.toNat h3]
     congr 1
   exact ⟨.int .u8 b.toNat,by simp [Instr.index,asIntOf,run_underlying hu,hn,hb'],repI _ _⟩
 . rename_i len e cs hu
   split at h
   . rename_i hc
     obtain ⟨vs,rfl,hl,h1,hr⟩:=hx.aggOf
     obtain ⟨v,hv,hz⟩:=zsk (P:=P) hl h1 hr h
     obtain ⟨ie,hie⟩:=Option.isSome_iff_exists.1 hc.2
     exact ⟨v,by simp [Instr.index,asIntOf,run_underlying hu,hn,hc.1,run_sizeOf w hie,hv],hz⟩
   . cases h
 . cases h

theorem z73 {t ty:TypeId} {u:Value} {x z:V} (hx:RepV w β U base u x) (h:lenA P t x=some z):∃ v,(Builtin.len_ #[t] ty #[u]).run P w=.ok v w/\RepV w β U base v z:=by
 unfold lenA at h
 split at h
 . rename_i l hu
   obtain rfl:=hx.str
   obtain rfl:=Option.some.inj h
   refine ⟨.int .i64 l.length,?_,repI _ _⟩
   have:(⟨l.toArray⟩:ByteArray).size=l.length:=by simp [ByteArray.size]
   simp [Builtin.len_,run_underlying hu,goInt,this]
 . rename_i n e hu
   obtain rfl:=Option.some.inj h
   exact ⟨.int .i64 n,by simp [Builtin.len_,run_underlying hu,goInt],repI _ _⟩
 . rename_i e sz rows hu
   obtain rfl:=Option.some.inj h
   have hc:=hx.toC
   cases hc with
   | nil a cap _ _=>exact ⟨.int .i64 0,by simp [Builtin.len_,run_underlying hu,goInt],repI _ _⟩
   | sl b o cap sz rows vals=>exact ⟨.int .i64 rows.length,by simp [Builtin.len_,run_underlying hu,goInt],repI _ _⟩
 . rename_i e sz rows hu
   obtain rfl:=Option.some.inj h
   have hc:=hx.toC
   unfold RepC at hc
   cases hc with
   | nil a cap _ _=>exact ⟨.int .i64 0,by simp [Builtin.len_,run_underlying hu,goInt],repI _ _⟩
   | sl b o cap sz rows vals=>exact ⟨.int .i64 rows.length,by simp [Builtin.len_,run_underlying hu,goInt],repI _ _⟩
 . rename_i e hu
   obtain rfl:=Option.some.inj h
   have hc:u=.slice none 0 0:=hx.toC
   subst hc
   exact ⟨.int .i64 0,by simp [Builtin.len_,run_underlying hu,goInt],repI _ _⟩
 . rename_i e k ver len hu
   obtain rfl:=Option.some.inj h
   obtain ⟨a,cap,v0,ver0,rfl,_⟩:=hx.toC
   exact ⟨.int .i64 len,by simp [Builtin.len_,run_underlying hu,goInt],repI _ _⟩
 . rename_i e k ver sz off len hu
   obtain rfl:=Option.some.inj h
   obtain ⟨a,cap,v0,ver0,rfl,_⟩:=hx.toC
   exact ⟨.int .i64 len,by simp [Builtin.len_,run_underlying hu,goInt],repI _ _⟩
 . rename_i e c xs hu
   obtain rfl:=Option.some.inj h
   have hc:=RepI.unst (show RepI w U u (.st c xs) from hx.toC)
   rw [show (xs.length:Int)=((xs.map (enc c)).length:Nat) by simp]
   generalize xs.map (enc c)=rows at hc ⊢
   cases hc with
   | nil a cap _ _=>exact ⟨.int .i64 0,by simp [Builtin.len_,run_underlying hu,goInt],repI _ _⟩
   | sl b o cap sz rows vals=>exact ⟨.int .i64 rows.length,by simp [Builtin.len_,run_underlying hu,goInt],repI _ _⟩
 . rename_i e c xs hu
   obtain rfl:=Option.some.inj h
   have hc:=RepI.unst (show RepI w (fun b=>U b/\base<=b) u (.st c xs) from hx.toC)
   rw [show (xs.length:Int)=((xs.map (enc c)).length:Nat) by simp]
   generalize xs.map (enc c)=rows at hc ⊢
   cases hc with
   | nil a cap _ _=>exact ⟨.int .i64 0,by simp [Builtin.len_,run_underlying hu,goInt],repI _ _⟩
   | sl b o cap sz rows vals=>exact ⟨.int .i64 rows.length,by simp [Builtin.len_,run_underlying hu,goInt],repI _ _⟩
 . cases h

theorem z39 {src dst:TypeId} {u:Value} {x z:V} (hx:RepV w β U base u x) (h:z4a P src dst x=some z):∃ v,(convert src dst u).run P w=.ok v w/\RepV w β U base v z:=by
 unfold z4a at h
 split at h
 . rename_i ds k k' n hs hd
   obtain rfl:=hx.int
   obtain rfl:=Option.some.inj h
   refine ⟨_,?_,repI _ _⟩
   unfold convert
   simp only [Sem.run_bind,run_underlying hs,run_underlying hd,Result.andThen_ok]
   rfl
 . rename_i ds l hs hd
   obtain rfl:=hx.str
   obtain rfl:=Option.some.inj h
   refine ⟨_,?_,repS _⟩
   unfold convert
   simp only [Sem.run_bind,run_underlying hs,run_underlying hd,Result.andThen_ok]
   rfl
 . cases h

theorem z71 {u:Value} {x z:V} (o:Oper) (y:Operand) (ho:o.op=.nilCheck y) (r:Operand->Value) (hu:r y=u) (hx:RepV w β U base u x) (h:nilA x=some z) :
   (execOp r o).run P w=.ok (.value u) w/\RepV w β U base u z:=by
 unfold nilA at h
 split at h
 . obtain rfl:=Option.some.inj h
   obtain ⟨b,o',_,rfl⟩:=hx.toC
   exact ⟨by simp [execOp,ho,hu],hx⟩
 . obtain rfl:=Option.some.inj h
   obtain ⟨a,v0,ver0,rfl,_⟩:=hx.toC
   exact ⟨by simp [execOp,ho,hu],hx⟩
 . obtain rfl:=Option.some.inj h
   obtain ⟨b,o',vals,rfl,_⟩:=hx.toC
   exact ⟨by simp [execOp,ho,hu],hx⟩
 . obtain rfl:=Option.some.inj h
   obtain ⟨vs,rfl,_⟩:=hx.toC
   exact ⟨by simp [execOp,ho,hu],hx⟩
 . obtain rfl:=Option.some.inj h
   obtain ⟨vs,rfl,_⟩:=hx.toC
   exact ⟨by simp [execOp,ho,hu],hx⟩
 . cases h
end
end Go.Proofs.YthkhikdglmaiaaaGreatDoor.Abs
namespace Go.Proofs.YthkhikdglmaiaaaGreatDoor.Abs
open Go Go.RowKit

section
variable {P:Program} {w:World} {β:Nat->Option Place} {U:Nat->Prop} {base:Nat}

def valOf (P:Program) (t:TypeId) (us:List Value):Value:=if tagg P t then .agg us.toArray else us.getD 0 undef

def RepCs (w:World) (β:Nat->Option Place) (U:Nat->Prop) (base:Nat) (us:List Value) (cs:List C):Prop :=
 us.length=cs.length /\ ∀ (j:Nat) (u:Value) (c:C),us[j]?=some u->cs[j]?=some c->RepC w β U base u c

theorem RepCs.sub {us:List Value} {cs:List C} (h:RepCs w β U base us cs) (o n:Nat):RepCs w β U base ((us.drop o).take n) ((cs.drop o).take n):=by
 refine ⟨by simp [h.1],fun j u c hu hc=>?_⟩
 rw [List.getElem?_take] at hu hc
 split at hu
 . rename_i hj
   rw [if_pos hj] at hc
   rw [List.getElem?_drop] at hu hc
   exact h.2 _ u c hu hc
 . cases hu

theorem RepCs.one {us:List Value} {c:C} (h:RepCs w β U base us [c]):∃ u,us=[u]/\RepC w β U base u c:=by
 obtain ⟨hl,hr⟩:=h
 match us,hl with
 | [u],_=>exact ⟨u,rfl,hr 0 u c rfl rfl⟩

theorem zmk {d:Nat} {t:TypeId} {xs ys:List C} {r:Bool} (h:eqA P (d+1) t xs ys=some r):(P.underlying t).isSome=true:=by
 unfold eqA at h
 cases hu:P.underlying t with
 | none=>simp [hu] at h
 | some x=>rfl

theorem zm6 (P:Program) (t:TypeId):tagg P t=true↔(∃ fs,P.underlying t=some (.struct fs)) \/ ∃ n e,P.underlying t=some (.array n e):=by
 unfold tagg
 split
 . rename_i fs h; simp [h]
 . rename_i n e h; simp [h]
 . rename_i h1 h2
   constructor
   . intro h; cases h
   . rintro (⟨fs,h⟩ | ⟨n,e,h⟩)
     . exact absurd h (h1 fs)
     . exact absurd h (h2 n e)

theorem zqd {d:Nat} {t:TypeId} {xs ys:List C} {r:Bool} (ha:tagg P t=false) (h:eqA P (d+1) t xs ys=some r):xs.length=1/\ys.length=1:=by
 have hs:∀ fs,P.underlying t≠some (.struct fs):=fun fs e=>by rw [(zm6 P t).2 (.inl ⟨fs,e⟩)] at ha; cases ha
 have hr:∀ n e',P.underlying t≠some (.array n e'):=fun n e' e=>by rw [(zm6 P t).2 (.inr ⟨n,e',e⟩)] at ha; cases ha
 unfold eqA at h
 split at h
 all_goals first
  | (split at h <;> first | (exact ⟨rfl,rfl⟩) | cases h)
  | (rename_i hu; exact absurd hu (hs _))
  | (rename_i hu; exact absurd hu (hr _ _))
  | cases h

theorem zpy {t:TypeId} {us:List Value} {o:Nat} (hs:(P.underlying t).isSome=true) (h:tagg P t=false->((us.drop o).take (P.cellsOf t)).length=1) :
   (part t us.toArray o).run P w=.ok (valOf P t ((us.drop o).take (P.cellsOf t))) w:=by
 unfold valOf
 by_cases ha:tagg P t=true
 . rw [if_pos ha,zpz ha]
   congr 2
   apply Array.ext'
   simp
 . have ha':tagg P t=false:=by simpa using ha
   rw [if_neg ha]
   have hl:=h ha'
   have hx:us[o]?=some (((us.drop o).take (P.cellsOf t)).getD 0 undef):=by
    rw [List.length_take,List.length_drop] at hl
    have h1:o<us.length:=by omega
    rw [List.getD_eq_getElem?_getD,List.getElem?_take,if_pos (by omega),List.getElem?_drop,Nat.add_zero,List.getElem?_eq_getElem h1]
    rfl
   exact zbz ha' hs (by simpa using hx)

theorem zdqb:∀ (d:Nat) (t:TypeId) (xs ys:List C) (r:Bool),eqA P d t xs ys=some r -> ∀ (us vs:List Value),RepCs w β U base us xs->RepCs w β U base vs ys ->
  ∀ D,d<=D->(Op.equalIn D t (valOf P t us) (valOf P t vs)).run P w=.ok r w:=by
 intro d
 induction d with
 | zero=>intro t xs ys r h; simp [eqA] at h
 | succ d ih =>
  intro t xs ys r h us vs hus hvs D hD
  obtain ⟨D,rfl⟩:∃ D',D=D'+1:=⟨D-1,by omega⟩
  have hdD:d<=D:=by omega
  have step:∀ (ty:TypeId) (o n:Nat) (p:Bool),n=P.cellsOf ty->eqA P d ty ((xs.drop o).take n) ((ys.drop o).take n)=some p ->
      ∃ a b,(part ty us.toArray o).run P w=.ok a w/\(part ty vs.toArray o).run P w=.ok b w/\(Op.equalIn D ty a b).run P w=.ok p w:=by
    intro ty o n p hn hp
    subst hn
    cases d with
    | zero=>simp [eqA] at hp
    | succ d' =>
      have hs:=zmk hp
      have hu1:=hus.sub o (P.cellsOf ty)
      have hv1:=hvs.sub o (P.cellsOf ty)
      refine ⟨_,_,zpy hs (fun ha=>?_),zpy hs (fun ha=>?_),ih ty _ _ p hp _ _ hu1 hv1 D hdD⟩
      . rw [hu1.1]; exact (zqd ha hp).1
      . rw [hv1.1]; exact (zqd ha hp).2
  unfold eqA at h
  split at h
  . rename_i hu
    have ha:tagg P t=false:=by simp [tagg,hu]
    split at h
    . rename_i x y
      obtain rfl:=Option.some.inj h
      obtain ⟨u,rfl,h1⟩:=hus.one
      obtain ⟨v,rfl,h2⟩:=hvs.one
      cases h1; cases h2
      simp only [valOf,ha,Bool.false_eq_true,if_false]
      exact run_equalIn_bool w D t _ _ hu
    . cases h
  . rename_i k0 hu
    have ha:tagg P t=false:=by simp [tagg,hu]
    split at h
    . rename_i k x k' y
      split at h
      . rename_i hk
        subst hk
        obtain rfl:=Option.some.inj h
        obtain ⟨u,rfl,h1⟩:=hus.one
        obtain ⟨v,rfl,h2⟩:=hvs.one
        cases h1; cases h2
        simp only [valOf,ha,Bool.false_eq_true,if_false]
        exact run_equalIn_int w D t _ _ _ _ hu
      . cases h
    . cases h
  . rename_i hu
    have ha:tagg P t=false:=by simp [tagg,hu]
    split at h
    . rename_i x y
      obtain rfl:=Option.some.inj h
      obtain ⟨u,rfl,h1⟩:=hus.one
      obtain ⟨v,rfl,h2⟩:=hvs.one
      cases h1; cases h2
      simp only [valOf,ha,Bool.false_eq_true,if_false]
      have:=run_equalIn_string (P:=P) w D t ⟨x.toArray⟩ ⟨y.toArray⟩ hu
      simp only [List.getD_cons_zero]
      rw [this,ByteArray.toList_mk,ByteArray.toList_mk]
      congr 1
      rw [Bool.eq_iff_iff]; simp
    . cases h
  . rename_i fs hu
    have ha:tagg P t=true:=(zm6 P t).2 (.inl ⟨fs,hu⟩)
    have hfs:P.fieldsOf t=fs:=by simp [Program.fieldsOf,hu]
    split at h
    . cases h
    rename_i hst
    simp only [valOf,ha,if_true]
    rw [run_equalIn_struct w D t us.toArray vs.toArray (by rw [hfs]; exact hu) (by simpa using hst),hfs]
    generalize fs.toList=l at h
    clear hu hfs hst ha
    induction l generalizing r with
    | nil=>obtain rfl:=Option.some.inj h; rfl
    | cons f l ihl =>
      rw [List.foldr_cons] at h
      split at h
      . cases h
      rename_i hn
      split at h
      . rename_i p q hp hq
        obtain rfl:=Option.some.inj h
        obtain ⟨a,b,h1,h2,h3⟩:=step f.type f.offset _ p rfl hp
        simp only [Op.eqFields,hn,ne_eq,not_false_eq_true,if_true,Sem.run_bind,h1,h2,h3,Result.andThen_ok]
        cases p
        . simp
        . simpa using ihl q hq
      . cases h
  . rename_i n e hu
    have ha:tagg P t=true:=(zm6 P t).2 (.inr ⟨n,e,hu⟩)
    split at h
    . cases h
    rename_i hi
    obtain ⟨i,hi⟩:∃ i,P.info? e=some i:=by cases hi':P.info? e <;> simp_all
    simp only [valOf,ha,if_true]
    rw [run_equalIn_array w D us.toArray vs.toArray hu hi]
    generalize List.range n=l at h
    clear hu ha
    induction l generalizing r with
    | nil=>obtain rfl:=Option.some.inj h; rfl
    | cons q l ihl =>
      rw [List.foldr_cons] at h
      split at h
      . rename_i p q' hp hq
        obtain rfl:=Option.some.inj h
        obtain ⟨a,b,h1,h2,h3⟩:=step e (q*P.cellsOf e) _ p rfl hp
        simp only [Op.eqItems,Sem.run_bind,h1,h2,h3,Result.andThen_ok]
        cases p
        . simp
        . simpa using ihl q' hq
      . cases h
  . cases h

theorem z09 {t:TypeId} {xs ys:List C} {r:Bool} {us vs:List Value} (hus:RepCs w β U base us xs) (hvs:RepCs w β U base vs ys) (h:eqV P t xs ys=some r) :
   P.eqGuardType P.depth t=false/\(Op.equalIn 10000 t (.agg us.toArray) (.agg vs.toArray)).run P w=.ok r w:=by
 unfold eqV at h
 split at h
 . cases h
 rename_i hg
 split at h
 . rename_i ha
   refine ⟨by simpa using hg,?_⟩
   have hq:=zdqb 12 t xs ys r h us vs hus hvs 10000 (by omega)
   simpa [valOf,ha] using hq
 . cases h

theorem z9g {op:BinOp} {t:TypeId} {u v:Value} {x y z:V} (xo yo:Operand) (hx:RepV w β U base u x) (hy:RepV w β U base v y) (h:binA P op t x y=some z) :
   ∃ r,((do eqGuard op t xo yo u v; binOp op t u v):Sem Value).run P w=.ok r w/\RepV w β U base r z:=by
 unfold binA at h
 split at h
 . rename_i k a k' b
   obtain rfl:=hx.int
   obtain rfl:=hy.int
   rw [Option.map_eq_some_iff] at h
   obtain ⟨d,hd,rfl⟩:=h
   obtain ⟨r,h1,h2⟩:=z9e (P:=P) (w:=w) (U:=U) (t:=t) hd
   refine ⟨r,?_,repD h2⟩
   have:(eqGuard op t xo yo (.int k a) (.int k' b)).run P w=.ok () w:=by cases op <;> rfl
   rw [Sem.run_bind,this,Result.andThen_ok,h1]
 . rename_i a b
   obtain rfl:=hx.str
   obtain rfl:=hy.str
   rw [Option.map_eq_some_iff] at h
   obtain ⟨d,hd,rfl⟩:=h
   obtain ⟨r,h1,h2⟩:=z9d (P:=P) (w:=w) (U:=U) (t:=t) hd
   refine ⟨r,?_,repD h2⟩
   have:(eqGuard op t xo yo (.string ⟨a.toArray⟩) (.string ⟨b.toArray⟩)).run P w=.ok () w:=by cases op <;> rfl
   rw [Sem.run_bind,this,Result.andThen_ok,h1]
 . rename_i a b
   obtain rfl:=hx.bool
   obtain rfl:=hy.bool
   split at h
   . rename_i ht
     rw [Option.map_eq_some_iff] at h
     obtain ⟨d,hd,rfl⟩:=h
     obtain ⟨r,h1,h2⟩:=z9f (P:=P) (w:=w) (U:=U) (t:=t) ht hd
     refine ⟨r,?_,repD h2⟩
     have:(eqGuard op t xo yo (.bool a) (.bool b)).run P w=.ok () w:=by cases op <;> rfl
     rw [Sem.run_bind,this,Result.andThen_ok,h1]
   . cases h
 . rename_i xs ys
   obtain ⟨us,rfl,hl,h1,hr⟩:=hx.aggOf
   obtain ⟨vs,rfl,hl',h1',hr'⟩:=hy.aggOf
   split at h
   . rw [Option.map_eq_some_iff] at h
     obtain ⟨r,hr2,rfl⟩:=h
     obtain ⟨hg,he⟩:=z09 (P:=P) ⟨hl,hr⟩ ⟨hl',hr'⟩ hr2
     refine ⟨.bool r,?_,repB r⟩
     rw [Sem.run_bind,run_eqGuard_agg w _ t xo yo _ _ hg,Result.andThen_ok,run_eql_struct,he]
     rfl
   . rw [Option.map_eq_some_iff] at h
     obtain ⟨r,hr2,rfl⟩:=h
     obtain ⟨hg,he⟩:=z09 (P:=P) ⟨hl,hr⟩ ⟨hl',hr'⟩ hr2
     refine ⟨.bool (!r),?_,repB _⟩
     rw [Sem.run_bind,run_eqGuard_agg w _ t xo yo _ _ hg,Result.andThen_ok,run_neq_struct,he]
     rfl
   . cases h
 . cases h

theorem V.cells_sound {v:Value} {x:V} {cs:List C} (hx:RepV w β U base v x) (h:x.cells=some cs):RepCs w β U base v.cells.toList cs /\ ∀ u∈v.cells.toList,u.oneCell'=true:=by
 unfold V.cells at h
 split at h
 . rename_i c
   have hc:=hx.toC
   have hone:∀ c',c=c'->(∀ (e:v.oneCell'=true),RepCs w β U base v.cells.toList [c'] /\ ∀ u∈v.cells.toList,u.oneCell'=true):=by
    rintro c' rfl e
    have e2:v.cells = #[v]:=by cases v <;> first | rfl | (simp [Value.oneCell'] at e)
    rw [e2]
    refine ⟨⟨rfl,fun j u c2 hu hc2=>?_⟩,by simpa using e⟩
    cases j with
    | zero=>simp at hu hc2; subst hu; subst hc2; exact hc
    | succ j=>simp at hu
   split at h
   all_goals first | (cases h; done) | skip
   rename_i hb1 hb2
   obtain rfl:=Option.some.inj h
   refine hone _ rfl ?_
   cases c with
   | d x=>exact RepI.oneCell (show RepI w U v x from hc)
   | f x=>exact RepI.oneCell (show RepI w _ v x from hc)
   | nil=>rw [show v=.slice none 0 0 from hc]; rfl
   | own k ver len=>obtain ⟨a,cap,v0,ver0,rfl,_⟩:=hc; rfl
   | sub k ver sz off len=>obtain ⟨a,cap,v0,ver0,rfl,_⟩:=hc; rfl
   | ptr k off=>obtain ⟨b,o,_,rfl⟩:=hc; rfl
   | pr k ver sz i off=>obtain ⟨a,v0,ver0,rfl,_⟩:=hc; rfl
   | asl k off len=>obtain ⟨b,o,_,rfl⟩:=hc; rfl
   | pre k ver sz len=>obtain ⟨a,cap,v0,ver0,rfl,_⟩:=hc; rfl
   | nn x=>obtain ⟨_,a,l,c,rfl⟩:=hc; rfl
   | pv cells=>obtain ⟨b,o,vals,rfl,_⟩:=hc; rfl
   | clo f caps=>obtain ⟨vs,rfl,_⟩:=hc; rfl
   | clp f ks=>obtain ⟨vs,rfl,_⟩:=hc; rfl
   | mp k=>obtain ⟨b,_,rfl⟩:=hc; rfl
   | un=>exact absurd rfl hb2
   | bad=>exact absurd rfl hb1
 . obtain ⟨vs,rfl,hl,h1,hr⟩:=hx.aggOf
   obtain rfl:=Option.some.inj h
   exact ⟨⟨hl,hr⟩,h1⟩
 . cases h
end
end Go.Proofs.YthkhikdglmaiaaaGreatDoor.Abs
namespace Go.Proofs.YthkhikdglmaiaaaGreatDoor.Abs
open Go Go.RowKit

section
variable {P:Program} {w:World} {β:Nat->Option Place} {U:Nat->Prop} {base:Nat}

theorem foldl_set (off:Nat):∀ (l:List Value) (k:Nat) (cells:Array Value) (j:Nat),off+k+l.length<=cells.size ->
  ((l.zipIdx k).foldl (fun cs (x:Value×Nat)=>cs.setIfInBounds (off+x.2) x.1) cells)[j]?=if off+k<=j/\j<off+k+l.length then l[j-(off+k)]? else cells[j]?:=by
 intro l
 induction l with
 | nil=>intro k cells j _; simp; omega
 | cons v l ih =>
  intro k cells j hle
  simp only [List.length_cons] at hle
  rw [List.zipIdx_cons,List.foldl_cons,ih (k+1) _ j (by simp <;> omega)]
  by_cases h1:off+(k+1)<=j/\j<off+(k+1)+l.length
  . rw [if_pos h1,if_pos (by simp <;> omega)]
    rw [show j-(off+k)=(j-(off+(k+1)))+1 by omega]
    simp
  . rw [if_neg h1]
    by_cases h2:j=off+k
    . subst h2
      rw [if_pos (by simp)]
      have:off+k<cells.size:=by omega
      simp [this]
    . rw [if_neg (by simp <;> omega)]
      rw [Array.getElem?_setIfInBounds_ne (by simp <;> omega)]

theorem zln (off:Nat):∀ (l:List (Value×Nat)) (cells:Array Value),(l.foldl (fun cs (x:Value×Nat)=>cs.setIfInBounds (off+x.2) x.1) cells).size=cells.size:=by
 intro l
 induction l with
 | nil=>intro cells; rfl
 | cons v l ih=>intro cells; rw [List.foldl_cons,ih]; simp

theorem zh8 {α:Type} (cells xs:List α) (off j:Nat) (h:off+xs.length<=cells.length):(zgo cells off xs)[j]?=if off<=j/\j<off+xs.length then xs[j-off]? else cells[j]?:=by
 unfold zgo
 by_cases h1:j<off
 . rw [if_neg (by omega),List.append_assoc,List.getElem?_append_left (by simp <;> omega),List.getElem?_take,if_pos h1]
 . by_cases h2:j<off+xs.length
   . rw [if_pos (by omega),List.append_assoc,List.getElem?_append_right (by simp <;> omega),List.getElem?_append_left (by simp <;> omega)]
     congr 1
     simp; omega
   . rw [if_neg (by omega),List.getElem?_append_right (by simp <;> omega),List.getElem?_drop]
     congr 1
     simp; omega

theorem zfb {α:Type} (cells xs:List α) (off:Nat) (h:off+xs.length<=cells.length):(zgo cells off xs).length=cells.length:=by
 unfold zgo; simp; omega

def zrb (w:World) (β:Nat->Option Place) (U:Nat->Prop) (base:Nat):List (Nat×Value)->List (Nat×V)->Prop
 | [],[]=>True
 | (i,u) :: r,(j,x) :: s=>i=j/\RepV w β U base u x/\zrb w β U base r s
 | _,_=>False

theorem zk3 (place:Nat->Option (Nat×Nat)):∀ (ps:List (Nat×Value)) (xs:List (Nat×V)) (us:Array Value) (cs cs':List C),zrb w β U base ps xs->RepCs w β U base us.toList cs ->
  (∀ u∈us.toList,u.oneCell'=true)->z3z place cs xs=some cs' ->
  ∃ us':Array Value,Instr.fill place us ps=some us'/\RepCs w β U base us'.toList cs' /\ ∀ u∈us'.toList,u.oneCell'=true:=by
 intro ps
 induction ps with
 | nil =>
  intro xs us cs cs' hp hr h1 h
  cases xs with
  | nil=>obtain rfl:=Option.some.inj h; exact ⟨us,rfl,hr,h1⟩
  | cons=>exact hp.elim
 | cons p ps ih =>
  intro xs us cs cs' hp hr h1 h
  obtain ⟨i,u⟩:=p
  cases xs with
  | nil=>exact hp.elim
  | cons x xs =>
   obtain ⟨j,x⟩:=x
   obtain ⟨rfl,hx,hrest⟩:=hp
   unfold z3z at h
   split at h
   . rename_i off size ys hpl hys
     split at h
     . cases h
     rename_i hcond
     obtain ⟨⟨hyl,hyr⟩,hy1⟩:=V.cells_sound hx hys
     have hsz:u.cells.size=ys.length:=by simpa using hyl
     have hul:us.size=cs.length:=by simpa using hr.1
     have hlen:ys.length=size:=by omega
     have hle:off+ys.length<=cs.length:=by omega
     have hnot:¬ (u.cells.size≠size || decide (off+u.cells.size>us.size))=true:=by
       simp; omega
     obtain ⟨us',h2,h3,h4⟩:=ih xs (u.cells.zipIdx.foldl (fun cs (c,j)=>cs.setIfInBounds (off+j) c) us) (zgo cs off ys) cs' hrest (by
        refine ⟨by
          rw [zfb _ _ _ hle,Array.length_toList,<- Array.foldl_toList,Array.toList_zipIdx,zln]; exact hul,fun q v c hv hc=>?_⟩
        rw [Array.getElem?_toList,<- Array.foldl_toList,Array.toList_zipIdx,foldl_set off _ 0 us q (by simp <;> omega)] at hv
        rw [zh8 _ _ _ _ hle] at hc
        simp only [Nat.add_zero,Array.length_toList,hsz] at hv
        split at hv
        . rename_i hq
          rw [if_pos hq] at hc
          exact hyr _ v c hv hc
        . rename_i hq
          rw [if_neg hq] at hc
          exact hr.2 q v c (by simpa using hv) hc)
       (by
        intro v hv
        obtain ⟨q,hq⟩:=List.mem_iff_getElem?.1 hv
        rw [Array.getElem?_toList,<- Array.foldl_toList,Array.toList_zipIdx,foldl_set off _ 0 us q (by simp <;> omega)] at hq
        split at hq
        . exact hy1 v (List.mem_of_getElem? hq)
        . exact h1 v (by simpa using Array.mem_of_getElem? hq)) h
     refine ⟨us',?_,h3,h4⟩
     unfold Instr.fill
     simp only [hpl]
     rw [if_neg hnot]
     exact h2
   . cases h

theorem zce {t:TypeId} {cs:List C} (h:zja P t=some cs):∃ (i:TypeInfo) (z:Value),P.info? t=some i/\i.zero=some z/\RepCs w β U base z.cells.toList cs/\(∀ u∈z.cells.toList,u.oneCell'=true)/\z.cells.size=i.size:=by
 unfold zja at h
 split at h
 . rename_i i hi
   split at h
   . rename_i z hz
     split at h
     . rename_i hc
       simp only [Bool.and_eq_true,beq_iff_eq] at hc
       obtain rfl:=Option.some.inj h
       refine ⟨i,z,hi,hz,⟨by simp,fun j u c hu hc=>?_⟩,fun u hu=>(Array.all_eq_true_iff_forall_mem.1 hc.1) u (by simpa using hu),hc.2⟩
       rw [List.getElem?_map,hu] at hc
       obtain rfl:cv1 u=c:=by simpa using hc
       exact z2q u
     . cases h
   . cases h
 . cases h

theorem zsx (P:Program):∀ (fs:List Field),(∀ f∈fs,(P.info? f.type).isSome=true)->fs.mapM (fun f=>(P.info? f.type).map fun i=>(f.offset,i.size))=some (fs.map fun f=>(f.offset,P.cellsOf f.type))
 | [],_=>rfl
 | f :: fs,h=>by
  obtain ⟨i,hi⟩:=Option.isSome_iff_exists.1 (h f (by simp))
  simp [List.mapM_cons,hi,zsx P fs (fun g hg=>h g (by simp [hg])),Program.cellsOf]

theorem z1t {t:TypeId} {ps:Array (Nat×Value)} {xs:List (Nat×V)} {z:V} (hp:zrb w β U base ps.toList xs) (h:ze5b P t xs=some z) :
   ∃ v,(Instr.build t ps).run P w=.ok v w/\RepV w β U base v z:=by
 unfold ze5b at h
 split at h
 . cases h
 rename_i zero hz
 obtain ⟨i,z0,hi,hz0,hzr,hz1,hzs⟩:=zce (w:=w) (β:=β) (U:=U) (base:=base) hz
 split at h
 . rename_i fs hu
   split at h
   case isFalse=>cases h
   rename_i hall
   rw [Option.map_eq_some_iff] at h
   obtain ⟨cs,hcs,rfl⟩:=h
   obtain ⟨us',h1,h2,h3⟩:=zk3 (w:=w) (β:=β) (U:=U) (base:=base) _ ps.toList xs z0.cells zero cs hp hzr hz1 hcs
   refine ⟨.agg us',run_build w t ps us' ?_,?_⟩
   . unfold Program.built
     simp only [hi,hu,hz0,zsx P fs.toList (fun f hf=>(Array.all_eq_true_iff_forall_mem.1 hall) f (by simpa using hf))]
     rw [<- h1]
     congr 1
     funext i
     simp
   . have:=RepV.agg us'.toList cs h2.1 h3 h2.2
     simpa using this
 . rename_i n e hu
   split at h
   case isFalse=>cases h
   rename_i he
   rw [Option.map_eq_some_iff] at h
   obtain ⟨cs,hcs,rfl⟩:=h
   obtain ⟨ie,hie⟩:=Option.isSome_iff_exists.1 he
   have hce:P.cellsOf e=ie.size:=by simp [Program.cellsOf,hie]
   obtain ⟨us',h1,h2,h3⟩:=zk3 (w:=w) (β:=β) (U:=U) (base:=base) _ ps.toList xs z0.cells zero cs hp hzr hz1 hcs
   refine ⟨.agg us',run_build w t ps us' ?_,?_⟩
   . unfold Program.built
     simp only [hi,hu,hz0,hie]
     rw [<- h1,hce]
   . have:=RepV.agg us'.toList cs h2.1 h3 h2.2
     simpa using this
 . cases h

theorem zat {d:Int} {o:Option Value} {x:Option V} {n:Int} (hn:(o=none/\x=none) \/ ∃ u y,o=some u/\x=some y/\RepV w β U base u y) (h:optI d x=some n) :
   (o=none/\n=d) \/ ∃ k,o=some (.int k n):=by
 rcases hn with ⟨rfl,rfl⟩ | ⟨u,y,rfl,rfl,hy⟩
 . exact .inl ⟨rfl,(Option.some.inj h).symm⟩
 . unfold optI at h
   split at h
   . rename_i heq; cases heq
   . rename_i k m heq
     obtain rfl:=Option.some.inj heq
     obtain rfl:=Option.some.inj h
     obtain rfl:=hy.int
     exact .inr ⟨k,rfl⟩
   . cases h

theorem za3 {isSlice:Bool} {len cap:Nat} {lo hi:Option Value} {a b:Int} (h1:(lo=none/\a=0) \/ ∃ k,lo=some (.int k a)) (h2:(hi=none/\b=len) \/ ∃ k,hi=some (.int k b))
   (ha:0<=a) (hab:a<=b) (hb:b<=len) (hlc:len<=cap):(Instr.sliceBounds isSlice len cap lo hi none).run P w=.ok (a.toNat,b.toNat,cap) w:=by
 have hbc:b<=cap:=by omega
 have hb0:0<=b:=by omega
 have hbt:(b.toNat:Int)=b:=by omega
 rcases h1 with ⟨rfl,rfl⟩ | ⟨k,rfl⟩ <;> rcases h2 with ⟨rfl,rfl⟩ | ⟨k',rfl⟩
 . simp [Instr.sliceBounds]
 . simp [Instr.sliceBounds,Instr.sliceBound,asIntOf,hb0,hbc]
 . have:a<=(len:Int):=by omega
   simp [Instr.sliceBounds,Instr.sliceBound,asIntOf,ha,this]
 . simp [Instr.sliceBounds,Instr.sliceBound,asIntOf,hb0,hbc,ha,hbt,hab]

theorem RepI.drop {v:Value} {sz:Nat} {rows:List (List D)} {U:Nat->Prop} (h:RepI w U v (.sl sz rows)):∃ (a:Option Addr) (cap:Nat),v=.slice a rows.length cap/\rows.length<=cap /\ ∀ lo hi:Nat,lo<=hi->hi<=rows.length ->
  RepI w U (.slice (if cap-lo=cap-lo/\cap=lo then a else a.map (·.add (lo*sz))) (hi-lo) (cap-lo)) (.sl sz ((rows.take hi).drop lo)):=by
 cases h with
 | nil a cap _ hn =>
  refine ⟨a,cap,rfl,Nat.zero_le _,fun lo hi h1 h2=>?_⟩
  obtain rfl:hi=0:=by simpa using h2
  obtain rfl:lo=0:=by omega
  refine .nil _ _ _ fun he=>?_
  have:a=none:=by
    split at he
    . exact he
    . simpa using he
  have:=hn this
  omega
 | sl b o cap sz rows vals hU hlen hcap hc hr =>
  refine ⟨_,cap,rfl,hcap,fun lo hi h1 h2=>?_⟩
  by_cases he:hi=lo
  . subst he
    have e:(rows.take hi).drop hi=[]:=by
      apply List.drop_eq_nil_of_le; simp; omega
    rw [e,Nat.sub_self]
    exact .nil _ _ _ (fun he=>by split at he <;> simp at he)
  . rw [if_neg (by omega)]
    have el:((rows.take hi).drop lo).length=hi-lo:=by simp; omega
    have:=RepI.sl (w:=w) (U:=U) b (o+lo*sz) (cap-lo) sz ((rows.take hi).drop lo) (fun i j=>vals (lo+i) j) hU
      (fun r hr'=>hlen r (List.mem_of_mem_take (List.mem_of_mem_drop hr'))) (by rw [el]; omega)
      (fun i j r d hi' hj=>by
       rw [List.getElem?_drop,List.getElem?_take] at hi'
       split at hi'
       . have:=hc (lo+i) j r d hi' hj
         rw [show o+lo*sz+i*sz+j=o+(lo+i)*sz+j by rw [Nat.add_mul]; omega]
         exact this
       . cases hi')
      (fun i j r d hi' hj=>by
       rw [List.getElem?_drop,List.getElem?_take] at hi'
       split at hi'
       . exact hr (lo+i) j r d hi' hj
       . cases hi')
    rw [el] at this
    simpa [Addr.add_lit] using this

theorem zzk {t:TypeId} {u:Value} {x z:V} {lo hi:Option Value} {xlo xhi:Option V} (hx:RepV w β U base u x)
   (hlo:(lo=none/\xlo=none) \/ ∃ u y,lo=some u/\xlo=some y/\RepV w β U base u y) (hhi:(hi=none/\xhi=none) \/ ∃ u y,hi=some u/\xhi=some y/\RepV w β U base u y)
   (h:zna P t x xlo xhi=some z):∃ v,(Instr.sliceAt t u lo hi none).run P w=.ok v w/\RepV w β U base v z:=by
 unfold zna at h
 split at h
 . rename_i l hu
   obtain rfl:=hx.str
   split at h
   . rename_i a b h1 h2
     split at h
     . rename_i hc
       obtain rfl:=Option.some.inj h
       have hl:(⟨l.toArray⟩:ByteArray).size=l.length:=by simp [ByteArray.size]
       have hb:=za3 (P:=P) (w:=w) (isSlice:=false) (len:=l.length) (cap:=l.length) (zat hlo h1) (zat hhi h2) hc.1 hc.2.1 hc.2.2 (Nat.le_refl _)
       refine ⟨.string ((⟨l.toArray⟩:ByteArray).extract a.toNat b.toNat),?_,zj0b _ _ ?_⟩
       . simp [Instr.sliceAt,Instr.slice,run_underlying hu,hl,hb]
       . rw [Lib.extract_data]
         simp only
         rw [List.drop_take]
     . cases h
   . cases h
 . rename_i e sz rows hu
   split at h
   . rename_i a b h1 h2
     split at h
     . rename_i hc
       obtain ⟨ha,hab,hbl,rfl,hie⟩:=hc
       obtain ⟨ie,hie⟩:=Option.isSome_iff_exists.1 hie
       obtain rfl:=Option.some.inj h
       obtain ⟨a0,cap,rfl,hcap,hdrop⟩:=RepI.drop (show RepI w U u (.sl (P.cellsOf e) rows) from hx.toC)
       have hb:=za3 (P:=P) (w:=w) (isSlice:=true) (len:=rows.length) (cap:=cap) (zat hlo h1) (zat hhi h2) ha hab hbl hcap
       refine ⟨_,?_,repD (hdrop a.toNat b.toNat (by omega) (by omega))⟩
       simp [Instr.sliceAt,Instr.slice,run_underlying hu,hb,run_sizeOf w hie]
     . cases h
   . cases h
 . rename_i e sz rows hu
   split at h
   . rename_i a b h1 h2
     split at h
     . rename_i hc
       obtain ⟨ha,hab,hbl,rfl,hie⟩:=hc
       obtain ⟨ie,hie⟩:=Option.isSome_iff_exists.1 hie
       obtain rfl:=Option.some.inj h
       obtain ⟨a0,cap,rfl,hcap,hdrop⟩:=RepI.drop (U:=fun b=>U b/\base<=b) (show RepI w _ u (.sl (P.cellsOf e) rows) from hx.toC)
       have hb:=za3 (P:=P) (w:=w) (isSlice:=true) (len:=rows.length) (cap:=cap) (zat hlo h1) (zat hhi h2) ha hab hbl hcap
       refine ⟨_,?_,.one _ _ (hdrop a.toNat b.toNat (by omega) (by omega))⟩
       simp [Instr.sliceAt,Instr.slice,run_underlying hu,hb,run_sizeOf w hie]
     . cases h
   . cases h
 . rename_i e k ver len hu
   split at h
   . rename_i a b h1 h2
     split at h
     . rename_i hc
       obtain ⟨ha,hab,hbl,hie⟩:=hc
       obtain ⟨ie,hie⟩:=Option.isSome_iff_exists.1 hie
       obtain rfl:=Option.some.inj h
       obtain ⟨a0,cap,v0,ver0,rfl,hlc,hn0,hs0,hk,hv1,hv2⟩:=hx.toC
       have hb:=za3 (P:=P) (w:=w) (isSlice:=true) (len:=len) (cap:=cap) (zat hlo h1) (zat hhi h2) ha hab hbl hlc
       refine ⟨.slice (if cap=a.toNat then a0 else a0.map (·.add (a.toNat*P.cellsOf e))) (b.toNat-a.toNat) (cap-a.toNat),?_,.one _ _ ⟨_,cap-a.toNat,v0,ver0,by rw [show (b-a).toNat=b.toNat-a.toNat by omega],by omega,fun hq=>?_,hk,hv1,fun hv hpos=>?_⟩⟩
       . simp [Instr.sliceAt,Instr.slice,run_underlying hu,hb,run_sizeOf w hie]
       . cases a0 with
         | none=>obtain ⟨q1,q2⟩:=hn0 rfl; exact ⟨by omega,by omega⟩
         | some y=>split at hq <;> simp at hq
       . rw [if_neg (by omega)]
         cases a0 with
         | none=>have:=hn0 rfl; omega
         | some y =>
          obtain ⟨g,rfl⟩:=hs0 y rfl
          exact ⟨g,len,cap,(hv2 hv).symm,by simp [Addr.add_lit]⟩
     . cases h
   . cases h
 . rename_i e k ver sz off len hu
   split at h
   . rename_i a b h1 h2
     split at h
     . rename_i hc
       obtain ⟨ha,hab,hbl,rfl,hie⟩:=hc
       obtain ⟨ie,hie⟩:=Option.isSome_iff_exists.1 hie
       obtain rfl:=Option.some.inj h
       obtain ⟨a0,cap,v0,ver0,rfl,hlc,hn0,hk,hv1,hv2⟩:=hx.toC
       have hb:=za3 (P:=P) (w:=w) (isSlice:=true) (len:=len) (cap:=cap) (zat hlo h1) (zat hhi h2) ha hab hbl hlc
       refine ⟨.slice (if cap=a.toNat then a0 else a0.map (·.add (a.toNat*P.cellsOf e))) (b.toNat-a.toNat) (cap-a.toNat),?_,.one _ _ ⟨_,cap-a.toNat,v0,ver0,by rw [show (b-a).toNat=b.toNat-a.toNat by omega],by omega,fun hq=>?_,hk,hv1,fun hv hpos=>?_⟩⟩
       . simp [Instr.sliceAt,Instr.slice,run_underlying hu,hb,run_sizeOf w hie]
       . cases a0 with
         | none=>obtain ⟨q1,q2⟩:=hn0 rfl; exact ⟨by omega,by omega⟩
         | some y=>split at hq <;> simp at hq
       . rw [if_neg (by omega)]
         obtain ⟨g,n,c,e1,rfl⟩:=hv2 hv (by omega)
         exact ⟨g,n,c,e1,by simp [Addr.add_lit,Nat.add_mul]⟩
     . cases h
   . cases h
 . rename_i e hu
   split at h
   . rename_i a b h1 h2
     split at h
     . rename_i hc
       obtain ⟨rfl,rfl,hie⟩:=hc
       obtain ⟨ie,hie⟩:=Option.isSome_iff_exists.1 hie
       obtain rfl:=Option.some.inj h
       have hq:u=.slice none 0 0:=hx.toC
       subst hq
       have hb:=za3 (P:=P) (w:=w) (isSlice:=true) (len:=0) (cap:=0) (zat hlo h1) (zat hhi h2) (by omega) (by omega) (by omega) (Nat.le_refl _)
       refine ⟨.slice none 0 0,?_,.one _ _ rfl⟩
       simp [Instr.sliceAt,Instr.slice,run_underlying hu,hb,run_sizeOf w hie]
     . cases h
   . cases h
 . rename_i e c xs hu
   split at h
   . rename_i a b h1 h2
     split at h
     . rename_i hc
       obtain ⟨ha,hab,hbl,hsz,hie⟩:=hc
       obtain ⟨ie,hie⟩:=Option.isSome_iff_exists.1 hie
       obtain rfl:=Option.some.inj h
       have hlen:(xs.map (enc c)).length=xs.length:=by simp
       obtain ⟨a0,cap,rfl,hcap,hdrop⟩:=RepI.drop (U:=U) (RepI.unst (show RepI w _ u (.st c xs) from hx.toC))
       rw [hlen] at hcap hdrop ⊢
       have hb:=za3 (P:=P) (w:=w) (isSlice:=true) (len:=xs.length) (cap:=cap) (zat hlo h1) (zat hhi h2) ha hab hbl hcap
       have hd:=hdrop a.toNat b.toNat (by omega) (by omega)
       rw [<- List.map_take,<- List.map_drop] at hd
       refine ⟨_,?_,.one _ _ (RepI.toSt hd)⟩
       simp [Instr.sliceAt,Instr.slice,run_underlying hu,hb,run_sizeOf w hie,hsz]
     . cases h
   . cases h
 . rename_i e c xs hu
   split at h
   . rename_i a b h1 h2
     split at h
     . rename_i hc
       obtain ⟨ha,hab,hbl,hsz,hie⟩:=hc
       obtain ⟨ie,hie⟩:=Option.isSome_iff_exists.1 hie
       obtain rfl:=Option.some.inj h
       have hlen:(xs.map (enc c)).length=xs.length:=by simp
       obtain ⟨a0,cap,rfl,hcap,hdrop⟩:=RepI.drop (U:=fun b=>U b/\base<=b) (RepI.unst (show RepI w _ u (.st c xs) from hx.toC))
       rw [hlen] at hcap hdrop ⊢
       have hb:=za3 (P:=P) (w:=w) (isSlice:=true) (len:=xs.length) (cap:=cap) (zat hlo h1) (zat hhi h2) ha hab hbl hcap
       have hd:=hdrop a.toNat b.toNat (by omega) (by omega)
       rw [<- List.map_take,<- List.map_drop] at hd
       refine ⟨_,?_,.one _ _ (RepI.toSt hd)⟩
       simp [Instr.sliceAt,Instr.slice,run_underlying hu,hb,run_sizeOf w hie,hsz]
     . cases h
   . cases h
 . cases h

theorem zqu {t:TypeId} {u:Value} {x z:V} {f:Nat} (hx:RepV w β U base u x) (h:zpc P t x f=some z):∃ v,(Instr.fieldAt t u f).run P w=.ok v w/\RepV w β U base v z:=by
 unfold zpc at h
 split at h
 . cases h
 rename_i o ty ht
 split at h
 . cases h
 rename_i hc
 have hsz:¬ P.cellsOf ty=0:=fun e=>hc (.inl e)
 obtain ⟨ity,hity⟩:∃ i,P.info? ty=some i:=by cases hi:P.info? ty <;> simp_all
 unfold z4t at ht
 split at ht
 case h_2=>cases ht
 rename_i fs hu
 rw [Option.map_eq_some_iff] at ht
 obtain ⟨fl,hf,he⟩:=ht
 cases he
 have run:∀ a:Addr,(Instr.fieldAt t (.pointer (some a)) f).run P w=.ok (.pointer (some (a.add fl.offset))) w:=fun a=>by
   simp [Instr.fieldAt,run_underlying hu,hf,Instr.sureAddr,fieldPlace,run_sizeOf w hity,hsz]
 split at h
 . obtain rfl:=Option.some.inj h
   obtain ⟨b,o',hk,rfl⟩:=hx.toC
   exact ⟨_,run _,.one _ _ ⟨b,o',hk,by rw [Addr.add_lit,Nat.add_assoc]⟩⟩
 . obtain rfl:=Option.some.inj h
   obtain ⟨a,v0,ver0,rfl,hk,h1,h2⟩:=hx.toC
   refine ⟨_,run _,.one _ _ ⟨_,v0,ver0,rfl,hk,h1,fun e=>?_⟩⟩
   obtain ⟨g,n,c,e1,rfl⟩:=h2 e
   exact ⟨g,n,c,e1,by rw [Addr.add_lit,Nat.add_assoc]⟩
 . obtain rfl:=Option.some.inj h
   obtain ⟨b,o',vals,rfl,hU,hv⟩:=hx.toC
   refine ⟨_,run _,.one _ _ ⟨b,o'+fl.offset,fun j=>vals (fl.offset+j),by rw [Addr.add_lit],hU,fun j d hj=>?_⟩⟩
   rw [List.getElem?_drop] at hj
   obtain ⟨q1,q2⟩:=hv _ d hj
   exact ⟨by rw [Nat.add_assoc]; exact q1,q2⟩
 . cases h

theorem RepI.row {v:Value} {sz:Nat} {rows:List (List D)} {U:Nat->Prop} (h:RepI w U v (.sl sz rows)) {i:Nat} {r:List D} (hi:rows[i]?=some r):∃ (b o cap:Nat) (vals:Nat->Value),v=.slice (some ⟨b,o,none⟩) rows.length cap/\U b /\
  ∀ (j:Nat) (d:D),r[j]?=some d->w.cell? ⟨b,o+i*sz+j,none⟩=some (vals j)/\RepI w U (vals j) d:=by
 cases h with
 | nil a cap _ _=>simp at hi
 | sl b o cap sz rows vals hU hlen hcap hc hr=>exact ⟨b,o,cap,vals i,rfl,hU,fun j d hj=>⟨hc i j r d hi hj,hr i j r d hi hj⟩⟩

theorem zqr {t:TypeId} {u y:Value} {x i z:V} (hx:RepV w β U base u x) (hi:RepV w β U base y i) (h:zc8 P t x i=some z):∃ v,(Instr.indexAt t u y).run P w=.ok v w/\RepV w β U base v z:=by
 unfold zc8 at h
 split at h
 case h_2=>cases h
 rename_i kk n
 obtain rfl:=hi.int
 split at h
 case isFalse=>cases h
 rename_i hn
 have arr:∀ (len:Nat) (e:TypeId) (a:Addr),P.underlying t=some (.array len e)->n<len->(P.info? e).isSome=true->(Instr.indexAt t (.pointer (some a)) (.int kk n)).run P w=.ok (.pointer (some (a.add (n.toNat*P.cellsOf e)))) w:=by
   intro len e a hu hl hie
   obtain ⟨ie,hie⟩:=Option.isSome_iff_exists.1 hie
   simp [Instr.indexAt,asIntOf,run_underlying hu,Instr.sureAddr,hn,hl,run_sizeOf w hie]
 have sl:∀ (e:TypeId) (a:Addr) (len cap:Nat),P.underlying t=some (.slice e)->n<len->(P.info? e).isSome=true->(Instr.indexAt t (.slice (some a) len cap) (.int kk n)).run P w=.ok (.pointer (some (a.add (n.toNat*P.cellsOf e)))) w:=by
   intro e a len cap hu hl hie
   obtain ⟨ie,hie⟩:=Option.isSome_iff_exists.1 hie
   simp [Instr.indexAt,asIntOf,run_underlying hu,hn,hl,run_sizeOf w hie]
 split at h
 . rename_i len e k off hu
   split at h
   case isFalse=>cases h
   rename_i hc
   obtain rfl:=Option.some.inj h
   obtain ⟨b,o',hk,rfl⟩:=hx.toC
   exact ⟨_,arr len e _ hu hc.1 hc.2,.one _ _ ⟨b,o',hk,by rw [Addr.add_lit,Nat.add_assoc]⟩⟩
 . rename_i len e k ver sz i off hu
   split at h
   case isFalse=>cases h
   rename_i hc
   obtain rfl:=Option.some.inj h
   obtain ⟨a,v0,ver0,rfl,hk,h1,h2⟩:=hx.toC
   refine ⟨_,arr len e _ hu hc.1 hc.2,.one _ _ ⟨_,v0,ver0,rfl,hk,h1,fun e'=>?_⟩⟩
   obtain ⟨g,m,c,e1,rfl⟩:=h2 e'
   exact ⟨g,m,c,e1,by rw [Addr.add_lit,Nat.add_assoc]⟩
 . rename_i len e cells hu
   split at h
   case isFalse=>cases h
   rename_i hc
   obtain rfl:=Option.some.inj h
   obtain ⟨b,o',vals,rfl,hU,hv⟩:=hx.toC
   refine ⟨_,arr len e _ hu hc.1 hc.2,.one _ _ ⟨b,_,fun j=>vals (n.toNat*P.cellsOf e+j),by rw [Addr.add_lit],hU,fun j d hj=>?_⟩⟩
   rw [List.getElem?_drop] at hj
   obtain ⟨q1,q2⟩:=hv _ d hj
   exact ⟨by rw [Nat.add_assoc]; exact q1,q2⟩
 . rename_i e sz rows hu
   split at h
   case isFalse=>cases h
   rename_i hc
   rw [Option.map_eq_some_iff] at h
   obtain ⟨r,hr,rfl⟩:=h
   obtain ⟨b,o,cap,vals,rfl,hU,hv⟩:=RepI.row (show RepI w U u (.sl sz rows) from hx.toC) hr
   have hlt:n<rows.length:=by have:=(List.getElem?_eq_some_iff.1 hr).1; omega
   exact ⟨_,sl e _ _ cap hu hlt hc.2,.one _ _ ⟨b,o+n.toNat*sz,vals,by rw [Addr.add_lit,hc.1],hU,hv⟩⟩
 . rename_i e sz rows hu
   split at h
   case isFalse=>cases h
   rename_i hc
   rw [Option.map_eq_some_iff] at h
   obtain ⟨r,hr,rfl⟩:=h
   obtain ⟨b,o,cap,vals,rfl,hU,hv⟩:=RepI.row (U:=fun b=>U b/\base<=b) (show RepI w _ u (.sl sz rows) from hx.toC) hr
   have hlt:n<rows.length:=by have:=(List.getElem?_eq_some_iff.1 hr).1; omega
   exact ⟨_,sl e _ _ cap hu hlt hc.2,.one _ _ ⟨b,o+n.toNat*sz,vals,by rw [Addr.add_lit,hc.1],hU.1,fun j d hj=>⟨(hv j d hj).1,((hv j d hj).2).mono (fun _ hb=>hb.1) (fun _ _=>rfl)⟩⟩⟩
 . rename_i e k ver len hu
   split at h
   case isFalse=>cases h
   rename_i hc
   obtain rfl:=Option.some.inj h
   obtain ⟨a0,cap,v0,ver0,rfl,hlc,hn0,hs0,hk,hv1,hv2⟩:=hx.toC
   cases a0 with
   | none=>have:=hn0 rfl; omega
   | some a0 =>
    obtain ⟨g,rfl⟩:=hs0 a0 rfl
    exact ⟨_,sl e _ _ cap hu hc.1 hc.2,.one _ _ ⟨_,v0,ver0,rfl,hk,hv1,fun e'=>⟨g,len,cap,(hv2 e').symm,by rw [Addr.add_lit]; simp⟩⟩⟩
 . rename_i e k ver sz off len hu
   split at h
   case isFalse=>cases h
   rename_i hc
   obtain rfl:=Option.some.inj h
   obtain ⟨a0,cap,v0,ver0,rfl,hlc,hn0,hk,hv1,hv2⟩:=hx.toC
   cases a0 with
   | none=>have:=hn0 rfl; omega
   | some a0 =>
    refine ⟨_,sl e _ _ cap hu hc.1 hc.2.2,.one _ _ ⟨_,v0,ver0,rfl,hk,hv1,fun e'=>?_⟩⟩
    obtain ⟨g,m,c,e1,e2⟩:=hv2 e' (by omega)
    cases e2
    exact ⟨g,m,c,e1,by rw [Addr.add_lit,<- hc.2.1,Nat.add_mul]; simp⟩
 . rename_i e c xs hu
   split at h
   case isFalse=>cases h
   rename_i hc
   rw [Option.map_eq_some_iff] at h
   obtain ⟨t',ht,rfl⟩:=h
   have hr:(xs.map (enc c))[n.toNat]?=some (enc c t'):=by rw [List.getElem?_map,ht]; rfl
   obtain ⟨b,o,cap,vals,rfl,hU,hv⟩:=RepI.row (U:=U) (RepI.unst (show RepI w _ u (.st c xs) from hx.toC)) hr
   have hlt:n<(xs.map (enc c)).length:=by have:=(List.getElem?_eq_some_iff.1 hr).1; omega
   exact ⟨_,sl e _ _ cap hu hlt hc.2,.one _ _ ⟨b,o+n.toNat*esz c,vals,by rw [Addr.add_lit,hc.1],hU,hv⟩⟩
 . rename_i e c xs hu
   split at h
   case isFalse=>cases h
   rename_i hc
   rw [Option.map_eq_some_iff] at h
   obtain ⟨t',ht,rfl⟩:=h
   have hr:(xs.map (enc c))[n.toNat]?=some (enc c t'):=by rw [List.getElem?_map,ht]; rfl
   obtain ⟨b,o,cap,vals,rfl,hU,hv⟩:=RepI.row (U:=fun b=>U b/\base<=b) (RepI.unst (show RepI w _ u (.st c xs) from hx.toC)) hr
   have hlt:n<(xs.map (enc c)).length:=by have:=(List.getElem?_eq_some_iff.1 hr).1; omega
   exact ⟨_,sl e _ _ cap hu hlt hc.2,.one _ _ ⟨b,o+n.toNat*esz c,vals,by rw [Addr.add_lit,hc.1],hU.1,fun j d hj=>⟨(hv j d hj).1,((hv j d hj).2).mono (fun _ hb=>hb.1) (fun _ _=>rfl)⟩⟩⟩
 . cases h

theorem zeob {r:Operand->Value} {ρ:Operand->V} (hρ:∀ y,RepV w β U base (r y) (ρ y)):∀ (l:List Operand) (ks:List (Nat×Nat)),(l.map ρ).mapM toP1=some ks ->
  (l.map r).length=ks.length /\ ∀ (j:Nat) (u:Value) (p:Nat×Nat),(l.map r)[j]?=some u->ks[j]?=some p -> ∃ b o,β p.1=some (.cells b o)/\u=.pointer (some ⟨b,o+p.2,none⟩):=by
 intro l
 induction l with
 | nil=>intro ds h; simp at h; subst h; exact ⟨rfl,fun j u d hu hd=>by simp at hu⟩
 | cons y l ih =>
  intro ds h
  simp only [List.map_cons,List.mapM_cons,Option.bind_eq_bind,Option.pure_def,Option.bind_eq_some_iff,Option.some.injEq] at h
  obtain ⟨d,hd,ds',hds,rfl⟩:=h
  obtain ⟨h1,h2⟩:=ih ds' hds
  refine ⟨by simpa using h1,fun j u d' hu hd'=>?_⟩
  cases j with
  | zero =>
   simp at hu hd'
   subst hu; subst hd'
   have hy:=hρ y
   unfold toP1 at hd
   split at hd
   . rename_i k o e
     obtain rfl:=Option.some.inj hd
     rw [e] at hy; exact hy.toC
   . cases hd
  | succ j=>exact h2 j u d' (by simpa using hu) (by simpa using hd')

theorem zepb {r:Operand->Value} {ρ:Operand->V} (hρ:∀ y,RepV w β U base (r y) (ρ y)):∀ (l:List Operand) (ds:List D),(l.map ρ).mapM toD1=some ds ->
  (l.map r).length=ds.length /\ ∀ (j:Nat) (u:Value) (d:D),(l.map r)[j]?=some u->ds[j]?=some d->RepI w U u d:=by
 intro l
 induction l with
 | nil=>intro ds h; simp at h; subst h; exact ⟨rfl,fun j u d hu hd=>by simp at hu⟩
 | cons y l ih =>
  intro ds h
  simp only [List.map_cons,List.mapM_cons,Option.bind_eq_bind,Option.pure_def,Option.bind_eq_some_iff,Option.some.injEq] at h
  obtain ⟨d,hd,ds',hds,rfl⟩:=h
  obtain ⟨h1,h2⟩:=ih ds' hds
  refine ⟨by simpa using h1,fun j u d' hu hd'=>?_⟩
  cases j with
  | zero =>
   simp at hu hd'
   subst hu; subst hd'
   have hy:=hρ y
   unfold toD1 at hd
   split at hd
   . rename_i x e
     obtain rfl:=Option.some.inj hd
     rw [e] at hy; exact hy.toC
   . rename_i x e
     obtain rfl:=Option.some.inj hd
     rw [e] at hy
     have hc:RepI w (fun b=>U b/\base<=b) _ x:=hy.toC
     exact hc.mono (fun _ hb=>hb.1) (fun _ _=>rfl)
   . cases hd
  | succ j=>exact h2 j u d' (by simpa using hu) (by simpa using hd')

theorem znt {mn:Bool} {r:Operand->Value} {ρ:Operand->V} (hρ:∀ y,RepV w β U base (r y) (ρ y)) {ats:Array TypeId} {ty:TypeId} {args:Array Operand} {z:V} (h:zme mn (args.toList.map ρ)=some z) :
  ∃ v,(if mn then Builtin.min_ ats ty (args.map r) else Builtin.max_ ats ty (args.map r)).run P w=.ok v w/\RepV w β U base v z:=by
 obtain ⟨l⟩:=args
 match l with
 | []=>simp [zme] at h
 | [p]=>simp [zme] at h
 | p :: q :: t :: u =>
  unfold zme at h
  split at h
  . rename_i e; simp at e
  . cases h
 | [p,q] =>
  simp only [List.map_cons,List.map_nil] at h
  have hp:=hρ p
  have hq:=hρ q
  unfold zme at h
  split at h
  . rename_i k x k' y e
    simp only [List.cons.injEq,and_true] at e
    rw [e.1] at hp; rw [e.2] at hq
    split at h
    . rename_i hk
      subst hk
      obtain rfl:=Option.some.inj h
      cases mn
      . exact ⟨.int k (if y>x then y else x),by simp [Builtin.max_,hp.int,hq.int,Builtin.max2],repI _ _⟩
      . exact ⟨.int k (if y<x then y else x),by simp [Builtin.min_,hp.int,hq.int,Builtin.min2],repI _ _⟩
    . cases h
  . cases h

theorem zig {r:Operand->Value} {ρ:Operand->V} (hρ:∀ y,RepV w β U base (r y) (ρ y)):∀ (l:List (Nat×Operand)),zrb w β U base (l.map fun p=>(p.1,r p.2)) (l.map fun p=>(p.1,ρ p.2))
 | []=>trivial
 | _ :: l=>⟨rfl,hρ _,zig hρ l⟩

theorem z0c {r:Operand->Value} {ρ:Operand->V} (hρ:∀ y,RepV w β U base (r y) (ρ y)) (o:Option Operand):(o.map r=none/\o.map ρ=none) \/ ∃ u y,o.map r=some u/\o.map ρ=some y/\RepV w β U base u y:=by
 cases o with
 | none=>exact .inl ⟨rfl,rfl⟩
 | some x=>exact .inr ⟨_,_,rfl,rfl,hρ x⟩

theorem zwg {r:Operand->Value} {ρ:Operand->V} (hρ:∀ y,RepV w β U base (r y) (ρ y)) (o:Oper) {x:V} (h:effQ P o.op ρ=some x) :
   ∃ v,(execOp r o).run P w=.ok (.value v) w/\RepV w β U base v x:=by
 have wrap:∀ {s:Sem Value} {v:Value},s.run P w=.ok v w->(do pure (.value (<- s)):Sem Next).run P w=.ok (.value v) w:=fun {s v} hs=>by
   rw [Sem.run_bind,hs]; rfl
 unfold effQ at h
 split at h
 . rename_i y ho
   obtain rfl:=Option.some.inj h
   exact ⟨_,by simp [execOp,ho],hρ y⟩
 . rename_i y ho
   obtain rfl:=Option.some.inj h
   exact ⟨_,by simp [execOp,ho],hρ y⟩
 . rename_i c a b ho
   split at h
   . rename_i t e
     obtain rfl:=Option.some.inj h
     have hc:=hρ c
     rw [e] at hc
     exact ⟨_,by simp [execOp,ho,hc.bool,asBool],z24 (hρ a) (hρ b)⟩
   . cases h
 . rename_i t parts ho
   obtain ⟨v,h1,h2⟩:=z1t (P:=P) (ps:=parts.map fun (i,y)=>(i,r y)) (by simpa using zig hρ parts.toList) h
   exact ⟨v,by simp only [execOp,ho]; exact wrap h1,h2⟩
 . rename_i op t a b u ho
   obtain ⟨v,h1,h2⟩:=z9g (P:=P) a b (hρ a) (hρ b) h
   exact ⟨v,by simp only [execOp,ho]; exact wrap h1,h2⟩
 . rename_i op t a ho
   obtain ⟨v,h1,h2⟩:=z92 (P:=P) (hρ a) h
   exact ⟨v,by simp only [execOp,ho]; exact wrap h1,h2⟩
 . rename_i src dst a ho
   obtain ⟨v,h1,h2⟩:=z39 (P:=P) (hρ a) h
   exact ⟨v,by simp only [execOp,ho]; exact wrap h1,h2⟩
 . rename_i t a lo hi ho
   obtain ⟨v,h1,h2⟩:=zzk (P:=P) (hρ a) (z0c hρ lo) (z0c hρ hi) h
   exact ⟨v,by simp only [execOp,ho]; exact wrap h1,h2⟩
 . rename_i t a f ho
   obtain ⟨v,h1,h2⟩:=zqu (P:=P) (hρ a) h
   exact ⟨v,by simp only [execOp,ho]; exact wrap h1,h2⟩
 . rename_i t a f ho
   obtain ⟨v,h1,h2⟩:=z06 (P:=P) (hρ a) h
   exact ⟨v,by simp only [execOp,ho]; exact wrap h1,h2⟩
 . rename_i t a i ho
   obtain ⟨v,h1,h2⟩:=zqr (P:=P) (hρ a) (hρ i) h
   exact ⟨v,by simp only [execOp,ho]; exact wrap h1,h2⟩
 . rename_i t a i ho
   obtain ⟨v,h1,h2⟩:=z0y (P:=P) (hρ a) (hρ i) h
   exact ⟨v,by simp only [execOp,ho]; exact wrap h1,h2⟩
 . rename_i t i ho
   split at h
   . rename_i vs e
     have ht:=hρ t
     rw [e] at ht
     cases ht':r t with
     | tuple us =>
       rw [ht'] at ht
       cases ht with
       | tup us xs hl hr =>
        have hj:i<us.length:=by rw [hl]; exact (List.getElem?_eq_some_iff.1 h).1
        refine ⟨us[i],?_,hr i _ x (List.getElem?_eq_getElem hj) h⟩
        simp [execOp,ho,ht',Instr.extract,hj]
     | _=>rw [ht'] at ht; cases ht
   . cases h
 . rename_i y ho
   obtain ⟨h1,h2⟩:=z71 (P:=P) o y ho r rfl (hρ y) h
   exact ⟨_,h1,h2⟩
 . rename_i f first captured ho
   split at h
   . rename_i hf
     have hf':first = #[]:=by simpa using hf
     split at h
     . rename_i ds hds
       obtain rfl:=Option.some.inj h
       obtain ⟨h1,h2⟩:=zepb hρ captured.toList ds hds
       refine ⟨.func (.func f) #[] (captured.toList.map r).toArray,?_,.one _ _ ⟨_,rfl,h1,h2⟩⟩
       obtain ⟨l⟩:=captured
       simp [execOp,ho,Instr.makeFunc,hf']
     . rw [Option.map_eq_some_iff] at h
       obtain ⟨ks,hks,rfl⟩:=h
       obtain ⟨h1,h2⟩:=zeob hρ captured.toList ks hks
       refine ⟨.func (.func f) #[] (captured.toList.map r).toArray,?_,.one _ _ ⟨_,rfl,h1,h2⟩⟩
       obtain ⟨l⟩:=captured
       simp [execOp,ho,Instr.makeFunc,hf']
   . cases h
 . rename_i args ats ho
   split at h
   . rename_i t y e1 e2
     obtain ⟨v,h1,h2⟩:=z73 (P:=P) (ty:=o.type) (hρ y) h
     have ea:ats = #[t]:=by cases ats; simp_all
     have eb:args = #[y]:=by cases args; simp_all
     subst ea; subst eb
     exact ⟨v,by simp only [execOp,ho,resolve,Sem.run_bind,Sem.run_pure,Result.andThen_ok,invoke,builtin]; rw [show Builtin.len_ #[t] o.type (Array.map r #[y])=Builtin.len_ #[t] o.type #[r y] by simp,h1]; rfl,h2⟩
   . cases h
 . rename_i args ats ho
   obtain ⟨v,h1,h2⟩:=znt (P:=P) hρ (ats:=ats) (ty:=o.type) h
   exact ⟨v,by simp only [execOp,ho,resolve,Sem.run_bind,Sem.run_pure,Result.andThen_ok,invoke,builtin]; simp only [if_true] at h1; rw [h1]; rfl,h2⟩
 . rename_i args ats ho
   obtain ⟨v,h1,h2⟩:=znt (P:=P) hρ (ats:=ats) (ty:=o.type) h
   exact ⟨v,by simp only [execOp,ho,resolve,Sem.run_bind,Sem.run_pure,Result.andThen_ok,invoke,builtin]; simp only [Bool.false_eq_true,if_false] at h1; rw [h1]; rfl,h2⟩
 . cases h
end
end Go.Proofs.YthkhikdglmaiaaaGreatDoor.Abs
namespace Go.Proofs.YthkhikdglmaiaaaGreatDoor.Abs
open Go Go.RowKit

structure Eff where
 val:V
 mem:Option (Nat×Blk)

def St.app (s:St) (dst:Option Nat) (E:Eff):St:=(match E.mem with | some (k,b)=>s.set k b | none=>s).put dst E.val

def toC (fr:Bool) (x:D):C:=match x with | .sl sz rows=>(match fr with | true=>.f (.sl sz rows) | false=>.d (.sl sz rows)) | .st c xs=>(match fr with | true=>.f (.st c xs) | false=>.d (.st c xs)) | x=>.d x
def toD (c:C):Option D:=match c with | .d x=>some x | .f x=>some x | .nil=>some (.sl 0 []) | _=>none
def D.flat (x:D):Bool:=match x with | .sl _ _=>false | .st _ _=>false | _=>true
def C.fresh (c:C):Bool:=match c with | .d x=>x.flat | .f _=>true | .nil=>true | _=>false
def zzr (r:List D):Option Int:=match r with | [.i .u8 n]=>some n | _=>none
def zd3 (rows:List (List D)):Option (List UInt8):=(rows.mapM zzr).map fun l=>l.map fun n=>UInt8.ofNat n.toNat

def zn0 (c:Nat):Bool:=match c with | 6=>false | 12=>false | 22=>false | 23=>false | _=>true
theorem zth:∀ (c:Nat) (t:τ c),zn0 c=true->(enc c t).all D.flat=true:=by
 intro c t h
 match c,t with
 | 6,_ | 12,_ | 22,_ | 23,_=>cases h
 | 0,_ | 1,_ | 2,_ | 3,_ | 4,_ | 5,_ | 7,_ | 8,_ | 9,_ | 10,_ | 11,_ | 13,_ | 14,_ | 15,_ | 16,_ | 17,_ | 18,_ | 19,_ | 20,_ | 21,_ | 24,_ | 25,_ | 26,_ | 27,_ | 28,_ | 29,_=>rfl
 | n+30,_=>rfl
def rowsOf (m:Nat->Option Blk) (x:V):Option (Nat×List (List D)×Bool) :=
 match x with
 | .one (.d (.sl sz rows))=>some (sz,rows,rows.all fun r=>r.all D.flat)
 | .one (.f (.sl sz rows))=>some (sz,rows,true)
 | .one (.own k ver _)=>match (m k).map Blk.std with
  | some (.row ver' _ sz _ fr rows)=>if ver=ver' then some (sz,rows,fr) else none
  | _=>none
 | .one (.sub k ver sz off len)=>match (m k).map Blk.std with
  | some (.row ver' _ sz' _ fr rows)=>if ver=ver'/\sz=sz'/\off+len<=rows.length then some (sz,(rows.drop off).take len,fr) else none
  | _=>none
 | .one (.d (.st c xs))=>some (esz c,xs.map (enc c),zn0 c)
 | .one (.f (.st c xs))=>some (esz c,xs.map (enc c),true)
 | .one (.pre k ver _ len)=>match (m k).map Blk.std with
  | some (.row ver' _ sz _ fr rows)=>if ver=ver' then some (sz,rows.take len,fr) else none
  | _=>none
 | .one (.nn (.st c xs))=>some (esz c,xs.map (enc c),zn0 c)
 | _=>none

def effR (P:Program) (op:Op) (ρ:Operand->V) (m:Nat->Option Blk):Option V :=
 match op with
 | .load t a=>match ρ a with
  | .one (.ptr k off)=>match m k with
   | some (.cells cs)=>zma P t cs off
   | _=>none
  | .one (.pv cells)=>zma P t (cells.map C.d) 0
  | .one (.pr k ver sz i off)=>match m k with
   | some (.row ver' _ sz' _ fr rows)=>if ver=ver'/\sz=sz' then match rows[i]? with
    | some r=>zma P t (r.map (toC fr)) off
    | none=>none
    else none
   | some (.rowT ver' _ c _ fr xs)=>if ver=ver'/\sz=esz c then match xs[i]? with
    | some r=>zma P t ((enc c r).map (toC fr)) off
    | none=>none
    else none
   | _=>none
  | _=>none
 | .convert src dst x=>match zg0 P src,P.underlying dst with
  | some e,some .string=>match P.underlying e with
   | some (.int .u8)=>match ρ x with
    | .one .nil=>some (vs [])
    | y=>match rowsOf m y with
     | some (1,rows,_)=>(zd3 rows).map vs
     | _=>none
   | _=>none
  | _,_=>none
 | _=>none

def chunks {α:Type} (n sz:Nat) (cs:List α):List (List α):=(List.range n).map fun i=>(cs.drop (i*sz)).take sz

def effW (P:Program) (dst:Option Nat) (op:Op) (ρ:Operand->V) (m:Nat->Option Blk):Option Eff :=
 match dst,op with
 | some k,.alloc t=>match m k,zja P t with
  | none,some cs=>if 0<cs.length then some ⟨.one (.ptr k 0),some (k,.cells cs)⟩ else none
  | _,_=>none
 | some k,.box _ x=>match m k,(ρ x).cells with
  | none,some cs=>if 0<cs.length then some ⟨.one (.ptr k 0),some (k,.cells cs)⟩ else none
  | _,_=>none
 | none,.store t a x=>match (ρ x).cells with
  | some xs=>if xs.length=tsz P t/\(P.info? t).isSome then match ρ a with
   | .one (.ptr k off)=>match m k with
    | some (.cells cs)=>if off+xs.length<=cs.length then some ⟨.one .un,some (k,.cells (zgo cs off xs))⟩ else none
    | _=>none
   | _=>none
   else none
  | none=>none
 | some k,.buildSlice t len parts=>match m k,zg0 P t with
  | none,some e=>match zja P e with
   | some zero=>if len*zero.length<=2^24/\len<=maxLen/\0<len*zero.length then
     match z3z (fun i=>some (i*zero.length,zero.length)) ((List.range (len*zero.length)).map fun i=>zero.getD (i%zero.length) .bad) (parts.toList.map fun p=>(p.1,ρ p.2)) with
     | some cs=>match cs.mapM toD with
      | some ds=>some ⟨.one (.own k 0 len),some (k,.row 0 e zero.length true (cs.all C.fresh) (chunks len zero.length ds))⟩
      | none=>none
     | none=>none
    else none
   | none=>none
  | _,_=>none
 | some k,.convert src dst x=>match m k,P.underlying src,zg0 P dst with
  | none,some .string,some e=>match P.underlying e,ρ x with
   | some (.int .u8),.one (.d (.s l))=>if l.length<=maxLen then some ⟨.one (.own k 0 l.length),some (k,.row 0 e 1 false true (l.map fun b=>[.i .u8 b.toNat]))⟩ else none
   | _,_=>none
  | _,_,_=>none
 | some d,.call { callee:=.builtin .append,args,argTypes } => match args.toList,argTypes.toList with
  | [x,y],[t,t']=>if t=t' then match zg0 P t with
   | some e=>match rowsOf m (ρ y) with
    | some (sz,new,fr')=>if sz=P.cellsOf e/\0<sz/\zja P e≠none then match ρ x with
     | .one .nil=>if m d=none/\new.length*P.bytesOf e<=140737488355328/\new.length<=maxLen then some ⟨.one (.own d 0 new.length),some (d,.row 0 e sz true fr' new)⟩ else none
     | .one (.own k ver _)=>match (m k).map Blk.std with
      | some (.row ver' e' sz' ap fr rows)=>if ver=ver'/\e=e'/\sz=sz'/\ap=true/\(rows.length+new.length)*P.bytesOf e<=140737488355328/\rows.length+new.length<=maxLen then
       some ⟨.one (.own k (ver+1) (rows.length+new.length)),some (k,.row (ver+1) e sz true (fr&&fr') (rows++new))⟩ else none
      | _=>none
     | _=>none
     else none
    | none=>none
   | none=>none
   else none
  | _,_=>none
 | _,_=>none

def eff (P:Program) (dst:Option Nat) (op:Op) (ρ:Operand->V) (m:Nat->Option Blk):Option Eff :=
 match effQ P op ρ with
 | some v=>some ⟨v,none⟩
 | none=>match effR P op ρ m with
  | some v=>some ⟨v,none⟩
  | none=>effW P dst op ρ m

section
variable {P:Program} {w0:World} {U0:Nat->Prop} {X:Nat->Nat->Prop} {β0:Nat->Option Place} {β:Nat->Option Place} {U:Nat->Prop} {s:St} {a:Act} {w:World} {base:Nat}

theorem SimB.placeCells (h:SimB w0 U0 X β0 β U s a w) {k:Nat} {cs:List C} (hb:s.blk k=some (.cells cs)) {b o:Nat} (hk:β k=some (.cells b o)):RepB w β U w0.heap.size (.cells b o) (.cells cs):=by
 obtain ⟨p,hp,hr⟩:=h.mem k _ hb
 rw [hk] at hp
 cases hp
 exact hr

theorem SimB.placeRow (h:SimB w0 U0 X β0 β U s a w) {k:Nat} {ver:Nat} {e:TypeId} {sz:Nat} {ap fr:Bool} {rows:List (List D)} (hb:s.blk k=some (.row ver e sz ap fr rows)) {v:Value} {ver0:Nat} (hk:β k=some (.row v ver0)) :
  RepB w β U w0.heap.size (.row v ver0) (.row ver e sz ap fr rows):=by
 obtain ⟨p,hp,hr⟩:=h.mem k _ hb
 rw [hk] at hp
 cases hp
 exact hr

theorem SimB.placeStd (h:SimB w0 U0 X β0 β U s a w) {k:Nat} {ver:Nat} {e:TypeId} {sz:Nat} {ap fr:Bool} {rows:List (List D)} (hb:(s.blk k).map Blk.std=some (.row ver e sz ap fr rows)) {v:Value} {ver0:Nat} (hk:β k=some (.row v ver0)) :
  RepB w β U w0.heap.size (.row v ver0) (.row ver e sz ap fr rows):=by
 obtain ⟨b,hb1,hb2⟩:=Option.map_eq_some_iff.1 hb
 obtain ⟨p,hp,hr⟩:=h.mem k _ hb1
 rw [hk] at hp
 cases hp
 unfold RepB at hr ⊢
 rw [hb2] at hr
 exact hr

theorem zhi {t : TypeId} {b o off : Nat} {cs : List C} {x : V} (hc : ∀ (j : Nat) (c : C), cs[j]? = some c -> ∃ v, w.cell? ⟨b, o + j, none⟩ = some v /\ v.oneCell' = true /\ RepC w β U base v c)
   (h : zma P t cs off = some x) : ∃ v, (Instr.loadAt t (.pointer (some ⟨b, o + off, none⟩))).run P w = .ok v w /\ RepV w β U base v x := by
 unfold zma at h
 split at h
 . cases h
 rename_i hn
 have hs : (P.underlying t).isSome = true := by cases hu : P.underlying t <;> simp_all
 split at h
 . rename_i ha
   split at h
   . rename_i hle
     obtain rfl := Option.some.inj h
     obtain ⟨it, hit⟩ := info_of_underlying hs
     have hsz : tsz P t = it.size := by simp [tsz, Program.cellsOf, hit]
     -- the cells' values
     have hv : ∃ vs : List Value, vs.length = tsz P t /\ ∀ j v, vs[j]? = some v -> w.cell? ⟨b, o + off + j, none⟩ = some v /\ v.oneCell' = true /\ ∀ c, cs[off + j]? = some c -> RepC w β U base v c := by
       generalize tsz P t = n at hle
       clear hsz
       induction n with
       | zero => exact ⟨[], rfl, fun j v hv => by simp at hv⟩
       | succ n ih =>
         obtain ⟨vs, hl, hvs⟩ := ih (by omega)
         have hlt : off + n < cs.length := by omega
         obtain ⟨v, h1, h2, h3⟩ := hc (off + n) cs[off + n] (List.getElem?_eq_getElem hlt)
         refine ⟨vs ++ [v], by simp [hl], fun j u hu => ?_⟩
         by_cases hj : j < vs.length
         . rw [List.getElem?_append_left hj] at hu; exact hvs j u hu
         . have : j = n := by
            have := (List.getElem?_eq_some_iff.1 hu).1
            simp at this; omega
           subst this
           rw [List.getElem?_append_right (by omega), hl, Nat.sub_self] at hu
           obtain rfl : v = u := by simpa using hu
           exact ⟨by rw [Nat.add_assoc]; exact h1, h2, fun c hcc => by rw [List.getElem?_eq_getElem hlt] at hcc; cases hcc; exact h3⟩
     obtain ⟨vs, hl, hvs⟩ := hv
     have hload : (loadCells ⟨b, o + off, none⟩ it.size).run P w = .ok vs.toArray w := by
       rw [<- hsz, <- hl]
       exact run_loadCells_list (P := P) w ⟨b, o + off, none⟩ vs fun j v hv => by rw [Addr.add_lit]; exact (hvs j v hv).1
     refine ⟨.agg vs.toArray, ?_, .agg _ _ (by simp [hl]; omega) (fun u hu => ?_) (fun j u c hu hc' => ?_)⟩
     . have hagg : (isAgg t).run P w = .ok true w := by
         unfold tagg at ha
         unfold isAgg
         split at ha
         . rename_i fs hu; rw [Sem.run_bind, run_underlying hu]; rfl
         . rename_i n e hu; rw [Sem.run_bind, run_underlying hu]; rfl
         . cases ha
       simp [Instr.loadAt, Instr.sureAddr, loadVar, hagg, sizeOf, typeInfo, hit, hload]
     . obtain ⟨j, hj⟩ := List.mem_iff_getElem?.1 hu
       exact (hvs j u hj).2.1
     . have := (hvs j u hu).2.2
       rw [List.getElem?_take] at hc'
       split at hc'
       . rw [List.getElem?_drop] at hc'; exact this c hc'
       . cases hc'
   . cases h
 . rename_i ha
   rw [Option.map_eq_some_iff] at h
   obtain ⟨c, hcc, rfl⟩ := h
   obtain ⟨v, h1, h2, h3⟩ := hc off c hcc
   refine ⟨v, ?_, .one _ _ h3⟩
   simp [Instr.loadAt, Instr.sureAddr, loadVar, zp0 (by simpa using ha) hs, h1]

theorem zy4 {fr:Bool} {u:Value} {x:D} (h:RepI w (fun b=>U b/\(fr=true->base<=b)) u x):RepC w β U base u (toC fr x):=by
 have hU:RepI w U u x:=h.mono (fun _ hb=>hb.1) (fun _ _=>rfl)
 cases x with
 | sl sz rows=>cases fr; exact hU; exact h.mono (fun b hb=>⟨hb.1,hb.2 rfl⟩) (fun _ _=>rfl)
 | st c xs=>cases fr; exact hU; exact h.mono (fun b hb=>⟨hb.1,hb.2 rfl⟩) (fun _ _=>rfl)
 | _=>exact hU

theorem zr2:∀ (rows:List (List D)) (l:List Int),rows.mapM zzr=some l->rows.length=l.length /\ ∀ (j:Nat) (n:Int),l[j]?=some n->rows[j]?=some [.i .u8 n]
 | [],l,h=>by simp at h; subst h; exact ⟨rfl,fun j n hr=>by simp at hr⟩
 | r :: rows,l,h=>by
  simp only [List.mapM_cons,Option.bind_eq_bind,Option.pure_def,Option.bind_eq_some_iff,Option.some.injEq] at h
  obtain ⟨b,hb,l',hl',rfl⟩:=h
  obtain ⟨h1,h2⟩:=zr2 rows l' hl'
  refine ⟨by simp [h1],fun j n hn=>?_⟩
  cases j with
  | zero =>
   simp at hn
   subst hn
   unfold zzr at hb
   split at hb
   . cases hb; rfl
   . cases hb
  | succ j=>simpa using h2 j n (by simpa using hn)

theorem z8m (l:List Int):∀ r:ByteArray,l.foldl (fun r n=>r.push (UInt8.ofNat n.toNat)) r=⟨r.data++(l.map fun n=>UInt8.ofNat n.toNat).toArray⟩:=by
 induction l with
 | nil=>intro r; simp
 | cons b l ih =>
  intro r
  simp only [List.foldl_cons,List.map_cons]
  rw [ih]
  simp [ByteArray.push]

theorem zle {src dst e:TypeId} {g o cap:Nat} {rows:List (List D)} {l:List UInt8} (hs:P.underlying src=some (.slice e)) (he:P.underlying e=some (.int .u8)) (hd:P.underlying dst=some .string)
  (hl:zd3 rows=some l) (hc:∀ (i:Nat) (n:Int),rows[i]?=some [.i .u8 n]->w.cell? ⟨g,o+i,none⟩=some (.int .u8 n)) :
  (convert src dst (.slice (some ⟨g,o,none⟩) rows.length cap)).run P w=.ok (.string ⟨l.toArray⟩) w:=by
 unfold zd3 at hl
 rw [Option.map_eq_some_iff] at hl
 obtain ⟨ns,hns,rfl⟩:=hl
 obtain ⟨h1,h2⟩:=zr2 rows ns hns
 rw [run_convert_bytes_string w src dst e (some ⟨g,o,none⟩) rows.length cap hs he hd]
 have hload:=run_loadCells_list (P:=P) w ⟨g,o,none⟩ (ns.map (Value.int .u8)) (fun j v hv=>by
  rw [List.getElem?_map,Option.map_eq_some_iff] at hv
  obtain ⟨n,hn,rfl⟩:=hv
  rw [Addr.add_lit]
  exact hc j n (h2 j n hn))
 rw [List.length_map,<- h1] at hload
 rw [run_bytesToString w _ rows.length cap ns hload,z8m]
 have he0:ByteArray.empty.data = #[]:=rfl
 rw [he0]
 simp

theorem zjo (h:SimB w0 U0 X β0 β U s a w) {v:Value} {x:V} (hx:RepV w β U w0.heap.size v x) {sz:Nat} {rows:List (List D)} {fr:Bool} (hr:rowsOf s.blk x=some (sz,rows,fr)) :
   ∃ (ao:Option Addr) (cap:Nat),v=.slice ao rows.length cap/\(∀ r∈rows,r.length=sz)/\(ao=none->rows=[]/\cap=0) /\
     ∀ ad,ao=some ad->rows≠[]->ad.spot=none /\ ∀ (i j:Nat) (r:List D) (d:D),rows[i]?=some r->r[j]?=some d ->
       ∃ u,w.cell? ⟨ad.block,ad.off+i*sz+j,none⟩=some u/\u.oneCell'=true/\RepI w (fun b=>U b/\(fr=true->w0.heap.size<=b)) u d:=by
 have data:∀ (U':Nat->Prop) (fr:Bool) (rows:List (List D)) (sz:Nat),RepI w U' v (.sl sz rows)->(∀ (u:Value) (d:D) (r:List D),r∈rows->d∈r->RepI w U' u d->RepI w (fun b=>U b/\(fr=true->w0.heap.size<=b)) u d) ->
     ∃ (ao:Option Addr) (cap:Nat),v=.slice ao rows.length cap/\(∀ r∈rows,r.length=sz)/\(ao=none->rows=[]/\cap=0) /\
     ∀ ad,ao=some ad->rows≠[]->ad.spot=none /\ ∀ (i j:Nat) (r:List D) (d:D),rows[i]?=some r->r[j]?=some d ->
       ∃ u,w.cell? ⟨ad.block,ad.off+i*sz+j,none⟩=some u/\u.oneCell'=true/\RepI w (fun b=>U b/\(fr=true->w0.heap.size<=b)) u d:=by
   intro U' fr rows sz hd hup
   cases hd with
   | nil ao cap _ hn=>exact ⟨ao,cap,rfl,fun r hr=>by simp at hr,fun e=>⟨rfl,hn e⟩,fun ad _ hne=>absurd rfl hne⟩
   | sl b o cap _ _ vals hU hlen hcap hc hr =>
     refine ⟨some ⟨b,o,none⟩,cap,rfl,hlen,(fun e=>by cases e),fun ad e _=>?_⟩
     cases e
     exact ⟨rfl,fun i j r d hi hj=>⟨vals i j,hc i j r d hi hj,(hr i j r d hi hj).oneCell,hup _ d r (List.mem_of_getElem? hi) (List.mem_of_getElem? hj) (hr i j r d hi hj)⟩⟩
 unfold rowsOf at hr
 split at hr
 . rename_i sz' rows'
   simp only [Option.some.injEq,Prod.mk.injEq] at hr
   obtain ⟨rfl,rfl,rfl⟩:=hr
   refine data U _ _ _ hx.toC (fun u d r hr hd hrep=>?_)
   by_cases hfl:(rows'.all fun r=>r.all D.flat)=true
   . have hflat:d.flat=true:=by
       have:=List.all_eq_true.1 hfl r hr
       exact List.all_eq_true.1 this d hd
     cases hrep with
     | i k n=>exact .i k n
     | b x=>exact .b x
     | s l=>exact .s l
     | z v h1=>exact .z _ h1
     | nil=>simp [D.flat] at hflat
     | st=>simp [D.flat] at hflat
     | sl=>simp [D.flat] at hflat
   . exact hrep.mono (fun b hb=>⟨hb,fun e=>absurd e hfl⟩) (fun _ _=>rfl)
 . rename_i sz' rows'
   simp only [Option.some.injEq,Prod.mk.injEq] at hr
   obtain ⟨rfl,rfl,rfl⟩:=hr
   exact data (fun b=>U b/\w0.heap.size<=b) true _ _ hx.toC (fun u d r hr hd hrep=>hrep.mono (fun b hb=>⟨hb.1,fun _=>hb.2⟩) (fun _ _=>rfl))
 . rename_i k ver len
   split at hr
   . rename_i ver' e sz' ap fr' rows' hb
     split at hr
     . rename_i hv
       subst hv
       simp only [Option.some.injEq,Prod.mk.injEq] at hr
       obtain ⟨rfl,rfl,rfl⟩:=hr
       obtain ⟨a0,cap,v0,ver0,rfl,hlc,hn0,hs0,hk,hv1,hv2⟩:=hx.toC
       obtain ⟨q1,q2,q3⟩:=h.placeStd hb hk
       have hv0:=hv2 q1
       rcases q3 with ⟨rfl,rfl⟩ | ⟨g,cap',cur,fz,rfl,hg,h3,h4,h5,h6,h7,h8⟩
       . cases hv0
         exact ⟨none,0,rfl,fun r hr=>by simp at hr,fun _=>⟨rfl,rfl⟩,fun ad e=>by cases e⟩
       . cases hv0
         refine ⟨some ⟨g,0,none⟩,cap,rfl,q2,(fun e=>by cases e),fun ad e _=>?_⟩
         cases e
         refine ⟨rfl,fun i j r d hi hj=>?_⟩
         obtain ⟨u,k1,k2,k3⟩:=h8 i j r d hi hj
         exact ⟨u,by simp only [World.cell?,hg,Nat.zero_add]; simpa using k1,k2,k3⟩
     . cases hr
   . cases hr
 . rename_i k ver sz' off len
   split at hr
   . rename_i ver' e sz'' ap fr' rows' hb
     split at hr
     . rename_i hv
       obtain ⟨rfl,rfl,hle⟩:=hv
       simp only [Option.some.injEq,Prod.mk.injEq] at hr
       obtain ⟨rfl,rfl,rfl⟩:=hr
       obtain ⟨a0,cap,v0,ver0,rfl,hlc,hn0,hk,hv1,hv2⟩:=hx.toC
       obtain ⟨q1,q2,q3⟩:=h.placeStd hb hk
       have hlen:((rows'.drop off).take len).length=len:=by simp; omega
       by_cases hz:len=0
       . subst hz
         have:(rows'.drop off).take 0=[]:=by simp
         rw [this]
         exact ⟨a0,cap,rfl,fun r hr=>by simp at hr,fun e=>⟨rfl,(hn0 e).2⟩,fun ad _ hne=>absurd rfl hne⟩
       . obtain ⟨g,n,c,rfl,rfl⟩:=hv2 q1 (by omega)
         rcases q3 with ⟨e1,_⟩ | ⟨g',cap',cur,fz,e1,hg,h3,h4,h5,h6,h7,h8⟩
         . cases e1
         . cases e1
           refine ⟨some ⟨g,off*sz',none⟩,cap,by rw [hlen],fun r hr=>q2 r (List.mem_of_mem_drop (List.mem_of_mem_take hr)),(fun e=>by cases e),fun ad e _=>?_⟩
           cases e
           refine ⟨rfl,fun i j r d hi hj=>?_⟩
           rw [List.getElem?_take] at hi
           split at hi
           . rw [List.getElem?_drop] at hi
             obtain ⟨u,k1,k2,k3⟩:=h8 (off+i) j r d hi hj
             refine ⟨u,?_,k2,k3⟩
             simp only [World.cell?,hg]
             rw [show off*sz'+i*sz'+j=(off+i)*sz'+j by rw [Nat.add_mul]]
             simpa using k1
           . cases hi
     . cases hr
   . cases hr
 . rename_i c xs
   simp only [Option.some.injEq,Prod.mk.injEq] at hr
   obtain ⟨rfl,rfl,rfl⟩:=hr
   refine data U _ _ _ (RepI.unst (show RepI w U v (.st c xs) from hx.toC)) (fun u d r hr hd hrep=>?_)
   by_cases hfl:zn0 c=true
   . have hflat:d.flat=true:=by
       obtain ⟨t,_,rfl⟩:=List.mem_map.1 hr
       exact List.all_eq_true.1 (zth c t hfl) d hd
     cases hrep with
     | i k n=>exact .i k n
     | b x=>exact .b x
     | s l=>exact .s l
     | z v h1=>exact .z _ h1
     | nil=>simp [D.flat] at hflat
     | sl=>simp [D.flat] at hflat
     | st=>simp [D.flat] at hflat
   . exact hrep.mono (fun b hb=>⟨hb,fun e=>absurd e hfl⟩) (fun _ _=>rfl)
 . rename_i c xs
   simp only [Option.some.injEq,Prod.mk.injEq] at hr
   obtain ⟨rfl,rfl,rfl⟩:=hr
   exact data (fun b=>U b/\w0.heap.size<=b) true _ _ (RepI.unst (show RepI w (fun b=>U b/\w0.heap.size<=b) v (.st c xs) from hx.toC)) (fun u d r hr hd hrep=>hrep.mono (fun b hb=>⟨hb.1,fun _=>hb.2⟩) (fun _ _=>rfl))
 . rename_i k ver len
   split at hr
   . rename_i ver' e sz' ap fr' rows' hb
     split at hr
     . rename_i hv
       subst hv
       simp only [Option.some.injEq,Prod.mk.injEq] at hr
       obtain ⟨rfl,rfl,rfl⟩:=hr
       obtain ⟨a0,cap,v0,ver0,rfl,hlc,hn0,hk,hv1,hv2⟩:=hx.toC
       obtain ⟨q1,q2,q3⟩:=h.placeStd hb hk
       obtain ⟨n,hv0,hln⟩:=hv2 q1
       rcases q3 with ⟨rfl,rfl⟩ | ⟨g,cap',cur,fz,rfl,hg,h3,h4,h5,h6,h7,h8⟩
       . cases hv0
         obtain rfl:len=0:=by omega
         exact ⟨none,0,rfl,fun r hr=>by simp at hr,fun _=>⟨rfl,rfl⟩,fun ad e=>by cases e⟩
       . cases hv0
         refine ⟨some ⟨g,0,none⟩,cap,by rw [List.length_take,Nat.min_eq_left hln],fun r hr=>q2 r (List.mem_of_mem_take hr),(fun e=>by cases e),fun ad e _=>?_⟩
         cases e
         refine ⟨rfl,fun i j r d hi hj=>?_⟩
         rw [List.getElem?_take] at hi
         split at hi
         . obtain ⟨u,k1,k2,k3⟩:=h8 i j r d hi hj
           exact ⟨u,by simp only [World.cell?,hg,Nat.zero_add]; simpa using k1,k2,k3⟩
         . cases hi
     . cases hr
   . cases hr
 . rename_i c xs
   simp only [Option.some.injEq,Prod.mk.injEq] at hr
   obtain ⟨rfl,rfl,rfl⟩:=hr
   refine data U _ _ _ (RepI.unst (show RepI w U v (.st c xs) from hx.toC.1)) (fun u d r hr hd hrep=>?_)
   by_cases hfl:zn0 c=true
   . have hflat:d.flat=true:=by
       obtain ⟨t,_,rfl⟩:=List.mem_map.1 hr
       exact List.all_eq_true.1 (zth c t hfl) d hd
     cases hrep with
     | i k n=>exact .i k n
     | b x=>exact .b x
     | s l=>exact .s l
     | z v h1=>exact .z _ h1
     | nil=>simp [D.flat] at hflat
     | sl=>simp [D.flat] at hflat
     | st=>simp [D.flat] at hflat
   . exact hrep.mono (fun b hb=>⟨hb,fun e=>absurd e hfl⟩) (fun _ _=>rfl)
 . cases hr

theorem zwf (h:SimB w0 U0 X β0 β U s a w) {ρ:Operand->V} (hρ:∀ y,RepV w β U w0.heap.size (a.eval y) (ρ y)) (o:Oper) {x:V} (he:effR P o.op ρ s.blk=some x) :
   ∃ v,(execOp a.eval o).run P w=.ok (.value v) w/\RepV w β U w0.heap.size v x:=by
 have wrap:∀ {s:Sem Value} {v:Value},s.run P w=.ok v w->(do pure (.value (<- s)):Sem Next).run P w=.ok (.value v) w:=fun {s v} hs=>by
   rw [Sem.run_bind,hs]; rfl
 unfold effR at he
 split at he
 . rename_i t y ho
   have hy:=hρ y
   split at he
   . rename_i k off e
     rw [e] at hy
     split at he
     . rename_i cs hb
       obtain ⟨b,o',hk,hv⟩:=hy.toC
       have hr:=h.placeCells hb hk
       obtain ⟨v,h1,h2⟩:=zhi (P:=P) (w:=w) (β:=β) (U:=U) (base:=w0.heap.size) (b:=b) (o:=o') (fun j c hj=>by
         obtain ⟨v,q1,q2,q3,q4⟩:=hr.2 j c hj; exact ⟨v,q1,q3,q4⟩) he
       exact ⟨v,by simp only [execOp,ho,hv]; exact wrap h1,h2⟩
     . cases he
   . rename_i cells e
     rw [e] at hy
     obtain ⟨b,o',vals,hv,hU,hc⟩:=hy.toC
     obtain ⟨v,h1,h2⟩:=zhi (P:=P) (w:=w) (β:=β) (U:=U) (base:=w0.heap.size) (b:=b) (o:=o') (off:=0) (fun j c hj=>by
       rw [List.getElem?_map,Option.map_eq_some_iff] at hj
       obtain ⟨d,hd,rfl⟩:=hj
       exact ⟨vals j,(hc j d hd).1,(hc j d hd).2.oneCell,(hc j d hd).2⟩) he
     exact ⟨v,by simp only [execOp,ho,hv]; exact wrap h1,h2⟩
   . rename_i k ver sz i off e
     rw [e] at hy
     split at he
     . rename_i ver' e' sz' ap fr rows hb
       split at he
       . rename_i hvs
         obtain ⟨rfl,rfl⟩:=hvs
         split at he
         . rename_i r hr
           obtain ⟨a0,v0,ver0,hv,hk,hv1,hv2⟩:=hy.toC
           obtain ⟨q1,q2,q3⟩:=h.placeRow hb hk
           obtain ⟨g,n,c,rfl,rfl⟩:=hv2 q1
           rcases q3 with ⟨e1,_⟩ | ⟨g',cap',cur,fz,e1,hg,h3,h4,h5,h6,h7,h8⟩
           . cases e1
           . cases e1
             obtain ⟨v,h1,h2⟩:=zhi (P:=P) (w:=w) (β:=β) (U:=U) (base:=w0.heap.size) (b:=g) (o:=i*sz) (fun j c hj=>by
               rw [List.getElem?_map,Option.map_eq_some_iff] at hj
               obtain ⟨d,hd,rfl⟩:=hj
               obtain ⟨u,k1,k2,k3⟩:=h8 i j r d hr hd
               exact ⟨u,by simp only [World.cell?,hg]; simpa using k1,k2,zy4 k3⟩) he
             exact ⟨v,by simp only [execOp,ho,hv]; exact wrap h1,h2⟩
         . cases he
       . cases he
     . rename_i ver' e' c' ap fr xs hb
       split at he
       . rename_i hvs
         obtain ⟨rfl,rfl⟩:=hvs
         split at he
         . rename_i r hr
           obtain ⟨a0,v0,ver0,hv,hk,hv1,hv2⟩:=hy.toC
           obtain ⟨q1,q2,q3⟩:=h.placeStd (by rw [hb]; rfl) hk
           obtain ⟨g,n,c,rfl,rfl⟩:=hv2 q1
           have hr':(xs.map (enc c'))[i]?=some (enc c' r):=by rw [List.getElem?_map,hr]; rfl
           rcases q3 with ⟨e1,_⟩ | ⟨g',cap',cur,fz,e1,hg,h3,h4,h5,h6,h7,h8⟩
           . cases e1
           . cases e1
             obtain ⟨v,h1,h2⟩:=zhi (P:=P) (w:=w) (β:=β) (U:=U) (base:=w0.heap.size) (b:=g) (o:=i*esz c') (fun j c hj=>by
               rw [List.getElem?_map,Option.map_eq_some_iff] at hj
               obtain ⟨d,hd,rfl⟩:=hj
               obtain ⟨u,k1,k2,k3⟩:=h8 i j (enc c' r) d hr' hd
               exact ⟨u,by simp only [World.cell?,hg]; simpa using k1,k2,zy4 k3⟩) he
             exact ⟨v,by simp only [execOp,ho,hv]; exact wrap h1,h2⟩
         . cases he
       . cases he
     . cases he
   . cases he
 . rename_i src dst y ho
   split at he
   . rename_i e hte hd
     have hs:P.underlying src=some (.slice e):=by
       unfold zg0 at hte
       split at hte
       . rename_i hu; cases hte; exact hu
       . cases hte
     split at he
     . rename_i hu8
       have hy:=hρ y
       split at he
       . rename_i ey
         rw [ey] at hy
         obtain rfl:=Option.some.inj he
         have hq:a.eval y=.slice none 0 0:=hy.toC
         refine ⟨.string .empty,?_,zj0b _ _ rfl⟩
         simp only [execOp,ho,hq]
         refine wrap ?_
         rw [run_convert_bytes_string w src dst e none 0 0 hs hu8 hd]
         rfl
       . split at he
         . rename_i rows fr hrows
           rw [Option.map_eq_some_iff] at he
           obtain ⟨l,hl,rfl⟩:=he
           obtain ⟨ao,cap,hv,hlen,hn,hc⟩:=zjo h hy hrows
           refine ⟨.string ⟨l.toArray⟩,?_,repS _⟩
           simp only [execOp,ho,hv]
           refine wrap ?_
           cases ao with
           | none =>
             obtain ⟨rfl,rfl⟩:=hn rfl
             have:l=[]:=by simpa [zd3] using hl.symm
             subst this
             show (convert src dst (.slice none 0 0)).run P w=_
             rw [run_convert_bytes_string w src dst e none 0 0 hs hu8 hd]
             rfl
           | some ad =>
             by_cases hne:rows=[]
             . subst hne
               have:l=[]:=by simpa [zd3] using hl.symm
               subst this
               show (convert src dst (.slice (some ad) 0 cap)).run P w=_
               rw [run_convert_bytes_string w src dst e (some ad) 0 cap hs hu8 hd]
               have hload:=run_loadCells_list (P:=P) w ad [] (fun j v hv=>by simp at hv)
               have:=run_bytesToString (P:=P) w ad 0 cap [] (by simpa using hload)
               rw [this]; rfl
             . obtain ⟨hsp,hcell⟩:=hc ad rfl hne
               obtain ⟨b,off,sp⟩:=ad
               cases hsp
               refine zle hs hu8 hd hl (fun i n hi=>?_)
               obtain ⟨u,k1,k2,k3⟩:=hcell i 0 _ _ hi rfl
               cases k3
               simpa using k1
         . cases he
     . cases he
   . cases he
 . cases he
end
end Go.Proofs.YthkhikdglmaiaaaGreatDoor.Abs
namespace Go.Proofs.YthkhikdglmaiaaaGreatDoor.Abs
open Go Go.RowKit
section
variable {P:Program} {w0:World} {U0:Nat->Prop} {X:Nat->Nat->Prop} {β0:Nat->Option Place} {β:Nat->Option Place} {U:Nat->Prop} {s:St} {a:Act} {w:World} {base:Nat}

theorem zaj (b:Nat):∀ (vs:List Value) (o:Nat) (w:World) (b':Nat),b'≠b->(w.setCells b o vs).heap[b']?=w.heap[b']?
 | [],_,_,_,_=>rfl
 | v :: r,o,w,b',h=>by
  rw [World.setCells,zaj b r (o+1) _ b' h]
  exact Below.heap_setCell _ _ _ _ h

theorem zcz (b:Nat):∀ (vs:List Value) (o:Nat) (w:World) (c:Array Value) (e:TypeId) (f:Nat×Nat),w.heap[b]?=some (.cells c e f) ->
  ∃ c':Array Value,(w.setCells b o vs).heap[b]?=some (.cells c' e f)/\c.size=c'.size /\ ∀ j,(j<o\/o+vs.length<=j)->c'[j]?=c[j]?
 | [],_,w,c,e,f,h=>⟨c,h,rfl,fun _ _=>rfl⟩
 | v :: r,o,w,c,e,f,h=>by
  have h1:(w.setCell ⟨b,o,none⟩ v).heap[b]?=some (.cells (c.setIfInBounds o v) e f):=by
   simp [World.setCell,Array.getElem?_modify,h]
  obtain ⟨c',h2,h3,h4⟩:=zcz b r (o+1) _ _ e f h1
  refine ⟨c',h2,by simpa using h3,fun j hj=>?_⟩
  simp only [List.length_cons] at hj
  rw [h4 j (by omega),Array.getElem?_setIfInBounds_ne (by omega)]

theorem setCells_size (b:Nat):∀ (vs:List Value) (o:Nat) (w:World),(w.setCells b o vs).heap.size=w.heap.size
 | [],_,_=>rfl
 | v :: r,o,w=>by rw [World.setCells,setCells_size b r]; simp [World.setCell]

theorem zao (b:Nat):∀ (vs:List Value) (o:Nat) (w:World),(w.setCells b o vs).os=w.os/\(w.setCells b o vs).tape=w.tape/\(w.setCells b o vs).output=w.output
 | [],_,_=>⟨rfl,rfl,rfl⟩
 | v :: r,o,w=>by rw [World.setCells]; exact zao b r (o+1) _

theorem zry {t:TypeId} {b o:Nat} {v:Value} {it:TypeInfo} (hi:P.info? t=some it) (hs:v.cells.size=it.size)
  (hc:∀ j,j<v.cells.size->(w.cell? ⟨b,o+j,none⟩).isSome=true/\w.frozen? ⟨b,o+j,none⟩=false) (h1:∀ u∈v.cells.toList,u.oneCell'=true) :
  (Instr.storeAt t (.pointer (some ⟨b,o,none⟩)) v).run P w=.ok () (w.setCells b o v.cells.toList):=by
 have:=run_storeCells_cells (P:=P) b o v.cells.toList 0 w (fun j hj=>by rw [Nat.add_zero]; exact (hc j (by simpa using hj)).1) (fun j hj=>by rw [Nat.add_zero]; exact (hc j (by simpa using hj)).2) h1
 simp [Instr.storeAt,Instr.sureAddr,storeVar,sizeOf,typeInfo,hi,hs,this]

theorem SimB.storeCells (h:SimB w0 U0 X β0 β U s a w) {k:Nat} {cs xs:List C} {off:Nat} (hb:s.blk k=some (.cells cs)) {b o:Nat} (hk:β k=some (.cells b o)) {us:List Value}
   (hxs:RepCs w β U w0.heap.size us xs) (h1:∀ u∈us,u.oneCell'=true) (hle:off+xs.length<=cs.length) :
   SimB w0 U0 X β0 (upd β k (.cells b o)) U (s.set k (.cells (zgo cs off xs))) a (w.setCells b (o+off) us):=by
 have hr:=h.placeCells hb hk
 have hl:us.length=xs.length:=hxs.1
 have hcov:∀ b' j,(Place.cells b o).covers (.cells cs) b' j↔b'=b/\o<=j/\j<o+cs.length:=fun b' j=>Iff.rfl
 have hUo:∀ b',U b'->(w.setCells b (o+off) us).heap[b']?=w.heap[b']?:=fun b' hb'=>zaj b us _ w b' (fun e=>by subst e; exact (h.apart k _ b' hk rfl).1 hb')
 have hevo:Evo β (upd β k (.cells b o)):=fun k' p' hp=>by
   by_cases e:k=k'
   . subst e; rw [hk] at hp; cases hp; exact .inl (zak _ _ _)
   . exact .inl (by rw [upd_ne β e]; exact hp)
 refine h.repl hk hb (zao b us _ w).1 (zao b us _ w).2.1 (zao b us _ w).2.2 (by rw [setCells_size]; exact Nat.le_refl _) (fun b' _ hne=>zaj b us _ w b' (fun e=>hne (by rw [e]; rfl)))
   (fun b' j hb' hnc=>?_) (fun b' hb' hpb=>?_) (.inl rfl) (fun b' hb'=>.inl hb') (fun b' j hc=>?_) ⟨by rw [zfb _ _ _ hle]; exact hr.1,fun j c hj=>?_⟩
 . refine ⟨World.cell?_setCells_out b us (o+off) w _ (fun h1 _=>?_),World.frozen?_setCells b us _ w _⟩
   simp only at h1
   by_cases hj:j<o+off\/o+off+us.length<=j
   . exact hj
   . exact absurd ((hcov b' j).2 ⟨h1,by omega,by omega⟩) hnc
 . obtain rfl:b=b':=by simpa [Place.block] using hpb
   by_cases hz:cs.length=0
   . left
     have:us=[]:=List.eq_nil_of_length_eq_zero (by omega)
     subst this; rfl
   . obtain ⟨v,hv,_⟩:=hr.2 0 cs[0] (List.getElem?_eq_getElem (by omega))
     have hheap:∃ c e f,w.heap[b]?=some (.cells c e f):=by
       unfold World.cell? at hv
       simp only at hv
       split at hv
       . rename_i c e f hh; exact ⟨c,e,f,hh⟩
       . cases hv
     obtain ⟨c,e,f,hh⟩:=hheap
     obtain ⟨c',q1,q2,q3⟩:=zcz b us (o+off) w c e f hh
     refine .inr (.inl ⟨c,c',e,f,hh,q1,q2,fun j hj=>q3 j ?_⟩)
     by_cases hj2:j<o+off\/o+off+us.length<=j
     . exact hj2
     . exact absurd ((hcov b j).2 ⟨rfl,by omega,by omega⟩) hj
 . left
   obtain ⟨e1,e2,e3⟩:=hc
   rw [zfb _ _ _ hle] at e3
   exact ⟨e1,e2,e3⟩
 . rw [zh8 _ _ _ _ hle] at hj
   have hwr:∀ i,i<us.length->(w.cell? ⟨b,o+off+i,none⟩).isSome=true:=fun i hi=>by
     have hlt:off+i<cs.length:=by omega
     obtain ⟨v,hv,_⟩:=hr.2 (off+i) cs[off+i] (List.getElem?_eq_getElem hlt)
     rw [Nat.add_assoc,hv]; rfl
   split at hj
   . rename_i hin
     have hi:j-off<us.length:=by omega
     refine ⟨us[j-off],?_,?_,h1 _ (List.getElem_mem hi),?_⟩
     . have:=World.cell?_setCells_in b us (o+off) w hwr (j-off) hi
       rw [show o+off+(j-off)=o+j by omega] at this
       exact this
     . rw [World.frozen?_setCells]
       have hlt:j<cs.length:=by omega
       obtain ⟨v,_,hv,_⟩:=hr.2 j cs[j] (List.getElem?_eq_getElem hlt)
       exact hv
     . exact (hxs.2 _ _ c (List.getElem?_eq_getElem hi) hj).map (fun _ hb=>hb) hUo hevo
   . rename_i hout
     obtain ⟨v,q1,q2,q3,q4⟩:=hr.2 j c hj
     refine ⟨v,?_,by rw [World.frozen?_setCells]; exact q2,q3,q4.map (fun _ hb=>hb) hUo hevo⟩
     rw [World.cell?_setCells_out b us (o+off) w _ (fun _ _=>by simp only; omega)]
     exact q1

theorem znv:∀ (cs:List C) (ds:List D),cs.mapM toD=some ds->cs.length=ds.length /\ ∀ (j:Nat) (c:C) (d:D),cs[j]?=some c->ds[j]?=some d->toD c=some d
 | [],ds,h=>by simp at h; subst h; exact ⟨rfl,fun j c d hc=>by simp at hc⟩
 | c :: cs,ds,h=>by
  simp only [List.mapM_cons,Option.bind_eq_bind,Option.pure_def,Option.bind_eq_some_iff,Option.some.injEq] at h
  obtain ⟨d,hd,ds',hds,rfl⟩:=h
  obtain ⟨h1,h2⟩:=znv cs ds' hds
  refine ⟨by simp [h1],fun j c' d' hc hd'=>?_⟩
  cases j with
  | zero=>simp at hc hd'; subst hc; subst hd'; exact hd
  | succ j=>exact h2 j c' d' (by simpa using hc) (by simpa using hd')

theorem zm3 {u:Value} {c:C} {d:D} (hc:RepC w β U base u c) (h:toD c=some d):RepI w (fun b=>U b/\(c.fresh=true->base<=b)) u d:=by
 unfold toD at h
 split at h
 . rename_i x
   cases h
   have hr:RepI w U u d:=hc
   by_cases hf:d.flat=true
   . cases hr with
     | i k n=>exact .i k n
     | b x=>exact .b x
     | s l=>exact .s l
     | z v h1=>exact .z _ h1
     | nil=>simp [D.flat] at hf
     | st=>simp [D.flat] at hf
     | sl=>simp [D.flat] at hf
   . exact hr.mono (fun b hb=>⟨hb,fun e=>absurd e hf⟩) (fun _ _=>rfl)
 . cases h
   have hr:RepI w (fun b=>U b/\base<=b) u d:=hc
   exact hr.mono (fun b hb=>⟨hb.1,fun _=>hb.2⟩) (fun _ _=>rfl)
 . cases h
   have hr:u=.slice none 0 0:=hc
   subst hr
   exact .nil _ _ _ (fun _=>rfl)
 . cases h

theorem zph {α:Type} (n sz:Nat) (cs:List α):(chunks n sz cs).length=n:=by simp [chunks]
theorem zpi {α:Type} {n sz:Nat} {cs:List α} {i:Nat} {r:List α} (h:(chunks n sz cs)[i]?=some r):i<n/\r=(cs.drop (i*sz)).take sz:=by
 have hi:i<n:=by have:=(List.getElem?_eq_some_iff.1 h).1; rw [zph] at this; exact this
 refine ⟨hi,?_⟩
 simp [chunks,hi] at h
 exact h.symm

theorem zc0 {i n sz j:Nat} (hi:i<n) (hj:j<sz):i*sz+j<n*sz:=by
 have h1:(i+1)*sz<=n*sz:=Nat.mul_le_mul_right sz hi
 rw [Nat.add_mul] at h1
 omega

theorem SimB.allocRow (h:SimB w0 U0 X β0 β U s a w) {k:Nat} (hk0:k<1000000) (hk:s.blk k=none) (e:TypeId) (sz n cap:Nat) (ap fr:Bool) (rows:List (List D)) (cur:Array Value) (fz:Nat×Nat)
   (hlen:∀ r∈rows,r.length=sz) (hn:rows.length=n) (hcap:n<=cap) (hmax:cap<=maxLen) (hsz:cur.size=cap*sz) (hap:ap=true->fz=(0,0)) (hfz:fz.1<fz.2->n*sz<=fz.1)
   (hrep:∀ (i j:Nat) (r:List D) (d:D),rows[i]?=some r->r[j]?=some d -> ∃ u,cur[i*sz+j]?=some u/\u.oneCell'=true/\RepI w (fun b=>U b/\(fr=true->w0.heap.size<=b)) u d) :
   SimB w0 U0 X β0 (upd β k (.row (.slice (some ⟨w.heap.size,0,none⟩) n cap) 0)) U (s.set k (.row 0 e sz ap fr rows)) a (w.alloc (.cells cur e fz)):=by
 have hold:∀ b,b<w.heap.size->(w.alloc (.cells cur e fz)).heap[b]?=w.heap[b]?:=fun b hb=>Below.heap_alloc _ _ _ hb
 have hUold:∀ b,U b->(w.alloc (.cells cur e fz)).heap[b]?=w.heap[b]?:=fun b hb=>hold b (h.stab b hb)
 have hnewb:(w.alloc (.cells cur e fz)).heap[w.heap.size]?=some (.cells cur e fz):=heap_alloc_new w _
 refine (h.newKey (w':=w.alloc (.cells cur e fz)) (p:=.row (.slice (some ⟨w.heap.size,0,none⟩) n cap) 0) (blk:=.row 0 e sz ap fr rows) hk0 hk rfl rfl rfl (by rw [size_alloc]; omega) hold (fun b hb=>?_) ⟨rfl,hlen,.inr ⟨w.heap.size,cap,cur,fz,by rw [hn],hnewb,by omega,hmax,hsz,hap,fun i hi=>?_,fun i j r d hi hj=>?_⟩⟩).1
 . obtain rfl:w.heap.size=b:=by simpa [Place.block,Value.ownBlock] using hb
   rw [size_alloc]; omega
 . simp only [World.frozen?,hnewb]
   rw [hn] at hi
   by_cases hlt:fz.1<fz.2
   . have:=hfz hlt
     simp; omega
   . simp; omega
 . obtain ⟨u,k1,k2,k3⟩:=hrep i j r d hi hj
   exact ⟨u,k1,k2,k3.mono (fun _ hb=>hb) (fun b hb=>hUold b hb.1)⟩

theorem zlf {k ver len cap:Nat} {ao:Option Addr} (hk:β k=some (.row (.slice ao len cap) ver)) (hc:len<=cap) (hn:ao=none->len=0/\cap=0) (hs:∀ x,ao=some x -> ∃ g,x=⟨g,0,none⟩):RepV w β U base (.slice ao len cap) (.one (.own k ver len)) :=
 .one _ _ ⟨ao,cap,_,ver,rfl,hc,hn,hs,hk,Nat.le_refl _,fun _=>rfl⟩

theorem zi4b {k b:Nat} (hk:β k=some (.cells b 0)):RepV w β U base (.pointer (some ⟨b,0,none⟩)) (.one (.ptr k 0)):=.one _ _ ⟨b,0,hk,rfl⟩

theorem zde {t e:TypeId} (h:zg0 P t=some e):P.underlying t=some (.slice e):=by
 unfold zg0 at h
 split at h
 . rename_i hu; cases h; exact hu
 . cases h

def zt5 (w:World) (UU:Nat->Prop) (e:TypeId) (sz:Nat) (v:Value) (rows:List (List D)):Prop :=
 (v=.slice none 0 0/\rows=[]) \/
 ∃ (g cap:Nat) (cur:Array Value) (fz:Nat×Nat),v=.slice (some ⟨g,0,none⟩) rows.length cap/\w.heap[g]?=some (.cells cur e fz)/\rows.length<=cap/\cap<=maxLen/\cur.size=cap*sz /\
  fz=(0,0) /\ ∀ (i j:Nat) (r:List D) (d:D),rows[i]?=some r->r[j]?=some d -> ∃ u,cur[i*sz+j]?=some u/\u.oneCell'=true/\RepI w UU u d

theorem zmj {α:Type} {Q:Nat->α->Prop}:∀ (n:Nat),(∀ i,i<n -> ∃ x,Q i x) -> ∃ l:List α,l.length=n /\ ∀ (i:Nat) (x:α),l[i]?=some x->Q i x
 | 0,_=>⟨[],rfl,fun i x hi=>by simp at hi⟩
 | n+1,h=>by
  obtain ⟨l,hl,hQ⟩:=zmj n fun i hi=>h i (by omega)
  obtain ⟨x,hx⟩:=h n (by omega)
  refine ⟨l++[x],by simp [hl],fun i y hi=>?_⟩
  by_cases hin:i<l.length
  . rw [List.getElem?_append_left hin] at hi; exact hQ i y hi
  . have hlt:=(List.getElem?_eq_some_iff.1 hi).1
    have:i=n:=by simp at hlt; omega
    subst this
    rw [List.getElem?_append_right (by omega),hl,Nat.sub_self] at hi
    obtain rfl:x=y:=by simpa using hi
    exact hx

theorem zt3 {UU : Nat -> Prop} {t ty e : TypeId} {sz : Nat} {zs : List C} (ht : P.underlying t = some (.slice e)) (hz : zja P e = some zs) (hsz : sz = P.cellsOf e) (hpos : 0 < sz)
  {v0 : Value} {rows new : List (List D)} (h0 : zt5 w UU e sz v0 rows) (hrl : ∀ r ∈ rows, r.length = sz) (hnl : ∀ r ∈ new, r.length = sz) {ao : Option Addr} {cap : Nat} (hn : ao = none -> new = [] /\ cap = 0)
  (hc : ∀ ad, ao = some ad -> new ≠ [] -> ad.spot = none /\ ∀ (i j : Nat) (r : List D) (d : D), new[i]? = some r -> r[j]? = some d -> ∃ u, w.cell? ⟨ad.block, ad.off + i * sz + j, none⟩ = some u /\ u.oneCell' = true /\ RepI w UU u d)
  (h63 : rows.length + new.length <= maxLen) (hby : (rows.length + new.length) * P.bytesOf e <= 140737488355328) (hUU : ∀ b, UU b -> b < w.heap.size /\ v0.ownBlock ≠ some b) :
  ∃ v' w', (Builtin.append_ #[t, t] ty #[v0, .slice ao new.length cap]).run P w = .ok v' w' /\ w.grownBy w' v0.ownBlock /\ (v'.ownBlock = v0.ownBlock \/ v'.ownBlock = some w.heap.size) /\ (∀ b, v'.ownBlock = some b -> b < w'.heap.size) /\
    zt5 w' UU e sz v' (rows ++ new) := by
 obtain ⟨i, z, hi, hzz, _, _, hzs⟩ := zce (w := w) (β := fun _ => none) (U := fun _ => True) (base := 0) hz
 have hci : P.cellsOf e = i.size := by simp [Program.cellsOf, hi]
 have hbi : P.bytesOf e = i.bytes := by simp [Program.bytesOf, hi]
 -- the row that is owned
 obtain ⟨xs, hown, hxs⟩ : ∃ xs, w.ownsRow 0 e sz v0 rows.length xs /\ ∀ (i j : Nat) (r : List D) (d : D), rows[i]? = some r -> r[j]? = some d -> ∃ u, xs[i * sz + j]? = some u /\ u.oneCell' = true /\ RepI w UU u d := by
  rcases h0 with ⟨rfl, rfl⟩ | ⟨g, cap0, cur, fz, rfl, hg, h3, h4, h5, rfl, h8⟩
  . exact ⟨[], World.ownsRow_nil w 0 e sz, fun i j r d hi => by simp at hi⟩
  . have hle : rows.length * sz <= cur.size := by rw [h5]; exact Nat.mul_le_mul_right sz h3
    refine ⟨cur.toList.take (rows.length * sz), ⟨by simp; omega, .inr ⟨g, cap0, cur, rfl, Nat.zero_le _, hg, h3, h4, h5, rfl⟩⟩, fun i j r d hi hj => ?_⟩
    obtain ⟨u, k1, k2, k3⟩ := h8 i j r d hi hj
    have hlt : i * sz + j < rows.length * sz := zc0 (List.getElem?_eq_some_iff.1 hi).1 (by have := (List.getElem?_eq_some_iff.1 hj).1; rw [hrl r (List.mem_of_getElem? hi)] at this; exact this)
    exact ⟨u, by rw [List.getElem?_take, if_pos hlt]; simpa using k1, k2, k3⟩
 cases ao with
 | none =>
  obtain ⟨rfl, rfl⟩ := hn rfl
  refine ⟨v0, w, run_append_owned_none w 0 t ty e i sz ht hi v0 rows.length xs hown, ⟨rfl, rfl, rfl, Nat.le_refl _, fun _ _ _ => rfl⟩, .inl rfl, fun b hb => ((hown.lt) b hb).2, by simpa using h0⟩
 | some ad =>
  obtain ⟨news, hnl2, hnews⟩ : ∃ news : List Value, news.length = new.length * sz /\ ∀ (q : Nat) (u : Value), news[q]? = some u -> w.cell? (ad.add q) = some u /\ u.oneCell' = true /\ ∀ (r : List D) (d : D), new[q / sz]? = some r -> r[q % sz]? = some d -> RepI w UU u d := by
    by_cases hne : new = []
    . subst hne; exact ⟨[], by simp, fun q u hq => by simp at hq⟩
    obtain ⟨hsp, hcell⟩ := hc ad rfl hne
    obtain ⟨b, off, sp⟩ := ad
    cases hsp
    refine zmj _ fun q hq => ?_
    have h1 : q / sz < new.length := Nat.div_lt_of_lt_mul (by rw [Nat.mul_comm]; exact hq)
    have h2 : q % sz < sz := Nat.mod_lt _ hpos
    have h3 : q % sz < (new[q / sz]).length := by rw [hnl _ (List.getElem_mem h1)]; exact h2
    obtain ⟨u, k1, k2, k3⟩ := hcell (q / sz) (q % sz) _ _ (List.getElem?_eq_getElem h1) (List.getElem?_eq_getElem h3)
    refine ⟨u, ?_, k2, fun r d hr hd => ?_⟩
    . rw [Addr.add_lit]
      have := Nat.div_add_mod q sz
      rw [show off + q = off + q / sz * sz + q % sz by rw [Nat.mul_comm (q / sz)]; omega]
      exact k1
    . rw [List.getElem?_eq_getElem h1] at hr; cases hr
      rw [List.getElem?_eq_getElem h3] at hd; cases hd
      exact k3
  obtain ⟨v', w', hrun, hown', hgrow, _, hob⟩ := run_append_own_at (P := P) w 0 t ty e i z sz i.bytes ht hi hzz (by rw [hsz, hci]) rfl (by rw [hzs, hsz, hci]) hpos v0 rows.length xs hown ad new.length cap news hnl2 (fun j u hu => (hnews j u hu).1)
    (fun u hu => by obtain ⟨j, hj⟩ := List.mem_iff_getElem?.1 hu; exact (hnews j u hj).2.1) h63 (by rw [<- hbi]; exact hby) (Nat.zero_le _)
  have hmono : ∀ {u : Value} {d : D}, RepI w UU u d -> RepI w' UU u d := fun hr => hr.mono (fun _ hb => hb) (fun b hb => hgrow.block b (hUU b hb).1 (fun e => (hUU b hb).2 e.symm))
  refine ⟨v', w', hrun, hgrow, hob, fun b hb => (hown'.lt b hb).2, ?_⟩
  have hxl : xs.length = rows.length * sz := hown.1
  rcases hown'.2 with ⟨rfl, h00⟩ | ⟨g, cap', cur, rfl, _, hg, q1, q2, q3, q4⟩
  . left
    have : (rows ++ new).length = 0 := by rw [List.length_append]; exact h00
    exact ⟨rfl, List.eq_nil_of_length_eq_zero this⟩
  . right
    refine ⟨g, cap', cur, (0, 0), by simp, hg, by simpa using q1, q2, q3, rfl, fun i j r d hi hj => ?_⟩
    have hrlen : r.length = sz := by
      rcases List.mem_append.1 (List.mem_of_getElem? hi) with hr | hr
      . exact hrl r hr
      . exact hnl r hr
    have hjs : j < sz := by have := (List.getElem?_eq_some_iff.1 hj).1; omega
    have hil : i < rows.length + new.length := by have := (List.getElem?_eq_some_iff.1 hi).1; simpa using this
    have hin : ∃ u, (xs ++ news)[i * sz + j]? = some u /\ u.oneCell' = true /\ RepI w UU u d := by
      by_cases hlt : i < rows.length
      . rw [List.getElem?_append_left hlt] at hi
        obtain ⟨u, k1, k2, k3⟩ := hxs i j r d hi hj
        exact ⟨u, by rw [List.getElem?_append_left (List.getElem?_eq_some_iff.1 k1).1]; exact k1, k2, k3⟩
      . rw [List.getElem?_append_right (by omega)] at hi
        have hge : rows.length * sz <= i * sz := Nat.mul_le_mul_right sz (by omega)
        have hq : i * sz + j - xs.length = (i - rows.length) * sz + j := by rw [hxl, Nat.sub_mul]; omega
        have hlt2 : (i - rows.length) * sz + j < news.length := by rw [hnl2]; exact zc0 (by omega) hjs
        refine ⟨news[(i - rows.length) * sz + j], ?_, ?_, ?_⟩
        . rw [List.getElem?_append_right (by omega), hq, List.getElem?_eq_getElem hlt2]
        . exact (hnews _ _ (List.getElem?_eq_getElem hlt2)).2.1
        . refine (hnews _ _ (List.getElem?_eq_getElem hlt2)).2.2 r d ?_ ?_
          . rw [show ((i - rows.length) * sz + j) / sz = i - rows.length by rw [Nat.mul_comm, Nat.mul_add_div hpos, Nat.div_eq_of_lt hjs]; omega]; exact hi
          . rw [show ((i - rows.length) * sz + j) % sz = j by rw [Nat.mul_comm, Nat.mul_add_mod]; exact Nat.mod_eq_of_lt hjs]; exact hj
    obtain ⟨u, k1, k2, k3⟩ := hin
    refine ⟨u, ?_, k2, hmono k3⟩
    rw [<- q4, List.getElem?_take] at k1
    split at k1
    . simpa using k1
    . cases k1

theorem zw6 {x:Operand} {y:Operand} {args:Array Operand} (h:args.toList=[x,y]):args = #[x,y]:=by cases args; simp_all
theorem tArg {x:TypeId} {y:TypeId} {args:Array TypeId} (h:args.toList=[x,y]):args = #[x,y]:=by cases args; simp_all

theorem ztr (h : SimB w0 U0 X β0 β U s a w) {ρ : Operand -> V} (hρ : ∀ y, RepV w β U w0.heap.size (a.eval y) (ρ y)) (o : Oper) (hd : ∀ d, o.dst = some d -> d < s.n) {args : Array Operand} {ats : Array TypeId}
   (ho : o.op = .call { callee := .builtin .append, args := args, argTypes := ats }) {E : Eff} (he : effW P o.dst o.op ρ s.blk = some E) :
   ∃ v w', (execOp a.eval o).run P w = .ok (.value v) w' /\ Sim w0 U0 X β0 (s.app o.dst E) (a.put o.dst v) w' := by
 rw [ho] at he
 unfold effW at he
 cases hdst : o.dst with
 | none => rw [hdst] at he; cases he
 | some d =>
 rw [hdst] at he
 simp only at he
 split at he
 case h_2 => cases he
 rename_i x y t t' hargs hats
 split at he
 case isFalse => cases he
 rename_i htt
 subst htt
 split at he
 case h_2 => cases he
 rename_i e hte
 have ht := zde hte
 split at he
 case h_2 => cases he
 rename_i sz new fr' hnew
 split at he
 case isFalse => cases he
 rename_i hsz
 obtain ⟨hsz, hpos, hzn⟩ := hsz
 obtain ⟨zs, hz⟩ := Option.ne_none_iff_exists'.1 hzn
 have hargs' := zw6 hargs
 have hats' := tArg hats
 subst hargs'; subst hats'
 have hexec : ∀ {v0 v1 v' : Value} {w' : World}, a.eval x = v0 -> a.eval y = v1 -> (Builtin.append_ #[t, t] o.type #[v0, v1]).run P w = .ok v' w' -> (execOp a.eval o).run P w = .ok (.value v') w' := by
   intro v0 v1 v' w' h0 h1 hr
   simp only [execOp, ho, resolve, Sem.run_bind, Sem.run_pure, Result.andThen_ok, invoke, builtin, List.map_toArray, List.map_cons, List.map_nil, h0, h1, hr]
 obtain ⟨ao, cap, hv1, hnl, hnn, hcell⟩ := zjo h (hρ y) hnew
 have hx := hρ x
 have hdn : d < s.n := hd d hdst
 split at he
 . -- nil
   rename_i ex
   rw [ex] at hx
   split at he
   case isFalse => cases he
   rename_i hb
   obtain ⟨hkd, hby, hmax⟩ := hb
   obtain rfl := Option.some.inj he
   have hv0 : a.eval x = .slice none 0 0 := hx.toC
   obtain ⟨v', w', hrun, hgrow, hob, hlt, hrow⟩ := zt3 (P := P) (w := w) (UU := fun b => U b /\ (fr' = true -> w0.heap.size <= b)) (t := t) (ty := o.type) (rows := []) ht hz hsz hpos (v0 := .slice none 0 0) (.inl ⟨rfl, rfl⟩) (fun r hr => by simp at hr) hnl hnn hcell (by simpa using hmax) (by simpa using hby)
     (fun b hb => ⟨h.stab b hb.1, by simp [Value.ownBlock]⟩)
   rw [List.nil_append] at hrow
   have hgold : ∀ b, b < w.heap.size -> w'.heap[b]? = w.heap[b]? := fun b hb => hgrow.block b hb (by simp [Value.ownBlock])
   obtain ⟨hs1, hup⟩ := h.newKey (w' := w') (p := .row v' 0) (blk := .row 0 e sz true fr' new) (Nat.lt_of_lt_of_le hdn (Nat.le_trans h.small (by decide))) hkd hgrow.os hgrow.tape hgrow.output hgrow.size hgold
     (fun b hb => by
      have hb' : v'.ownBlock = some b := hb
      rcases hob with h1 | h1
      . rw [h1] at hb'; simp [Value.ownBlock] at hb'
      . rw [h1] at hb'
        have hlt' := hlt w.heap.size h1
        obtain rfl : w.heap.size = b := by simpa using hb'
        exact ⟨Nat.le_refl _, hlt'⟩)
     ⟨rfl, hnl, by
      rcases hrow with hr | ⟨g, cap', cur, fz, q1, q2, q3, q4, q5, rfl, q7⟩
      . exact .inl hr
      . exact .inr ⟨g, cap', cur, (0, 0), q1, q2, q3, q4, q5, fun _ => rfl, fun i _ => by simp [World.frozen?, q2], q7⟩⟩
   refine ⟨v', w', hexec hv0 hv1 hrun, ?_⟩
   rw [St.app]
   refine ⟨_, _, hs1.put ?_ (fun d' e' => by cases e'; exact hdn)⟩
   rcases hrow with ⟨rfl, rfl⟩ | ⟨g, cap', cur, fz, rfl, q2, q3, q4, q5, q6, q7⟩
   . exact zlf (zak _ _ _) (Nat.le_refl _) (fun _ => ⟨rfl, rfl⟩) (fun x hx => by cases hx)
   . exact zlf (zak _ _ _) q3 (fun e => by cases e) (fun x hx => by cases hx; exact ⟨g, rfl⟩)
 . -- own
   rename_i k ver len ex
   rw [ex] at hx
   split at he
   case h_2 => cases he
   rename_i ver' e' sz' ap fr rows hblk
   split at he
   case isFalse => cases he
   rename_i hb
   obtain ⟨rfl, rfl, rfl, rfl, hby, hmax⟩ := hb
   obtain rfl := Option.some.inj he
   obtain ⟨a0, cap0, v0, ver0, hv0, hlc, hn0, hs0, hk, hver1, hver2⟩ := hx.toC
   obtain ⟨q1, q2, q3⟩ := h.placeStd hblk hk
   obtain ⟨blk0, hblk0, hstd⟩ := Option.map_eq_some_iff.1 hblk
   subst q1
   obtain rfl := hver2 rfl
   have hap : ∀ b, U b -> b < w.heap.size /\ (a.eval x).ownBlock ≠ some b := fun b hb => ⟨h.stab b hb, fun e' => (h.apart k _ b hk e').1 hb⟩
   obtain ⟨v', w', hrun, hgrow, hob, hlt, hrow⟩ := zt3 (P := P) (w := w) (UU := fun b => U b /\ ((fr && fr') = true -> w0.heap.size <= b)) (t := t) (ty := o.type) (rows := rows) ht hz hsz hpos (v0 := a.eval x)
     (by
      rcases q3 with ⟨e1, e2⟩ | ⟨g, cap', cur, fz, e1, hg, h3, h4, h5, h6, h7, h8⟩
      . exact .inl ⟨e1, e2⟩
      . exact .inr ⟨g, cap', cur, fz, e1, hg, h3, h4, h5, h6 rfl, fun i j r d hi hj => by
          obtain ⟨u, k1, k2, k3⟩ := h8 i j r d hi hj
          exact ⟨u, k1, k2, k3.mono (fun b hb => ⟨hb.1, fun e' => hb.2 (by simp at e'; exact e'.1)⟩) (fun _ _ => rfl)⟩⟩)
     q2 hnl hnn (fun ad e' hne => ⟨(hcell ad e' hne).1, fun i j r d hi hj => by
      obtain ⟨u, k1, k2, k3⟩ := (hcell ad e' hne).2 i j r d hi hj
      exact ⟨u, k1, k2, k3.mono (fun b hb => ⟨hb.1, fun e' => hb.2 (by simp at e'; exact e'.2)⟩) (fun _ _ => rfl)⟩⟩) hmax hby
     (fun b hb => hap b hb.1)
   have hcovAll : ∀ b, (Place.row (a.eval x) ver).block = some b -> ∀ j, (Place.row (a.eval x) ver).covers blk0 b j := fun b hb j => hb
   have hs1 := h.repl (p' := .row v' (ver + 1)) (blk' := .row (ver + 1) e sz true (fr && fr') (rows ++ new)) hk hblk0 hgrow.os hgrow.tape hgrow.output hgrow.size
     (fun b hb hne => hgrow.block b hb (fun e' => hne e'.symm))
     (fun b j hb hnc => by
      have hne : some b ≠ (a.eval x).ownBlock := fun e' => hnc e'.symm
      exact ⟨World.cell?_of_block (w := w) (hgrow.block b hb hne), World.frozen?_of_block (w := w) (hgrow.block b hb hne)⟩)
     (fun b _ hb => .inr (.inr (hcovAll b hb)))
     (.inr ⟨_, ver, v', ver + 1, rfl, rfl, by omega⟩)
     (fun b hb => by
      have hb' : v'.ownBlock = some b := hb
      rcases hob with h1 | h1
      . left; rw [h1] at hb'; exact hb'
      . right
        have hlt' := hlt w.heap.size h1
        rw [h1] at hb'
        obtain rfl : w.heap.size = b := by simpa using hb'
        exact ⟨Nat.le_refl _, hlt'⟩)
     (fun b j hc => by
      have hb' : v'.ownBlock = some b := hc
      rcases hob with h1 | h1
      . left; rw [h1] at hb'; exact hb'
      . right
        rw [h1] at hb'
        have : w.heap.size = b := by simpa using hb'
        omega)
     ⟨rfl, fun r hr => by
        rcases List.mem_append.1 hr with hr | hr
        . exact q2 r hr
        . exact hnl r hr, by
      rcases hrow with hr | ⟨g, cap', cur, fz, q1, q2, q3, q4, q5, rfl, q7⟩
      . exact .inl hr
      . exact .inr ⟨g, cap', cur, (0, 0), q1, q2, q3, q4, q5, fun _ => rfl, fun i _ => by simp [World.frozen?, q2], q7⟩⟩
   refine ⟨v', w', hexec rfl hv1 hrun, ?_⟩
   rw [St.app]
   refine ⟨_, _, hs1.put ?_ (fun d' e' => by cases e'; exact hdn)⟩
   rw [<- List.length_append]
   rcases hrow with ⟨rfl, hnil⟩ | ⟨g, cap', cur, fz, rfl, q2, q3, q4, q5, q6, q7⟩
   . rw [hnil]
     exact zlf (zak _ _ _) (Nat.le_refl _) (fun _ => ⟨rfl, rfl⟩) (fun x hx => by cases hx)
   . exact zlf (zak _ _ _) q3 (fun e => by cases e) (fun x hx => by cases hx; exact ⟨g, rfl⟩)
 . cases he

theorem zvd {e:TypeId} {zero:List C} (hz:zja P e=some zero) (n:Nat):∃ z:Value,∃ i:TypeInfo,P.info? e=some i/\i.zero=some z/\i.size=zero.length/\z.cells.size=zero.length /\
   RepCs w β U base ((Array.range (n*zero.length)).map (z.cells[· % z.cells.size]!)).toList ((List.range (n*zero.length)).map fun i=>zero.getD (i%zero.length) .bad) /\ ∀ u∈((Array.range (n*zero.length)).map (z.cells[· % z.cells.size]!)).toList,u.oneCell'=true:=by
 obtain ⟨i,z,hi,hzz,hrep,h1,hzs⟩:=zce (w:=w) (β:=β) (U:=U) (base:=base) hz
 have hl:z.cells.size=zero.length:=by simpa using hrep.1
 have hget:∀ q,q<n*zero.length -> ∃ u,z.cells[q%z.cells.size]?=some u/\z.cells[q%z.cells.size]! = u/\u.oneCell'=true:=by
   intro q hq
   have hp:0<zero.length:=by
     rcases Nat.eq_zero_or_pos zero.length with h0 | h0
     . rw [h0,Nat.mul_zero] at hq; omega
     . exact h0
   have hlt:q%z.cells.size<z.cells.size:=Nat.mod_lt _ (by omega)
   refine ⟨z.cells[q%z.cells.size],by simp [hlt],by simp [hlt],h1 _ (by simp)⟩
 refine ⟨z,i,hi,hzz,by omega,hl,⟨by simp,fun j u c hu hc=>?_⟩,fun u hu=>?_⟩
 . simp only [Array.toList_map,Array.toList_range,List.getElem?_map,Option.map_eq_some_iff] at hu hc
   obtain ⟨q,hq,rfl⟩:=hu
   obtain ⟨q',hq',rfl⟩:=hc
   rw [hq] at hq'; cases hq'
   have hqlt:q<n*zero.length:=by
     have:=List.mem_of_getElem? hq
     simpa using this
   obtain ⟨u,h2,h3,_⟩:=hget q hqlt
   rw [h3]
   have hlt:q%zero.length<zero.length:=by
     have:=(Array.getElem?_eq_some_iff.1 h2).1
     rw [hl] at this; exact this
   refine hrep.2 (q%zero.length) u _ ?_ ?_
   . rw [<- hl]; simpa using h2
   . rw [List.getD_eq_getElem?_getD,List.getElem?_eq_getElem hlt]; rfl
 . simp only [Array.toList_map,Array.toList_range,List.mem_map] at hu
   obtain ⟨q,hq,rfl⟩:=hu
   obtain ⟨u,_,h3,h4⟩:=hget q (by simpa using hq)
   rw [h3]; exact h4

theorem ztj (place:Nat->Option (Nat×Nat)):∀ (ps:List (Nat×Value)) (us us':Array Value),Instr.fill place us ps=some us'->us'.size=us.size
 | [],us,us',h=>by cases h; rfl
 | (i,v) :: ps,us,us',h=>by
  unfold Instr.fill at h
  split at h
  . cases h
  . split at h
    . cases h
    . have:=ztj place ps _ us' h
      rw [this,<- Array.foldl_toList,Array.toList_zipIdx,zln]

theorem z66 (l:List UInt8) (i j:Nat) (r:List D) (d:D) (hi:(l.map fun b=>[D.i .u8 (b.toNat:Int)])[i]?=some r) (hj:r[j]?=some d):∃ b,l[i]?=some b/\j=0/\d=.i .u8 b.toNat:=by
 rw [List.getElem?_map,Option.map_eq_some_iff] at hi
 obtain ⟨b,hb,rfl⟩:=hi
 cases j with
 | zero=>exact ⟨b,hb,rfl,by simpa using hj.symm⟩
 | succ j=>simp at hj

theorem zwe (h : SimB w0 U0 X β0 β U s a w) {ρ : Operand -> V} (hρ : ∀ y, RepV w β U w0.heap.size (a.eval y) (ρ y)) (o : Oper) (hd : ∀ d, o.dst = some d -> d < s.n) {E : Eff} (he : effW P o.dst o.op ρ s.blk = some E) :
   ∃ v w', ((execOp a.eval o).run P w = .ok (.value v) w' \/ ((execOp a.eval o).run P w = .ok .skip w' /\ v = undef)) /\ Sim w0 U0 X β0 (s.app o.dst E) (a.put o.dst v) w' := by
 have wrap : ∀ {s : Sem Value} {v : Value} {w' : World}, s.run P w = .ok v w' -> (do pure (.value (<- s)) : Sem Next).run P w = .ok (.value v) w' := fun {s v w'} hs => by
   rw [Sem.run_bind, hs]; rfl
 have hcall := he
 unfold effW at he
 split at he
 . -- alloc
   rename_i k t hdst hop
   split at he
   case h_2 => cases he
   rename_i cs hk hz
   split at he
   case isFalse => cases he
   rename_i hne
   obtain rfl := Option.some.inj he
   obtain ⟨i, z, hi, hzz, hrep, h1, hzs⟩ := zce (w := w) (β := β) (U := U) (base := w0.heap.size) hz
   obtain ⟨hs1, hup⟩ := h.allocCells (Nat.lt_of_lt_of_le (hd _ hdst) (Nat.le_trans h.small (by decide))) hk t z.cells.toList cs hrep.1 hne hrep.2 h1
   refine ⟨.pointer (some ⟨w.heap.size, 0, none⟩), w.alloc (.cells z.cells t), .inl ?_, ?_⟩
   . simp only [execOp, hop]
     refine wrap ?_
     simp [Instr.alloc, zeroValue, typeInfo, hi, hzz, newVar, newRow]
   . rw [St.app, hdst]
     exact ⟨_, _, SimB.put (β := upd β k (.cells w.heap.size 0)) (U := U) (by simpa using hs1) (zi4b (zak _ _ _)) (fun d e => by cases e; exact hd _ hdst)⟩
 . -- box
   rename_i k t x hdst hop
   split at he
   case h_2 => cases he
   rename_i cs hk hz
   split at he
   case isFalse => cases he
   rename_i hne
   obtain rfl := Option.some.inj he
   obtain ⟨hrep, h1⟩ := V.cells_sound (hρ x) hz
   obtain ⟨hs1, hup⟩ := h.allocCells (Nat.lt_of_lt_of_le (hd _ hdst) (Nat.le_trans h.small (by decide))) hk t (a.eval x).cells.toList cs hrep.1 hne hrep.2 h1
   refine ⟨.pointer (some ⟨w.heap.size, 0, none⟩), w.alloc (.cells (a.eval x).cells t), .inl ?_, ?_⟩
   . simp only [execOp, hop]
     refine wrap ?_
     simp [Instr.box, newVar, newRow]
   . rw [St.app, hdst]
     exact ⟨_, _, SimB.put (β := upd β k (.cells w.heap.size 0)) (U := U) (by simpa using hs1) (zi4b (zak _ _ _)) (fun d e => by cases e; exact hd _ hdst)⟩
 . -- store
   rename_i t y x hdst hop
   split at he
   case h_2 => cases he
   rename_i xs hxs
   split at he
   case isFalse => cases he
   rename_i hc
   obtain ⟨hlen, hit⟩ := hc
   obtain ⟨it, hit⟩ := Option.isSome_iff_exists.1 hit
   obtain ⟨hrep, h1⟩ := V.cells_sound (hρ x) hxs
   have hy := hρ y
   split at he
   case h_2 => cases he
   rename_i k off ey
   rw [ey] at hy
   split at he
   case h_2 => cases he
   rename_i cs hblk
   split at he
   case isFalse => cases he
   rename_i hle
   obtain rfl := Option.some.inj he
   obtain ⟨b, o', hk, hv⟩ := hy.toC
   have hr := h.placeCells hblk hk
   have hs1 := h.storeCells hblk hk hrep h1 hle
   have hsz : (a.eval x).cells.size = it.size := by
     have := hrep.1
     simp only [Array.length_toList] at this
     rw [this, hlen]; simp [tsz, Program.cellsOf, hit]
   refine ⟨undef, w.setCells b (o' + off) (a.eval x).cells.toList, .inr ⟨?_, rfl⟩, ?_⟩
   . simp only [execOp, hop, hv]
     rw [Sem.run_bind, zry hit hsz (fun j hj => ?_) h1]
     . rfl
     . have hl := hrep.1
       simp only [Array.length_toList] at hl
       have hlt : off + j < cs.length := by omega
       obtain ⟨v, q1, q2, _⟩ := hr.2 (off + j) cs[off + j] (List.getElem?_eq_getElem hlt)
       rw [Nat.add_assoc]
       exact ⟨by rw [q1]; rfl, q2⟩
   . rw [St.app, hdst]
     exact ⟨_, _, hs1⟩
 . -- buildSlice
   rename_i k t len parts hdst hop
   split at he
   case h_2 => cases he
   rename_i e hk hte
   have ht := zde hte
   split at he
   case h_2 => cases he
   rename_i zero hz
   split at he
   case isFalse => cases he
   rename_i hc
   obtain ⟨hsmall, hmax, hpos⟩ := hc
   split at he
   case h_2 => cases he
   rename_i cs hfill
   split at he
   case h_2 => cases he
   rename_i ds hds
   obtain rfl := Option.some.inj he
   obtain ⟨z, i, hi, hzz, his, hzs, hzr, hz1⟩ := zvd (w := w) (β := β) (U := U) (base := w0.heap.size) hz len
   obtain ⟨us', q1, q2, q3⟩ := zk3 (w := w) (β := β) (U := U) (base := w0.heap.size) _ (parts.map fun (i, y) => (i, a.eval y)).toList (parts.toList.map fun p => (p.1, ρ p.2)) _ _ cs (by simpa using zig hρ parts.toList) hzr hz1 hfill
   have hus : us'.size = len * zero.length := by
     have hl1 : us'.size = ((Array.range (len * zero.length)).map (z.cells[· % z.cells.size]!)).size := by
       exact ztj _ _ _ _ q1
     rw [hl1]; simp
   obtain ⟨hdl, hdg⟩ := znv cs ds hds
   have hcl : cs.length = len * zero.length := by have := q2.1; simp only [Array.length_toList] at this; omega
   have hs1 := h.allocRow (Nat.lt_of_lt_of_le (hd _ hdst) (Nat.le_trans h.small (by decide))) hk e zero.length len len true (cs.all C.fresh) (chunks len zero.length ds) us' (0, 0)
     (fun r hr => by
       obtain ⟨i', hi'⟩ := List.mem_iff_getElem?.1 hr
       obtain ⟨hlt, rfl⟩ := zpi hi'
       rw [List.length_take, List.length_drop]
       have : (i' + 1) * zero.length <= len * zero.length := Nat.mul_le_mul_right _ hlt
       rw [Nat.add_mul] at this
       omega)
     (zph _ _ _) (Nat.le_refl _) hmax hus (fun _ => rfl) (fun e => by simp at e)
     (fun i' j r d hi' hj => by
       obtain ⟨hlt, rfl⟩ := zpi hi'
       rw [List.getElem?_take] at hj
       split at hj
       case isFalse => cases hj
       rename_i hjs
       rw [List.getElem?_drop] at hj
       have hq : i' * zero.length + j < len * zero.length := zc0 hlt hjs
       have hu : i' * zero.length + j < us'.size := by omega
       have hcq : i' * zero.length + j < cs.length := by omega
       have hcc := hdg _ _ _ (List.getElem?_eq_getElem hcq) hj
       have hrc := q2.2 (i' * zero.length + j) us'[i' * zero.length + j] _ (by simp [hu]) (List.getElem?_eq_getElem hcq)
       refine ⟨us'[i' * zero.length + j], by simp [hu], q3 _ (by simp), (zm3 hrc hcc).mono (fun b hb => ⟨hb.1, fun e => hb.2 (List.all_eq_true.1 e _ (List.getElem_mem hcq))⟩) (fun _ _ => rfl)⟩)
   refine ⟨.slice (some ⟨w.heap.size, 0, none⟩) len len, w.alloc (.cells us' e), .inl ?_, ?_⟩
   . simp only [execOp, hop]
     refine wrap (run_buildSlice w t e len _ us' i z ht hi hzz (by rw [his]; omega) (by rw [his]; omega) ?_)
     rw [his]
     exact q1
   . rw [St.app, hdst]
     exact ⟨_, _, hs1.put (zlf (zak _ _ _) (Nat.le_refl _) (fun e => by cases e) (fun x hx => by cases hx; exact ⟨_, rfl⟩)) (fun d e => by cases e; exact hd _ hdst)⟩
 . -- []byte(s)
   rename_i k src dst x hdst hop
   split at he
   case h_2 => cases he
   rename_i e hk hs hte
   have ht := zde hte
   split at he
   case h_2 => cases he
   rename_i l hu8 hx
   split at he
   case isFalse => cases he
   rename_i hmax
   obtain rfl := Option.some.inj he
   have hxx := hρ x
   rw [hx] at hxx
   have hv := hxx.str
   have hsz : (⟨l.toArray⟩ : ByteArray).size = l.length := by simp [ByteArray.size]
   have hrun := run_bytes_of_string (P := P) w src dst e ⟨l.toArray⟩ hs ht hu8
   generalize hcap : grownCap w (⟨l.toArray⟩ : ByteArray).size 0 e = cap at hrun
   have hge : l.length <= cap := by rw [<- hcap, <- hsz]; exact grownCap_ge w _ _ _
   have hle : cap <= maxLen := by rw [<- hcap]; exact grownCap_le_maxLen w _ _ _ (by rw [hsz]; exact hmax)
   have hrow : bytesRow ⟨l.toArray⟩ cap = (l.map fun b => Value.int .u8 b.toNat).toArray ++ Array.replicate (cap - l.length) (.int .u8 0) := by
     unfold bytesRow
     rw [hsz]
     congr 1
     simp
   have hrs : (bytesRow ⟨l.toArray⟩ cap).size = cap * 1 := by rw [hrow]; simp; omega
   have hs1 := (h.drew).allocRow (k := k) (Nat.lt_of_lt_of_le (hd _ hdst) (Nat.le_trans h.small (by decide))) hk e 1 l.length cap false true (l.map fun b => [.i .u8 b.toNat]) (bytesRow ⟨l.toArray⟩ cap) ((bytesRow ⟨l.toArray⟩ cap).size, (bytesRow ⟨l.toArray⟩ cap).size + 1)
     (fun r hr => by obtain ⟨b, _, rfl⟩ := List.mem_map.1 hr; rfl) (by simp) hge hle hrs (fun e => by cases e) (fun _ => by simp only; omega)
     (fun i j r d hi hj => by
       obtain ⟨b, hb, rfl, rfl⟩ := z66 l i j r d hi hj
       have hlt := (List.getElem?_eq_some_iff.1 hb).1
       refine ⟨.int .u8 b.toNat, ?_, rfl, .i _ _⟩
       rw [hrow, Nat.mul_one, Nat.add_zero, Array.getElem?_append_left (by simpa using hlt)]
       simp [hb])
   refine ⟨.slice (some ⟨w.heap.size, 0, none⟩) l.length cap, w.drew.alloc (.cells (bytesRow ⟨l.toArray⟩ cap) e ((bytesRow ⟨l.toArray⟩ cap).size, (bytesRow ⟨l.toArray⟩ cap).size + 1)), .inl ?_, ?_⟩
   . simp only [execOp, hop, hv]
     refine wrap ?_
     rw [hrun, hsz]
   . rw [St.app, hdst]
     exact ⟨_, _, hs1.put (zlf (zak _ _ _) hge (fun e => by cases e) (fun x hx => by cases hx; exact ⟨_, rfl⟩)) (fun d e => by cases e; exact hd _ hdst)⟩
 . -- append
   rename_i d args ats hdst hop
   obtain ⟨v, w', h1, h2⟩ := ztr h hρ o hd hop hcall
   exact ⟨v, w', .inl h1, h2⟩
 . cases he
end
end Go.Proofs.YthkhikdglmaiaaaGreatDoor.Abs
namespace Go.Proofs.YthkhikdglmaiaaaGreatDoor.Abs
open Go Go.RowKit
set_option linter.unusedVariables false

def St.upd (s:St) (l:List (Nat×Blk)):St:={ s with mem:=l++s.mem }
structure Out where
 val:V
 mem:List (Nat×Blk)
def St.out (s:St) (dst:Option Nat) (E:Out):St:=(s.upd E.mem).put dst E.val
def Eff.out (E:Eff):Out:=⟨E.val,E.mem.toList⟩
theorem St.app_out (s:St) (dst:Option Nat) (E:Eff):s.app dst E=s.out dst E.out:=by
 obtain ⟨v,m⟩:=E
 cases m <;> rfl

theorem zik {α:Type} (t:Nat):∀ (l r:List (Nat×α)),look t (l++r)=(look t l).or (look t r)
 | [],r=>by simp [look]
 | (j,v) :: l,r=>by
  simp only [List.cons_append,look]
  split
  . rfl
  . exact zik t l r

abbrev Ren:=Nat->Option (Nat×Nat×Nat)

def zzv (σ:Ren):List (Nat×Nat)->Option (List (Nat×Nat))
 | []=>some []
 | (k,o) :: r=>match σ k,zzv σ r with
  | some (k',_,_),some l=>some ((k',o) :: l)
  | _,_=>none
def C.ren (σ:Ren):C->C
 | .mp k=>match σ k with | some (k',_,_)=>.mp k' | none=>.bad
 | .clp g ks=>match zzv σ ks with | some l=>.clp g l | none=>.bad
 | .own k ver len=>match σ k with | some (k',cv,nv)=>if ver=cv then .own k' nv len else .bad | none=>.bad
 | .sub k ver sz off len=>match σ k with | some (k',cv,nv)=>if ver=cv then .sub k' nv sz off len else .bad | none=>.bad
 | .ptr k off=>match σ k with | some (k',_,_)=>.ptr k' off | none=>.bad
 | .pr k ver sz i off=>match σ k with | some (k',cv,nv)=>if ver=cv then .pr k' nv sz i off else .bad | none=>.bad
 | .asl k off len=>match σ k with | some (k',_,_)=>.asl k' off len | none=>.bad
 | .pre k ver sz len=>match σ k with | some (k',cv,nv)=>if ver=cv then .pre k' nv sz len else .bad | none=>.bad
 | c=>c
def V.ren1 (σ:Ren):V->V
 | .one c=>.one (c.ren σ)
 | .agg cs=>.agg (cs.map (C.ren σ))
 | .tup _=>.one .bad
def V.ren (σ:Ren):V->V
 | .tup vs=>.tup (vs.map (V.ren1 σ))
 | .one c=>.one (c.ren σ)
 | .agg cs=>.agg (cs.map (C.ren σ))
def Blk.ren (σ:Ren) (nv:Nat):Blk->Blk
 | .cells cs=>.cells (cs.map (C.ren σ))
 | .row _ e sz ap fr rows=>.row nv e sz ap fr rows
 | .rowT _ e c ap fr xs=>.rowT nv e c ap fr xs
 | .mp kt es=>.mp kt es
 | .junk _ e sz len N=>.junk nv e sz len N
def Blk.ver:Blk->Nat
 | .cells _=>0
 | .row ver _ _ _ _ _=>ver
 | .rowT ver _ _ _ _ _=>ver
 | .mp _ _=>0
 | .junk ver _ _ _ _=>ver
def Blk.isRow:Blk->Bool
 | .cells _=>false
 | .mp _ _=>false
 | _=>true
def Place.renum (nv:Nat):Place->Place
 | .cells b o=>.cells b o
 | .row v _=>.row v nv

def zfn (kp:Bool) (k:Nat) (b:Blk):Nat:=if 1000000<=k/\k<2000000 then (match kp with | true=>b.ver | false=>if 1500000<=k/\b.ver=0 then 0 else 1) else 0
def St.sig (kp:Bool) (s:St) (ks:List (Nat×Nat)):Ren:=fun k=>match look k ks,s.blk k with
 | some k',some b=>some (k',b.ver,zfn kp k b)
 | _,_=>none
def zmb (kp:Bool) (s:St) (σ:Ren):List (Nat×Nat)->Option (List (Nat×Blk))
 | []=>some []
 | (k,k') :: r=>match s.blk k,zmb kp s σ r with
  | some b,some m=>some ((k',b.ren σ (zfn kp k b)) :: m)
  | _,_=>none
def zxz:List (Nat×Nat)->Bool
 | []=>true
 | (k,k') :: r=>r.all (fun p=>p.1 != k&&p.2 != k')&&(k==k' || (decide (k<1000000\/2000000<=k)&&decide (k'<1000000\/2000000<=k')))&&zxz r
def St.norm (kp:Bool) (s:St) (ts:List Nat) (ks:List (Nat×Nat)):Option St :=
 match zxz ks,zmb kp s (s.sig kp ks) ks with
 | true,some m=>some { n:=s.n,env:=ts.map fun t=>(t,(s.get t).ren (s.sig kp ks)),mem:=m }
 | _,_=>none

section
variable {w:World} {β β':Nat->Option Place} {U:Nat->Prop} {base:Nat} {σ:Ren}

def Fits (β β':Nat->Option Place) (σ:Ren):Prop:=∀ k k' cv nv,σ k=some (k',cv,nv)->(∃ b o,β k=some (.cells b o)/\β' k'=some (.cells b o)) \/ ∃ v,β k=some (.row v cv)/\β' k'=some (.row v nv)

theorem zzu (hf:Fits β β' σ):∀ (ks l:List (Nat×Nat)),zzv σ ks=some l->l.length=ks.length /\ ∀ (j:Nat) (p:Nat×Nat),l[j]?=some p -> ∃ q,ks[j]?=some q /\ ∀ b o,β q.1=some (.cells b o)->β' p.1=some (.cells b o)/\p.2=q.2
 | [],l,h=>by cases h; exact ⟨rfl,fun j p hj=>by simp at hj⟩
 | (k,o) :: r,l,h=>by
  unfold zzv at h
  split at h
  . rename_i k' cv nv l' hs hr
    cases h
    obtain ⟨i1,i2⟩:=zzu hf r l' hr
    refine ⟨by simp [i1],fun j p hj=>?_⟩
    cases j with
    | zero =>
     simp at hj; subst hj
     refine ⟨(k,o),rfl,fun b o' hb=>⟨?_,rfl⟩⟩
     rcases hf k k' cv nv hs with ⟨b',o'',e1,e2⟩ | ⟨v1,e1,e2⟩
     . rw [hb] at e1; cases e1; exact e2
     . rw [hb] at e1; cases e1
    | succ j=>simpa using i2 j p (by simpa using hj)
  . cases h

theorem RepC.ren {v:Value} {c:C} (h:RepC w β U base v c) (hf:Fits β β' σ):RepC w β' U base v (c.ren σ):=by
 cases c with
 | mp k =>
  simp only [C.ren]
  split
  . rename_i k' cv nv hs
    obtain ⟨b,h1,h2⟩:=h
    rcases hf k k' cv nv hs with ⟨b',o,e1,e2⟩ | ⟨v1,e1,e2⟩
    . rw [h1] at e1; cases e1; exact ⟨b,e2,h2⟩
    . rw [h1] at e1; cases e1
  . trivial
 | d x=>exact h
 | f x=>exact h
 | nil=>exact h
 | own k ver len =>
  simp only [C.ren]
  split
  . rename_i k' cv nv hs
    split
    . rename_i hv
      subst hv
      obtain ⟨a,cap,v0,ver0,h1,h2,h3,h4,h5,h6,h7⟩:=h
      rcases hf k k' ver nv hs with ⟨b,o,e1,_⟩ | ⟨v1,e1,e2⟩
      . rw [h5] at e1; cases e1
      . rw [h5] at e1; cases e1
        exact ⟨a,cap,v0,nv,h1,h2,h3,h4,e2,Nat.le_refl _,fun _=>h7 rfl⟩
    . trivial
  . trivial
 | sub k ver sz off len =>
  simp only [C.ren]
  split
  . rename_i k' cv nv hs
    split
    . rename_i hv
      subst hv
      obtain ⟨a,cap,v0,ver0,h1,h2,h3,h5,h6,h7⟩:=h
      rcases hf k k' ver nv hs with ⟨b,o,e1,_⟩ | ⟨v1,e1,e2⟩
      . rw [h5] at e1; cases e1
      . rw [h5] at e1; cases e1
        exact ⟨a,cap,v0,nv,h1,h2,h3,e2,Nat.le_refl _,fun _=>h7 rfl⟩
    . trivial
  . trivial
 | ptr k off =>
  simp only [C.ren]
  split
  . rename_i k' cv nv hs
    obtain ⟨b,o,h1,h2⟩:=h
    rcases hf k k' cv nv hs with ⟨b',o',e1,e2⟩ | ⟨v1,e1,e2⟩
    . rw [h1] at e1; cases e1
      exact ⟨b,o,e2,h2⟩
    . rw [h1] at e1; cases e1
  . trivial
 | pr k ver sz i off =>
  simp only [C.ren]
  split
  . rename_i k' cv nv hs
    split
    . rename_i hv
      subst hv
      obtain ⟨a,v0,ver0,h1,h5,h6,h7⟩:=h
      rcases hf k k' ver nv hs with ⟨b,o,e1,_⟩ | ⟨v1,e1,e2⟩
      . rw [h5] at e1; cases e1
      . rw [h5] at e1; cases e1
        exact ⟨a,v0,nv,h1,e2,Nat.le_refl _,fun _=>h7 rfl⟩
    . trivial
  . trivial
 | asl k off len =>
  simp only [C.ren]
  split
  . rename_i k' cv nv hs
    obtain ⟨b,o,h1,h2⟩:=h
    rcases hf k k' cv nv hs with ⟨b',o',e1,e2⟩ | ⟨v1,e1,e2⟩
    . rw [h1] at e1; cases e1
      exact ⟨b,o,e2,h2⟩
    . rw [h1] at e1; cases e1
  . trivial
 | pre k ver sz len =>
  simp only [C.ren]
  split
  . rename_i k' cv nv hs
    split
    . rename_i hv
      subst hv
      obtain ⟨a,cap,v0,ver0,h1,h2,h3,h5,h6,h7⟩:=h
      rcases hf k k' ver nv hs with ⟨b,o,e1,_⟩ | ⟨v1,e1,e2⟩
      . rw [h5] at e1; cases e1
      . rw [h5] at e1; cases e1
        exact ⟨a,cap,v0,nv,h1,h2,h3,e2,Nat.le_refl _,fun _=>h7 rfl⟩
    . trivial
  . trivial
 | nn x=>exact h
 | pv cells=>exact h
 | clo f caps=>exact h
 | clp f ks =>
  simp only [C.ren]
  split
  . rename_i l hs
    obtain ⟨vs,h1,h2,h3⟩:=h
    obtain ⟨i1,i2⟩:=zzu hf ks l hs
    refine ⟨vs,h1,h2.trans i1.symm,fun j u p hu hp=>?_⟩
    obtain ⟨q,hq,i3⟩:=i2 j p hp
    obtain ⟨b,o,e1,e2⟩:=h3 j u q hu hq
    obtain ⟨i4,i5⟩:=i3 b o e1
    exact ⟨b,o,i4,by rw [i5]; exact e2⟩
  . trivial
 | un=>exact h
 | bad=>trivial

theorem RepCs.renMap {us:List Value} {cs:List C} (hl:us.length=cs.length) (h:∀ (j:Nat) (u:Value) (c:C),us[j]?=some u->cs[j]?=some c->RepC w β U base u c) (hf:Fits β β' σ) :
  ∀ (j:Nat) (u:Value) (c:C),us[j]?=some u->(cs.map (C.ren σ))[j]?=some c->RepC w β' U base u c:=by
 intro j u c hu hc
 rw [List.getElem?_map,Option.map_eq_some_iff] at hc
 obtain ⟨c0,hc0,rfl⟩:=hc
 exact (h j u c0 hu hc0).ren hf

theorem RepV.ren1 {v:Value} {x:V} (h:RepV w β U base v x) (hf:Fits β β' σ):RepV w β' U base v (x.ren1 σ):=by
 cases h with
 | one v c h=>exact .one _ _ (h.ren hf)
 | agg vs cs hl h1 h=>exact .agg _ _ (by simpa using hl) h1 (RepCs.renMap hl h hf)
 | tup vs xs hl h=>exact .bad _

theorem RepV.ren {v:Value} {x:V} (h:RepV w β U base v x) (hf:Fits β β' σ):RepV w β' U base v (x.ren σ):=by
 cases h with
 | one v c h=>exact .one _ _ (h.ren hf)
 | agg vs cs hl h1 h=>exact .agg _ _ (by simpa using hl) h1 (RepCs.renMap hl h hf)
 | tup vs xs hl h =>
  refine .tup _ _ (by simpa using hl) fun j u x hu hx=>?_
  rw [List.getElem?_map,Option.map_eq_some_iff] at hx
  obtain ⟨x0,hx0,rfl⟩:=hx
  exact (h j u x0 hu hx0).ren1 hf

theorem RepB.ren {p:Place} {blk:Blk} {nv:Nat} (h:RepB w β U base p blk) (hf:Fits β β' σ):RepB w β' U base (p.renum nv) (blk.ren σ nv):=by
 cases p with
 | cells b o =>
  cases blk with
  | cells cs =>
   refine ⟨by simpa using h.1,fun j c hj=>?_⟩
   rw [List.getElem?_map,Option.map_eq_some_iff] at hj
   obtain ⟨c0,hc0,rfl⟩:=hj
   obtain ⟨v,h1,h2,h3,h4⟩:=h.2 j c0 hc0
   exact ⟨v,h1,h2,h3,h4.ren hf⟩
  | mp=>exact h
  | row=>exact h.elim
  | rowT=>exact h.elim
  | junk=>exact h.elim
 | row v ver0 =>
  cases blk with
  | cells=>exact h.elim
  | mp=>exact h.elim
  | junk=>exact ⟨rfl,h.2⟩
  | row ver e sz ap fr rows=>exact ⟨rfl,h.2.1,h.2.2⟩
  | rowT ver e c ap fr xs=>exact ⟨rfl,h.2.1,h.2.2⟩

theorem zho {p:Place} {blk:Blk} {nv:Nat} {b j:Nat}:(p.renum nv).covers (blk.ren σ nv) b j↔p.covers blk b j:=by
 cases p <;> cases blk <;> simp [Place.renum,Blk.ren,Place.covers]

theorem ztz {p:Place} {nv:Nat}:(p.renum nv).block=p.block:=by cases p <;> rfl

theorem zso {kp:Bool} {s:St}:∀ (ks:List (Nat×Nat)) (m:List (Nat×Blk)),zmb kp s σ ks=some m -> ∀ k' blk',look k' m=some blk' -> ∃ k blk,(k,k')∈ks/\s.blk k=some blk/\blk'=blk.ren σ (zfn kp k blk)
 | [],m,h,k',blk',hk=>by simp [zmb] at h; subst h; simp [look] at hk
 | (k0,k0') :: r,m,h,k',blk',hk=>by
  unfold zmb at h
  split at h
  . rename_i b m' hb hm
    obtain rfl:=Option.some.inj h
    rw [zah] at hk
    split at hk
    . rename_i e
      subst e
      exact ⟨k0,b,by simp,hb,(Option.some.inj hk).symm⟩
    . obtain ⟨k,blk,h1,h2,h3⟩:=zso r m' hm k' blk' hk
      exact ⟨k,blk,by simp [h1],h2,h3⟩
  . cases h

theorem zsn {kp:Bool} {s:St}:∀ (ks:List (Nat×Nat)) (m:List (Nat×Blk)),zmb kp s σ ks=some m -> ∀ k k',(k,k')∈ks->(s.blk k).isSome=true/\(look k' m).isSome=true
 | [],m,h,k,k',hk=>by simp at hk
 | (k0,k0') :: r,m,h,k,k',hk=>by
  unfold zmb at h
  split at h
  . rename_i b m' hb hm
    obtain rfl:=Option.some.inj h
    rw [zah]
    rcases List.mem_cons.1 hk with e | e
    . cases e; exact ⟨by rw [hb]; rfl,by rw [if_pos rfl]; rfl⟩
    . obtain ⟨h1,h2⟩:=zsn r m' hm k k' e
      refine ⟨h1,?_⟩
      split
      . rfl
      . exact h2
  . cases h

theorem zc3 {α:Type} {t:Nat}:∀ {l:List (Nat×α)} {x:α},look t l=some x->(t,x)∈l
 | [],x,h=>by simp [look] at h
 | (j,v) :: r,x,h=>by
  rw [zah] at h
  split at h
  . rename_i e; subst e; cases h; simp
  . simp [zc3 h]

theorem zp6:∀ {ks:List (Nat×Nat)},zxz ks=true->(∀ k k1 k2,(k,k1)∈ks->(k,k2)∈ks->k1=k2)/\(∀ k1 k2 k',(k1,k')∈ks->(k2,k')∈ks->k1=k2)/\(∀ k k',(k,k')∈ks->look k ks=some k') /\
  ∀ k k',(k,k')∈ks->k=k'\/((k<1000000\/2000000<=k)/\(k'<1000000\/2000000<=k'))
 | [],_=>⟨fun _ _ _ h=>by simp at h,fun _ _ _ h=>by simp at h,fun _ _ h=>by simp at h,fun _ _ h=>by simp at h⟩
 | (k0,k0') :: r,h=>by
  simp only [zxz,Bool.and_eq_true,List.all_eq_true,bne_iff_ne,ne_eq,Bool.or_eq_true,beq_iff_eq,decide_eq_true_eq] at h
  obtain ⟨⟨h1,h2⟩,h3⟩:=h
  obtain ⟨i1,i2,i3,i4⟩:=zp6 h3
  refine ⟨fun k k1 k2 a b=>?_,fun k1 k2 k' a b=>?_,fun k k' a=>?_,fun k k' a=>?_⟩
  . rcases List.mem_cons.1 a with e | e <;> rcases List.mem_cons.1 b with e' | e'
    . cases e; cases e'; rfl
    . cases e; exact absurd rfl (h1 _ e').1
    . cases e'; exact absurd rfl (h1 _ e).1
    . exact i1 k k1 k2 e e'
  . rcases List.mem_cons.1 a with e | e <;> rcases List.mem_cons.1 b with e' | e'
    . cases e; cases e'; rfl
    . cases e; exact absurd rfl (h1 _ e').2
    . cases e'; exact absurd rfl (h1 _ e).2
    . exact i2 k1 k2 k' e e'
  . rw [zah]
    rcases List.mem_cons.1 a with e | e
    . cases e; rw [if_pos rfl]
    . rw [if_neg (fun q=>by subst q; exact absurd rfl (h1 _ e).1)]
      exact i3 k k' e
  . rcases List.mem_cons.1 a with e | e
    . cases e; exact h2
    . exact i4 k k' e
end

theorem Sim.norm {kp:Bool} {w0:World} {U0:Nat->Prop} {X:Nat->Nat->Prop} {β0:Nat->Option Place} {s s':St} {a:Act} {w:World} (h:Sim w0 U0 X β0 s a w) {ts:List Nat} {ks:List (Nat×Nat)} (hn:s.norm kp ts ks=some s'):Sim w0 U0 X β0 s' a w:=by
 obtain ⟨β,U,h⟩:=h
 unfold St.norm at hn
 split at hn
 case h_2=>cases hn
 rename_i m hok hm
 obtain rfl:=Option.some.inj hn
 obtain ⟨i1,i2,i3,i4⟩:=zp6 hok
 let β':Nat->Option Place:=fun k'=>match ks.find? (fun p=>p.2==k') with
  | some (k,_)=>match β k,s.blk k with
    | some p,some b=>some (p.renum (zfn kp k b))
    | _,_=>none
  | none=>none
 have hfind:∀ k k',(k,k')∈ks->ks.find? (fun p=>p.2==k')=some (k,k'):=by
  intro k k' hk
  cases hf:ks.find? (fun p=>p.2==k') with
  | none=>have:=List.find?_eq_none.1 hf (k,k') hk; simp at this
  | some q =>
    obtain ⟨q1,q2⟩:=q
    have h1:=List.mem_of_find?_eq_some hf
    have h2:q2=k':=by simpa using List.find?_some hf
    subst h2
    rw [i2 k q1 q2 hk h1]
 have hβ':∀ k k' p b,(k,k')∈ks->β k=some p->s.blk k=some b->β' k'=some (p.renum (zfn kp k b)):=by
  intro k k' p b hk hp hb
  simp only [β',hfind k k' hk,hp,hb]
 have hβi:∀ k' p',β' k'=some p' -> ∃ k p b,(k,k')∈ks/\β k=some p/\s.blk k=some b/\p'=p.renum (zfn kp k b):=by
  intro k' p' hp
  simp only [β'] at hp
  split at hp
  . rename_i k q hf
    have h1:=List.mem_of_find?_eq_some hf
    have h2:q=k':=by simpa using List.find?_some hf
    subst h2
    split at hp
    . rename_i p b e1 e2
      exact ⟨k,p,b,h1,e1,e2,(Option.some.inj hp).symm⟩
    . cases hp
  . cases hp
 have hver:∀ k p b,β k=some p->s.blk k=some b->(∃ x y,p=.cells x y) \/ ∃ v,p=.row v b.ver:=by
  intro k p b hp hb
  obtain ⟨p',hp',hr⟩:=h.mem k b hb
  rw [hp] at hp'; cases hp'
  cases p with
  | cells x y=>exact .inl ⟨x,y,rfl⟩
  | row v ver0 =>
    cases b with
    | cells=>exact hr.elim
    | mp=>exact hr.elim
    | junk=>obtain ⟨rfl,_⟩:=hr; exact .inr ⟨v,rfl⟩
    | row ver e sz ap fr rows=>obtain ⟨rfl,_⟩:=hr; exact .inr ⟨v,rfl⟩
    | rowT ver e c ap fr xs=>obtain ⟨rfl,_⟩:=hr; exact .inr ⟨v,rfl⟩
 have hfits:Fits β β' (s.sig kp ks):=by
  intro k k' cv nv hs
  unfold St.sig at hs
  split at hs
  . rename_i k1 b e1 e2
    simp only [Option.some.injEq,Prod.mk.injEq] at hs
    obtain ⟨rfl,rfl,rfl⟩:=hs
    obtain ⟨p,hp,_⟩:=h.mem k b e2
    have hb':=hβ' k k1 p b (zc3 e1) hp e2
    rcases hver k p b hp e2 with ⟨x,y,rfl⟩ | ⟨v,rfl⟩
    . exact .inl ⟨x,y,hp,hb'⟩
    . exact .inr ⟨v,hp,hb'⟩
  . cases hs
 have hblk:∀ k' blk',look k' m=some blk' -> ∃ k blk,(k,k')∈ks/\s.blk k=some blk/\blk'=blk.ren (s.sig kp ks) (zfn kp k blk):=zso ks m hm
 refine ⟨β',U,?_⟩
 exact {
  n:=h.n,small:=h.small,args:=h.args,ver0:=h.ver0,defers:=h.defers,glob:=h.glob,apart:=fun k p b hp hb=>by
    obtain ⟨k0,p0,b0,h1,h2,h3,rfl⟩:=hβi k p hp
    exact h.apart k0 p0 b h2 (by rw [ztz] at hb; exact hb)
  env:=fun t=>by
    show RepV w β' U w0.heap.size (a.tmps.getD t undef) ((look t (ts.map fun t=>(t,(s.get t).ren (s.sig kp ks)))).getD (.one .bad))
    cases hl:look t (ts.map fun t=>(t,(s.get t).ren (s.sig kp ks))) with
    | none=>exact .bad _
    | some x =>
      have:=zc3 hl
      rw [List.mem_map] at this
      obtain ⟨t',_,e⟩:=this
      cases e
      exact (h.env t).ren hfits
  mem:=fun k' blk' hk'=>by
    obtain ⟨k,blk,h1,h2,rfl⟩:=hblk k' blk' hk'
    obtain ⟨p,hp,hr⟩:=h.mem k blk h2
    exact ⟨_,hβ' k k' p blk h1 hp h2,hr.ren hfits⟩
  dom:=fun k' p' hp=>by
    obtain ⟨k,p,b,h1,_⟩:=hβi k' p' hp
    exact (zsn ks m hm k k' h1).2
  inj:=fun k1 k2 p1 p2 b1 b2 b j hne hp1 hp2 hb1 hb2 hc1 hc2=>by
    obtain ⟨q1,x1,y1,m1,z1,u1,rfl⟩:=hβi k1 p1 hp1
    obtain ⟨q2,x2,y2,m2,z2,u2,rfl⟩:=hβi k2 p2 hp2
    obtain ⟨q1',y1',n1,u1',rfl⟩:=hblk k1 b1 hb1
    obtain ⟨q2',y2',n2,u2',rfl⟩:=hblk k2 b2 hb2
    obtain rfl:=i2 q1 q1' k1 m1 n1
    obtain rfl:=i2 q2 q2' k2 m2 n2
    rw [u1] at u1'; cases u1'
    rw [u2] at u2'; cases u2'
    have hq:q1≠q2:=fun e=>by subst e; exact hne (i1 q1 k1 k2 m1 m2)
    exact h.inj q1 q2 x1 x2 y1 y2 b j hq z1 z2 u1 u2 (zho.1 hc1) (zho.1 hc2)
  stab:=h.stab,old:=h.old,new:=h.new,chg:=h.chg
  may:=fun k p blk b j hp hb hc hlt=>by
    obtain ⟨q1,x1,y1,m1,z1,u1,rfl⟩:=hβi k p hp
    obtain ⟨q1',y1',n1,u1',rfl⟩:=hblk k blk hb
    obtain rfl:=i2 q1 q1' k m1 n1
    rw [u1] at u1'; cases u1'
    exact h.may q1 x1 y1 b j z1 u1 (zho.1 hc) hlt
  hist:=fun k p hp hb=>by
    obtain ⟨blk',hblk'⟩:=Option.isSome_iff_exists.1 hb
    obtain ⟨q,y,hq,hy,rfl⟩:=hblk k blk' hblk'
    have hk:1000000<=k/\k<2000000:=by
      by_cases e:k<1000000\/2000000<=k
      . rw [h.args k e] at hp; cases hp
      . omega
    have hqk:q=k:=by
      rcases i4 q k hq with e | ⟨_,e⟩
      . exact e
      . omega
    subst hqk
    obtain ⟨p1,hp1,_⟩:=h.mem q y hy
    have hb1:=hβ' q q p1 y hq hp1 hy
    cases kp with
    | true =>
      have hnv:zfn true q y=y.ver:=by unfold zfn; rw [if_pos hk]
      have hsame:p1.renum (zfn true q y)=p1:=by
        rw [hnv]
        rcases hver q p1 y hp1 hy with ⟨x,z,rfl⟩ | ⟨v,rfl⟩ <;> rfl
      rw [hsame] at hb1
      rcases h.hist q p hp (by rw [hy]; rfl) with e | ⟨v0,ver0,v1,ver1,e1,e2,e3⟩
      . left; rw [hb1]; rw [hp1] at e; exact e
      . right; rw [hp1] at e2; exact ⟨v0,ver0,v1,ver1,e1,by rw [hb1]; exact e2,e3⟩
    | false =>
      by_cases hz:1500000<=q/\y.ver=0
      . have hnv:zfn false q y=y.ver:=by unfold zfn; rw [if_pos hk]; simp only; rw [if_pos hz,hz.2]
        have hsame:p1.renum (zfn false q y)=p1:=by
          rw [hnv]
          rcases hver q p1 y hp1 hy with ⟨x,z,rfl⟩ | ⟨v,rfl⟩ <;> rfl
        rw [hsame] at hb1
        rcases h.hist q p hp (by rw [hy]; rfl) with e | ⟨v0,ver0,v1,ver1,e1,e2,e3⟩
        . left; rw [hb1]; rw [hp1] at e; exact e
        . right; rw [hp1] at e2; exact ⟨v0,ver0,v1,ver1,e1,by rw [hb1]; exact e2,e3⟩
      have hnv:zfn false q y=1:=by unfold zfn; rw [if_pos hk]; simp only; rw [if_neg hz]
      rw [hnv] at hb1
      rcases h.hist q p hp (by rw [hy]; rfl) with e | ⟨v0,ver0,v1,ver1,e1,e2,e3⟩
      . rw [hp1] at e
        have e2:=Option.some.inj e
        rw [e2] at hb1
        cases p with
        | cells x z=>left; exact hb1
        | row v ver =>
          have:=h.ver0 q v ver hp
          exact .inr ⟨v,ver,v,1,rfl,hb1,by omega⟩
      . rw [hp1] at e2
        rw [Option.some.inj e2] at hb1
        subst e1
        have:=h.ver0 q v0 ver0 hp
        exact .inr ⟨v0,ver0,v1,1,rfl,hb1,by omega⟩ }

end Go.Proofs.YthkhikdglmaiaaaGreatDoor.Abs
namespace Go.Proofs.YthkhikdglmaiaaaGreatDoor.Abs
open Go Go.RowKit
set_option linter.unusedVariables false

def zby:Nat->List V->List (Nat×V)
 | _,[]=>[]
 | i,x :: r=>(i,x) :: zby (i+1) r

def ACall (P:Program) (f:FuncId) (args:List V) (m:List (Nat×Blk)) (K:V->List (Nat×Blk)->Prop):Prop :=
 ∀ (w:World) (U0:Nat->Prop) (X:Nat->Nat->Prop) (β0:Nat->Option Place) (us:Array Value),SimB w U0 X β0 β0 U0 ⟨args.length,zby 0 args,m⟩ ⟨us,[]⟩ w ->
  Calls P f us w fun e w'=>∃ v r m',e=.returned v/\K r m'/\Sim w U0 X β0 ⟨1,[(0,r)],m'⟩ ⟨#[v],[]⟩ w'


def zcy (m:Nat->Option Blk) (ks:List (Nat×Nat)):Ren:=fun k=>match look k ks,m k with
 | some q,some b=>some (q,b.ver,0)
 | _,_=>none

def zmw (m:Nat->Option Blk) (σ:Ren) (lock:Bool):C->C
 | .f x=>.d x
 | .own k ver len=>match σ k with
  | some (q,cv,nv)=>if ver=cv then .own q nv len else .bad
  | none=>match lock,m k with
   | true,some (.row ver' _ sz _ _ rows)=>if ver=ver' then .d (.sl sz rows) else .bad
   | true,some (.rowT ver' _ c _ _ xs)=>if ver=ver' then .d (.st c xs) else .bad
   | _,_=>.bad
 | .sub k ver sz off len=>match σ k with
  | some (q,cv,nv)=>if ver=cv then .sub q nv sz off len else .bad
  | none=>match lock,m k with
   | true,some (.row ver' _ sz' _ _ rows)=>if ver=ver'/\sz=sz'/\off+len<=rows.length then .d (.sl sz ((rows.drop off).take len)) else .bad
   | true,some (.rowT ver' _ c _ _ xs)=>if ver=ver'/\sz=esz c/\off+len<=xs.length then .d (.st c ((xs.drop off).take len)) else .bad
   | _,_=>.bad
 | .ptr k off=>match σ k with
  | some (q,_,_)=>.ptr q off
  | none=>.bad
 | .pr k ver sz i off=>match σ k with
  | some (q,cv,nv)=>if ver=cv then .pr q nv sz i off else .bad
  | none=>match lock,m k with
   | true,some (.row ver' _ sz' _ _ rows)=>if ver=ver'/\sz=sz' then match rows[i]? with
    | some r=>.pv (r.drop off)
    | none=>.bad
    else .bad
   | _,_=>.bad
 | .asl _ _ _=>.bad
 | .mp _=>.bad
 | .clp f ks=>match zzv σ ks with | some l=>.clp f l | none=>.bad
 | .pre k ver sz len=>match σ k with
  | some (q,cv,nv)=>if ver=cv then .pre q nv sz len else .bad
  | none=>match lock,m k with
   | true,some (.rowT ver' _ c _ _ xs)=>if ver=ver' then .d (.st c (xs.take len)) else .bad
   | _,_=>.bad
 | .nn x=>.d x
 | c=>c
def zt6 (m:Nat->Option Blk) (σ:Ren) (lock:Bool):V->V
 | .one c=>.one (zmw m σ lock c)
 | .agg cs=>.agg (cs.map (zmw m σ lock))
 | .tup _=>.one .bad
def zt7 (m:Nat->Option Blk) (σ:Ren) (lock:Bool):Blk->Blk
 | .cells cs=>.cells (cs.map (zmw m σ lock))
 | .row _ e sz ap _ rows=>.row 0 e sz ap false rows
 | .rowT _ e c ap _ xs=>.rowT 0 e c ap (zn0 c) xs
 | .mp kt es=>.mp kt es
 | .junk _ e sz len N=>.junk 0 e sz len N
def zc4 (m:Nat->Option Blk) (σ:Ren) (lock:Bool):List (Nat×Nat)->Option (List (Nat×Blk))
 | []=>some []
 | (k,q) :: r=>match m k,zc4 m σ lock r with
  | some b,some l=>some ((q,zt7 m σ lock b) :: l)
  | _,_=>none

def WkC (c c':C):Prop:=c'=c\/c'=.bad\/(c=.nil/\((∃ sz,c'=.d (.sl sz []))\/(∃ q,c'=.d (.st q [])) \/ ∃ q,c'=.f (.st q []))) \/ ∃ x,c=.f x/\c'=.d x
def WkCs:List C->List C->Prop
 | [],[]=>True
 | c :: r,c' :: r'=>WkC c c'/\WkCs r r'
 | _,_=>False
def WkV:V->V->Prop
 | .one c,.one c'=>WkC c c'
 | .agg cs,.agg cs'=>WkCs cs cs'
 | x,y=>x=y
def WkVs:List V->List V->Prop
 | [],[]=>True
 | x :: r,y :: r'=>WkV x y/\WkVs r r'
 | _,_=>False
def WkB:Blk->Blk->Prop
 | .cells cs,.cells cs'=>WkCs cs cs'
 | x,y=>x=y
def WkM:List (Nat×Blk)->List (Nat×Blk)->Prop
 | [],[]=>True
 | (k,b) :: r,(k',b') :: r'=>k=k'/\WkB b b'/\WkM r r'
 | _,_=>False

def C.safe:C->Bool
 | .d x=>x.flat
 | .pv _=>false
 | .clo _ caps=>caps.isEmpty
 | .nn _=>false
 | _=>true
def V.safe1:V->Bool
 | .one c=>c.safe
 | .agg cs=>cs.all C.safe
 | .tup _=>false
def V.safe:V->Bool
 | .tup vs=>vs.all V.safe1
 | .one c=>c.safe
 | .agg cs=>cs.all C.safe
def Blk.safe:Blk->Bool
 | .cells cs=>cs.all C.safe
 | .row _ _ _ _ fr _=>fr
 | .rowT _ _ _ _ fr _=>fr
 | .mp _ _=>true
 | .junk _ _ _ _ _=>true

def zld (s:St) (ks:List (Nat×Nat)) (d:Option Nat) (m0:List (Nat×Blk)):Ren:=fun q=>match look q m0 with
 | none=>none
 | some b=>match ks.find? (fun p=>p.2==q) with
  | some (k,_)=>match s.blk k with
   | some bk=>(match bk.isRow with
    | true=>some (k,b.ver,if b.ver=0 then bk.ver else bk.ver+1)
    | false=>some (k,b.ver,0))
   | none=>none
  | none=>match d with
   | some d=>if 2000000<=q/\q<2001000 then some (1000*(d+1)+(q-2000000),b.ver,b.ver) else none
   | none=>none
def zp5 (σ:Ren):List (Nat×Blk)->Option (List (Nat×Blk))
 | []=>some []
 | (q,b) :: r=>match σ q,zp5 σ r with
  | some (k,_,nv),some m=>some ((k,b.ren σ nv) :: m)
  | _,_=>none
def okKs:List (Nat×Nat)->Bool
 | []=>true
 | (k,q) :: r=>r.all (fun p=>p.1 != k&&p.2 != q)&&decide (1000000<=q)&&decide (q<2000000)&&okKs r
def zno:List (Nat×Blk)->Bool
 | []=>true
 | (q,_) :: r=>r.all (fun p=>p.1 != q)&&zno r
def zj5 (s:St) (ks:List (Nat×Nat)) (d:Option Nat) (m0:List (Nat×Blk)):Bool :=
 m0.all fun p=>ks.any (fun z=>z.2==p.1) || (match d with | some d=>(s.blk (1000*(d+1)+(p.1-2000000))).isNone | none=>false)
def zki (s:St) (ks:List (Nat×Nat)) (lock:Bool) (d:Option Nat) (r0:V) (m0:List (Nat×Blk)):Option Out :=
 match okKs ks&&ks.all (fun p=>(look p.2 m0).isSome)&&zno m0&&zj5 s ks d m0&&(!lock || (r0.safe&&m0.all fun p=>p.2.safe)),zp5 (zld s ks d m0) m0 with
 | true,some m=>some ⟨r0.ren (zld s ks d m0),m⟩
 | _,_=>none
end Go.Proofs.YthkhikdglmaiaaaGreatDoor.Abs
namespace Go.Proofs.YthkhikdglmaiaaaGreatDoor.Abs
open Go Go.RowKit
set_option linter.unusedVariables false

theorem zj1:∀ (xs:List V) (i t:Nat),look t (zby i xs)=if i<=t then xs[t-i]? else none
 | [],i,t=>by simp [zby,look]
 | x :: r,i,t=>by
  rw [zby,zah,zj1 r (i+1) t]
  by_cases h1:i=t
  . subst h1; simp
  . rw [if_neg h1]
    by_cases h2:i+1<=t
    . rw [if_pos h2,if_pos (by omega),show t-i=(t-(i+1))+1 by omega]; simp
    . rw [if_neg h2,if_neg (by omega)]

theorem znm:∀ {ks:List (Nat×Nat)},okKs ks=true->(∀ k q1 q2,(k,q1)∈ks->(k,q2)∈ks->q1=q2)/\(∀ k1 k2 q,(k1,q)∈ks->(k2,q)∈ks->k1=k2)/\(∀ k q,(k,q)∈ks->look k ks=some q) /\
  (∀ k q,(k,q)∈ks->1000000<=q/\q<2000000)
 | [],_=>⟨fun _ _ _ h=>by simp at h,fun _ _ _ h=>by simp at h,fun _ _ h=>by simp at h,fun _ _ h=>by simp at h⟩
 | (k0,q0) :: r,h=>by
  simp only [okKs,Bool.and_eq_true,List.all_eq_true,bne_iff_ne,ne_eq,decide_eq_true_eq] at h
  obtain ⟨⟨⟨h1,h2⟩,h3⟩,h4⟩:=h
  obtain ⟨i1,i2,i3,i4⟩:=znm h4
  refine ⟨fun k k1 k2 a b=>?_,fun k1 k2 k' a b=>?_,fun k k' a=>?_,fun k k' a=>?_⟩
  . rcases List.mem_cons.1 a with e | e <;> rcases List.mem_cons.1 b with e' | e'
    . cases e; cases e'; rfl
    . cases e; exact absurd rfl (h1 _ e').1
    . cases e'; exact absurd rfl (h1 _ e).1
    . exact i1 k k1 k2 e e'
  . rcases List.mem_cons.1 a with e | e <;> rcases List.mem_cons.1 b with e' | e'
    . cases e; cases e'; rfl
    . cases e; exact absurd rfl (h1 _ e').2
    . cases e'; exact absurd rfl (h1 _ e).2
    . exact i2 k1 k2 k' e e'
  . rw [zah]
    rcases List.mem_cons.1 a with e | e
    . cases e; rw [if_pos rfl]
    . rw [if_neg (fun q=>by subst q; exact absurd rfl (h1 _ e).1)]
      exact i3 k k' e
  . rcases List.mem_cons.1 a with e | e
    . cases e; exact ⟨h2,h3⟩
    . exact i4 k k' e

theorem zb0b {ks:List (Nat×Nat)} (h:okKs ks=true) {k q:Nat} (hk:(k,q)∈ks):ks.find? (fun p=>p.2==q)=some (k,q):=by
 cases hf:ks.find? (fun p=>p.2==q) with
 | none=>have:=List.find?_eq_none.1 hf (k,q) hk; simp at this
 | some z =>
  obtain ⟨z1,z2⟩:=z
  have h1:=List.mem_of_find?_eq_some hf
  have h2:z2=q:=by simpa using List.find?_some hf
  subst h2
  rw [(znm h).2.1 k z1 z2 hk h1]

theorem z5t {ks:List (Nat×Nat)} {q k z:Nat} (hf:ks.find? (fun p=>p.2==q)=some (k,z)):(k,q)∈ks/\z=q:=by
 have h1:=List.mem_of_find?_eq_some hf
 have h2:z=q:=by simpa using List.find?_some hf
 subst h2
 exact ⟨h1,rfl⟩

section
variable {P:Program} {w0:World} {U0:Nat->Prop} {X:Nat->Nat->Prop} {β0 β:Nat->Option Place} {U:Nat->Prop} {s:St} {a:Act} {w:World}

def UL (β:Nat->Option Place) (U:Nat->Prop) (ks:List (Nat×Nat)) (lock:Bool) (b:Nat):Prop:=U b\/(lock=true /\ ∃ k v ver,β k=some (.row v ver)/\look k ks=none/\v.ownBlock=some b)
def βL (β:Nat->Option Place) (ks:List (Nat×Nat)) (q:Nat):Option Place :=
 match ks.find? (fun p=>p.2==q) with
 | some (k,_)=>(β k).map (Place.renum 0)
 | none=>none
def XL (β:Nat->Option Place) (s:St) (ks:List (Nat×Nat)) (b j:Nat):Prop:=∃ k q p blk,(k,q)∈ks/\β k=some p/\s.blk k=some blk/\p.covers blk b j

theorem zfkb {ks:List (Nat×Nat)} (hok:okKs ks=true) {k q:Nat} {p:Place} (hk:(k,q)∈ks) (hp:β k=some p):βL β ks q=some (p.renum 0):=by
 unfold βL; rw [zb0b hok hk]; simp [hp]
theorem zrc {ks:List (Nat×Nat)} {q:Nat} {p':Place} (h:βL β ks q=some p'):∃ k p,(k,q)∈ks/\β k=some p/\p'=p.renum 0:=by
 unfold βL at h
 split at h
 . rename_i k z hf
   obtain ⟨h1,rfl⟩:=z5t hf
   rw [Option.map_eq_some_iff] at h
   obtain ⟨p,hp,rfl⟩:=h
   exact ⟨k,p,h1,hp,rfl⟩
 . cases h

theorem SimB.verOf (h:SimB w0 U0 X β0 β U s a w) {k:Nat} {p:Place} {b:Blk} (hp:β k=some p) (hb:s.blk k=some b):(∃ x y,p=.cells x y/\b.isRow=false) \/ ∃ v,p=.row v b.ver/\b.isRow=true:=by
 obtain ⟨p',hp',hr⟩:=h.mem k b hb
 rw [hp] at hp'; cases hp'
 cases p with
 | cells x y =>
  cases b with
  | cells cs=>exact .inl ⟨x,y,rfl,rfl⟩
  | mp=>exact .inl ⟨x,y,rfl,rfl⟩
  | row=>exact hr.elim
  | rowT=>exact hr.elim
  | junk=>exact hr.elim
 | row v ver0 =>
  cases b with
  | cells=>exact hr.elim
  | mp=>exact hr.elim
  | junk=>obtain ⟨rfl,_⟩:=hr; exact .inr ⟨v,rfl,rfl⟩
  | row ver e sz ap fr rows=>obtain ⟨rfl,_⟩:=hr; exact .inr ⟨v,rfl,rfl⟩
  | rowT ver e c ap fr xs=>obtain ⟨rfl,_⟩:=hr; exact .inr ⟨v,rfl,rfl⟩

theorem z67 (h:SimB w0 U0 X β0 β U s a w) {ks:List (Nat×Nat)} (hok:okKs ks=true):Fits β (βL β ks) (zcy s.blk ks):=by
 intro k q cv nv hs
 unfold zcy at hs
 split at hs
 . rename_i q' b e1 e2
   simp only [Option.some.injEq,Prod.mk.injEq] at hs
   obtain ⟨rfl,rfl,rfl⟩:=hs
   obtain ⟨p,hp,_⟩:=h.mem k b e2
   have hb':=zfkb hok (zc3 e1) hp
   rcases h.verOf hp e2 with ⟨x,y,rfl,_⟩ | ⟨v,rfl,_⟩
   . exact .inl ⟨x,y,hp,hb'⟩
   . exact .inr ⟨v,hp,hb'⟩
 . cases hs

theorem zg7 {UU:Nat->Prop} {g off len cap sz:Nat} {rows:List (List D)} (hg:UU g) (hlen:∀ r∈rows,r.length=sz) (hle:off+len<=rows.length) (hcap:len<=cap)
  (hc:∀ (i j:Nat) (r:List D) (d:D),rows[i]?=some r->r[j]?=some d -> ∃ u,w.cell? ⟨g,i*sz+j,none⟩=some u/\RepI w UU u d) :
  RepI w UU (.slice (some ⟨g,off*sz,none⟩) len cap) (.sl sz ((rows.drop off).take len)):=by
 have hl:((rows.drop off).take len).length=len:=by simp; omega
 have:=RepI.sl (w:=w) (U:=UU) g (off*sz) cap sz ((rows.drop off).take len) (fun i j=>(w.cell? ⟨g,off*sz+i*sz+j,none⟩).getD undef) hg
  (fun r hr=>hlen r (List.mem_of_mem_drop (List.mem_of_mem_take hr))) (by rw [hl]; exact hcap)
  (fun i j r d hi hj=>by
   rw [List.getElem?_take] at hi
   split at hi
   . rw [List.getElem?_drop] at hi
     obtain ⟨u,h1,_⟩:=hc (off+i) j r d hi hj
     rw [show off*sz+i*sz+j=(off+i)*sz+j by rw [Nat.add_mul]]
     rw [h1]; rfl
   . cases hi)
  (fun i j r d hi hj=>by
   rw [List.getElem?_take] at hi
   split at hi
   . rw [List.getElem?_drop] at hi
     obtain ⟨u,h1,h2⟩:=hc (off+i) j r d hi hj
     rw [show off*sz+i*sz+j=(off+i)*sz+j by rw [Nat.add_mul],h1]
     exact h2
   . cases hi)
 rw [hl] at this
 exact this

theorem zri (h : SimB w0 U0 X β0 β U s a w) {ks : List (Nat × Nat)} (hok : okKs ks = true) {lock : Bool} {base : Nat} {v : Value} {c : C} (hc : RepC w β U w0.heap.size v c) : RepC w (βL β ks) (UL β U ks lock) base v (zmw s.blk (zcy s.blk ks) lock c) := by
 have hU : ∀ b, U b -> UL β U ks lock b := fun b hb => .inl hb
 have hf := z67 h hok
 -- the row of a key that is not handed over
 have cells : ∀ {k : Nat} {v0 : Value} {ver : Nat} {e : TypeId} {sz : Nat} {ap fr : Bool} {rows : List (List D)}, lock = true -> zcy s.blk ks k = none -> (s.blk k).map Blk.std = some (.row ver e sz ap fr rows) -> β k = some (.row v0 ver) -> ∀ g n c, v0 = .slice (some ⟨g, 0, none⟩) n c ->
    UL β U ks lock g /\ n = rows.length /\ (∀ r ∈ rows, r.length = sz) /\ ∀ (i j : Nat) (r : List D) (d : D), rows[i]? = some r -> r[j]? = some d -> ∃ u, w.cell? ⟨g, i * sz + j, none⟩ = some u /\ RepI w (UL β U ks lock) u d := by
  intro k v0 ver e sz ap fr rows hlk hs hb hk g n c hv
  have hnk : look k ks = none := by
    unfold zcy at hs
    split at hs
    . cases hs
    . rename_i hno
      cases hl : look k ks with
      | none => rfl
      | some q => obtain ⟨b0, hb0, _⟩ := Option.map_eq_some_iff.1 hb; exact (hno q _ hl hb0).elim
  obtain ⟨q1, q2, q3⟩ := h.placeStd hb hk
  subst hv
  refine ⟨.inr ⟨hlk, k, _, ver, hk, hnk, rfl⟩, ?_⟩
  rcases q3 with ⟨e1, _⟩ | ⟨g', cap', cur, fz, e1, hg, h3, h4, h5, h6, h7, h8⟩
  . cases e1
  . cases e1
    refine ⟨rfl, q2, fun i j r d hi hj => ?_⟩
    obtain ⟨u, k1, k2, k3⟩ := h8 i j r d hi hj
    exact ⟨u, by simp only [World.cell?, hg]; simpa using k1, k3.mono (fun b hb => hU b hb.1) (fun _ _ => rfl)⟩
 cases c with
 | d x => exact RepI.mono hc hU (fun _ _ => rfl)
 | f x => exact RepI.mono (U := fun b => U b /\ w0.heap.size <= b) hc (fun b hb => hU b hb.1) (fun _ _ => rfl)
 | mp k => exact trivial
 | nil => exact hc
 | own k ver len =>
  simp only [zmw]
  split
  . rename_i q cv nv hs
    have := RepC.ren hc hf
    simp only [C.ren, hs] at this
    have t2 := this
    split
    . rename_i hv; rw [if_pos hv] at t2
      exact (RepC.map t2 hU (fun _ _ => rfl) (Evo.refl _))
    . trivial
  . rename_i hs
    split
    . rename_i ver' e sz ap fr rows hb
      split
      . rename_i hv
        have hb' : (s.blk k).map Blk.std = some (.row ver' e sz ap fr rows) := by rw [hb]; rfl
        subst hv
        obtain ⟨ao, cap, v0, ver0, rfl, hlc, hn0, hs0, hk, hv1, hv2⟩ := hc
        obtain ⟨q1, q2, q3⟩ := h.placeStd hb' hk
        subst q1
        obtain rfl := hv2 rfl
        cases ao with
        | none =>
          obtain ⟨rfl, rfl⟩ := hn0 rfl
          rcases q3 with ⟨_, rfl⟩ | ⟨g', cap', cur, fz, e1, _⟩
          . exact .nil _ _ _ (fun _ => rfl)
          . cases e1
        | some ad =>
          obtain ⟨g, rfl⟩ := hs0 ad rfl
          obtain ⟨c1, c2, c3, c4⟩ := cells rfl hs hb' hk g _ _ rfl
          have := zg7 (w := w) (UU := UL β U ks true) (off := 0) (len := rows.length) (cap := cap) c1 c3 (by omega) (by omega) c4
          show RepI w (UL β U ks true) _ (.sl sz rows)
          simpa [c2] using this
      . trivial
    . rename_i ver' e c' ap fr xs hb
      split
      . rename_i hv
        subst hv
        have hb' : (s.blk k).map Blk.std = some (.row ver e (esz c') ap fr (xs.map (enc c'))) := by rw [hb]; rfl
        refine RepI.toSt ?_
        show RepI w (UL β U ks true) _ (.sl (esz c') (xs.map (enc c')))
        generalize xs.map (enc c') = rows at hb'
        generalize esz c' = sz at hb'
        obtain ⟨ao, cap, v0, ver0, rfl, hlc, hn0, hs0, hk, hv1, hv2⟩ := hc
        obtain ⟨q1, q2, q3⟩ := h.placeStd hb' hk
        subst q1
        obtain rfl := hv2 rfl
        cases ao with
        | none =>
          obtain ⟨rfl, rfl⟩ := hn0 rfl
          rcases q3 with ⟨_, rfl⟩ | ⟨g', cap', cur, fz, e1, _⟩
          . exact .nil _ _ _ (fun _ => rfl)
          . cases e1
        | some ad =>
          obtain ⟨g, rfl⟩ := hs0 ad rfl
          obtain ⟨c1, c2, c3, c4⟩ := cells rfl hs hb' hk g _ _ rfl
          have := zg7 (w := w) (UU := UL β U ks true) (off := 0) (len := rows.length) (cap := cap) c1 c3 (by omega) (by omega) c4
          show RepI w (UL β U ks true) _ (.sl sz rows)
          simpa [c2] using this
      . trivial
    . trivial
 | sub k ver sz off len =>
  simp only [zmw]
  split
  . rename_i q cv nv hs
    have := RepC.ren hc hf
    simp only [C.ren, hs] at this
    have t2 := this
    split
    . rename_i hv; rw [if_pos hv] at t2
      exact (RepC.map t2 hU (fun _ _ => rfl) (Evo.refl _))
    . trivial
  . rename_i hs
    split
    . rename_i ver' e sz' ap fr rows hb
      split
      . rename_i hv
        obtain ⟨rfl, rfl, hle⟩ := hv
        have hb' : (s.blk k).map Blk.std = some (.row ver e sz ap fr rows) := by rw [hb]; rfl
        obtain ⟨ao, cap, v0, ver0, rfl, hlc, hn0, hk, hv1, hv2⟩ := hc
        obtain ⟨q1, q2, q3⟩ := h.placeStd hb' hk
        subst q1
        by_cases hz : len = 0
        . subst hz
          have : (rows.drop off).take 0 = [] := by simp
          rw [this]
          exact .nil _ _ _ (fun e => (hn0 e).2)
        . obtain ⟨g, n, c, rfl, rfl⟩ := hv2 rfl (by omega)
          obtain ⟨c1, c2, c3, c4⟩ := cells rfl hs hb' hk g _ _ rfl
          exact zg7 c1 c3 hle hlc c4
      . trivial
    . rename_i ver' e c' ap fr xs hb
      split
      . rename_i hv
        obtain ⟨rfl, rfl, hle⟩ := hv
        have hb' : (s.blk k).map Blk.std = some (.row ver e (esz c') ap fr (xs.map (enc c'))) := by rw [hb]; rfl
        refine RepI.toSt ?_
        rw [List.map_take, List.map_drop]
        replace hle : off + len <= (xs.map (enc c')).length := by simpa using hle
        generalize xs.map (enc c') = rows at hb' hle ⊢
        generalize esz c' = sz at hb' hc ⊢
        obtain ⟨ao, cap, v0, ver0, rfl, hlc, hn0, hk, hv1, hv2⟩ := hc
        obtain ⟨q1, q2, q3⟩ := h.placeStd hb' hk
        subst q1
        by_cases hz : len = 0
        . subst hz
          have : (rows.drop off).take 0 = [] := by simp
          rw [this]
          exact .nil _ _ _ (fun e => (hn0 e).2)
        . obtain ⟨g, n, c, rfl, rfl⟩ := hv2 rfl (by omega)
          obtain ⟨c1, c2, c3, c4⟩ := cells rfl hs hb' hk g _ _ rfl
          exact zg7 c1 c3 hle hlc c4
      . trivial
    . trivial
 | asl k off len => trivial
 | nn x => exact RepI.mono hc.1 hU (fun _ _ => rfl)
 | pre k ver sz len =>
  simp only [zmw]
  split
  . rename_i q cv nv hs
    have := RepC.ren hc hf
    simp only [C.ren, hs] at this
    have t2 := this
    split
    . rename_i hv; rw [if_pos hv] at t2
      exact (RepC.map t2 hU (fun _ _ => rfl) (Evo.refl _))
    . trivial
  . rename_i hs
    split
    . rename_i ver' e c' ap fr xs hb
      split
      . rename_i hv
        subst hv
        have hb' : (s.blk k).map Blk.std = some (.row ver e (esz c') ap fr (xs.map (enc c'))) := by rw [hb]; rfl
        refine RepI.toSt ?_
        rw [List.map_take]
        generalize xs.map (enc c') = rows at hb' ⊢
        generalize esz c' = sz at hb' ⊢
        obtain ⟨ao, cap, v0, ver0, rfl, hlc, hn0, hk, hv1, hv2⟩ := hc
        obtain ⟨q1, q2, q3⟩ := h.placeStd hb' hk
        subst q1
        obtain ⟨n, rfl, hln⟩ := hv2 rfl
        by_cases hz : len = 0
        . subst hz
          exact .nil _ _ _ (fun e => (hn0 e).2)
        . rcases q3 with ⟨e1, _⟩ | ⟨g', cap', cur, fz, e1, _⟩
          . cases e1; omega
          . cases e1
            obtain ⟨c1, c2, c3, c4⟩ := cells rfl hs hb' hk g' _ _ rfl
            have := zg7 (w := w) (UU := UL β U ks true) (off := 0) (len := len) (cap := cap) c1 c3 (by omega) hlc c4
            show RepI w (UL β U ks true) _ (.sl sz (rows.take len))
            simpa using this
      . trivial
    . trivial
 | ptr k off =>
  simp only [zmw]
  split
  . rename_i q cv nv hs
    have := RepC.ren hc hf
    simp only [C.ren, hs] at this
    exact this
  . trivial
 | pr k ver sz i off =>
  simp only [zmw]
  split
  . rename_i q cv nv hs
    have := RepC.ren hc hf
    simp only [C.ren, hs] at this
    have t2 := this
    split
    . rename_i hv; rw [if_pos hv] at t2
      exact (RepC.map t2 hU (fun _ _ => rfl) (Evo.refl _))
    . trivial
  . rename_i hs
    split
    . rename_i ver' e sz' ap fr rows hb
      split
      . rename_i hv
        obtain ⟨rfl, rfl⟩ := hv
        split
        . rename_i r hr
          obtain ⟨ad, v0, ver0, rfl, hk, hv1, hv2⟩ := hc
          have hb' : (s.blk k).map Blk.std = some (.row ver e sz ap fr rows) := by rw [hb]; rfl
          obtain ⟨q1, q2, q3⟩ := h.placeStd hb' hk
          subst q1
          obtain ⟨g, n, c, rfl, rfl⟩ := hv2 rfl
          obtain ⟨c1, c2, c3, c4⟩ := cells rfl hs hb' hk g _ _ rfl
          refine ⟨g, i * sz + off, fun j => (w.cell? ⟨g, i * sz + off + j, none⟩).getD undef, rfl, c1, fun j d hj => ?_⟩
          rw [List.getElem?_drop] at hj
          obtain ⟨u, k1, k2⟩ := c4 i (off + j) r d hr hj
          show w.cell? ⟨g, i * sz + off + j, none⟩ = some ((w.cell? ⟨g, i * sz + off + j, none⟩).getD undef) /\ RepI w (UL β U ks true) ((w.cell? ⟨g, i * sz + off + j, none⟩).getD undef) d
          rw [Nat.add_assoc, k1]
          exact ⟨rfl, k2⟩
        . trivial
      . trivial
    . trivial
 | pv cells => exact RepC.map hc hU (fun _ _ => rfl) (Evo.refl _)
 | clo f caps => obtain ⟨us, h1, h2, h3⟩ := hc; exact ⟨us, h1, h2, fun j u d hu hd => (h3 j u d hu hd).mono hU (fun _ _ => rfl)⟩
 | clp f ks' =>
  have := RepC.ren hc hf
  simp only [C.ren] at this
  simp only [zmw]
  split
  . rename_i l hl
    rw [hl] at this
    exact RepC.map this hU (fun _ _ => rfl) (Evo.refl _)
  . trivial
 | un => exact hc
 | bad => trivial

theorem RepC.wk {β U} {base:Nat} {v:Value} {c c':C} (h:RepC w β U base v c) (hw:WkC c c'):RepC w β U base v c':=by
 rcases hw with rfl | rfl | ⟨rfl,⟨sz,rfl⟩ | ⟨q,rfl⟩ | ⟨q,rfl⟩⟩ | ⟨x,rfl,rfl⟩
 . exact h
 . trivial
 . have:v=.slice none 0 0:=h
   subst this
   exact .nil _ _ _ (fun _=>rfl)
 . have:v=.slice none 0 0:=h
   subst this
   exact .st _ _ _ (.nil _ _ _ (fun _=>rfl)) rfl
 . have:v=.slice none 0 0:=h
   subst this
   exact .st _ _ _ (.nil _ _ _ (fun _=>rfl)) rfl
 . exact RepI.mono (U:=fun b=>U b/\base<=b) h (fun _ hb=>hb.1) (fun _ _=>rfl)

theorem zra:∀ {cs cs':List C},WkCs cs cs'->cs.length=cs'.length /\ ∀ (j:Nat) (c c':C),cs[j]?=some c->cs'[j]?=some c'->WkC c c'
 | [],[],_=>⟨rfl,fun j c c' h=>by simp at h⟩
 | c :: r,c' :: r',h=>by
  obtain ⟨h1,h2⟩:=h
  obtain ⟨i1,i2⟩:=zra h2
  refine ⟨by simp [i1],fun j x x' hx hx'=>?_⟩
  cases j with
  | zero=>simp at hx hx'; subst hx; subst hx'; exact h1
  | succ j=>exact i2 j x x' (by simpa using hx) (by simpa using hx')
 | [],_ :: _,h=>h.elim
 | _ :: _,[],h=>h.elim

theorem RepV.wk {β U} {base:Nat} {v:Value} {x y:V} (h:RepV w β U base v x) (hw:WkV x y):RepV w β U base v y:=by
 cases h with
 | one v c h =>
  cases y with
  | one c'=>exact .one _ _ (h.wk hw)
  | agg=>cases hw
  | tup=>cases hw
 | agg vs cs hl h1 h =>
  cases y with
  | agg cs' =>
   obtain ⟨i1,i2⟩:=zra (show WkCs cs cs' from hw)
   refine .agg _ _ (by omega) h1 fun j u c' hu hc'=>?_
   have hj:j<cs.length:=by have:=(List.getElem?_eq_some_iff.1 hc').1; omega
   exact (h j u _ hu (List.getElem?_eq_getElem hj)).wk (i2 j _ c' (List.getElem?_eq_getElem hj) hc')
  | one=>cases hw
  | tup=>cases hw
 | tup vs xs hl h=>cases hw; exact .tup vs xs hl h

theorem zyq:∀ {xs ys:List V},WkVs xs ys->xs.length=ys.length /\ ∀ (j:Nat) (x y:V),xs[j]?=some x->ys[j]?=some y->WkV x y
 | [],[],_=>⟨rfl,fun j c c' h=>by simp at h⟩
 | c :: r,c' :: r',h=>by
  obtain ⟨h1,h2⟩:=h
  obtain ⟨i1,i2⟩:=zyq h2
  refine ⟨by simp [i1],fun j x x' hx hx'=>?_⟩
  cases j with
  | zero=>simp at hx hx'; subst hx; subst hx'; exact h1
  | succ j=>exact i2 j x x' (by simpa using hx) (by simpa using hx')
 | [],_ :: _,h=>h.elim
 | _ :: _,[],h=>h.elim

theorem zfhb:∀ {l l':List (Nat×Blk)},WkM l l' -> ∀ (k:Nat) (b':Blk),look k l'=some b' -> ∃ b,look k l=some b/\WkB b b'
 | [],[],_,k,b',h=>by simp [look] at h
 | (k0,b0) :: r,(k0',b0') :: r',h,k,b',hk=>by
  obtain ⟨rfl,h1,h2⟩:=h
  rw [zah] at hk ⊢
  split at hk
  . rename_i e
    cases hk
    exact ⟨b0,by rw [if_pos e],h1⟩
  . rename_i e
    rw [if_neg e]
    exact zfhb h2 k b' hk
 | [],_ :: _,h,_,_,_=>h.elim
 | _ :: _,[],h,_,_,_=>h.elim

theorem zfgb:∀ {l l':List (Nat×Blk)},WkM l l' -> ∀ (k:Nat),(look k l).isSome=true->(look k l').isSome=true
 | [],[],_,k,h=>h
 | (k0,b0) :: r,(k0',b0') :: r',h,k,hk=>by
  obtain ⟨rfl,h1,h2⟩:=h
  rw [zah] at hk ⊢
  split
  . rfl
  . rename_i e
    rw [if_neg e] at hk
    exact zfgb h2 k hk
 | [],_ :: _,h,_,_=>h.elim
 | _ :: _,[],h,_,_=>h.elim

theorem RepB.wk {β U} {base:Nat} {p:Place} {b b':Blk} (h:RepB w β U base p b) (hw:WkB b b'):RepB w β U base p b':=by
 cases b with
 | cells cs =>
  cases b' with
  | cells cs' =>
   obtain ⟨i1,i2⟩:=zra (show WkCs cs cs' from hw)
   cases p with
   | cells x o =>
    refine ⟨by have:=h.1; omega,fun j c' hc'=>?_⟩
    have hj:j<cs.length:=by have:=(List.getElem?_eq_some_iff.1 hc').1; omega
    obtain ⟨v,q1,q2,q3,q4⟩:=h.2 j _ (List.getElem?_eq_getElem hj)
    exact ⟨v,q1,q2,q3,q4.wk (i2 j _ c' (List.getElem?_eq_getElem hj) hc')⟩
   | row=>exact h.elim
  | row=>cases hw
  | rowT=>cases hw
  | mp=>cases hw
  | junk=>cases hw
 | mp=>cases hw; exact h
 | junk=>cases hw; exact h
 | row=>cases hw; exact h
 | rowT=>cases hw; exact h

theorem zww {p:Place} {b b':Blk} (hw:WkB b b') {x j:Nat}:p.covers b' x j↔p.covers b x j:=by
 cases b with
 | cells cs =>
  cases b' with
  | cells cs' =>
   have:=(zra (show WkCs cs cs' from hw)).1
   cases p <;> simp [Place.covers,this]
  | row=>cases hw
  | rowT=>cases hw
  | mp=>cases hw
  | junk=>cases hw
 | mp=>cases hw; rfl
 | junk=>cases hw; rfl
 | row=>cases hw; rfl
 | rowT=>cases hw; rfl

theorem zrh {m:Nat->Option Blk} {σ:Ren} {lock:Bool}:∀ {ks:List (Nat×Nat)} {l:List (Nat×Blk)},zc4 m σ lock ks=some l -> ∀ q b',look q l=some b' -> ∃ k b,(k,q)∈ks/\m k=some b/\b'=zt7 m σ lock b
 | [],l,h,q,b',hq=>by simp [zc4] at h; subst h; simp [look] at hq
 | (k0,q0) :: r,l,h,q,b',hq=>by
  unfold zc4 at h
  split at h
  . rename_i b l' hb hl
    obtain rfl:=Option.some.inj h
    rw [zah] at hq
    split at hq
    . rename_i e; subst e; cases hq; exact ⟨k0,b,by simp,hb,rfl⟩
    . obtain ⟨k,b1,h1,h2,h3⟩:=zrh hl q b' hq
      exact ⟨k,b1,by simp [h1],h2,h3⟩
  . cases h
theorem zrg {m:Nat->Option Blk} {σ:Ren} {lock:Bool}:∀ {ks:List (Nat×Nat)} {l:List (Nat×Blk)},zc4 m σ lock ks=some l -> ∀ k q,(k,q)∈ks->(m k).isSome=true/\(look q l).isSome=true
 | [],l,h,k,q,hq=>by simp at hq
 | (k0,q0) :: r,l,h,k,q,hq=>by
  unfold zc4 at h
  split at h
  . rename_i b l' hb hl
    obtain rfl:=Option.some.inj h
    rw [zah]
    rcases List.mem_cons.1 hq with e | e
    . cases e; exact ⟨by rw [hb]; rfl,by rw [if_pos rfl]; rfl⟩
    . obtain ⟨h1,h2⟩:=zrg hl k q e
      refine ⟨h1,?_⟩
      split
      . rfl
      . exact h2
  . cases h

theorem zyz {m:Nat->Option Blk} {σ:Ren} {lock:Bool} {p:Place} {b:Blk} {x j:Nat}:(p.renum 0).covers (zt7 m σ lock b) x j↔p.covers b x j:=by
 cases p <;> cases b <;> simp [Place.renum,zt7,Place.covers]

theorem z91 (h:SimB w0 U0 X β0 β U s a w) {ks:List (Nat×Nat)} (hok:okKs ks=true) {lock:Bool} {base:Nat} {p:Place} {b:Blk} (hb:RepB w β U w0.heap.size p b):RepB w (βL β ks) (UL β U ks lock) base (p.renum 0) (zt7 s.blk (zcy s.blk ks) lock b):=by
 cases p with
 | cells x o =>
  cases b with
  | cells cs =>
   refine ⟨by simpa using hb.1,fun j c hj=>?_⟩
   rw [List.getElem?_map,Option.map_eq_some_iff] at hj
   obtain ⟨c0,hc0,rfl⟩:=hj
   obtain ⟨v,h1,h2,h3,h4⟩:=hb.2 j c0 hc0
   exact ⟨v,h1,h2,h3,zri h hok h4⟩
  | mp=>exact hb
  | row=>exact hb.elim
  | rowT=>exact hb.elim
  | junk=>exact hb.elim
 | row v ver0 =>
  cases b with
  | cells=>exact hb.elim
  | mp=>exact hb.elim
  | junk=>exact ⟨rfl,hb.2⟩
  | row ver e sz ap fr rows =>
   obtain ⟨h1,h2,h3⟩:=hb
   refine ⟨rfl,h2,?_⟩
   rcases h3 with h3 | ⟨g,cap,cur,fz,rfl,q1,q2,q3,q4,q5,q6,q7⟩
   . exact .inl h3
   . refine .inr ⟨g,cap,cur,fz,rfl,q1,q2,q3,q4,q5,q6,fun i j r d hi hj=>?_⟩
     obtain ⟨u,k1,k2,k3⟩:=q7 i j r d hi hj
     exact ⟨u,k1,k2,k3.mono (fun b hb=>⟨.inl hb.1,fun e=>by cases e⟩) (fun _ _=>rfl)⟩
  | rowT ver e c ap fr xs =>
   obtain ⟨h1,h2,h3⟩:=hb
   refine ⟨rfl,h2,?_⟩
   rcases h3 with h3 | ⟨g,cap,cur,fz,rfl,q1,q2,q3,q4,q5,q6,q7⟩
   . exact .inl h3
   . refine .inr ⟨g,cap,cur,fz,rfl,q1,q2,q3,q4,q5,q6,fun i j r d hi hj=>?_⟩
     obtain ⟨u,k1,k2,k3⟩:=q7 i j r d hi hj
     refine ⟨u,k1,k2,?_⟩
     by_cases hfl:zn0 c=true
     . obtain ⟨x,hx,rfl⟩:=Option.map_eq_some_iff.1 (by simpa [List.getElem?_map] using hi)
       have hflat:d.flat=true:=List.all_eq_true.1 (zth c x hfl) d (List.mem_of_getElem? hj)
       cases k3 with
       | i k n=>exact .i k n
       | b x=>exact .b x
       | s l=>exact .s l
       | z v h1=>exact .z _ h1
       | nil=>simp [D.flat] at hflat
       | sl=>simp [D.flat] at hflat
       | st=>simp [D.flat] at hflat
     . exact k3.mono (fun b hb=>⟨.inl hb.1,fun e=>absurd e hfl⟩) (fun _ _=>rfl)

theorem SimB.callee (h:SimB w0 U0 X β0 β U s a w) {xs:List V} {us:List Value} (hl:us.length=xs.length) (hrep:∀ (j:Nat) (u:Value) (x:V),us[j]?=some u->xs[j]?=some x->RepV w β U w0.heap.size u x)
  {ks:List (Nat×Nat)} (hok:okKs ks=true) {lock:Bool} {ys:List V} (hw:WkVs (xs.map (zt6 s.blk (zcy s.blk ks) lock)) ys) {m1 m:List (Nat×Blk)} (hm1:zc4 s.blk (zcy s.blk ks) lock ks=some m1) (hm:WkM m1 m) (hys:ys.length<=900) :
  SimB w (UL β U ks lock) (XL β s ks) (βL β ks) (βL β ks) (UL β U ks lock) ⟨ys.length,zby 0 ys,m⟩ ⟨us.toArray,[]⟩ w:=by
 obtain ⟨i1,i2,i3,i4⟩:=znm hok
 obtain ⟨hwl,hwg⟩:=zyq hw
 rw [List.length_map] at hwl
 have hget:∀ q b',look q m=some b' -> ∃ k b,(k,q)∈ks/\s.blk k=some b/\WkB (zt7 s.blk (zcy s.blk ks) lock b) b':=by
  intro q b' hq
  obtain ⟨b1,h1,h2⟩:=zfhb hm q b' hq
  obtain ⟨k,b,h3,h4,rfl⟩:=zrh hm1 q b1 h1
  exact ⟨k,b,h3,h4,h2⟩
 have hcov:∀ {p:Place} {b b':Blk} {x j:Nat},WkB (zt7 s.blk (zcy s.blk ks) lock b) b'->((p.renum 0).covers b' x j↔p.covers b x j):=fun hw=>(zww hw).trans zyz
 exact {
  n:=by simp; omega,small:=hys,defers:=rfl,glob:=h.glob.map (fun b hb=>.inl hb) (fun _ _=>rfl)
  args:=fun k hk=>by
   cases hb:βL β ks k with
   | none=>rfl
   | some p =>
     obtain ⟨k0,p0,h1,_⟩:=zrc hb
     have:=i4 k0 k h1
     omega
  ver0:=fun k v ver hb=>by
   obtain ⟨k0,p0,_,_,e⟩:=zrc hb
   cases p0 with
   | cells=>cases e
   | row v' ver'=>cases e; rfl
  hist:=fun k p hp hb=>.inl hp
  env:=fun t=>by
   show RepV w (βL β ks) (UL β U ks lock) w.heap.size (us.toArray.getD t undef) ((look t (zby 0 ys)).getD (.one .bad))
   rw [zj1,if_pos (Nat.zero_le _),Nat.sub_zero]
   cases hy:ys[t]? with
   | none=>exact .bad _
   | some y =>
     have ht:t<xs.length:=by have:=(List.getElem?_eq_some_iff.1 hy).1; omega
     have hu:us[t]?=some (us.toArray.getD t undef):=by
      have:t<us.length:=by omega
      simp [this]
     have hx:=hrep t _ _ hu (List.getElem?_eq_getElem ht)
     have hv:RepV w (βL β ks) (UL β U ks lock) w.heap.size (us.toArray.getD t undef) (zt6 s.blk (zcy s.blk ks) lock xs[t]):=by
      generalize xs[t]=x at hx
      generalize us.toArray.getD t undef=u at hx
      cases hx with
      | one v c h'=>exact .one _ _ (zri h hok h')
      | agg vs cs hl' h1' h' =>
       refine .agg _ _ (by simpa using hl') h1' fun j u c hu hc=>?_
       rw [List.getElem?_map,Option.map_eq_some_iff] at hc
       obtain ⟨c0,hc0,rfl⟩:=hc
       exact zri h hok (h' j u c0 hu hc0)
      | tup=>exact .bad _
     exact hv.wk (hwg t _ y (by rw [List.getElem?_map,List.getElem?_eq_getElem ht]; rfl) hy)
  mem:=fun q b' hq=>by
   obtain ⟨k,b,h1,h2,h3⟩:=hget q b' hq
   obtain ⟨p,hp,hr⟩:=h.mem k b h2
   exact ⟨_,zfkb hok h1 hp,(z91 h hok hr).wk h3⟩
  dom:=fun q p hp=>by
   obtain ⟨k,p0,h1,h2,rfl⟩:=zrc hp
   exact zfgb hm q (zrg hm1 k q h1).2
  apart:=fun q p b hp hb=>by
   obtain ⟨k,p0,h1,h2,rfl⟩:=zrc hp
   rw [ztz] at hb
   obtain ⟨g1,g2⟩:=h.apart k p0 b h2 hb
   refine ⟨?_,g2⟩
   rintro (hu | ⟨_,k',v,ver,hk',hnl,hv⟩)
   . exact g1 hu
   . have hne:k≠k':=fun e=>by subst e; rw [i3 k q h1] at hnl; cases hnl
     cases p0 with
     | cells x o =>
      obtain rfl:x=b:=by simpa [Place.block] using hb
      exact h.kinds k' k v ver x o hk' h2 hv
     | row v2 ver2 =>
      obtain ⟨b1,hb1⟩:=Option.isSome_iff_exists.1 (h.dom k _ h2)
      obtain ⟨b2,hb2⟩:=Option.isSome_iff_exists.1 (h.dom k' _ hk')
      exact h.inj k k' _ _ b1 b2 b 0 hne h2 hk' hb1 hb2 (by cases b1 <;> exact hb) (by cases b2 <;> exact hv)
  inj:=fun q1 q2 p1 p2 b1 b2 b j hne hp1 hp2 hb1 hb2 hc1 hc2=>by
   obtain ⟨k1,x1,m1',z1,rfl⟩:=zrc hp1
   obtain ⟨k2,x2,m2',z2,rfl⟩:=zrc hp2
   obtain ⟨k1',y1,n1,u1,w1⟩:=hget q1 b1 hb1
   obtain ⟨k2',y2,n2,u2,w2⟩:=hget q2 b2 hb2
   obtain rfl:=i2 k1 k1' q1 m1' n1
   obtain rfl:=i2 k2 k2' q2 m2' n2
   have hk:k1≠k2:=fun e=>by subst e; exact hne (i1 k1 q1 q2 m1' m2')
   exact h.inj k1 k2 x1 x2 y1 y2 b j hk z1 z2 u1 u2 ((hcov w1).1 hc1) ((hcov w2).1 hc2)
  stab:=fun b hb=>by
   rcases hb with hu | ⟨_,k',v,ver,hk',hnl,hv⟩
   . exact h.stab b hu
   . exact (h.apart k' _ b hk' hv).2
  old:=fun b hb=>hb,new:=fun b _ hb=>hb,chg:=Chg.refl _ _ _
  may:=fun q p b' b j hp hb hc hlt=>by
   obtain ⟨k,p0,h1,h2,rfl⟩:=zrc hp
   obtain ⟨k',y,n1,u1,w1⟩:=hget q b' hb
   obtain rfl:=i2 k k' q h1 n1
   exact ⟨k,q,p0,y,h1,h2,u1,(hcov w1).1 hc⟩ }
end
end Go.Proofs.YthkhikdglmaiaaaGreatDoor.Abs
namespace Go.Proofs.YthkhikdglmaiaaaGreatDoor.Abs
open Go Go.RowKit
set_option linter.unusedVariables false

theorem zhvb {w:World} {U U':Nat->Prop} {u:Value} {d:D} (h:RepI w U u d) (hf:d.flat=true):RepI w U' u d:=by
 cases h with
 | i k n=>exact .i k n
 | b x=>exact .b x
 | s l=>exact .s l
 | z v h1=>exact .z _ h1
 | nil=>simp [D.flat] at hf
 | sl=>simp [D.flat] at hf
 | st=>simp [D.flat] at hf

theorem zvv:∀ {m:List (Nat×Blk)},zno m=true -> ∀ q b,(q,b)∈m->look q m=some b
 | [],_,q,b,h=>by simp at h
 | (q0,b0) :: r,hn,q,b,h=>by
  simp only [zno,Bool.and_eq_true,List.all_eq_true,bne_iff_ne,ne_eq] at hn
  rw [zah]
  rcases List.mem_cons.1 h with e | e
  . cases e; rw [if_pos rfl]
  . rw [if_neg (fun e'=>hn.1 _ e e'.symm)]
    exact zvv hn.2 q b e

theorem zvu {σ:Ren}:∀ {m0 m:List (Nat×Blk)},zp5 σ m0=some m -> ∀ k b',look k m=some b' -> ∃ q b cv nv,(q,b)∈m0/\σ q=some (k,cv,nv)/\b'=b.ren σ nv
 | [],m,h,k,b',hk=>by simp [zp5] at h; subst h; simp [look] at hk
 | (q0,b0) :: r,m,h,k,b',hk=>by
  unfold zp5 at h
  split at h
  . rename_i k0 cv nv m' h1 h2
    obtain rfl:=Option.some.inj h
    rw [zah] at hk
    split at hk
    . rename_i e; subst e; cases hk; exact ⟨q0,b0,cv,nv,by simp,h1,rfl⟩
    . obtain ⟨q,b,cv,nv,g1,g2,g3⟩:=zvu h2 k b' hk
      exact ⟨q,b,cv,nv,by simp [g1],g2,g3⟩
  . cases h

theorem zhe {σ:Ren}:∀ {m0 m:List (Nat×Blk)},zp5 σ m0=some m -> ∀ q b,(q,b)∈m0 -> ∃ k cv nv,σ q=some (k,cv,nv)/\(look k m).isSome=true
 | [],m,h,q,b,hq=>by simp at hq
 | (q0,b0) :: r,m,h,q,b,hq=>by
  unfold zp5 at h
  split at h
  . rename_i k0 cv nv m' h1 h2
    obtain rfl:=Option.some.inj h
    rcases List.mem_cons.1 hq with e | e
    . cases e; exact ⟨k0,cv,nv,h1,by rw [zah,if_pos rfl]; rfl⟩
    . obtain ⟨k,cv',nv',g1,g2⟩:=zhe h2 q b e
      refine ⟨k,cv',nv',g1,?_⟩
      rw [zah]
      split
      . rfl
      . exact g2
  . cases h

section
variable {w0:World} {U0:Nat->Prop} {X:Nat->Nat->Prop} {β0 β:Nat->Option Place} {U:Nat->Prop} {s:St} {a:Act} {w:World}

theorem z2i {ks:List (Nat×Nat)} {d:Option Nat} {m0:List (Nat×Blk)} (hfresh:zj5 s ks d m0=true) {q k cv nv:Nat} (h:zld s ks d m0 q=some (k,cv,nv)) :
   ∃ b,look q m0=some b/\cv=b.ver /\
     ((∃ bk,(k,q)∈ks/\s.blk k=some bk/\bk.isRow=true/\nv=if b.ver=0 then bk.ver else bk.ver+1)\/(∃ bk,(k,q)∈ks/\s.blk k=some bk/\bk.isRow=false/\nv=0) \/
      (∃ dd,(∀ k',(k',q) ∉ ks)/\(2000000<=q/\q<2001000)/\d=some dd/\k=1000*(dd+1)+(q-2000000)/\nv=b.ver/\s.blk k=none)):=by
 unfold zld at h
 split at h
 . cases h
 rename_i b hb
 refine ⟨b,hb,?_⟩
 split at h
 . rename_i k0 z hf
   obtain ⟨hm,rfl⟩:=z5t hf
   split at h
   . rename_i bk hs
     split at h
     . rename_i hr
       simp only [Option.some.injEq,Prod.mk.injEq] at h
       obtain ⟨rfl,rfl,rfl⟩:=h
       exact ⟨rfl,.inl ⟨bk,hm,hs,hr,rfl⟩⟩
     . rename_i hr
       simp only [Option.some.injEq,Prod.mk.injEq] at h
       obtain ⟨rfl,rfl,rfl⟩:=h
       exact ⟨rfl,.inr (.inl ⟨bk,hm,hs,hr,rfl⟩)⟩
   . cases h
 . rename_i hf
   split at h
   . rename_i dd
     split at h
     . rename_i hq
       simp only [Option.some.injEq,Prod.mk.injEq] at h
       obtain ⟨rfl,rfl,rfl⟩:=h
       have hno:∀ k',(k',q) ∉ ks:=fun k' hk=>by have:=List.find?_eq_none.1 hf (k',q) hk; simp at this
       refine ⟨rfl,.inr (.inr ⟨dd,hno,hq,rfl,rfl,rfl,?_⟩)⟩
       have:=List.all_eq_true.1 hfresh (q,b) (zc3 hb)
       simp only [Bool.or_eq_true,List.any_eq_true,beq_iff_eq] at this
       rcases this with ⟨z,hz1,hz2⟩ | hz
       . obtain ⟨z1,z2⟩:=z
         simp only at hz2
         subst hz2
         exact absurd hz1 (hno z1)
       . cases hbk:s.blk (1000*(dd+1)+(q-2000000)) <;> simp_all
     . cases h
   . cases h

theorem SimB.back (h : SimB w0 U0 X β0 β U s a w) {ks : List (Nat × Nat)} {lock : Bool} {r0 : V} {m0 : List (Nat × Blk)} {v : Value} {w' : World}
   (hs : Sim w (UL β U ks lock) (XL β s ks) (βL β ks) ⟨1, [(0, r0)], m0⟩ ⟨#[v], []⟩ w') {dst : Option Nat} {E : Out} (hE : zki s ks lock dst r0 m0 = some E) (hd : ∀ d, dst = some d -> d < s.n) :
   Sim w0 U0 X β0 (s.out dst E) (a.put dst v) w' := by
 obtain ⟨β2, U2, hc⟩ := hs
 unfold zki at hE
 split at hE
 case h_2 => cases hE
 rename_i m hcond hm
 obtain rfl := Option.some.inj hE
 simp only [Bool.and_eq_true, List.all_eq_true, Bool.or_eq_true, Bool.not_eq_true'] at hcond
 obtain ⟨⟨⟨⟨hok, hin⟩, hnd⟩, hfresh⟩, hsafe⟩ := hcond
 generalize hσ : zld s ks dst m0 = σ at hm
 have hspec : ∀ {q k cv nv : Nat}, σ q = some (k, cv, nv) -> _ := fun {q k cv nv} e => z2i (s := s) hfresh (q := q) (k := k) (cv := cv) (nv := nv) (by rw [hσ]; exact e)
 obtain ⟨i1, i2, i3, i4⟩ := znm hok
 -- names are met once
 have huniq : ∀ {q1 q2 k cv1 nv1 cv2 nv2 : Nat}, σ q1 = some (k, cv1, nv1) -> σ q2 = some (k, cv2, nv2) -> q1 = q2 := by
   intro q1 q2 k cv1 nv1 cv2 nv2 e1 e2
   obtain ⟨b1, l1, _, c1⟩ := hspec e1
   obtain ⟨b2, l2, _, c2⟩ := hspec e2
   have inKs : ∀ {q : Nat} {b : Blk} {nv : Nat}, ((∃ bk, (k, q) ∈ ks /\ s.blk k = some bk /\ bk.isRow = true /\ nv = if b.ver = 0 then bk.ver else bk.ver + 1) \/ (∃ bk, (k, q) ∈ ks /\ s.blk k = some bk /\ bk.isRow = false /\ nv = 0) \/
      (∃ dd, (∀ k', (k', q) ∉ ks) /\ (2000000 <= q /\ q < 2001000) /\ dst = some dd /\ k = 1000 * (dd + 1) + (q - 2000000) /\ nv = b.ver /\ s.blk k = none)) -> ((k, q) ∈ ks /\ (s.blk k).isSome = true) \/ ((2000000 <= q /\ q < 2001000) /\ s.blk k = none /\ ∃ dd, dst = some dd /\ k = 1000 * (dd + 1) + (q - 2000000)) := by
     intro q b nv hh
     rcases hh with ⟨bk, z1, z2, _, _⟩ | ⟨cs, z1, z2, _, _⟩ | ⟨dd, _, z1, z2, z3, _, z4⟩
     . exact .inl ⟨z1, by rw [z2]; rfl⟩
     . exact .inl ⟨z1, by rw [z2]; rfl⟩
     . exact .inr ⟨z1, z4, dd, z2, z3⟩
   rcases inKs c1 with ⟨z1, z2⟩ | ⟨z1, z2, dd, z3, z4⟩ <;> rcases inKs c2 with ⟨y1, y2⟩ | ⟨y1, y2, ee, y3, y4⟩
   . exact i1 k q1 q2 z1 y1
   . rw [y2] at z2; cases z2
   . rw [z2] at y2; cases y2
   . rw [z3] at y3; cases y3; omega
 let βn : Nat -> Option Place := fun k => match m0.find? (fun p => (σ p.1).any (fun z => z.1 == k)) with
   | some (q, _) => match σ q with
     | some (_, _, nv) => (β2 q).map (Place.renum nv)
     | none => none
   | none => β k
 have hβn1 : ∀ {q k cv nv : Nat}, σ q = some (k, cv, nv) -> βn k = (β2 q).map (Place.renum nv) := by
   intro q k cv nv e
   obtain ⟨b, l, _⟩ := hspec e
   simp only [βn]
   cases hf : m0.find? (fun p => (σ p.1).any (fun z => z.1 == k)) with
   | none => have := List.find?_eq_none.1 hf (q, b) (zc3 l); simp [e] at this
   | some z =>
     obtain ⟨q', b'⟩ := z
     have h2 := List.find?_some hf
     simp only at h2
     cases hq' : σ q' with
     | none => rw [hq'] at h2; simp at h2
     | some y =>
       obtain ⟨k', cv', nv'⟩ := y
       rw [hq'] at h2
       obtain rfl : k' = k := by simpa using h2
       obtain rfl := huniq hq' e
       rw [hq'] at e
       cases e
       simp [hq']
 have hβn2 : ∀ {k : Nat}, (∀ q cv nv, σ q ≠ some (k, cv, nv)) -> βn k = β k := by
   intro k hno
   simp only [βn]
   cases hf : m0.find? (fun p => (σ p.1).any (fun z => z.1 == k)) with
   | none => rfl
   | some z =>
     obtain ⟨q', b'⟩ := z
     have h2 := List.find?_some hf
     simp only at h2
     cases hq' : σ q' with
     | none => rw [hq'] at h2; simp at h2
     | some y =>
       obtain ⟨k', cv', nv'⟩ := y
       rw [hq'] at h2
       obtain rfl : k' = k := by simpa using h2
       exact absurd hq' (hno q' cv' nv')
 have hcase : ∀ k, (∃ q cv nv, σ q = some (k, cv, nv)) \/ ∀ q cv nv, σ q ≠ some (k, cv, nv) := by
   intro k
   by_cases e : ∃ q cv nv, σ q = some (k, cv, nv)
   . exact .inl e
   . exact .inr fun q cv nv e' => e ⟨q, cv, nv, e'⟩
 have hmemOf : ∀ {q b}, look q m0 = some b -> ∃ p2, β2 q = some p2 /\ RepB w' β2 U2 w.heap.size p2 b := fun {q b} l => hc.mem q b l
 have hfits : Fits β2 βn σ := by
   intro q k cv nv e
   obtain ⟨b, l, rfl, _⟩ := hspec e
   obtain ⟨p2, hp2, _⟩ := hmemOf l
   have hn := hβn1 e
   rw [hp2] at hn
   rcases hc.verOf hp2 (show St.blk ⟨1, [(0, r0)], m0⟩ q = some b from l) with ⟨x, y, rfl, _⟩ | ⟨v, rfl, _⟩
   . exact .inl ⟨x, y, hp2, hn⟩
   . exact .inr ⟨v, hp2, hn⟩
 -- what nobody changes
 have hXU : ∀ b j, U b -> ¬ XL β s ks b j := by
   rintro b j hu ⟨k, q, p, blk, _, hp, hb, hcv⟩
   exact (h.apart k p b hp (zan hcv)).1 hu
 have hblkEq : ∀ b, b < w.heap.size -> (∀ j, ¬ XL β s ks b j) -> w'.heap[b]? = w.heap[b]? := by
   intro b hb hno
   rcases hc.chg.block b hb with e | ⟨x, x', e, f, e1, e2, e3, e4⟩ | e
   . exact e
   . have : x' = x := Array.ext_getElem? fun j => e4 j (hno j)
     rw [e1, e2, this]
   . exact absurd (e 0) (hno 0)
 have hUk : ∀ b, U b -> w'.heap[b]? = w.heap[b]? := fun b hb => hblkEq b (h.stab b hb) (fun j => hXU b j hb)
 have hwle : w.heap.size <= w'.heap.size := hc.chg.size
 have hbase := h.baseLe
 let Un : Nat -> Prop := fun b => U b \/ (w.heap.size <= b /\ U2 b)
 have hU2 : lock = false -> ∀ b, U2 b -> Un b := by
   intro hl b hb
   by_cases hlt : b < w.heap.size
   . rcases hc.new b hlt hb with e | ⟨e, _⟩
     . exact .inl e
     . rw [hl] at e; cases e
   . exact .inr ⟨by omega, hb⟩
 have backC : ∀ {u : Value} {c : C}, RepC w' β2 U2 w.heap.size u c -> (lock = true -> c.safe = true) -> RepC w' βn Un w0.heap.size u (c.ren σ) := by
   intro u c hr hsf
   cases c with
   | mp k =>
     simp only [C.ren]
     split
     . rename_i k' cv nv hs
       obtain ⟨b, h1, h2⟩ := hr
       rcases hfits k k' cv nv hs with ⟨b', o, e1, e2⟩ | ⟨v1, e1, e2⟩
       . rw [h1] at e1; cases e1; exact ⟨b, e2, h2⟩
       . rw [h1] at e1; cases e1
     . trivial
   | d x =>
     cases hl : lock with
     | false => exact RepI.mono hr (hU2 hl) (fun _ _ => rfl)
     | true => exact zhvb hr (hsf hl)
   | f x => exact RepI.mono (U := fun b => U2 b /\ w.heap.size <= b) hr (fun b hb => ⟨.inr ⟨hb.2, hb.1⟩, by omega⟩) (fun _ _ => rfl)
   | pv cells =>
     cases hl : lock with
     | false => exact RepC.map (RepC.ren hr hfits) (hU2 hl) (fun _ _ => rfl) (Evo.refl _)
     | true => have := hsf hl; cases this
   | clo f caps =>
     cases hl : lock with
     | false =>
       obtain ⟨us, h1, h2, h3⟩ := hr
       exact ⟨us, h1, h2, fun j u d hu hd => (h3 j u d hu hd).mono (hU2 hl) (fun _ _ => rfl)⟩
     | true =>
       have hz : caps = [] := by simpa [C.safe] using hsf hl
       subst hz
       obtain ⟨us, h1, h2, h3⟩ := hr
       exact ⟨us, h1, h2, fun j u d hu hd => by simp at hd⟩
   | clp f ks' =>
     have := RepC.ren hr hfits
     revert this
     simp only [C.ren]
     split
     . exact fun t => t
     . exact fun t => t
   | nil => exact hr
   | un => exact hr
   | bad => trivial
   | own k ver len =>
     have := RepC.ren hr hfits
     revert this
     simp only [C.ren]
     split
     . split
       . exact fun t => t
       . exact fun t => t
     . exact fun t => t
   | sub k ver sz off len =>
     have := RepC.ren hr hfits
     revert this
     simp only [C.ren]
     split
     . split
       . exact fun t => t
       . exact fun t => t
     . exact fun t => t
   | ptr k off =>
     have := RepC.ren hr hfits
     revert this
     simp only [C.ren]
     split
     . exact fun t => t
     . exact fun t => t
   | asl k off len =>
     have := RepC.ren hr hfits
     revert this
     simp only [C.ren]
     split
     . exact fun t => t
     . exact fun t => t
   | pre k ver sz len =>
     have := RepC.ren hr hfits
     revert this
     simp only [C.ren]
     split
     . split
       . exact fun t => t
       . exact fun t => t
     . exact fun t => t
   | nn x =>
     cases hl : lock with
     | false => exact ⟨RepI.mono hr.1 (hU2 hl) (fun _ _ => rfl), hr.2⟩
     | true => have := hsf hl; cases this
   | pr k ver sz i off =>
     have := RepC.ren hr hfits
     revert this
     simp only [C.ren]
     split
     . split
       . exact fun t => t
       . exact fun t => t
     . exact fun t => t
 have backV1 : ∀ {u : Value} {x : V}, RepV w' β2 U2 w.heap.size u x -> (lock = true -> x.safe1 = true) -> RepV w' βn Un w0.heap.size u (x.ren1 σ) := by
   intro u x hr hsf
   cases hr with
   | one v c hr => exact .one _ _ (backC hr hsf)
   | agg vs cs hl h1 hr =>
     refine .agg _ _ (by simpa using hl) h1 fun j u c hu hc' => ?_
     rw [List.getElem?_map, Option.map_eq_some_iff] at hc'
     obtain ⟨c0, hc0, rfl⟩ := hc'
     exact backC (hr j u c0 hu hc0) (fun e => List.all_eq_true.1 (hsf e) c0 (List.mem_of_getElem? hc0))
   | tup => exact .bad _
 have backV : ∀ {u : Value} {x : V}, RepV w' β2 U2 w.heap.size u x -> (lock = true -> x.safe = true) -> RepV w' βn Un w0.heap.size u (x.ren σ) := by
   intro u x hr hsf
   cases hr with
   | one v c hr => exact .one _ _ (backC hr hsf)
   | agg vs cs hl h1 hr =>
     refine .agg _ _ (by simpa using hl) h1 fun j u c hu hc' => ?_
     rw [List.getElem?_map, Option.map_eq_some_iff] at hc'
     obtain ⟨c0, hc0, rfl⟩ := hc'
     exact backC (hr j u c0 hu hc0) (fun e => List.all_eq_true.1 (hsf e) c0 (List.mem_of_getElem? hc0))
   | tup vs xs hl hr =>
     refine .tup _ _ (by simpa using hl) fun j u x hu hx => ?_
     rw [List.getElem?_map, Option.map_eq_some_iff] at hx
     obtain ⟨x0, hx0, rfl⟩ := hx
     exact backV1 (hr j u x0 hu hx0) (fun e => List.all_eq_true.1 (hsf e) x0 (List.mem_of_getElem? hx0))
 have backB : ∀ {p2 : Place} {b : Blk} {nv : Nat}, RepB w' β2 U2 w.heap.size p2 b -> (lock = true -> b.safe = true) -> RepB w' βn Un w0.heap.size (p2.renum nv) (b.ren σ nv) := by
   intro p2 b nv hr hsf
   cases p2 with
   | cells x o =>
     cases b with
     | cells cs =>
       refine ⟨by simpa using hr.1, fun j c hj => ?_⟩
       rw [List.getElem?_map, Option.map_eq_some_iff] at hj
       obtain ⟨c0, hc0, rfl⟩ := hj
       obtain ⟨u, q1, q2, q3, q4⟩ := hr.2 j c0 hc0
       exact ⟨u, q1, q2, q3, backC q4 (fun e => List.all_eq_true.1 (hsf e) c0 (List.mem_of_getElem? hc0))⟩
     | mp => exact hr
     | row => exact hr.elim
     | rowT => exact hr.elim
     | junk => exact hr.elim
   | row v2 ver2 =>
     cases b with
     | cells => exact hr.elim
     | mp => exact hr.elim
     | junk => exact ⟨rfl, hr.2⟩
     | row ver e sz ap fr rows =>
       obtain ⟨h1, h2, h3⟩ := hr
       refine ⟨rfl, h2, ?_⟩
       rcases h3 with h3 | ⟨g, cap, cur, fz, rfl, q1, q2, q3, q4, q5, q6, q7⟩
       . exact .inl h3
       . refine .inr ⟨g, cap, cur, fz, rfl, q1, q2, q3, q4, q5, q6, fun i j r d hi hj => ?_⟩
         obtain ⟨u, k1, k2, k3⟩ := q7 i j r d hi hj
         refine ⟨u, k1, k2, ?_⟩
         cases hfr : fr with
         | true => exact k3.mono (fun b hb => ⟨.inr ⟨hb.2 hfr, hb.1⟩, fun _ => by have := hb.2 hfr; omega⟩) (fun _ _ => rfl)
         | false =>
           cases hl : lock with
           | false => exact k3.mono (fun b hb => ⟨hU2 hl b hb.1, fun e => by cases e⟩) (fun _ _ => rfl)
           | true => have := hsf hl; rw [Blk.safe, hfr] at this; cases this
     | rowT ver e c ap fr xs =>
       obtain ⟨h1, h2, h3⟩ := hr
       refine ⟨rfl, h2, ?_⟩
       rcases h3 with h3 | ⟨g, cap, cur, fz, rfl, q1, q2, q3, q4, q5, q6, q7⟩
       . exact .inl h3
       . refine .inr ⟨g, cap, cur, fz, rfl, q1, q2, q3, q4, q5, q6, fun i j r d hi hj => ?_⟩
         obtain ⟨u, k1, k2, k3⟩ := q7 i j r d hi hj
         refine ⟨u, k1, k2, ?_⟩
         cases hfr : fr with
         | true => exact k3.mono (fun b hb => ⟨.inr ⟨hb.2 hfr, hb.1⟩, fun _ => by have := hb.2 hfr; omega⟩) (fun _ _ => rfl)
         | false =>
           cases hl : lock with
           | false => exact k3.mono (fun b hb => ⟨hU2 hl b hb.1, fun e => by cases e⟩) (fun _ _ => rfl)
           | true => have := hsf hl; rw [Blk.safe, hfr] at this; cases this
 -- the places
 have hpassed : ∀ {k q : Nat}, (k, q) ∈ ks -> ∃ p b2 cv nv, β k = some p /\ look q m0 = some b2 /\ σ q = some (k, cv, nv) := by
   intro k q hk
   have hlk := hin (k, q) hk
   obtain ⟨b2, hb2⟩ := Option.isSome_iff_exists.1 hlk
   obtain ⟨k', cv, nv, e, _⟩ := zhe hm q b2 (zc3 hb2)
   obtain ⟨b3, l3, _, c3⟩ := hspec e
   have hkk : k' = k /\ (s.blk k).isSome = true := by
     rcases c3 with ⟨bk, z1, z2, _⟩ | ⟨bk, z1, z2, _⟩ | ⟨dd, z1, _⟩
     . have := i2 k' k q z1 hk; subst this; exact ⟨rfl, by rw [z2]; rfl⟩
     . have := i2 k' k q z1 hk; subst this; exact ⟨rfl, by rw [z2]; rfl⟩
     . exact absurd hk (z1 k)
   obtain ⟨rfl, hsb⟩ := hkk
   obtain ⟨blk, hblk⟩ := Option.isSome_iff_exists.1 hsb
   obtain ⟨p, hp, _⟩ := h.mem k' blk hblk
   exact ⟨p, b2, cv, nv, hp, hb2, e⟩
 have hevo : Evo β βn := by
   intro k p hp
   rcases hcase k with ⟨q, cv, nv, e⟩ | hno
   . obtain ⟨b, l, rfl, c3⟩ := hspec e
     obtain ⟨p2, hp2, hr2⟩ := hmemOf l
     have hn := hβn1 e
     rw [hp2] at hn
     rcases c3 with ⟨bk, z1, z2, zr, z3⟩ | ⟨bk, z1, z2, zr, z3⟩ | ⟨dd, z1, z2, z3, z4, z5, z6⟩
     . rcases h.verOf hp z2 with ⟨x, y, _, hh⟩ | ⟨v0, rfl, hh⟩
       . rw [zr] at hh; cases hh
       have hL := zfkb hok z1 hp
       rcases hc.hist q _ hL (by show (look q m0).isSome = true; rw [l]; rfl) with g | ⟨x0, y0, x1, y1, g1, g2, g3⟩
       . rw [hp2] at g; cases g
         have hv0 : b.ver = 0 := by
           rcases hc.verOf hp2 (show St.blk ⟨1, [(0, r0)], m0⟩ q = some b from l) with ⟨x, y, hx, _⟩ | ⟨v, hx, _⟩
           . cases hx
           . injection hx with hx1 hx2; first | exact hx2.symm | exact hx2
         rw [hv0, if_pos rfl] at z3
         subst z3
         exact .inl hn
       . cases g1
         rw [hp2] at g2; cases g2
         have hv0 : b.ver = y1 := by
           rcases hc.verOf hp2 (show St.blk ⟨1, [(0, r0)], m0⟩ q = some b from l) with ⟨x, y, hx, _⟩ | ⟨v, hx, _⟩
           . cases hx
           . injection hx with hx1 hx2; first | exact hx2.symm | exact hx2
         rw [hv0, if_neg (by omega)] at z3
         subst z3
         exact .inr ⟨v0, bk.ver, x1, bk.ver + 1, rfl, hn, by omega⟩
     . rcases h.verOf hp z2 with ⟨x, y, rfl, hh⟩ | ⟨v0, _, hh⟩
       . have hL := zfkb hok z1 hp
         rcases hc.hist q _ hL (by show (look q m0).isSome = true; rw [l]; rfl) with g | ⟨x0, y0, x1, y1, g1, g2, g3⟩
         . rw [hp2] at g; cases g
           exact .inl hn
         . cases g1
       . rw [zr] at hh; cases hh
     . rw [h.noKey z6] at hp; cases hp
   . exact .inl (by rw [hβn2 hno]; exact hp)
 have hlookm : ∀ k b', (s.out dst ⟨r0.ren σ, m⟩).blk k = some b' -> (∃ q b cv nv, look q m0 = some b /\ σ q = some (k, cv, nv) /\ b' = b.ren σ nv) \/ ((∀ q cv nv, σ q ≠ some (k, cv, nv)) /\ s.blk k = some b') := by
   intro k b' hk
   have e1 : (s.out dst ⟨r0.ren σ, m⟩).blk k = (look k m).or (s.blk k) := by
     unfold St.out
     rw [St.blk_put]
     show look k (m ++ s.mem) = _
     rw [zik]; rfl
   rw [e1] at hk
   cases hl : look k m with
   | some b1 =>
     rw [hl] at hk
     obtain rfl : b1 = b' := by simpa using hk
     obtain ⟨q, b, cv, nv, g1, g2, g3⟩ := zvu hm k b1 hl
     exact .inl ⟨q, b, cv, nv, zvv hnd q b g1, g2, g3⟩
   | none =>
     rw [hl] at hk
     refine .inr ⟨fun q cv nv e => ?_, by simpa using hk⟩
     obtain ⟨b, l, _⟩ := hspec e
     obtain ⟨k', cv', nv', e', hs'⟩ := zhe hm q b (zc3 l)
     rw [e] at e'; cases e'
     rw [hl] at hs'; cases hs'
 have hother : ∀ {k : Nat} {p : Place} {blk : Blk}, (∀ q cv nv, σ q ≠ some (k, cv, nv)) -> β k = some p -> s.blk k = some blk -> ∀ b j, p.covers blk b j -> ¬ XL β s ks b j := by
   rintro k p blk hno hp hb b j hcv ⟨k1, q1, p1, blk1, hm1, hp1, hb1, hc1⟩
   have hne : k1 ≠ k := fun e => by
     subst e
     obtain ⟨_, _, cv, nv, _, _, e⟩ := hpassed hm1
     exact hno q1 cv nv e
   exact h.inj k1 k p1 p blk1 blk b j hne hp1 hp hb1 hb hc1 hcv
 -- the covers of what came back lie in what was handed over, or in new blocks
 have hcovIn : ∀ {q : Nat} {p2 : Place} {b2 : Blk}, look q m0 = some b2 -> β2 q = some p2 -> ∀ b j, p2.covers b2 b j -> b < w.heap.size -> XL β s ks b j := fun {q p2 b2} l hp2 b j hcv hlt => hc.may q p2 b2 b j hp2 l hcv hlt
 refine ⟨βn, Un, SimB.put (s := s.upd m) (a := a) (w := w') ?_ (backV (hc.env 0) ?_) hd⟩
 . exact {
     n := h.n, small := h.small, args := h.args, ver0 := h.ver0, defers := h.defers, glob := h.glob.map (fun b hb => .inl hb) hUk
     env := fun t => (h.env t).map (fun b hb => .inl hb) hUk hevo
     hist := fun k p hp hb => by
       rcases hcase k with ⟨q, cv, nv, e⟩ | hno
       . have hkk : ∃ p1, β k = some p1 := by
           obtain ⟨b, l, _, c3⟩ := hspec e
           rcases c3 with ⟨bk, z1, z2, zr, z3⟩ | ⟨bk, z1, z2, zr, z3⟩ | ⟨dd, z1, z2, z3, z4, z5, z6⟩
           . obtain ⟨p1, hp1, _⟩ := h.mem k _ z2; exact ⟨p1, hp1⟩
           . obtain ⟨p1, hp1, _⟩ := h.mem k _ z2; exact ⟨p1, hp1⟩
           . exfalso
             have hdd := hd dd z3
             have hsm := h.small
             have hdd' : dd < s.n := hdd
             have : k < 1000000 \/ 2000000 <= k := by omega
             rw [h.args k this] at hp; cases hp
         obtain ⟨p1, hp1⟩ := hkk
         have hsb := h.dom k p1 hp1
         rcases h.hist k p hp hsb with g | ⟨v0, ver0, v1, ver1, g1, g2, g3⟩
         . rcases hevo k p g with g' | g'
           . exact .inl g'
           . exact .inr g'
         . rcases hevo k _ g2 with g' | ⟨x0, y0, x1, y1, g4, g5, g6⟩
           . exact .inr ⟨v0, ver0, v1, ver1, g1, g', g3⟩
           . cases g4; exact .inr ⟨v0, ver0, x1, y1, g1, g5, by omega⟩
       . rw [hβn2 hno]
         have hsb : (s.blk k).isSome = true := by
           obtain ⟨b', hb'⟩ := Option.isSome_iff_exists.1 hb
           rcases hlookm k b' (by unfold St.out; rw [St.blk_put]; exact hb') with ⟨q, b, cv, nv, _, e, _⟩ | ⟨_, e⟩
           . exact absurd e (hno q cv nv)
           . rw [e]; rfl
         exact h.hist k p hp hsb
     mem := fun k b' hk => by
       rcases hlookm k b' (by unfold St.out; rw [St.blk_put]; exact hk) with ⟨q, b, cv, nv, l, e, rfl⟩ | ⟨hno, hb⟩
       . obtain ⟨p2, hp2, hr2⟩ := hmemOf l
         refine ⟨p2.renum nv, by rw [hβn1 e, hp2]; rfl, backB hr2 (fun hl => ?_)⟩
         rcases hsafe with z | z
         . rw [hl] at z; cases z
         . exact z.2 (q, b) (zc3 l)
       . obtain ⟨p, hp, hr⟩ := h.mem k b' hb
         refine ⟨p, by rw [hβn2 hno]; exact hp, hr.map (fun b hb => .inl hb) hUk hevo (fun b j hcv => ?_) (fun b hvb hwh => ?_)⟩
         . have hnx := hother hno hp hb b j hcv
           have hlt := h.blockOld hp b (zan hcv)
           rcases hc.chg.block b hlt with e | ⟨x, x', e, f, e1, e2, e3, e4⟩ | e
           . exact ⟨World.cell?_of_block (w := w) e, World.frozen?_of_block (w := w) e⟩
           . simp only [World.cell?, World.frozen?, e1, e2]
             exact ⟨by simpa using e4 j hnx, trivial⟩
           . exact absurd (e j) hnx
         . refine hblkEq b (h.blockOld hp b hvb) (fun j => hother hno hp hb b j ?_)
           cases p with
           | row v ver =>
             cases b' with
             | cells => exact hr.elim
             | mp => exact hr.elim
             | row => exact hvb
             | rowT => exact hvb
             | junk => exact hvb
           | cells b0 o =>
             cases b' with
             | cells => cases hwh
             | row => exact hr.elim
             | rowT => exact hr.elim
             | junk => exact hr.elim
             | mp =>
              have e : b0 = b := Option.some.inj hvb
              exact e.symm
     dom := fun k p hp => by
       show (look k (m ++ s.mem)).isSome = true
       rw [zik]
       rcases hcase k with ⟨q, cv, nv, e⟩ | hno
       . obtain ⟨b, l, _⟩ := hspec e
         obtain ⟨k', cv', nv', e', hs'⟩ := zhe hm q b (zc3 l)
         rw [e] at e'; cases e'
         obtain ⟨z, hz⟩ := Option.isSome_iff_exists.1 hs'
         rw [hz]; rfl
       . rw [hβn2 hno] at hp
         have := h.dom k p hp
         cases hl : look k m with
         | some z => rfl
         | none => exact this
     apart := fun k p b hp hb => by
       rcases hcase k with ⟨q, cv, nv, e⟩ | hno
       . rw [hβn1 e, Option.map_eq_some_iff] at hp
         obtain ⟨p2, hp2, rfl⟩ := hp
         rw [ztz] at hb
         obtain ⟨g1, g2⟩ := hc.apart q p2 b hp2 hb
         refine ⟨?_, g2⟩
         rintro (hu | ⟨_, hu⟩)
         . exact g1 (hc.old b (.inl hu))
         . exact g1 hu
       . rw [hβn2 hno] at hp
         obtain ⟨g1, g2⟩ := h.apart k p b hp hb
         refine ⟨?_, by omega⟩
         rintro (hu | ⟨hu, _⟩)
         . exact g1 hu
         . omega
     inj := fun k1 k2 p1 p2 b1 b2 b j hne hp1 hp2 hb1 hb2 hc1 hc2 => by
       have get : ∀ {k : Nat} {p : Place} {b' : Blk}, βn k = some p -> (s.upd m).blk k = some b' -> (∃ q b2 cv nv pp, look q m0 = some b2 /\ σ q = some (k, cv, nv) /\ β2 q = some pp /\ ∀ x i, p.covers b' x i ↔ pp.covers b2 x i) \/ ((∀ q cv nv, σ q ≠ some (k, cv, nv)) /\ β k = some p /\ s.blk k = some b') := by
         intro k p b' hp hb
         rcases hlookm k b' (by unfold St.out; rw [St.blk_put]; exact hb) with ⟨q, bb, cv, nv, l, e, rfl⟩ | ⟨hno, hbb⟩
         . rw [hβn1 e, Option.map_eq_some_iff] at hp
           obtain ⟨pp, hpp, rfl⟩ := hp
           exact .inl ⟨q, bb, cv, nv, pp, l, e, hpp, fun x i => zho⟩
         . rw [hβn2 hno] at hp
           exact .inr ⟨hno, hp, hbb⟩
       rcases get hp1 hb1 with ⟨q1, y1, cv1, nv1, pp1, l1, e1, z1, f1⟩ | ⟨n1, z1, y1⟩ <;> rcases get hp2 hb2 with ⟨q2, y2, cv2, nv2, pp2, l2, e2, z2, f2⟩ | ⟨n2, z2, y2⟩
       . have hq : q1 ≠ q2 := fun e => by subst e; rw [e1] at e2; cases e2; exact hne rfl
         exact hc.inj q1 q2 pp1 pp2 y1 y2 b j hq z1 z2 l1 l2 ((f1 b j).1 hc1) ((f2 b j).1 hc2)
       . have hlt := h.blockOld z2 b (zan hc2)
         exact hother n2 z2 y2 b j hc2 (hcovIn l1 z1 b j ((f1 b j).1 hc1) hlt)
       . have hlt := h.blockOld z1 b (zan hc1)
         exact hother n1 z1 y1 b j hc1 (hcovIn l2 z2 b j ((f2 b j).1 hc2) hlt)
       . exact h.inj k1 k2 p1 p2 b1 b2 b j hne z1 z2 y1 y2 hc1 hc2
     stab := fun b hb => by
       rcases hb with hu | ⟨_, hu⟩
       . have := h.stab b hu; omega
       . exact hc.stab b hu
     old := fun b hb => .inl (h.old b hb)
     new := fun b hlt hb => by
       rcases hb with hu | ⟨hu, _⟩
       . exact h.new b hlt hu
       . omega
     chg := by
       refine h.chg.trans ⟨hc.chg.os, hc.chg.tape, hc.chg.output, hc.chg.size, fun b hb => ?_⟩
       have hXX : ∀ j, XL β s ks b j -> X b j := by
         rintro j ⟨k1, q1, p1, blk1, hm1, hp1, hb1, hc1⟩
         exact h.may k1 p1 blk1 b j hp1 hb1 hc1 hb
       rcases hc.chg.block b (Nat.lt_of_lt_of_le hb hbase) with e | ⟨x, x', e, f, e1, e2, e3, e4⟩ | e
       . exact .inl e
       . exact .inr (.inl ⟨x, x', e, f, e1, e2, e3, fun j hj => e4 j (fun hx => hj (hXX j hx))⟩)
       . exact .inr (.inr fun j => hXX j (e j))
     may := fun k p b' b j hp hb hcv hlt => by
       rcases hlookm k b' (by unfold St.out; rw [St.blk_put]; exact hb) with ⟨q, bb, cv, nv, l, e, rfl⟩ | ⟨hno, hbb⟩
       . rw [hβn1 e, Option.map_eq_some_iff] at hp
         obtain ⟨pp, hpp, rfl⟩ := hp
         obtain ⟨k1, q1, p1, blk1, hm1, hp1, hb1, hc1⟩ := hcovIn l hpp b j (zho.1 hcv) (by omega)
         exact h.may k1 p1 blk1 b j hp1 hb1 hc1 hlt
       . rw [hβn2 hno] at hp
         exact h.may k p b' b j hp hbb hcv hlt }
 . intro hl
   rcases hsafe with z | z
   . rw [hl] at z; cases z
   . exact z.1
end
end Go.Proofs.YthkhikdglmaiaaaGreatDoor.Abs
