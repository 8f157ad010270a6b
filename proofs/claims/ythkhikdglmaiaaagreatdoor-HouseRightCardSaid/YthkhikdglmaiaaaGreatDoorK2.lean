/- Texts towards the law HouseRight, put together (part 2): an abstract walk and its proof, functions of the program as trees, and plain laws. Conditions: none. -/
import Derived.Orders
import Derived.Deep.AppendSrc
import Derived.Deep.Upon
import Derived.Laws.MakeOwn
import Derived.Lib.SliceRun
import Derived.MapKept
import Derived.WideKeyRuns
import Derived.Laws.Pointers
import Derived.WideLaws
import Derived.ChangeKeysEq
import Derived.Test.YthkhikdglmaiaaaGreatDoorK1
set_option linter.unusedSimpArgs false
set_option linter.unusedVariables false
namespace Go.Proofs.YthkhikdglmaiaaaGreatDoor.Abs
open Go Go.RowKit
set_option linter.unusedVariables false
set_option linter.unusedSimpArgs false
def zf1 (ops:Array Oper) (g:Nat->V) (o:Oper):Option Bool :=
 match o.guard with
 | none=>some true
 | some (j,want)=>match (ops[j]?).bind (·.dst) with
  | some t=>yl (g t) want
  | none=>none

def ylv (v:Value) (want:Bool):Bool:=match v with | .bool b=>b==want | _=>false

theorem zfub {w:World} {β:Nat->Option Place} {U:Nat->Prop} {base:Nat} {v:Value} {x:V} {want T:Bool} (hx:RepV w β U base v x) (h:yl x want=some T):ylv v want=T:=by
 unfold yl at h
 split at h
 . obtain rfl:=hx.bool
   exact Option.some.inj h
 . have hc:v=undef:=hx.toC
   subst hc
   exact Option.some.inj h
 . cases h

theorem zd9 {w0:World} {U0:Nat->Prop} {X:Nat->Nat->Prop} {β0 β:Nat->Option Place} {U:Nat->Prop} {s:St} {a:Act} {w:World} (h:SimB w0 U0 X β0 β U s a w) {ops:Array Oper} {o:Oper} {T:Bool} (hg:zf1 ops s.get o=some T) :
   Region.wanted o (yielded ops a.tmps)=T:=by
 unfold zf1 at hg
 unfold Region.wanted
 split at hg
 . rename_i e; rw [e]; exact Option.some.inj hg
 . rename_i j want e
   rw [e]
   split at hg
   . rename_i t ht
     have:=zfub (h.env t) hg
     rw [<- this]
     simp only [yielded,ht,Option.bind_some]
     unfold ylv
     rw [Array.getD_eq_getD_getElem?]
     cases ht2:a.tmps[t]? with
     | none=>rfl
     | some v =>
      simp only [Option.getD_some]
      cases v <;> simp
   . cases hg

section
variable {P:Program}

theorem ztp {w0:World} {U0:Nat->Prop} {X:Nat->Nat->Prop} {β0 β:Nat->Option Place} {U:Nat->Prop} {s:St} {a:Act} {w:World} (h:SimB w0 U0 X β0 β U s a w) (o:Oper) (hd:∀ d,o.dst=some d->d<s.n) {E:Eff} (he:eff P o.dst o.op s.eval s.blk=some E) :
   ∃ v w',((execOp a.eval o).run P w=.ok (.value v) w'\/((execOp a.eval o).run P w=.ok .skip w'/\v=undef))/\Sim w0 U0 X β0 (s.app o.dst E) (a.put o.dst v) w':=by
 unfold eff at he
 split at he
 . rename_i x hx
   obtain rfl:=Option.some.inj he
   obtain ⟨v,h1,h2⟩:=zwg (P:=P) h.eval o hx
   exact ⟨v,w,.inl h1,_,_,h.put h2 hd⟩
 . split at he
   . rename_i x hx
     obtain rfl:=Option.some.inj he
     obtain ⟨v,h1,h2⟩:=zwf h h.eval o hx
     exact ⟨v,w,.inl h1,_,_,h.put h2 hd⟩
   . exact zwe h h.eval o hd he

def zq8 (P : Program) (f : FuncId) : Bool := match P.funcs[f]? with
 | some fn => fn.body.isSome && fn.name != "runtime.NumGoroutine"
 | none => false

theorem zzp {w:World} {f:FuncId} (h:zq8 P f=true) (args:Array Value):(callFunc f args).run P w=.ok (.enter f args) w:=by
 unfold zq8 at h
 cases hf:P.funcs[f]? with
 | none=>rw [hf] at h; cases h
 | some fn =>
  rw [hf] at h
  simp only [Bool.and_eq_true,bne_iff_ne,ne_eq] at h
  have h2:fn.body.isNone=false:=by cases hb:fn.body <;> simp_all
  unfold callFunc
  simp only [Sem.run_bind,run_program,Result.andThen_ok,hf,beq_iff_eq,h.1,h.2,if_false,h2,Bool.false_eq_true,Sem.run_pure]

def z85:V->Option (FuncId×List V)
 | .one (.clo f caps)=>some (f,caps.map vd)
 | .one (.clp f ks)=>some (f,ks.map fun p=>.one (.ptr p.1 p.2))
 | _=>none
theorem z4d {w:World} {β:Nat->Option Place} {U:Nat->Prop} {base:Nat} {v:Value} {x:V} {f:FuncId} {caps:List V} (h:RepV w β U base v x) (hc:z85 x=some (f,caps)) :
   ∃ us:List Value,v=.func (.func f) #[] us.toArray/\us.length=caps.length /\ ∀ (j:Nat) (u:Value) (y:V),us[j]?=some u->caps[j]?=some y->RepV w β U base u y:=by
 unfold z85 at hc
 split at hc
 . cases hc
   obtain ⟨us,h1,h2,h3⟩:=h.toC
   refine ⟨us,h1,by simp [h2],fun j u y hu hy=>?_⟩
   rw [List.getElem?_map,Option.map_eq_some_iff] at hy
   obtain ⟨d,hd,rfl⟩:=hy
   exact .one _ _ (h3 j u d hu hd)
 . cases hc
   obtain ⟨us,h1,h2,h3⟩:=h.toC
   refine ⟨us,h1,by simp [h2],fun j u y hu hy=>?_⟩
   rw [List.getElem?_map,Option.map_eq_some_iff] at hy
   obtain ⟨p,hp,rfl⟩:=hy
   exact .one _ _ (h3 j u p hu hp)
 . cases hc

structure CallTo (P:Program) (o:Oper) (s:St) (ks:List (Nat×Nat)) (lock:Bool) (f:FuncId) (caps:List V) (args:List Operand) (ys:List V) (m:List (Nat×Blk)) (r0:V) (m0:List (Nat×Blk)) (E:Out):Prop where
 op:∃ fo ats,o.op=.call { callee:=.value fo,args:=args.toArray,argTypes:=ats } /\ z85 (s.eval fo)=some (f,caps)
 enter:zq8 P f=true
 ok:okKs ks=true
 view:WkVs ((args.map s.eval++caps).map (zt6 s.blk (zcy s.blk ks) lock)) ys
 mem:∃ m1,zc4 s.blk (zcy s.blk ks) lock ks=some m1/\WkM m1 m
 few:ys.length<=900
 call:ACall P f ys m (fun r m'=>r=r0/\m'=m0)
 out:zki s ks lock o.dst r0 m0=some E

theorem CallTo.sound {o:Oper} {s:St} {ks:List (Nat×Nat)} {lock:Bool} {f:FuncId} {caps:List V} {args:List Operand} {ys:List V} {m:List (Nat×Blk)} {r0:V} {m0:List (Nat×Blk)} {E:Out} (hc:CallTo P o s ks lock f caps args ys m r0 m0 E) (hd:∀ d,o.dst=some d->d<s.n)
  {w0:World} {U0:Nat->Prop} {X:Nat->Nat->Prop} {β0:Nat->Option Place} {a:Act} {w:World} (h:Sim w0 U0 X β0 s a w) {K:Act->World->Prop} {Q:Exit->Act->World->Prop}
  (hK:∀ a' w',Sim w0 U0 X β0 (s.out o.dst E) a' w'->K a' w'):o.wp P a w K Q:=by
 obtain ⟨β,U,hb⟩:=h
 obtain ⟨⟨fo,ats,hop,hfo⟩,hen,hok,hview,⟨m1,hm1,hm⟩,hfew,hcall,hout⟩:=hc
 have hf:=hb.eval fo
 obtain ⟨us,hv,hl,hcaps⟩:=z4d hf hfo
 have hrep:∀ (j:Nat) (u:Value) (x:V),(args.map a.eval++us)[j]?=some u->(args.map s.eval++caps)[j]?=some x->RepV w β U w0.heap.size u x:=by
  intro j u x hu hx
  by_cases hj:j<args.length
  . rw [List.getElem?_append_left (by simpa using hj),List.getElem?_map,Option.map_eq_some_iff] at hu hx
    obtain ⟨y,hy,rfl⟩:=hu
    obtain ⟨y',hy',rfl⟩:=hx
    rw [hy] at hy'; cases hy'
    exact hb.eval y
  . rw [List.getElem?_append_right (by simp <;> omega)] at hu hx
    simp only [List.length_map] at hu hx
    exact hcaps _ u x hu hx
 have hcallee:=hb.callee (lock:=lock) (xs:=args.map s.eval++caps) (us:=args.map a.eval++us) (by simp [hl]) hrep hok hview hm1 hm hfew
 have hcl:=hcall w _ _ _ (args.map a.eval++us).toArray hcallee
 unfold Oper.wp
 have hrun:(execOp a.eval o).run P w=.ok (.enter f (args.map a.eval++us).toArray) w:=by
  simp only [execOp,hop,resolve,hv,Deferred.ofValue,Sem.run_bind,Sem.run_pure,Result.andThen_ok,invoke,Array.empty_append,List.map_toArray,List.append_toArray]
  exact zzp hen _
 rw [hrun,Oper.upon_enter]
 refine hcl.mono ?_
 rintro e w' ⟨v,r,m',rfl,⟨rfl,rfl⟩,hs⟩
 exact hK _ _ (hb.back hs hout hd)

def za0 (P:Program) (o:Oper) (s:St) (E:Out):Prop:=∀ (w0:World) (U0:Nat->Prop) (X:Nat->Nat->Prop) (β0 β:Nat->Option Place) (U:Nat->Prop) (a:Act) (w:World),SimB w0 U0 X β0 β U s a w ->
 ∃ v w',((execOp a.eval o).run P w=.ok (.value v) w'\/((execOp a.eval o).run P w=.ok .skip w'/\v=undef))/\Sim w0 U0 X β0 (s.out o.dst E) (a.put o.dst v) w'

inductive AStep (P:Program) (ops:Array Oper) (o:Oper) (s:St):List Nat->Out->Prop
 | ef (R:List Nat) (E:Eff) (hg:zf1 ops s.get o=some true) (he:eff P o.dst o.op s.eval s.blk=some E):AStep P ops o s R E.out
 | gd (R:List Nat) (T:Bool) (v:V) (hg:zf1 ops s.get o=some T) (he:T=true->eff P o.dst o.op s.eval s.blk=some ⟨v,none⟩):AStep P ops o s R ⟨mkgd T v,[]⟩
 | call (R:List Nat) (ks:List (Nat×Nat)) (lock:Bool) (f:FuncId) (caps:List V) (args:List Operand) (ys:List V) (m:List (Nat×Blk)) (r0:V) (m0:List (Nat×Blk)) (E:Out) (hg:zf1 ops s.get o=some true)
  (hc:CallTo P o s ks lock f caps args ys m r0 m0 E):AStep P ops o s R E
 | callgd (R:List Nat) (T:Bool) (lock:Bool) (f:FuncId) (caps:List V) (args:List Operand) (ys:List V) (r0 v:V) (hg:zf1 ops s.get o=some T)
  (hc:T=true->CallTo P o s [] lock f caps args ys [] r0 [] ⟨v,[]⟩):AStep P ops o s R ⟨mkgd T v,[]⟩
 | sem (R:List Nat) (E:Out) (hg:zf1 ops s.get o=some true) (h:(∀ d,o.dst=some d->d<s.n)->za0 P o s E):AStep P ops o s R E

theorem AStep.sound {ops:Array Oper} {o:Oper} {s:St} {R:List Nat} {E:Out} (hs:AStep P ops o s R E) (hd:∀ d,o.dst=some d->d<s.n)
  {w0:World} {U0:Nat->Prop} {X:Nat->Nat->Prop} {β0:Nat->Option Place} {a:Act} {w:World} (h:Sim w0 U0 X β0 s a w) {K:Act->World->Prop} {Q:Exit->Act->World->Prop}
  (hK:∀ a' w',Sim w0 U0 X β0 (s.out o.dst E) a' w'->K a' w') :
  if Region.wanted o (yielded ops a.tmps) then o.wp P a w K Q\/(o.asks P a w/\LetsOut Q) else K (a.put o.dst undef) w:=by
 have hsim:=h
 obtain ⟨β,U,hb⟩:=h
 have run:∀ {E:Eff},eff P o.dst o.op s.eval s.blk=some E->(∀ a' w',Sim w0 U0 X β0 (s.app o.dst E) a' w'->K a' w')->o.wp P a w K Q:=by
  intro E he hK'
  obtain ⟨v,w',h1,h2⟩:=ztp hb o hd he
  unfold Oper.wp
  rcases h1 with h1 | ⟨h1,rfl⟩
  . rw [h1]; exact hK' _ _ h2
  . rw [h1]; exact hK' _ _ h2
 cases hs with
 | ef E hg he =>
  rw [zd9 hb hg,if_pos rfl]
  exact .inl (run he fun a' w' h=>hK a' w' (by rw [<- St.app_out]; exact h))
 | gd T v hg he =>
  rw [zd9 hb hg]
  cases T with
  | true =>
    rw [if_pos rfl]
    exact .inl (run (he rfl) fun a' w' h=>hK a' w' h)
  | false =>
    rw [if_neg (by simp)]
    exact hK _ _ ⟨β,U,hb.put (x:=mkgd false v) (v:=undef) (.one undef .un rfl) hd⟩
 | call ks lock f caps args ys m r0 m0 E hg hc =>
  rw [zd9 hb hg,if_pos rfl]
  exact .inl (hc.sound hd hsim hK)
 | sem E hg he =>
  rw [zd9 hb hg,if_pos rfl]
  refine .inl ?_
  obtain ⟨v,w',h1,h2⟩:=he hd w0 U0 X β0 β U a w hb
  unfold Oper.wp
  rcases h1 with h1 | ⟨h1,rfl⟩
  . rw [h1]; exact hK _ _ h2
  . rw [h1]; exact hK _ _ h2
 | callgd T lock f caps args ys r0 v hg hc =>
  rw [zd9 hb hg]
  cases T with
  | true =>
    rw [if_pos rfl]
    exact .inl ((hc rfl).sound hd hsim hK)
  | false =>
    rw [if_neg (by simp)]
    exact hK _ _ ⟨β,U,hb.put (x:=mkgd false v) (v:=undef) (.one undef .un rfl) hd⟩

def allK:Nat:=3000000
def zv1 (o:Oper):Bool:=o.guard.isNone&&(match o.op with | .lookup _ _ _ false=>true | _=>false)
def z75 (o:Oper):Bool:=o.guard.isNone&&(match o.op with | .mapEntry _ _ _=>true | _=>false)
def Dfl (b b':Option Blk):Prop:=b'=b \/ ∃ (kt:Nat) (es:List (τ kt×Int)) (key:τ kt),b=some (.mp kt es)/\b'=some (.mp kt (mPut kt key ((mGet kt key es).getD 0) es))
def zi8 (o:Oper):Prop:=zv1 o=false/\z75 o=false
def Agree (ops:Array Oper) (o:Oper) (s s':St) (R W:List Nat):Prop:=s'.n=s.n/\(∀ t∈o.looksAt ops,s'.get t=s.get t) /\ ∀ k,(k∈R\/k∈W\/allK∈R)->s'.blk k=s.blk k\/(zv1 o=true/\Dfl (s.blk k) (s'.blk k))
theorem Agree.blk {ops:Array Oper} {o:Oper} {s s':St} {R W:List Nat} (h:Agree ops o s s' R W) (hp:zi8 o) {k:Nat} (hk:k∈R\/k∈W\/allK∈R):s'.blk k=s.blk k:=by
 rcases h.2.2 k hk with h | ⟨h,_⟩
 . exact h
 . rw [hp.1] at h; cases h
def Loc (P:Program) (ops:Array Oper) (o:Oper) (s:St) (R:List Nat) (E:Out):Prop:=(∀ s',Agree ops o s s' R (E.mem.map (·.1))->AStep P ops o s' R E)/\(z75 o=true -> ∀ k b,look k E.mem=some b->Dfl (s.blk k) (some b))
theorem Loc.plain {ops:Array Oper} {o:Oper} {s:St} {R:List Nat} {E:Out} (hp:zi8 o) (h:∀ s',Agree ops o s s' R (E.mem.map (·.1))->AStep P ops o s' R E):Loc P ops o s R E:=⟨h,fun e=>by rw [hp.2] at e; cases e⟩
theorem Loc.self {ops:Array Oper} {o:Oper} {s:St} {R:List Nat} {E:Out} (h:Loc P ops o s R E):AStep P ops o s R E:=h.1 s ⟨rfl,fun _ _=>rfl,fun _ _=>.inl rfl⟩

def ARun (P:Program) (ops:Array Oper) (fin:List (List Nat×List Nat)->Prop):List Oper->List (List Nat×List Nat)->St->(St->Prop)->Prop
 | [],log,s,K=>fin log/\K s
 | o :: rest,log,s,K=>(∀ d,o.dst=some d->d<s.n) /\ ∃ R E,Loc P ops o s R E/\ARun P ops fin rest (log++[(R,E.mem.map (·.1))]) (s.out o.dst E) K

theorem ARun.sound {ops:Array Oper} {fin:List (List Nat×List Nat)->Prop} {K:St->Prop}:∀ (l:List Oper) (log:List (List Nat×List Nat)) (s:St),ARun P ops fin l log s K ->
  ∀ {w0:World} {U0:Nat->Prop} {X:Nat->Nat->Prop} {β0:Nat->Option Place} {a:Act} {w:World} {Q:Exit->Act->World->Prop},Sim w0 U0 X β0 s a w->(∀ s' a' w',K s'->Sim w0 U0 X β0 s' a' w'->Q .normal a' w')->wpList P ops Q l a w
 | [],_,s,h,_,_,_,_,a,w,_,hs,hQ=>hQ s a w h.2 hs
 | o :: rest,_,s,h,_,_,_,_,_,_,Q,hs,hQ=>by
  obtain ⟨hd,R,E,h1,h2⟩:=h
  exact h1.self.sound hd hs (K:=wpList P ops Q rest) (Q:=Q) fun a' w' hs'=>ARun.sound rest _ _ h2 hs' hQ

def AWp (P:Program) (c:Code) (Q:Exit->St->Prop) (s:St):Prop :=
 ∀ (w0:World) (U0:Nat->Prop) (X:Nat->Nat->Prop) (β0:Nat->Option Place) (a:Act) (w:World),Sim w0 U0 X β0 s a w->c.wp P (fun e a' w'=>∃ s',Q e s'/\Sim w0 U0 X β0 s' a' w') a w

def zn4b (next:St->Prop) (Q:Exit->St->Prop):Exit->St->Prop
 | .normal,s=>next s
 | e,s=>Q e s
def zk2 (id:Nat) (Q:Exit->St->Prop):Exit->St->Prop
 | .exit id',s=>if id'=id then Q .normal s else Q (.exit id') s
 | e,s=>Q e s

theorem zew {c:Code} {Q Q':Exit->St->Prop} {s:St} (h:AWp P c Q s) (hq:∀ e s,Q e s->Q' e s):AWp P c Q' s :=
 fun w0 U0 X β0 a w hs=>wp_mono (h w0 U0 X β0 a w hs) fun e a' w' ⟨s',h1,h2⟩=>⟨s',hq e s' h1,h2⟩

theorem zfcb {x y:Code} {Q:Exit->St->Prop} {s:St} (h:AWp P x (zn4b (AWp P y Q) Q) s):AWp P (.seq x y) Q s:=by
 intro w0 U0 X β0 a w hs
 refine wp_seq (wp_mono (h w0 U0 X β0 a w hs) ?_)
 rintro e a' w' ⟨s',h1,h2⟩
 cases e with
 | normal=>exact h1 w0 U0 X β0 a' w' h2
 | _=>exact ⟨s',h1,h2⟩

theorem ziub {Q:Exit->St->Prop} {s:St} (h:Q .normal s):AWp P .skip Q s:=fun w0 U0 X β0 a w hs=>wp_skip ⟨s,h,hs⟩
theorem zl2b {Q:Exit->St->Prop} {s:St} (h:Q .ret s):AWp P .ret Q s:=fun w0 U0 X β0 a w hs=>wp_ret ⟨s,h,hs⟩
theorem zivb {id:Nat} {Q:Exit->St->Prop} {s:St} (h:Q (.exit id) s):AWp P (.exit id) Q s:=fun w0 U0 X β0 a w hs=>wp_exit ⟨s,h,hs⟩

theorem zt2 {id:Nat} {c:Code} {Q:Exit->St->Prop} {s:St} (h:AWp P c (zk2 id Q) s):AWp P (.block id c) Q s:=by
 intro w0 U0 X β0 a w hs
 refine wp_block (wp_mono (h w0 U0 X β0 a w hs) ?_)
 rintro e a' w' ⟨s',h1,h2⟩
 cases e with
 | exit id' =>
  unfold zk2 at h1
  unfold Exit.inBlock
  simp only at h1 ⊢
  split
  . rename_i e; rw [if_pos e] at h1; exact ⟨s',h1,h2⟩
  . rename_i e; rw [if_neg e] at h1; exact ⟨s',h1,h2⟩
 | _=>exact ⟨s',h1,h2⟩

theorem z55 {c:Operand} {x y:Code} {Q:Exit->St->Prop} {s:St} {t:Bool} (hc:s.eval c=vb t) (hx:t=true->AWp P x Q s) (hy:t=false->AWp P y Q s):AWp P (.cond c x y) Q s:=by
 intro w0 U0 X β0 a w hs
 obtain ⟨β,U,hb⟩:=hs
 have he:=hb.eval c
 rw [hc] at he
 exact wp_cond_split he.bool (fun e=>hx e w0 U0 X β0 a w ⟨β,U,hb⟩) (fun e=>hy e w0 U0 X β0 a w ⟨β,U,hb⟩)

theorem z9i {id:Nat} {l:List Oper} {Q:Exit->St->Prop} {s:St} (h:ARun P l.toArray (fun _=>True) l [] s (Q .normal)):AWp P (.region id l.toArray false) Q s:=by
 intro w0 U0 X β0 a w hs
 refine wp_region ?_
 rw [show (List.range l.toArray.size)=List.range' 0 l.length by rw [List.range_eq_range']; simp,wpOps_eq_wpList l 0 (fun j=>by simp)]
 exact ARun.sound l [] s h hs fun s' _ _ h1 h2=>⟨s',h1,h2⟩
end
end Go.Proofs.YthkhikdglmaiaaaGreatDoor.Abs
namespace Go.Proofs.YthkhikdglmaiaaaGreatDoor.Abs
open Go Go.RowKit
set_option linter.unusedVariables false
set_option linter.unusedSimpArgs false

def C.keys:C->List Nat
 | .own k _ _ | .sub k _ _ _ _ | .ptr k _ | .pr k _ _ _ _ | .asl k _ _ | .pre k _ _ _ | .mp k=>[k]
 | .clp _ ks=>ks.map (·.1)
 | _=>[]
def V.keys:V->List Nat
 | .one c=>c.keys
 | _=>[]

def V.mkeys:V->List Nat
 | .one (.mp k)=>[k]
 | _=>[]
def zad (dst:Option Nat) (op:Op) (ρ:Operand->V):List Nat :=
 match op with
 | .load _ x=>(ρ x).keys
 | .slice _ x _ _ _=>(ρ x).keys
 | .convert _ _ x=>(ρ x).keys++dst.toList
 | .alloc _ | .box _ _ | .buildSlice _ _ _ | .makeSlice _ _ _=>dst.toList
 | .store _ x _=>(ρ x).keys
 | .call { callee:=.builtin .append,args,.. } => (args.toList.map ρ).flatMap V.keys++dst.toList
 | .call { callee:=.builtin .clear,args,.. } => (args.toList.map ρ).flatMap V.keys
 | .call { callee:=.builtin .delete,args,.. } => (args.toList.map ρ).flatMap V.keys
 | .call { callee:=.builtin .len,args,.. } => (args.toList.map ρ).flatMap V.mkeys
 | .call { callee:=.builtin .cap,args,.. } => (args.toList.map ρ).flatMap V.keys
 | .makeMap _ _=>dst.toList
 | .lookup _ x _ _=>(ρ x).keys
 | .mapUpdate _ x _ _=>(ρ x).keys
 | .insert _ x _ _=>(ρ x).keys
 | .mapEntry _ x _=>(ρ x).keys
 | .entryStore _ x _ _=>(ρ x).keys
 | _=>[]

section
variable {P:Program} {ρ ρ':Operand->V} {m m':Nat->Option Blk} {op:Op} {dst:Option Nat}

theorem z8w (h:∀ x∈op.operands,ρ x=ρ' x):effQ P op ρ=effQ P op ρ':=by
 have pairs:∀ ps:Array (Nat×Operand),(∀ x∈(ps.toList.map (·.2)).toArray,ρ x=ρ' x) ->
   (ps.toList.map fun p=>(p.1,ρ p.2))=(ps.toList.map fun p=>(p.1,ρ' p.2)):=fun ps hp =>
  List.map_congr_left fun p hm=>by rw [hp p.2 (by simp; exact ⟨p.1,by simpa using hm⟩)]
 cases op <;> simp only [Op.operands] at h
 case build t ps=>simp only [effQ]; rw [pairs ps h]
 case buildSlice t n ps=>rfl
 case makeFunc fn first captured =>
  have e:captured.toList.map ρ=captured.toList.map ρ':=List.map_congr_left fun x hx=>h x (by simp; exact Or.inr (by simpa using hx))
  unfold effQ; cases fn <;> simp only [e]
 case slice t x lo hi mx=>cases lo <;> cases hi <;> cases mx <;> simp_all [effQ]
 case call c =>
  obtain ⟨cal,args,ats⟩:=c
  have e:∀ x∈args.toList,ρ x=ρ' x:=fun x hx=>h x (by simp [Call.operands]; exact Or.inr (by simpa using hx))
  have e2:args.toList.map ρ=args.toList.map ρ':=List.map_congr_left e
  cases cal with
  | builtin b =>
   cases b <;> simp only [effQ,e2]
   generalize args.toList=l at e
   generalize ats.toList=tl
   rcases tl with _ | ⟨t,_ | ⟨t2,r2⟩⟩ <;> rcases l with _ | ⟨x,_ | ⟨y,r⟩⟩ <;> first | rfl | (simp only [e x (by simp)])
  | value f=>rfl
  | invoke r m=>rfl
 all_goals (first | rfl | (simp_all [effQ]; done))

theorem zjp {x:V} (h:∀ k∈x.keys,m k=m' k):rowsOf m x=rowsOf m' x:=by
 unfold rowsOf
 split <;> simp only [V.keys,C.keys,List.mem_singleton,forall_eq] at h <;> simp only [h]

theorem z8v (h:∀ x∈op.operands,ρ x=ρ' x) (hm:∀ k∈zad dst op ρ,m k=m' k):effR P op ρ m=effR P op ρ' m':=by
 cases op <;> simp only [Op.operands] at h
 case load t a =>
  have e:=h a (by simp)
  simp only [zad] at hm
  unfold effR
  simp only [<- e]
  cases hx:ρ a with
  | one c=>cases c <;> (rw [hx] at hm; try simp only [V.keys,C.keys,List.mem_singleton,forall_eq] at hm) <;> first | rfl | simp only [hm]
  | _=>rfl
 case convert s d x =>
  have e:=h x (by simp)
  have hm2:∀ k∈(ρ x).keys,m k=m' k:=fun k hk=>hm k (List.mem_append_left _ hk)
  unfold effR
  have e3:=zjp hm2
  simp only [<- e]
  cases hx:ρ x with
  | one c=>rw [hx] at e3; cases c <;> first | rfl | simp only [e3]
  | _=>rfl
 all_goals rfl

theorem z8u (h:∀ x∈op.operands,ρ x=ρ' x) (hm:∀ k∈zad dst op ρ,m k=m' k):effW P dst op ρ m=effW P dst op ρ' m':=by
 have pairs:∀ ps:Array (Nat×Operand),(∀ x∈(ps.toList.map (·.2)).toArray,ρ x=ρ' x) ->
   (ps.toList.map fun p=>(p.1,ρ p.2))=(ps.toList.map fun p=>(p.1,ρ' p.2)):=fun ps hp =>
  List.map_congr_left fun p hm=>by rw [hp p.2 (by simp; exact ⟨p.1,by simpa using hm⟩)]
 cases dst with
 | none =>
  cases op <;> simp only [Op.operands] at h
  case store t a x =>
   have e:=h a (by simp)
   have e2:=h x (by simp)
   simp only [zad] at hm
   unfold effW
   simp only [<- e,<- e2]
   cases hx:ρ a with
   | one c =>
    cases c <;> (rw [hx] at hm; try simp only [V.keys,C.keys,List.mem_singleton,forall_eq] at hm) <;> first | rfl | simp only [hm]
   | _=>rfl
  all_goals rfl
 | some d =>
  cases op <;> simp only [Op.operands] at h
  case alloc t=>simp only [zad,Option.toList_some,List.mem_singleton,forall_eq] at hm; unfold effW; simp only [hm]
  case box t x=>simp only [zad,Option.toList_some,List.mem_singleton,forall_eq] at hm; unfold effW; simp only [hm,h x (by simp)]
  case buildSlice t n ps=>simp only [zad,Option.toList_some,List.mem_singleton,forall_eq] at hm; unfold effW; simp only [hm,pairs ps h]
  case convert s t x =>
   have hd:m d=m' d:=hm d (List.mem_append_right _ (by simp))
   unfold effW; simp only [hd,h x (by simp)]
  case call c =>
   obtain ⟨cal,args,ats⟩:=c
   have e:∀ x∈args.toList,ρ x=ρ' x:=fun x hx=>h x (by simp [Call.operands]; exact Or.inr (by simpa using hx))
   cases cal with
   | builtin b =>
    cases b
    case append =>
     simp only [zad] at hm
     have hd:m d=m' d:=hm d (List.mem_append_right _ (by simp))
     have hk:∀ x∈args.toList,∀ k∈(ρ x).keys,m k=m' k:=fun x hx k hk=>hm k (List.mem_append_left _ (List.mem_flatMap.2 ⟨ρ x,List.mem_map.2 ⟨x,hx,rfl⟩,hk⟩))
     unfold effW
     simp only
     generalize args.toList=l at e hk
     generalize ats.toList=tl
     rcases l with _ | ⟨x,_ | ⟨y,_ | ⟨z,r⟩⟩⟩ <;> rcases tl with _ | ⟨t,_ | ⟨t',_ | ⟨t2,r2⟩⟩⟩ <;> try rfl
     have e1:=e x (by simp)
     have e2:=e y (by simp)
     have k1:=hk x (by simp)
     have k2:=hk y (by simp)
     simp only [<- e1,<- e2,zjp k2,hd]
     cases hx:ρ x with
     | one c =>
      cases c <;> (rw [hx] at k1; try simp only [V.keys,C.keys,List.mem_singleton,forall_eq] at k1) <;> first | rfl | simp only [k1]
     | _=>rfl
    all_goals rfl
   | value f=>rfl
   | invoke r m=>rfl
  all_goals rfl

theorem z1g (h:∀ x∈op.operands,ρ x=ρ' x) (hm:∀ k∈zad dst op ρ,m k=m' k):eff P dst op ρ m=eff P dst op ρ' m':=by
 unfold eff
 rw [z8w h,z8v h hm,z8u h hm]

end
end Go.Proofs.YthkhikdglmaiaaaGreatDoor.Abs
namespace Go.Proofs.YthkhikdglmaiaaaGreatDoor.Abs
open Go Go.RowKit
set_option linter.unusedVariables false

section
variable {α:Type}
def val (W:Nat->Option α) (init:α) (L:Nat->Bool):Nat->α
 | 0=>init
 | m+1=>if L m then (W m).getD (val W init L m) else val W init L m

theorem zdz (W:Nat->Option α) (init:α) (L:Nat->Bool) (m:Nat):val W init L (m+1)=if L m then (W m).getD (val W init L m) else val W init L m:=rfl

theorem ze2 {W:Nat->Option α} {init:α} {L L':Nat->Bool}:∀ {n:Nat},(∀ i,i<n->(W i).isSome=true->L i=L' i)->val W init L n=val W init L' n
 | 0,_=>rfl
 | n+1,h=>by
  have ih:=ze2 (n:=n) (init:=init) fun i hi=>h i (by omega)
  simp only [zdz]
  cases hw:W n with
  | none=>simp only [Option.getD_none,ih,ite_self]
  | some v=>rw [h n (by omega) (by rw [hw]; rfl),ih]

theorem z4q {W : Nat -> Option α} {init : α} {j : Nat} : ∀ {n : Nat}, j <= n -> val W init (fun i => decide (i < j)) n = val W init (fun _ => true) j
  | 0, h => by obtain rfl : j = 0 := by omega
               rfl
  | n + 1, h => by
    by_cases e : j = n + 1
    . subst e
      exact ze2 fun i hi _ => by simpa using hi
    . have ih := z4q (n := n) (j := j) (W := W) (init := init) (by omega)
      simp only [zdz]
      rw [if_neg (by simp <;> omega), ih]

theorem zi1b {W:Nat->Option α} {init:α} {L:Nat->Bool} {j n:Nat} (h:∀ i,i<n->(W i).isSome=true->L i=decide (i<j)) (hj:j<=n):val W init L n=val W init (fun _=>true) j:=by
 rw [ze2 h,z4q hj]

theorem zw0 {W:Nat->Option α} {init:α} {L:Nat->Bool} {j:Nat} (hL:L j=false):∀ {n:Nat},j<n->(∀ i,j<i->i<n->(W i).isSome=true->(W j).isSome=true->L i=false) ->
  val W init (fun i=>L i || i==j) n=(W j).getD (val W init L n)
 | 0,h,_=>by omega
 | n+1,h,hl=>by
  by_cases e:j=n
  . subst e
    have e1:val W init (fun i=>L i || i==j) j=val W init L j:=ze2 fun i hi _=>by
     have:(i==j)=false:=by simp; omega
     simp [this]
    simp only [zdz]
    simp only [beq_self_eq_true,Bool.or_true,if_true,hL,Bool.false_eq_true,if_false,e1]
  . have ih:=zw0 hL (n:=n) (W:=W) (init:=init) (by omega) fun i h1 h2 h3=>hl i h1 (by omega) h3
    have hne:(n==j)=false:=by simp; omega
    simp only [zdz]
    simp only [hne,Bool.or_false,ih]
    cases hw:W j with
    | none=>simp only [Option.getD_none]
    | some v =>
     simp only [Option.getD_some]
     split
     . rename_i hn
       cases hwn:W n with
       | none=>rfl
       | some u=>rw [hl n (by omega) (by omega) (by rw [hwn]; rfl) (by rw [hw]; rfl)] at hn; cases hn
     . rfl
end

abbrev Rec:=List Nat×Out
def runN:List Oper->List Rec->Nat->St->St
 | o :: r,p :: q,i+1,s=>runN r q i (s.out o.dst p.2)
 | _,_,_,s=>s

def Chain (P:Program) (ops:Array Oper):List Oper->List Rec->St->(St->Prop)->Prop
 | [],[],s,K=>K s
 | o :: r,p :: q,s,K=>(∀ d,o.dst=some d->d<s.n)/\Loc P ops o s p.1 p.2/\Chain P ops r q (s.out o.dst p.2) K
 | _,_,_,_=>False

section
variable {P:Program} {ops:Array Oper}

theorem ARun.recs {fin:List (List Nat×List Nat)->Prop} {K:St->Prop}:∀ (l:List Oper) (log:List (List Nat×List Nat)) (s:St),ARun P ops fin l log s K ->
  ∃ recs:List Rec,Chain P ops l recs s K/\fin (log++recs.map fun p=>(p.1,p.2.mem.map (·.1)))
 | [],log,s,h=>⟨[],h.2,by simpa using h.1⟩
 | o :: r,log,s,h=>by
  obtain ⟨hd,R,E,h1,h2⟩:=h
  obtain ⟨q,h3,h4⟩:=ARun.recs r _ _ h2
  exact ⟨(R,E) :: q,⟨hd,h1,h3⟩,by simpa using h4⟩

theorem za6b:∀ (l:List Oper) (q:List Rec) (i:Nat) (s:St),(runN l q i s).n=s.n
 | o :: r,p :: q,i+1,s=>by rw [runN,za6b]; exact St.n_put _ _ _
 | [],_,_,s=>by unfold runN; rfl
 | o :: r,[],_,s=>by unfold runN; rfl
 | o :: r,p :: q,0,s=>by unfold runN; rfl

theorem zr0:∀ (l:List Oper) (q:List Rec) (i:Nat) (s:St) (o:Oper) (p:Rec),l[i]?=some o->q[i]?=some p->runN l q (i+1) s=(runN l q i s).out o.dst p.2
 | o' :: r,p' :: q,0,s,o,p,h1,h2=>by
  simp at h1 h2; subst h1; subst h2
  cases r <;> cases q <;> rfl
 | o' :: r,p' :: q,i+1,s,o,p,h1,h2=>by
  rw [runN,runN,zr0 r q i _ o p (by simpa using h1) (by simpa using h2)]
 | [],_,_,_,_,_,h,_=>by simp at h
 | o' :: r,[],_,_,_,_,_,h=>by simp at h

theorem Chain.length {K:St->Prop}:∀ {l:List Oper} {q:List Rec} {s:St},Chain P ops l q s K->l.length=q.length
 | [],[],_,_=>rfl
 | o :: r,p :: q,_,h=>by simp [Chain.length h.2.2]
 | [],p :: q,_,h=>h.elim
 | o :: r,[],_,h=>h.elim

theorem Chain.at {K:St->Prop}:∀ {l:List Oper} {q:List Rec} {s:St},Chain P ops l q s K -> ∀ (i:Nat) (o:Oper) (p:Rec),l[i]?=some o->q[i]?=some p ->
  (∀ d,o.dst=some d->d<s.n)/\Loc P ops o (runN l q i s) p.1 p.2
 | o' :: r,p' :: q,s,h,0,o,p,h1,h2=>by simp at h1 h2; subst h1; subst h2; exact ⟨h.1,h.2.1⟩
 | o' :: r,p' :: q,s,h,i+1,o,p,h1,h2=>by
  obtain ⟨k1,k2⟩:=Chain.at h.2.2 i o p (by simpa using h1) (by simpa using h2)
  exact ⟨fun d hd=>by have h3:=k1 d hd; rw [show (s.out o'.dst p'.2).n=s.n from St.n_put _ _ _] at h3; exact h3,k2⟩
 | [],[],s,h,i,o,p,h1,h2=>by simp at h1
 | [],p' :: q,s,h,i,o,p,h1,h2=>h.elim
 | o' :: r,[],s,h,i,o,p,h1,h2=>h.elim

theorem Chain.end {K:St->Prop}:∀ {l:List Oper} {q:List Rec} {s:St},Chain P ops l q s K->K (runN l q l.length s)
 | [],[],_,h=>h
 | o :: r,p :: q,_,h=>Chain.end (l:=r) h.2.2
 | [],p :: q,_,h=>h.elim
 | o :: r,[],_,h=>h.elim

def wT (l:List Oper) (q:List Rec) (t:Nat) (i:Nat):Option V :=
 match l[i]?,q[i]? with
 | some o,some p=>if o.dst=some t then some p.2.val else none
 | _,_=>none
def wM (q:List Rec) (k:Nat) (i:Nat):Option (Option Blk):=(q[i]?).bind fun p=>(look k p.2.mem).map some

theorem zbub (s:St) (dst:Option Nat) (E:Out) (t:Nat):(s.out dst E).get t=if dst=some t then E.val else s.get t:=by
 cases dst with
 | none=>rfl
 | some d =>
  unfold St.out
  rw [St.get_put]
  by_cases e:d=t
  . simp [e]
  . rw [if_neg e,if_neg (by simpa using e)]; rfl
theorem zbvb (s:St) (dst:Option Nat) (E:Out) (k:Nat):(s.out dst E).blk k=((look k E.mem).map some).getD (s.blk k):=by
 unfold St.out
 rw [St.blk_put]
 show look k (E.mem++s.mem)=_
 rw [zik]
 cases look k E.mem <;> rfl

theorem zxd {l:List Oper} {q:List Rec} {s:St} (hl:l.length=q.length) (t:Nat):∀ {j:Nat},j<=l.length->(runN l q j s).get t=val (wT l q t) (s.get t) (fun _=>true) j
 | 0,_=>by cases l <;> cases q <;> rfl
 | j+1,h=>by
  have h1:l[j]?=some l[j]:=List.getElem?_eq_getElem (by omega)
  have h2:q[j]?=some q[j]:=List.getElem?_eq_getElem (by omega)
  rw [zr0 l q j s _ _ h1 h2,zbub,zxd hl t (by omega),zdz,if_pos rfl]
  generalize val (wT l q t) (s.get t) (fun _=>true) j=v
  unfold wT
  simp only [h1,h2]
  split <;> rfl
theorem znb {l:List Oper} {q:List Rec} {s:St} (hl:l.length=q.length) (k:Nat):∀ {j:Nat},j<=l.length->(runN l q j s).blk k=val (wM q k) (s.blk k) (fun _=>true) j
 | 0,_=>by cases l <;> cases q <;> rfl
 | j+1,h=>by
  have h1:l[j]?=some l[j]:=List.getElem?_eq_getElem (by omega)
  have h2:q[j]?=some q[j]:=List.getElem?_eq_getElem (by omega)
  rw [zr0 l q j s _ _ h1 h2,zbvb,znb hl k (by omega),zdz,if_pos rfl]
  generalize val (wM q k) (s.blk k) (fun _=>true) j=v
  unfold wM
  simp only [h2,Option.bind_some]

def zfz (o:Oper):List Nat:=(o.after.toList.filter (Region.binds .any)).map (·.on)
def mj (M:List Nat):List Nat->Nat
 | []=>0
 | e :: r=>(2^e ||| M.getD e 0) ||| mj M r
def zb5b:List Oper->List Nat->List Nat
 | [],M=>M
 | o :: r,M=>zb5b r (M++[mj M (zfz o)])
def meets (W R:List Nat):Bool:=(!W.isEmpty&&R.contains allK) || W.any R.contains
def zkf (ops:Array Oper) (a b:Oper):Bool :=
 (match a.dst with | some d=>(b.looksAt ops).contains d || b.dst==some d | none=>false) || (match b.dst with | some d=>(a.looksAt ops).contains d | none=>false)
def clash (ops:Array Oper) (a b:Oper) (p q:List Nat×List Nat):Bool :=
 zkf ops a b || meets p.2 (q.1++q.2) || meets q.2 p.1
def zla (log:List (List Nat×List Nat)) (i m:Nat) (a b:Oper):Bool :=
 zv1 a&&z75 b&&(log.getD i ([],[])).2.isEmpty&&(List.range m).all fun h=>!meets (log.getD h ([],[])).2 (log.getD i ([],[])).1
def zxy (ops:Array Oper) (log:List (List Nat×List Nat)):Bool :=
 let M:=zb5b ops.toList []
 (List.range ops.size).all fun j=>match ops[j]? with
  | some o=>(zfz o).all (fun e=>decide (e<j))&&M.getD j 0==mj M (zfz o)&&(List.range j).all fun i=>match ops[i]? with
   | some o'=>!clash ops o' o (log.getD i ([],[])) (log.getD j ([],[])) || (M.getD j 0).testBit i || (!zkf ops o' o&&zla log i j o' o)
   | none=>true
  | none=>true

theorem zi7b {M:List Nat} {i:Nat}:∀ {l:List Nat},(mj M l).testBit i=true -> ∃ e∈l,i=e\/(M.getD e 0).testBit i=true
 | [],h=>by simp [mj] at h
 | e :: r,h=>by
  unfold mj at h
  rw [Nat.testBit_or,Nat.testBit_or,Nat.testBit_two_pow,Bool.or_eq_true,Bool.or_eq_true,decide_eq_true_eq] at h
  rcases h with (h | h) | h
  . exact ⟨e,List.mem_cons_self,.inl h.symm⟩
  . exact ⟨e,List.mem_cons_self,.inr h⟩
  . obtain ⟨e',h1,h2⟩:=zi7b h
    exact ⟨e',List.mem_cons_of_mem _ h1,h2⟩

theorem Sim.eqv {w0:World} {U0:Nat->Prop} {X:Nat->Nat->Prop} {β0:Nat->Option Place} {s s':St} {a:Act} {w:World} (hn:s'.n=s.n) (hg:∀ t,s'.get t=s.get t) (hb:∀ k,s'.blk k=s.blk k) (h:Sim w0 U0 X β0 s a w):Sim w0 U0 X β0 s' a w:=by
 obtain ⟨β,U,h⟩:=h
 exact ⟨β,U,{ n:=by rw [hn]; exact h.n,small:=by rw [hn]; exact h.small,args:=h.args,ver0:=h.ver0,hist:=by simpa only [hb] using h.hist,defers:=h.defers,env:=by simpa only [hg] using h.env,mem:=by simpa only [hb] using h.mem,dom:=by simpa only [hb] using h.dom,apart:=h.apart,inj:=by simpa only [hb] using h.inj,stab:=h.stab,glob:=h.glob,old:=h.old,new:=h.new,chg:=h.chg,may:=by simpa only [hb] using h.may }⟩

theorem Sim.drawn {w0:World} {U0:Nat->Prop} {X:Nat->Nat->Prop} {β0:Nat->Option Place} {s:St} {a:Act} {w:World} {k:Nat} (h:Sim w0 U0 X β0 s a w):Sim w0 U0 X β0 s a { w with drawn:=k }:=by
 obtain ⟨β,U,h⟩:=h
 refine ⟨β,U,{ n:=h.n,small:=h.small,args:=h.args,ver0:=h.ver0,hist:=h.hist,defers:=h.defers,env:=fun t=>(h.env t).map (fun _ e=>e) (fun _ _=>rfl) (Evo.refl _),mem:=fun k b hk=>?_,dom:=h.dom,apart:=h.apart,inj:=h.inj,stab:=h.stab,glob:=h.glob.map (fun _ e=>e) (fun _ _=>rfl),old:=h.old,new:=h.new,chg:=⟨h.chg.os,h.chg.tape,h.chg.output,h.chg.size,h.chg.block⟩,may:=h.may }⟩
 obtain ⟨p,h1,h2⟩:=h.mem k b hk
 exact ⟨p,h1,h2.map (fun _ e=>e) (fun _ _=>rfl) (Evo.refl _) (fun _ _ _=>⟨rfl,rfl⟩) fun _ _ _=>rfl⟩

def cnt (L:Nat->Bool):Nat->Nat
 | 0=>0
 | m+1=>cnt L m+if L m then 0 else 1
theorem z1p {L L':Nat->Bool}:∀ {n:Nat},(∀ i,i<n->L i=L' i)->cnt L n=cnt L' n
 | 0,_=>rfl
 | n+1,h=>by unfold cnt; rw [z1p fun i hi=>h i (by omega),h n (by omega)]
theorem zenb {L:Nat->Bool} {j:Nat} (hL:L j=false):∀ {n:Nat},j<n->cnt (fun i=>L i || i==j) n+1=cnt L n
 | 0,h=>by omega
 | n+1,h=>by
  by_cases e:j=n
  . subst e
    have:cnt (fun i=>L i || i==j) j=cnt L j:=z1p fun i hi=>by
     have:(i==j)=false:=by simp; omega
     simp [this]
    unfold cnt
    simp [this,hL]
  . have ih:=zenb hL (n:=n) (by omega)
    have hne:(n==j)=false:=by simp; omega
    unfold cnt
    simp only [hne,Bool.or_false]
    omega
theorem z5z {L:Nat->Bool}:∀ {n:Nat},cnt L n=0 -> ∀ i,i<n->L i=true
 | 0,_,i,hi=>by omega
 | n+1,h,i,hi=>by
  unfold cnt at h
  by_cases e:i=n
  . subst e
    cases hl:L i with
    | true=>rfl
    | false=>simp [hl] at h
  . exact z5z (n:=n) (by omega) i (by omega)
theorem zjhb {L:Nat->Bool}:∀ {n:Nat},cnt L n<=n
 | 0=>Nat.le_refl _
 | n+1=>by unfold cnt; have:=zjhb (L:=L) (n:=n); split <;> omega

structure Ordered (ops:Array Oper) (log:List (List Nat×List Nat)) (M:List Nat):Prop where
 back:∀ (j:Nat) (o:Oper),ops[j]?=some o -> ∀ e∈zfz o,e<j
 mask:∀ (j:Nat) (o:Oper),ops[j]?=some o->M.getD j 0=mj M (zfz o)
 clash:∀ (i j:Nat) (o o':Oper),i<j->ops[j]?=some o->ops[i]?=some o'->clash ops o' o (log.getD i ([],[])) (log.getD j ([],[]))=true->(M.getD j 0).testBit i=true\/(zkf ops o' o=false/\zla log i j o' o=true)
theorem z0d {log:List (List Nat×List Nat)} (h:zxy ops log=true):∃ M,Ordered ops log M:=by
 refine ⟨zb5b ops.toList [],?_⟩
 unfold zxy at h
 simp only [List.all_eq_true,List.mem_range] at h
 have hj:∀ (j:Nat) (o:Oper),ops[j]?=some o->_:=fun j o ho=>by
  have:=h j (Array.getElem?_eq_some_iff.1 ho).1
  rw [ho] at this
  simp only [Bool.and_eq_true,List.all_eq_true,decide_eq_true_eq,beq_iff_eq,List.mem_range] at this
  exact this
 refine ⟨fun j o ho=>(hj j o ho).1.1,fun j o ho=>(hj j o ho).1.2,fun i j o o' hij ho ho' hc=>?_⟩
 have:=(hj j o ho).2 i hij
 rw [ho'] at this
 simp only [hc,Bool.not_true,Bool.false_or,Bool.or_eq_true,Bool.and_eq_true,Bool.not_eq_true'] at this
 exact this

theorem zsw {o:Oper} {e:Nat}:e∈zfz o ↔ ∃ x∈o.after,Region.binds .any x=true/\x.on=e:=by
 unfold zfz
 simp [List.mem_map,List.mem_filter,and_assoc]

section
variable {log:List (List Nat×List Nat)} {M:List Nat} {L:Nat->Bool}
def Dc (ops:Array Oper) (L:Nat->Bool):Prop:=∀ (j:Nat) (o:Oper),ops[j]?=some o->L j=true -> ∀ e∈zfz o,L e=true
theorem zeib (h:Ordered ops log M) (hd:Dc ops L):∀ (j:Nat) (o:Oper),ops[j]?=some o->(∀ e∈zfz o,L e=true) -> ∀ i,(M.getD j 0).testBit i=true->L i=true:=by
 intro j
 induction j using Nat.strongRecOn with
 | _ j ih =>
  intro o ho hb i hi
  rw [h.mask j o ho] at hi
  obtain ⟨e,he,hie⟩:=zi7b hi
  rcases hie with rfl | hie
  . exact hb _ he
  . have hlt:=h.back j o ho e he
    have hj:=(Array.getElem?_eq_some_iff.1 ho).1
    have ho':ops[e]?=some ops[e]:=Array.getElem?_eq_getElem (by omega)
    exact ih e hlt _ ho' (hd e _ ho' (hb _ he)) i hie
end

theorem zfxb {K : St -> Prop} {recs : List Rec} {s : St} {M : List Nat} (hc : Chain P ops ops.toList recs s K) (ho : Ordered ops (recs.map fun p => (p.1, p.2.mem.map (·.1))) M)
  {w0 : World} {U0 : Nat -> Prop} {X : Nat -> Nat -> Prop} {β0 : Nat -> Option Place} {Q : Exit -> Act -> World -> Prop} (hQ : ∀ s' a' w', K s' -> Sim w0 U0 X β0 s' a' w' -> Q .normal a' w') :
  ∀ (fuel : Nat) (listed : Array Bool) (s' : St) (a : Act) (w : World), listed.size = ops.size -> cnt (fun i => listed.getD i false) ops.size <= fuel -> Dc ops (fun i => listed.getD i false) ->
    s'.n = s.n -> (∀ t, s'.get t = val (wT ops.toList recs t) (s.get t) (fun i => listed.getD i false) ops.size) -> (∀ k, s'.blk k = val (wM recs k) (s.blk k) (fun i => listed.getD i false) ops.size) ->
    Sim w0 U0 X β0 s' a w -> wpAny P .any ops Q fuel listed a w := by
 have hlen := hc.length
 have hsz : ops.toList.length = ops.size := by simp
 have done : ∀ (listed : Array Bool) (s' : St) (a : Act) (w : World), (∀ i, i < ops.size -> listed.getD i false = true) -> s'.n = s.n -> (∀ t, s'.get t = val (wT ops.toList recs t) (s.get t) (fun i => listed.getD i false) ops.size) -> (∀ k, s'.blk k = val (wM recs k) (s.blk k) (fun i => listed.getD i false) ops.size) ->
    Sim w0 U0 X β0 s' a w -> Q .normal a w := by
  intro listed s' a w hall hn hg hb hs
  refine hQ _ a w hc.end (hs.eqv (by rw [za6b, hn]) (fun t => ?_) fun k => ?_)
  . rw [hg, zxd hlen t (Nat.le_refl _), hsz]
    exact ze2 fun i hi _ => (hall i hi).symm
  . rw [hb, znb hlen k (Nat.le_refl _), hsz]
    exact ze2 fun i hi _ => (hall i hi).symm
 have empty : ∀ (listed : Array Bool), listed.size = ops.size -> Dc ops (fun i => listed.getD i false) -> Region.ready .any ops listed = [] -> ∀ i, i < ops.size -> listed.getD i false = true := by
  intro listed hls hd hr i
  induction i using Nat.strongRecOn with
  | _ i ih =>
    intro hi
    cases hl : listed.getD i false with
    | true => rfl
    | false =>
      have : i ∈ Region.ready .any ops listed := by
        rw [mem_ready]
        refine ⟨?_, ops[i], Array.getElem?_eq_getElem hi, fun e he hb => ?_⟩
        . have hil : i < listed.size := by omega
          simp only [Array.getD, hil, dif_pos] at hl ⊢; exact hl
        . have hbe : e.on ∈ zfz ops[i] := zsw.2 ⟨e, he, hb, rfl⟩
          have := ho.back i _ (Array.getElem?_eq_getElem hi) _ hbe
          exact ih _ this (by omega)
      rw [hr] at this
      cases this
 intro fuel
 induction fuel with
 | zero =>
  intro listed s' a w hls hcnt hd hn hg hb hs
  have hall := z5z (Nat.le_zero.1 hcnt)
  refine ⟨?_, done listed s' a w hall hn hg hb hs⟩
  cases hr : Region.ready .any ops listed with
  | nil => rfl
  | cons i r =>
    have : i ∈ Region.ready .any ops listed := by rw [hr]; exact List.mem_cons_self
    obtain ⟨h1, o, h2, -⟩ := mem_ready.1 this
    have hi := (Array.getElem?_eq_some_iff.1 h2).1
    have h3 := hall i hi
    have hil : i < listed.size := by omega
    simp only [Array.getD, hil, dif_pos] at h1 h3
    rw [h1] at h3; cases h3
 | succ fuel ih =>
  intro listed s' a w hls hcnt hd hn hg hb hs
  refine ⟨fun hr => done listed s' a w (empty listed hls hd hr) hn hg hb hs, fun j hj => ?_⟩
  obtain ⟨hlj, o, hoj, hej⟩ := mem_ready.1 hj
  have hjn := (Array.getElem?_eq_some_iff.1 hoj).1
  have hLj : listed.getD j false = false := by
    have hil : j < listed.size := by omega
    simp only [Array.getD, hil, dif_pos] at hlj ⊢; exact hlj
  have hbj : ∀ e ∈ zfz o, listed.getD e false = true := fun e he => by
    obtain ⟨x, hx, hxb, rfl⟩ := zsw.1 he
    exact hej x hx hxb
  have hoj' : ops.toList[j]? = some o := by simpa using hoj
  have hjr : j < recs.length := by omega
  have hpj : recs[j]? = some recs[j] := List.getElem?_eq_getElem hjr
  obtain ⟨hdst, hloc⟩ := hc.at j o _ hoj' hpj
  have logAt : ∀ i (hi : i < recs.length), (recs.map fun p => (p.1, p.2.mem.map (·.1))).getD i ([], []) = (recs[i].1, recs[i].2.mem.map (·.1)) := fun i hi => by
    simp [List.getD, hi]
  -- who clashes with j is where it was
  have order : ∀ (i : Nat) (o' : Oper) (hi : i < recs.length), ops[i]? = some o' -> i ≠ j ->
      (i < j -> clash ops o' o (recs[i].1, recs[i].2.mem.map (·.1)) (recs[j].1, recs[j].2.mem.map (·.1)) = true /\ (zkf ops o' o = false -> zla (recs.map fun p => (p.1, p.2.mem.map (·.1))) i j o' o = false)) ->
      (j < i -> clash ops o o' (recs[j].1, recs[j].2.mem.map (·.1)) (recs[i].1, recs[i].2.mem.map (·.1)) = true /\ (zkf ops o o' = false -> zla (recs.map fun p => (p.1, p.2.mem.map (·.1))) j i o o' = false)) -> listed.getD i false = decide (i < j) := by
    intro i o' hi ho' hne h1 h2
    by_cases hij : i < j
    . rcases ho.clash i j o o' hij hoj ho' (by rw [logAt i hi, logAt j hjr]; exact (h1 hij).1) with this | ⟨q1, q2⟩
      . rw [zeib ho hd j o hoj hbj i this]; simp [hij]
      . rw [(h1 hij).2 q1] at q2; cases q2
    . have hji : j < i := by omega
      rcases ho.clash j i o' o hji ho' hoj (by rw [logAt i hi, logAt j hjr]; exact (h2 hji).1) with this | ⟨q1, q2⟩
      case inr => rw [(h2 hji).2 q1] at q2; cases q2
      cases hL : listed.getD i false with
      | false => simp [hij]
      | true =>
        have := zeib ho hd i o' ho' (hd i o' ho' hL) j this
        rw [hLj] at this; cases this
  have readT : ∀ t, t ∈ o.looksAt ops -> s'.get t = (runN ops.toList recs j s).get t := by
    intro t ht
    rw [hg, zxd hlen t (by omega)]
    refine zi1b (fun i hi hw => ?_) (by omega)
    unfold wT at hw
    have ho' : ops[i]? = some ops[i] := Array.getElem?_eq_getElem hi
    have hi' : i < recs.length := by omega
    have e1 : ops.toList[i]? = some ops[i] := by simp [ho']
    simp only [e1, List.getElem?_eq_getElem hi'] at hw
    by_cases hdt : ops[i].dst = some t
    . by_cases hij : i = j
      . subst hij; rw [hLj]; simp
      . refine order i _ hi' ho' hij (fun _ => ?_) (fun _ => ?_)
        . have e : zkf ops ops[i] o = true := by unfold zkf; simp [hdt, ht]
          exact ⟨by unfold clash; simp [e], fun h => by rw [e] at h; cases h⟩
        . have e : zkf ops o ops[i] = true := by unfold zkf; simp [hdt, ht]
          exact ⟨by unfold clash; simp [e], fun h => by rw [e] at h; cases h⟩
    . rw [if_neg hdt] at hw; cases hw
  have wMat : ∀ i k, i < ops.size -> (wM recs k i).isSome = true -> ∃ (hi : i < recs.length), k ∈ recs[i].2.mem.map (·.1) := by
    intro i k hi hw
    have hi' : i < recs.length := by omega
    refine ⟨hi', ?_⟩
    unfold wM at hw
    rw [List.getElem?_eq_getElem hi'] at hw
    simp only [Option.bind_some, Option.isSome_map] at hw
    obtain ⟨b, hbk⟩ := Option.isSome_iff_exists.1 hw
    exact List.mem_map.2 ⟨(k, b), zc3 hbk, rfl⟩
  have meets_self : ∀ (W R : List Nat) k, k ∈ W -> (k ∈ R \/ allK ∈ R) -> meets W R = true := by
    intro W R k h1 h2
    unfold meets
    rcases h2 with h2 | h2
    . rw [Bool.or_eq_true]; right; exact List.any_eq_true.2 ⟨k, h1, by simpa using h2⟩
    . rw [Bool.or_eq_true]; left
      cases W with
      | nil => cases h1
      | cons x r => simp [h2]
  -- a pair of a look and an entry: the look writes nothing
  have softW : ∀ (i m : Nat) (a b : Oper) (hi : i < recs.length) (k : Nat), zla (recs.map fun p => (p.1, p.2.mem.map (·.1))) i m a b = true -> k ∈ recs[i].2.mem.map (·.1) -> False := by
    intro i m a b hi k h hk
    unfold zla at h
    simp only [Bool.and_eq_true, logAt i hi] at h
    have := h.1.2
    simp only [List.isEmpty_iff] at this
    rw [this] at hk; cases hk
  have hard : ∀ k, (k ∈ recs[j].1 \/ k ∈ recs[j].2.mem.map (·.1) \/ allK ∈ recs[j].1) -> ∀ i (hi' : i < recs.length) (hi : i < ops.size), k ∈ recs[i].2.mem.map (·.1) -> i ≠ j -> (j < i -> zla (recs.map fun p => (p.1, p.2.mem.map (·.1))) j i o ops[i] = false) -> listed.getD i false = decide (i < j) := by
    intro k hk i hi' hi hm hij hns
    have ho' : ops[i]? = some ops[i] := Array.getElem?_eq_getElem hi
    refine order i _ hi' ho' hij (fun _ => ⟨?_, fun _ => ?_⟩) (fun hji => ⟨?_, fun _ => hns hji⟩)
    . have : meets (recs[i].2.mem.map (·.1)) (recs[j].1 ++ recs[j].2.mem.map (·.1)) = true := by
        rcases hk with hk | hk | hk
        . exact meets_self _ _ k hm (.inl (List.mem_append_left _ hk))
        . exact meets_self _ _ k hm (.inl (List.mem_append_right _ hk))
        . exact meets_self _ _ k hm (.inr (List.mem_append_left _ hk))
      unfold clash; simp only [this, Bool.or_true, Bool.true_or]
    . cases hq : zla (recs.map fun p => (p.1, p.2.mem.map (·.1))) i j ops[i] o with
      | false => rfl
      | true => exact (softW i j _ _ hi' k hq hm).elim
    . unfold clash
      rcases hk with hk | hk | hk
      . simp only [meets_self _ _ k hm (.inl hk), Bool.or_true]
      . simp only [meets_self _ (recs[i].1 ++ recs[i].2.mem.map (·.1)) k hk (.inl (List.mem_append_right _ hm)), Bool.or_true, Bool.true_or]
      . simp only [meets_self _ _ k hm (.inr hk), Bool.or_true]
  have readM : ∀ k, (k ∈ recs[j].1 \/ k ∈ recs[j].2.mem.map (·.1) \/ allK ∈ recs[j].1) -> s'.blk k = (runN ops.toList recs j s).blk k \/ (zv1 o = true /\ Dfl ((runN ops.toList recs j s).blk k) (s'.blk k)) := by
    intro k hk
    by_cases hsm : ∃ (m : Nat) (hm : m < ops.size) (hm' : m < recs.length), j < m /\ zla (recs.map fun p => (p.1, p.2.mem.map (·.1))) j m o ops[m] = true /\ k ∈ recs[m].2.mem.map (·.1) /\ listed.getD m false = true
    case neg =>
      refine .inl ?_
      rw [hb, znb hlen k (by omega)]
      refine zi1b (fun i hi hw => ?_) (by omega)
      obtain ⟨hi', hm⟩ := wMat i k hi hw
      by_cases hij : i = j
      . subst hij; rw [hLj]; simp
      . by_cases hq : j < i /\ zla (recs.map fun p => (p.1, p.2.mem.map (·.1))) j i o ops[i] = true
        . cases hL : listed.getD i false with
          | false => have := hq.1; simp; omega
          | true => exact (hsm ⟨i, hi, hi', hq.1, hq.2, hm, hL⟩).elim
        . refine hard k hk i hi' hi hm hij fun hji => ?_
          cases hq2 : zla (recs.map fun p => (p.1, p.2.mem.map (·.1))) j i o ops[i] with
          | false => rfl
          | true => exact (hq ⟨hji, hq2⟩).elim
    obtain ⟨m, hm, hm', hjm, hsoft, hkm, hLm⟩ := hsm
    have hsp := hsoft
    unfold zla at hsp
    simp only [Bool.and_eq_true, logAt j hjr, List.all_eq_true, List.mem_range, Bool.not_eq_true'] at hsp
    obtain ⟨⟨⟨hlk, hen⟩, hwe⟩, hno⟩ := hsp
    simp only [List.isEmpty_iff] at hwe
    have hkR : k ∈ recs[j].1 \/ allK ∈ recs[j].1 := by
      rcases hk with hk | hk | hk
      . exact .inl hk
      . rw [hwe] at hk; cases hk
      . exact .inr hk
    -- nobody writes it ahead of m
    have none_ : ∀ h (hh : h < m) (hh' : h < recs.length), ¬ k ∈ recs[h].2.mem.map (·.1) := by
      intro h hh hh' hkh
      have := hno h hh
      rw [logAt h hh', meets_self _ _ k hkh hkR] at this
      cases this
    have hwm : wM recs k m = (look k recs[m].2.mem).map some := by
      unfold wM; rw [List.getElem?_eq_getElem hm']; rfl
    obtain ⟨b, hlookb⟩ : ∃ b, look k recs[m].2.mem = some b := by
      cases hl : look k recs[m].2.mem with
      | some b => exact ⟨b, rfl⟩
      | none =>
        exfalso
        obtain ⟨p, hp1, hp2⟩ := List.mem_map.1 hkm
        have : ∀ l : List (Nat × Blk), p ∈ l -> look k l ≠ none := by
          intro l
          induction l with
          | nil => intro h; cases h
          | cons q r ih =>
           intro h
           unfold look
           split
           . simp
           . rename_i hne
             rcases List.mem_cons.1 h with rfl | h
             . exact (hne hp2).elim
             . exact ih h
        exact this _ hp1 hl
    rw [hlookb] at hwm
    have val_none : ∀ n, n <= m -> val (wM recs k) (s.blk k) (fun _ => true) n = s.blk k := by
      intro n
      induction n with
      | zero => intro _; rfl
      | succ n ih =>
        intro hn
        rw [zdz, if_pos rfl, ih (by omega)]
        cases hw : wM recs k n with
        | none => rfl
        | some v =>
          obtain ⟨hi', hkn⟩ := wMat n k (by omega) (by rw [hw]; rfl)
          exact (none_ n (by omega) hi' hkn).elim
    have e1 : (runN ops.toList recs j s).blk k = s.blk k := by rw [znb hlen k (by omega)]; exact val_none j (by omega)
    have e2 : (runN ops.toList recs m s).blk k = s.blk k := by rw [znb hlen k (by omega)]; exact val_none m (Nat.le_refl _)
    have e3 : s'.blk k = some b := by
      have hv0 : ∀ n, val (wM recs k) (s.blk k) (fun _ => false) n = s.blk k := by
        intro n
        induction n with
        | zero => rfl
        | succ n ih => rw [zdz, if_neg (by simp), ih]
      have hset := zw0 (W := wM recs k) (init := s.blk k) (L := fun _ => false) (j := m) rfl (n := ops.size) hm (fun _ _ _ _ _ => rfl)
      rw [hb, ze2 (L' := fun i => false || i == m) (fun i hi hw => ?_), hset, hwm]
      . rfl
      . obtain ⟨hi', hki⟩ := wMat i k hi hw
        by_cases him : i = m
        . subst him; rw [hLm]; simp
        . have hmi : m < i := by
           apply Decidable.byContradiction
           intro hh
           exact none_ i (by omega) hi' hki
          have hns : zla (recs.map fun p => (p.1, p.2.mem.map (·.1))) j i o ops[i] = false := by
           cases hq : zla (recs.map fun p => (p.1, p.2.mem.map (·.1))) j i o ops[i] with
           | false => rfl
           | true =>
             unfold zla at hq
             simp only [Bool.and_eq_true, logAt j hjr, List.all_eq_true, List.mem_range, Bool.not_eq_true'] at hq
             have := hq.2 m hmi
             rw [logAt m hm', meets_self _ _ k hkm hkR] at this
             cases this
          rw [hard k hk i hi' hi hki (by omega) (fun _ => hns)]
          have : (i == m) = false := by simpa using him
          simp [this]; omega
    obtain ⟨-, hlocm⟩ := hc.at m ops[m] recs[m] (by simp [Array.getElem?_eq_getElem hm]) (List.getElem?_eq_getElem hm')
    have := hlocm.2 hen k b hlookb
    rw [e2] at this
    rw [e1, e3]
    exact .inr ⟨hlk, this⟩
  have step := hloc.1 s' ⟨by rw [za6b, hn], readT, readM⟩
  have hupd : (fun i => (listed.setIfInBounds j true).getD i false) = fun i => listed.getD i false || i == j := by
    funext i
    by_cases e : i = j
    . subst e
      have hil : i < listed.size := by omega
      simp [Array.getD, hil]
    . rw [getD_set_ne _ (Ne.symm e)]
      simp [e]
  unfold wpOp
  rw [hoj]
  refine step.sound (fun d hd => by rw [hn]; exact hdst d hd) hs fun a' w' hs' => ?_
  refine ih _ _ a' w' (by simpa using hls) ?_ ?_ (by rw [<- hn]; exact St.n_put _ _ _) ?_ ?_ hs'
  . rw [hupd]
    have := zenb (L := fun i => listed.getD i false) hLj hjn
    omega
  . rw [hupd]
    intro i o' hi hL e he
    simp only [Bool.or_eq_true, beq_iff_eq] at hL ⊢
    rcases hL with hL | rfl
    . exact .inl (hd i o' hi hL e he)
    . rw [hoj] at hi; cases hi
      exact .inl (hbj e he)
  . intro t
    rw [hupd, zw0 (L := fun i => listed.getD i false) hLj hjn, zbub, hg t]
    . generalize val (wT ops.toList recs t) (s.get t) _ _ = v
      unfold wT
      simp only [hoj', hpj]
      split <;> rfl
    . intro i hij hi hw hwj
      have ho' : ops[i]? = some ops[i] := Array.getElem?_eq_getElem hi
      have hi' : i < recs.length := by omega
      have e1 : ops.toList[i]? = some ops[i] := by simp [ho']
      unfold wT at hw hwj
      simp only [e1, List.getElem?_eq_getElem hi', hoj', hpj] at hw hwj
      have d1 : ops[i].dst = some t := by
        by_cases hdt : ops[i].dst = some t
        . exact hdt
        . rw [if_neg hdt] at hw; cases hw
      have d2 : o.dst = some t := by
        by_cases hdt : o.dst = some t
        . exact hdt
        . rw [if_neg hdt] at hwj; cases hwj
      have e : zkf ops o ops[i] = true := by unfold zkf; simp [d1, d2]
      have := order i _ hi' ho' (by omega) (fun h => by omega) (fun _ => ⟨by unfold clash; simp [e], fun h => by rw [e] at h; cases h⟩)
      rw [this]; simp; omega
  . intro k
    rw [hupd, zw0 (L := fun i => listed.getD i false) hLj hjn, zbvb, hb k]
    . generalize val (wM recs k) (s.blk k) _ _ = v
      unfold wM
      simp only [hpj, Option.bind_some]
    . intro i hij hi hw hwj
      have ho' : ops[i]? = some ops[i] := Array.getElem?_eq_getElem hi
      obtain ⟨hi', hm⟩ := wMat i k hi hw
      obtain ⟨_, hmj⟩ := wMat j k hjn hwj
      have := order i _ hi' ho' (by omega) (fun h => by omega) (fun _ => ⟨by
        unfold clash
        simp only [meets_self _ (recs[i].1 ++ recs[i].2.mem.map (·.1)) k hmj (.inl (List.mem_append_right _ hm)), Bool.or_true, Bool.true_or], fun _ => by
        cases hq : zla (recs.map fun p => (p.1, p.2.mem.map (·.1))) j i o ops[i] with
        | false => rfl
        | true => exact (softW j i _ _ hjr k hq hmj).elim⟩)
      rw [this]; simp; omega

theorem zu5 {id:Nat} {l:List Oper} {Q:Exit->St->Prop} {s:St} (hf:P.follows .mixedOrders=true) (h:ARun P l.toArray (fun log=>zxy l.toArray log=true) l [] s (Q .normal)):AWp P (.region id l.toArray true) Q s:=by
 intro w0 U0 X β0 a w hs
 obtain ⟨recs,hc,ho⟩:=ARun.recs _ _ _ h
 obtain ⟨M,hM⟩:=z0d ho
 refine wp_region_any hf (zfxb (P:=P) (ops:=l.toArray) (recs:=recs) (s:=s) (M:=M) (K:=Q .normal) hc hM (fun s' a' w' h1 h2=>⟨s',h1,h2⟩) _ _ s a _ (by simp) ?_ ?_ rfl ?_ ?_ hs.drawn)
 . exact zjhb
 . intro j o hj hL
   exfalso
   simp [Array.getD] at hL
 . intro t
   have:∀ n,val (wT l.toArray.toList recs t) (s.get t) (fun i=>(Array.replicate l.toArray.size false).getD i false) n=s.get t:=by
    intro n
    induction n with
    | zero=>rfl
    | succ n ih=>rw [zdz,if_neg (by simp [Array.getD]),ih]
   exact (this _).symm
 . intro k
   have:∀ n,val (wM recs k) (s.blk k) (fun i=>(Array.replicate l.toArray.size false).getD i false) n=s.blk k:=by
    intro n
    induction n with
    | zero=>rfl
    | succ n ih=>rw [zdz,if_neg (by simp [Array.getD]),ih]
   exact (this _).symm
end
end Go.Proofs.YthkhikdglmaiaaaGreatDoor.Abs
namespace Go.Proofs.YthkhikdglmaiaaaGreatDoor.Abs
open Go Go.RowKit
set_option linter.unusedVariables false

section
variable {P:Program}

theorem z6e {ι:Type} {c:Code} {Q:Exit->Act->World->Prop} (I:ι->Act->World->Prop) (μ:ι->Nat)
  (round:∀ x a w,I x a w->c.wp P (Exit.then (fun a' w'=>∃ x',μ x' < μ x/\I x' a' w') Q) a w) {x0:ι} {a:Act} {w:World} (h0:I x0 a w):(Code.loop c).wp P Q a w:=by
 intro b k cs
 have key:∀ n x a w,μ x=n->I x a w -> ∃ e a' w',Q e a' w'/\Arrives P (lone (b.at a (.code c :: .inLoop c :: k)) cs w) b k cs e a' w':=by
  intro n
  induction n using Nat.strongRecOn with
  | _ n ih =>
   intro x a w hn hI
   obtain ⟨e,a1,w1,hq,harr⟩:=round x a w hI b (.inLoop c :: k) cs
   cases e with
   | normal =>
    obtain ⟨x1,hlt,hI1⟩:=hq
    obtain ⟨e2,a2,w2,hq2,harr2⟩:=ih (μ x1) (hn ▸ hlt) x1 a1 w1 rfl hI1
    exact ⟨e2,a2,w2,hq2,.of_steps (Steps.trans harr (.one step_inLoop)) harr2⟩
   | exit id=>exact ⟨_,a1,w1,hq,.pass (x:=.inLoop c) rfl (fun _ _=>.inl (by simp)) harr⟩
   | goto l=>exact ⟨_,a1,w1,hq,.pass (x:=.inLoop c) rfl (fun _ _=>.inl (by simp)) harr⟩
   | ret=>exact ⟨_,a1,w1,hq,.pass (x:=.inLoop c) rfl (fun _ _=>.inl (by simp)) harr⟩
   | panic ch=>exact ⟨_,a1,w1,hq,.pass (x:=.inLoop c) rfl (fun _ _=>.inl (by simp)) harr⟩
   | outgrown=>exact ⟨_,a1,w1,hq,.pass (x:=.inLoop c) rfl (fun _ _=>.inl (by simp)) harr⟩
 obtain ⟨e,a',w',hq,harr⟩:=key _ x0 a w rfl h0
 exact ⟨e,a',w',hq,.of_steps (.one step_loop) harr⟩

theorem ACall.mono {f:FuncId} {args:List V} {m:List (Nat×Blk)} {K K':V->List (Nat×Blk)->Prop} (h:ACall P f args m K) (hk:∀ r m,K r m->K' r m):ACall P f args m K' :=
 fun w U0 X β0 us hs=>(h w U0 X β0 us hs).mono fun e w' ⟨v,r,m',h1,h2,h3⟩=>⟨v,r,m',h1,hk r m' h2,h3⟩

def zjyb (P:Program) (s:St):ResultVar->Option V
 | .tmp t=>some (s.get t)
 | .cell a t=>match s.get a with
  | .one (.ptr k off)=>match s.blk k with
   | some (.cells cs)=>zma P t cs off
   | _=>none
  | _=>none
def zzt (P:Program) (s:St):List ResultVar->Option (List V)
 | []=>some []
 | x :: r=>match zjyb P s x,zzt P s r with
  | some v,some vs=>some (v :: vs)
  | _,_=>none
def resA (P:Program) (rs:List ResultVar) (s:St):Option V :=
 match zzt P s rs with
 | some [v]=>some v
 | some vs=>some (.tup vs)
 | none=>none

def zmx (s:St):St :=
 match s.get 0 with
 | .one (.pre k ver sz len)=>match s.blk k with
  | some (.rowT ver' e c ap fr xs)=>match Nat.beq ver ver' with
   | true=>{ n:=s.n,env:=[(0,.one (.own k (ver+1) len))],mem:=(k,.rowT (ver+1) e c ap fr (xs.take len)) :: s.mem }
   | false=>s
  | _=>s
 | _=>s
theorem Sim.trim {w0:World} {U0:Nat->Prop} {X:Nat->Nat->Prop} {β0:Nat->Option Place} {s:St} {a:Act} {w:World} (h:Sim w0 U0 X β0 s a w):Sim w0 U0 X β0 (zmx s) a w:=by
 unfold zmx
 split
 case h_2=>exact h
 rename_i k ver psz len hv
 split
 case h_2=>exact h
 rename_i ver' e c ap fr xs hb
 split
 case h_2=>exact h
 rename_i hver
 obtain rfl:=Nat.eq_of_beq_eq_true hver
 obtain ⟨β,U,h⟩:=h
 have h0:=h.env 0
 rw [hv] at h0
 obtain ⟨ao,cap,v0,ver0,hv1,hlc,hn0,hk,hle,hpre⟩:=h0.toC
 obtain ⟨q1,q2,q3⟩:=h.placeStd (by rw [hb]; rfl) hk
 subst q1
 obtain ⟨n,rfl,hln⟩:=hpre rfl
 have hs1:=h.repl (w':=w) (p':=.row (.slice ao len cap) (ver+1)) (blk':=.rowT (ver+1) e c ap fr (xs.take len)) hk hb rfl rfl rfl (Nat.le_refl _) (fun _ _ _=>rfl) (fun _ _ _ _=>⟨rfl,rfl⟩) (fun _ _ _=>.inl rfl)
  (.inr ⟨_,ver,_,ver+1,rfl,rfl,by omega⟩)
  (fun b hb=>.inl (by
   have:(Value.slice ao len cap).ownBlock=some b:=hb
   show (Value.slice ao n cap).ownBlock=some b
   cases ao <;> exact this))
  (fun b j hc=>.inl (by
   have:(Value.slice ao len cap).ownBlock=some b:=hc
   show (Value.slice ao n cap).ownBlock=some b
   cases ao <;> exact this))
  ⟨rfl,fun r hr=>by
     show r.length=esz c
     obtain ⟨t,_,rfl⟩:=List.mem_map.1 hr; exact zeq c t,by
   rcases q3 with ⟨e1,e2⟩ | ⟨g,cap',cur,fz,e1,hg,h3,h4,h5,h6,h7,h8⟩
   . cases e1
     obtain rfl:len=0:=by omega
     exact .inl ⟨rfl,by simp⟩
   . cases e1
     have hl:((xs.take len).map (enc c)).length=len:=by
       have:len<=xs.length:=by simpa using hln
       simp; omega
     refine .inr ⟨g,cap,cur,fz,by rw [hl],hg,by rw [hl]; exact hlc,h4,h5,h6,fun i hi=>h7 i (Nat.lt_of_lt_of_le hi (Nat.mul_le_mul_right _ (by rw [hl]; exact hln))),fun i j r d hi hj=>?_⟩
     have hi':(xs.map (enc c))[i]?=some r:=by
       rw [List.map_take,List.getElem?_take] at hi
       split at hi
       . exact hi
       . cases hi
     obtain ⟨u,k1,k2,k3⟩:=h8 i j r d hi' hj
     exact ⟨u,k1,k2,k3⟩⟩
 have hs2:SimB w0 U0 X β0 (upd β k (.row (.slice ao len cap) (ver+1))) U { n:=s.n,env:=[(0,.one (.own k (ver+1) len))],mem:=(k,.rowT (ver+1) e c ap fr (xs.take len)) :: s.mem } a w:={ hs1 with
  env:=fun t=>by
   show RepV w _ U w0.heap.size (a.tmps.getD t undef) ((look t [(0,V.one (.own k (ver+1) len))]).getD (.one .bad))
   cases t with
   | zero =>
     rw [hv1]
     refine .one _ _ ⟨ao,cap,.slice ao len cap,ver+1,rfl,hlc,hn0,fun x hx=>?_,zak _ _ _,Nat.le_refl _,fun _=>rfl⟩
     subst hx
     rcases q3 with ⟨e1,e2⟩ | ⟨g,cap',cur,fz,e1,_⟩
     . cases e1
     . cases e1; exact ⟨g,rfl⟩
   | succ t=>simp [look]; exact .bad _ }
 exact ⟨_,_,hs2⟩

def endA (P:Program) (rs:List ResultVar) (ks:List (Nat×Nat)) (K:V->List (Nat×Blk)->Prop) (s:St):Prop :=
 ∃ r m',(match resA P rs s with | some v=>St.norm true (zmx { n:=1,env:=[(0,v)],mem:=s.mem }) [0] ks | none=>none)=some ⟨1,[(0,r)],m'⟩/\K r m'

def z4v (tmps:Array Value):ResultVar->Sem Value
 | .tmp t=>pure (tmps.getD t undef)
 | .cell a t=>do loadVar t (<- asAddr (tmps.getD a undef))

theorem z2p {w0:World} {U0:Nat->Prop} {X:Nat->Nat->Prop} {β0 β:Nat->Option Place} {U:Nat->Prop} {s:St} {a:Act} {w:World} (h:SimB w0 U0 X β0 β U s a w) {x:ResultVar} {v:V} (hr:zjyb P s x=some v) :
  ∃ u,(z4v a.tmps x).run P w=.ok u w/\RepV w β U w0.heap.size u v:=by
 cases x with
 | tmp t =>
  obtain rfl:=Option.some.inj hr
  exact ⟨_,rfl,h.env t⟩
 | cell y t =>
  unfold zjyb at hr
  simp only at hr
  split at hr
  . rename_i k off hy
    split at hr
    . rename_i cs hb
      have hv:=h.env y
      rw [hy] at hv
      obtain ⟨b,o,hk,hv⟩:=hv.toC
      have hrep:=h.placeCells hb hk
      obtain ⟨u,h1,h2⟩:=zhi (P:=P) (w:=w) (β:=β) (U:=U) (base:=w0.heap.size) (b:=b) (o:=o) (fun j c hj=>by
       obtain ⟨v,q1,q2,q3,q4⟩:=hrep.2 j c hj; exact ⟨v,q1,q3,q4⟩) hr
      refine ⟨u,?_,h2⟩
      simp only [z4v,hv,asAddr,Sem.run_bind,Sem.run_pure,Result.andThen_ok]
      simpa [Instr.loadAt,Instr.sureAddr] using h1
    . cases hr
  . cases hr

theorem zp1 {w0:World} {U0:Nat->Prop} {X:Nat->Nat->Prop} {β0 β:Nat->Option Place} {U:Nat->Prop} {s:St} {a:Act} {w:World} (h:SimB w0 U0 X β0 β U s a w):∀ {rs:List ResultVar} {vs:List V},zzt P s rs=some vs ->
  ∃ us:List Value,(rs.mapM (z4v a.tmps)).run P w=.ok us w/\us.length=vs.length /\
    ∀ (j:Nat) (u:Value) (x:V),us[j]?=some u->vs[j]?=some x->RepV w β U w0.heap.size u x
 | [],vs,hr=>by cases hr; exact ⟨[],rfl,rfl,fun j u x hu=>by simp at hu⟩
 | x :: rs,vs,hr=>by
  unfold zzt at hr
  split at hr
  . rename_i v vs' h1 h2
    obtain rfl:=Option.some.inj hr
    obtain ⟨u,q1,q2⟩:=z2p h h1
    obtain ⟨us,q3,q4,q5⟩:=zp1 h h2
    refine ⟨u :: us,?_,by simp [q4],fun j u' x' hu hx=>?_⟩
    . rw [List.mapM_cons,Sem.run_bind,q1,Result.andThen_ok,Sem.run_bind,q3]
      rfl
    . cases j with
      | zero=>simp at hu hx; subst hu; subst hx; exact q2
      | succ j=>exact q5 j u' x' (by simpa using hu) (by simpa using hx)
  . cases hr

theorem z7i {w0:World} {U0:Nat->Prop} {X:Nat->Nat->Prop} {β0 β:Nat->Option Place} {U:Nat->Prop} {s:St} {a:Act} {w:World} (h:SimB w0 U0 X β0 β U s a w) {fn:Func} {v:V} (hr:resA P fn.results.toList s=some v) :
   ∃ u,(results fn a.tmps).run P w=.ok u w/\RepV w β U w0.heap.size u v:=by
 unfold resA at hr
 have key:∀ vs,zzt P s fn.results.toList=some vs -> ∃ us:List Value,(results fn a.tmps).run P w=.ok (if h:us.toArray.size=1 then us.toArray[0] else .tuple us.toArray) w/\us.length=vs.length /\
    ∀ (j:Nat) (u:Value) (x:V),us[j]?=some u->vs[j]?=some x->RepV w β U w0.heap.size u x:=by
   intro vs hvs
   obtain ⟨us,q1,q2,q3⟩:=zp1 h hvs
   refine ⟨us,?_,q2,q3⟩
   have e:results fn a.tmps=(do let vs <- fn.results.mapM (z4v a.tmps); pure (if h:vs.size=1 then vs[0] else .tuple vs)):=by
    unfold results
    congr 2
   rw [e,Array.mapM_eq_mapM_toList,Sem.run_bind,Sem.run_map,q1]
   rfl
 split at hr
 . rename_i v' hvs
   obtain rfl:=Option.some.inj hr
   obtain ⟨us,q1,q2,q3⟩:=key _ hvs
   match us,q2 with
   | [u],_=>exact ⟨u,by simpa using q1,q3 0 u v' rfl rfl⟩
 . rename_i vs hne hvs
   obtain rfl:=Option.some.inj hr
   obtain ⟨us,q1,q2,q3⟩:=key _ hvs
   have hl:us.length≠1:=by
    intro e
    rw [q2] at e
    match vs,e,hne with
    | [v],_,hne=>exact hne v rfl
   refine ⟨.tuple us.toArray,?_,.tup us vs q2 q3⟩
   rw [q1,dif_neg (by simpa using hl)]
 . cases hr

theorem zt4 {f:FuncId} {fn:Func} {c:Code} {args:List V} {m:List (Nat×Blk)} {K:V->List (Nat×Blk)->Prop} (ks:List (Nat×Nat)) (hf:P.funcs[f]?=some fn) (hb:fn.body=some c) {N:Nat} {rs:List ResultVar} (hN:fn.ntmps=N) (hrs:fn.results.toList=rs) (hN1:N<=900) (hlen:args.length<=N)
   (h:AWp P c (fun e s=>(e=.normal\/e=.ret)/\endA P rs ks K s) ⟨N,zby 0 args,m⟩):ACall P f args m K:=by
 intro w U0 X β0 us hs
 subst hN; subst hrs
 have hus:us.size=args.length:=hs.n
 refine calls_of_wp hf hb (wp_mono (h w U0 X β0 _ w ⟨β0,U0,?_⟩) ?_)
 . exact { hs with
     n:=by simp; omega
     small:=hN1
     env:=fun t=>by
       have he:=hs.env t
       have e:(us++Array.replicate (fn.ntmps-us.size) undef).getD t undef=us.getD t undef:=by
        simp only [Array.getD_eq_getD_getElem?]
        rw [Array.getElem?_append]
        split
        . rfl
        . rename_i hlt
          have h2:us[t]?=none:=Array.getElem?_eq_none (by omega)
          rw [h2,Array.getElem?_replicate]
          split <;> rfl
       simp only
       rw [e]; exact he }
 . rintro e a' w' ⟨s',⟨he,r,m',hn,hK⟩,hs'⟩
   obtain ⟨β,U,hs'⟩:=hs'
   split at hn
   . rename_i v hv
     obtain ⟨u,hu,hrep⟩:=z7i hs' hv
     have hend:Sim w U0 X β0 ⟨1,[(0,r)],m'⟩ ⟨#[u],[]⟩ w':=by
       refine Sim.norm (Sim.trim (s:={ n:=1,env:=[(0,v)],mem:=s'.mem }) ⟨β,U,{ hs' with n:=rfl,small:=by simp,defers:=rfl,env:=fun t=>?_ }⟩) hn
       show RepV w' β U w.heap.size (#[u].getD t undef) ((look t [(0,v)]).getD (.one .bad))
       cases t with
       | zero=>exact hrep
       | succ t=>simp [look]; exact .bad _
     rcases he with rfl | rfl
     . exact ⟨hs'.defers,u,hu,u,r,m',rfl,hK,hend⟩
     . exact ⟨hs'.defers,u,hu,u,r,m',rfl,hK,hend⟩
   . cases hn
end
end Go.Proofs.YthkhikdglmaiaaaGreatDoor.Abs
namespace Go.Proofs.YthkhikdglmaiaaaGreatDoor.Abs
open Go Go.RowKit

end Go.Proofs.YthkhikdglmaiaaaGreatDoor.Abs
namespace Go.Proofs.YthkhikdglmaiaaaGreatDoor.Abs
open Go Go.RowKit
set_option linter.unusedVariables false

def zd2b (s:St):Option Nat->Bool
 | some d=>decide (d<s.n)
 | none=>true
theorem zwi {s:St} {o:Option Nat} (h:zd2b s o=true):∀ d,o=some d->d<s.n:=by
 rintro d rfl
 simpa [zd2b] using h

theorem z2x (s:St) (dst:Option Nat) (v:V):s.out dst ⟨v,[]⟩=s.put dst v:=by cases dst <;> rfl

theorem zdb {ops:Array Oper} {o:Oper} {s s':St} {R W:List Nat} (h:Agree ops o s s' R W):∀ x∈o.op.operands,s.eval x=s'.eval x:=by
 intro x hx
 cases x with
 | tmp t =>
  exact (h.2.1 t (List.mem_append_left _ (List.mem_filterMap.2 ⟨.tmp t,by simpa using hx,rfl⟩))).symm
 | _=>rfl
theorem zbq {ops:Array Oper} {o:Oper} {s s':St} {R W:List Nat} (h:Agree ops o s s' R W):zf1 ops s'.get o=zf1 ops s.get o:=by
 unfold zf1
 cases hg:o.guard with
 | none=>rfl
 | some gw =>
  obtain ⟨g,want⟩:=gw
  cases ht:(ops[g]?).bind (·.dst) with
  | none=>simp only [ht]
  | some t=>simp only [ht]; rw [h.2.1 t (by simp [Oper.looksAt,hg,ht])]
theorem znk {o:Oper} (h1:∀ t x i,o.op≠.lookup t x i false) (h2:∀ t x i,o.op≠.mapEntry t x i):zi8 o:=by
 unfold zi8 zv1 z75
 refine ⟨?_,?_⟩
 . split
   . rename_i t x i hop; exact (h1 t x i hop).elim
   . simp
 . split
   . rename_i t x i hop; exact (h2 t x i hop).elim
   . simp
theorem z8t {P:Program} {dst:Option Nat} {t:TypeId} {x i:Operand} {ρ:Operand->V} {m:Nat->Option Blk}:eff P dst (.lookup t x i false) ρ m=none:=by cases dst <;> rfl
theorem z1f {P:Program} {dst:Option Nat} {t:TypeId} {x i:Operand} {ρ:Operand->V} {m:Nat->Option Blk}:eff P dst (.mapEntry t x i) ρ m=none:=by cases dst <;> rfl
theorem zz9 {P:Program} {o:Oper} {ρ:Operand->V} {m:Nat->Option Blk} {E:Eff} (h:eff P o.dst o.op ρ m=some E):zi8 o:=by
 refine znk (fun t x i hop=>?_) (fun t x i hop=>?_)
 . rw [hop,z8t] at h; cases h
 . rw [hop,z1f] at h; cases h
theorem zg0b {o:Oper} (h:o.guard.isNone=false):zi8 o:=by
 unfold zi8 zv1 z75; rw [h]; exact ⟨rfl,rfl⟩
theorem z1y {P:Program} {ops:Array Oper} {o:Oper} {s s':St} {R W:List Nat} (hp:zi8 o) (h:Agree ops o s s' R W) (hR:zad o.dst o.op s.eval=R):eff P o.dst o.op s'.eval s'.blk=eff P o.dst o.op s.eval s.blk:=by
 subst hR
 exact (z1g (zdb h) fun k hk=>(h.blk hp (.inl hk)).symm).symm
theorem zjbb {P:Program} {ops:Array Oper} {o:Oper} {s:St} {E:Eff} (hg:zf1 ops s.get o=some true) (he:eff P o.dst o.op s.eval s.blk=some E):Loc P ops o s (zad o.dst o.op s.eval) E.out :=
 .plain (zz9 he) fun s' h=>.ef _ E (by rw [zbq h,hg]) (by rw [z1y (zz9 he) h rfl,he])
theorem zkob {ops:Array Oper} {o:Oper} {s:St} (hg:zf1 ops s.get o=some false):o.guard.isNone=false:=by
 unfold zf1 at hg
 cases h:o.guard with
 | none=>rw [h] at hg; cases hg
 | some g=>rfl
theorem zonb {P:Program} {ops:Array Oper} {o:Oper} {s:St} (hg:zf1 ops s.get o=some false):Loc P ops o s [] ⟨mkgd false (.one .un),[]⟩ :=
 .plain (zg0b (zkob hg)) fun s' h=>.gd _ false (.one .un) (by rw [zbq h,hg]) fun hT=>by cases hT

theorem zyr:∀ (l:List C),WkCs l l
 | []=>trivial
 | c :: r=>⟨.inl rfl,zyr r⟩
theorem zl3b (b:Blk):WkB b b:=by cases b <;> first | exact zyr _ | exact rfl
theorem z4j:∀ (l:List (Nat×Blk)),WkM l l
 | []=>trivial
 | (k,b) :: r=>⟨rfl,zl3b b,z4j r⟩

theorem zag {x:Int} (h:-9223372036854775808<=x/\x<=9223372036854775807):IntKind.i64.wrap x=x:=by
 simp only [IntKind.wrap,IntKind.bits,IntKind.signed]
 simp
 omega

def AFn (P:Program) (f:FuncId) (ys:List V) (r0:V):Prop:=ACall P f ys [] fun r m=>r=r0/\m=[]

def zod (o:Oper) (s:St):Option (FuncId×List V×List Operand) :=
 match o.op with
 | .call { callee:=.value fo,args,.. } => match z85 (s.eval fo) with
  | some (f,caps)=>some (f,caps,args.toList)
  | none=>none
 | _=>none

theorem zoc {o:Oper} {s:St} {f:FuncId} {caps:List V} {args:List Operand} (h:zod o s=some (f,caps,args)):∃ fo ats,o.op=.call { callee:=.value fo,args:=args.toArray,argTypes:=ats } /\ z85 (s.eval fo)=some (f,caps):=by
 unfold zod at h
 split at h
 . rename_i fo ar ats hop
   split at h
   . rename_i f' caps' hf
     simp only [Option.some.injEq,Prod.mk.injEq] at h
     obtain ⟨rfl,rfl,rfl⟩:=h
     exact ⟨fo,ats,by simpa using hop,hf⟩
   . cases h
 . cases h

section
variable {P:Program} {ops:Array Oper} {fin:List (List Nat×List Nat)->Prop} {o:Oper} {rest:List Oper} {log:List (List Nat×List Nat)} {s s':St} {K:St->Prop}

def V.keysA:V->List Nat
 | .one c=>c.keys
 | .agg cs=>cs.flatMap C.keys
 | .tup _=>[]
def zo9b (xs:List V):List Nat:=xs.flatMap V.keysA

theorem z23 {f:FuncId} {caps:List V} {args:List Operand} (hi:zod o s=some (f,caps,args)):zi8 o:=by
 obtain ⟨fo,ats,hop,_⟩:=zoc hi
 refine znk (fun t x i h=>?_) (fun t x i h=>?_) <;> (rw [hop] at h; cases h)
theorem z7w {ks:List (Nat×Nat)} {lock:Bool} {f:FuncId} {caps:List V} {args:List Operand} {ys:List V} {m:List (Nat×Blk)} {r0:V} {m0:List (Nat×Blk)} {E:Out} (hc:CallTo P o s ks lock f caps args ys m r0 m0 E):zi8 o:=by
 obtain ⟨⟨fo,ats,hop,_⟩,_⟩:=hc
 refine znk (fun t x i h=>?_) (fun t x i h=>?_) <;> (rw [hop] at h; cases h)
theorem zccb {k:Nat} {m:List (Nat×Blk)} (h:(look k m).isSome=true):k∈m.map (·.1):=by
 obtain ⟨b,hb⟩:=Option.isSome_iff_exists.1 h
 exact List.mem_map.2 ⟨_,zc3 hb,rfl⟩
def zq7:Option Blk->List Nat
 | some (.cells cs)=>cs.flatMap C.keys
 | _=>[]
def zty (ks:List (Nat×Nat)) (m:Nat->Option Blk) (xs:List V):List Nat:=match ks with
 | []=>zo9b xs
 | p :: r=>zo9b xs++(p :: r).flatMap fun p=>p.1 :: zq7 (m p.1)
theorem z89 {ks:List (Nat×Nat)} {m:Nat->Option Blk} {xs:List V}:(∀ x∈xs,∀ k∈x.keysA,k∈zty ks m xs) /\ ∀ p∈ks,p.1∈zty ks m xs /\ ∀ k∈zq7 (m p.1),k∈zty ks m xs:=by
 unfold zty
 cases ks with
 | nil=>exact ⟨fun x hx k hk=>List.mem_flatMap.2 ⟨x,hx,hk⟩,fun p hp=>by cases hp⟩
 | cons q r=>exact ⟨fun x hx k hk=>List.mem_append_left _ (List.mem_flatMap.2 ⟨x,hx,hk⟩),fun p hp=>⟨List.mem_append_right _ (List.mem_flatMap.2 ⟨p,hp,List.mem_cons_self⟩),fun k hk=>List.mem_append_right _ (List.mem_flatMap.2 ⟨p,hp,List.mem_cons_of_mem _ hk⟩)⟩⟩

section
variable {m m':Nat->Option Blk} {ks:List (Nat×Nat)}
theorem zzl {k:Nat} (h:m k=m' k):zcy m ks k=zcy m' ks k:=by unfold zcy; rw [h]
theorem zr4 {σ σ':Ren}:∀ {l:List (Nat×Nat)},(∀ k∈l.map (·.1),σ k=σ' k)->zzv σ l=zzv σ' l
 | [],_=>rfl
 | (k,v) :: r,h=>by
  have e1:=h k (by simp)
  have e2:=zr4 (l:=r) (σ:=σ) (σ':=σ') fun k hk=>h k (by simp only [List.map_cons,List.mem_cons]; exact .inr hk)
  unfold zzv; rw [e1,e2]
theorem zls {lock:Bool} {c:C} (h:∀ k∈c.keys,m k=m' k):zmw m (zcy m ks) lock c=zmw m' (zcy m' ks) lock c:=by
 cases c
 case clp f l =>
  simp only [zmw]
  rw [zr4 (σ:=zcy m ks) (σ':=zcy m' ks) fun k hk=>zzl (h k hk)]
 all_goals first | rfl | (simp only [C.keys,List.mem_singleton,forall_eq] at h; simp only [zmw,zzl (ks:=ks) h,h])
theorem z11 {lock:Bool} {x:V} (h:∀ k∈x.keysA,m k=m' k):zt6 m (zcy m ks) lock x=zt6 m' (zcy m' ks) lock x:=by
 cases x with
 | one c=>simp only [zt6,zls (lock:=lock) h]
 | agg cs =>
  simp only [zt6]
  exact congrArg V.agg (List.map_congr_left fun c hc=>zls fun k hk=>h k (List.mem_flatMap.2 ⟨c,hc,hk⟩))
 | tup _=>rfl
theorem zmv {lock:Bool}:∀ {l:List (Nat×Nat)},(∀ p∈l,m p.1=m' p.1 /\ ∀ k∈zq7 (m p.1),m k=m' k)->zc4 m (zcy m ks) lock l=zc4 m' (zcy m' ks) lock l
 | [],_=>rfl
 | (k,q) :: r,h=>by
  obtain ⟨e1,e2⟩:=h (k,q) (by simp)
  have e3:=zmv (lock:=lock) (l:=r) fun p hp=>h p (List.mem_cons_of_mem _ hp)
  have e4:(m k).map (zt7 m (zcy m ks) lock)=(m' k).map (zt7 m' (zcy m' ks) lock):=by
   have e1:m k=m' k:=e1
   rw [<- e1]
   cases hk:m k with
   | none=>rfl
   | some b =>
    cases b
    case cells cs =>
     simp only [Option.map_some,zt7,Option.some.injEq,Blk.cells.injEq]
     exact List.map_congr_left fun c hc=>zls fun j hj=>e2 j (by simp only [hk]; exact List.mem_flatMap.2 ⟨c,hc,hj⟩)
    all_goals rfl
  unfold zc4
  rw [e3]
  cases hk:m k <;> cases hk':m' k <;> rw [hk,hk'] at e4 <;> simp only [Option.map_none,Option.map_some,Option.some.injEq,reduceCtorEq] at e4 ⊢
  cases zc4 m' (zcy m' ks) lock r <;> simp [e4]
end

set_option maxRecDepth 100000 in
theorem ze3b {s s' : St} {ks : List (Nat × Nat)} {lock : Bool} {d : Option Nat} {r0 : V} {m0 : List (Nat × Blk)} {E : Out} (h : zki s ks lock d r0 m0 = some E) (hks : ∀ p ∈ ks, s'.blk p.1 = s.blk p.1) (hk : ∀ k ∈ E.mem.map (·.1), s'.blk k = s.blk k) : zki s' ks lock d r0 m0 = some E := by
 have hs : zld s' ks d m0 = zld s ks d m0 := by
  funext q
  unfold zld
  split
  . rfl
  . split
    . rename_i z w hz
      have := hks _ (List.mem_of_find?_eq_some hz)
      simp only [this]
    . rfl
 have hm : zp5 (zld s ks d m0) m0 = some E.mem := by
  unfold zki at h
  split at h
  . rename_i m h1 h2; cases h; exact h2
  . cases h
 have hf : zj5 s' ks d m0 = zj5 s ks d m0 := by
  unfold zj5
  rw [Bool.eq_iff_iff]
  simp only [List.all_eq_true]
  refine forall_congr' fun p => forall_congr' fun hp => ?_
  cases ha : ks.any (fun z => z.2 == p.1) with
  | true => simp
  | false =>
    simp only [Bool.false_or]
    obtain ⟨k, cv, nv, e1, e2⟩ := zhe hm p.1 p.2 hp
    have hn : ks.find? (fun z => z.2 == p.1) = none := by
      rw [List.find?_eq_none]
      intro z hz hc
      have : ks.any (fun z => z.2 == p.1) = true := List.any_eq_true.2 ⟨z, hz, hc⟩
      rw [this] at ha; cases ha
    unfold zld at e1
    split at e1
    . cases e1
    . rw [hn] at e1
      simp only at e1
      cases d with
      | none => cases e1
      | some d' =>
       simp only at e1
       split at e1
       . simp only [Option.some.injEq, Prod.mk.injEq] at e1
         have := hk _ (zccb e2)
         rw [<- e1.1] at this
         simp only [this]
       . cases e1
 rw [<- h]
 unfold zki
 rw [hf, hs]

set_option maxRecDepth 100000 in
theorem z4i {ks : List (Nat × Nat)} {lock : Bool} {f : FuncId} {caps : List V} {args : List Operand} {ys : List V} {m : List (Nat × Blk)} {r0 : V} {m0 : List (Nat × Blk)} {E : Out} {s s' : St} (h : Agree ops o s s' (zty ks s.blk (args.map s.eval ++ caps)) (E.mem.map (·.1))) (hc : CallTo P o s ks lock f caps args ys m r0 m0 E) : CallTo P o s' ks lock f caps args ys m r0 m0 E := by
 have hpl := z7w hc
 obtain ⟨⟨fo, ats, hop, hfo⟩, hen, hok, hview, hmem, hfew, hcall, hout⟩ := hc
 have hev := zdb h
 rw [hop] at hev
 have hargs : args.map s'.eval = args.map s.eval := List.map_congr_left fun x hx => (hev x (by simp [Op.operands, Call.operands, hx])).symm
 have hR : ∀ k ∈ zty ks s.blk (args.map s.eval ++ caps), s'.blk k = s.blk k := fun k hk => h.blk hpl (.inl hk)
 have hin := z89 (ks := ks) (m := s.blk) (xs := args.map s.eval ++ caps)
 have e : (args.map s.eval ++ caps).map (zt6 s'.blk (zcy s'.blk ks) lock) = (args.map s.eval ++ caps).map (zt6 s.blk (zcy s.blk ks) lock) :=
  List.map_congr_left fun x hx => z11 fun k hk => hR k (hin.1 x hx k hk)
 have e2 : zc4 s.blk (zcy s.blk ks) lock ks = zc4 s'.blk (zcy s'.blk ks) lock ks :=
  zmv fun p hp => ⟨(hR _ (hin.2 p hp).1).symm, fun k hk => (hR k ((hin.2 p hp).2 k hk)).symm⟩
 exact ⟨⟨fo, ats, hop, by rw [<- hev fo (by simp [Op.operands, Call.operands])]; exact hfo⟩, hen, hok, by rw [hargs, e]; exact hview, by rw [<- e2]; exact hmem, hfew, hcall, ze3b hout (fun p hp => hR _ (hin.2 p hp).1) fun k hk => h.blk hpl (.inr (.inl hk))⟩

def ksOf:Nat->List V->List (Nat×Nat)
 | _,[]=>[]
 | i,.one (.ptr k _) :: r=>(k,1000000+i) :: (ksOf (i+1) r).filter fun p=>p.1 != k
 | i,_ :: r=>ksOf (i+1) r

end

section
variable {next:St->Prop} {Q:Exit->St->Prop} {s:St} {id id':Nat}
theorem z9c (h:Q .normal s):zk2 id Q (.exit id) s:=by unfold zk2; simp only [if_true]; exact h
theorem z4g (hne:(id'==id)=false) (h:Q (.exit id') s):zk2 id Q (.exit id') s:=by
 unfold zk2; simp only; rw [if_neg (by simpa using hne)]; exact h
end
end Go.Proofs.YthkhikdglmaiaaaGreatDoor.Abs
namespace Go.Proofs.YthkhikdglmaiaaaGreatDoor.Abs
open Go Go.RowKit
set_option linter.unusedVariables false
set_option linter.unusedSimpArgs false
structure BlkWk (b b':Blk):Prop where
 ver:b'.ver=b.ver
 cov:∀ p x j,Place.covers p b' x j↔Place.covers p b x j
 rep:∀ w β U base p,RepB w β U base p b->RepB w β U base p b'

theorem BlkWk.rfl (b:Blk):BlkWk b b:=⟨Eq.refl _,fun _ _ _=>Iff.rfl,fun _ _ _ _ _ h=>h⟩

def zfib:Option Blk->Option Blk->Prop
 | none,none=>True
 | some b,some b'=>BlkWk b b'
 | _,_=>False

theorem SimB.blkWk {w0:World} {U0:Nat->Prop} {X:Nat->Nat->Prop} {β0 β:Nat->Option Place} {U:Nat->Prop} {s s':St} {a:Act} {w:World} (h:SimB w0 U0 X β0 β U s a w) (hn:s'.n=s.n) (he:s'.env=s.env)
  (hb:∀ k,zfib (s.blk k) (s'.blk k)):SimB w0 U0 X β0 β U s' a w:=by
 have key:∀ k b',s'.blk k=some b' -> ∃ b,s.blk k=some b/\BlkWk b b':=by
  intro k b' hk
  have:=hb k
  rw [hk] at this
  cases hs:s.blk k with
  | none=>rw [hs] at this; exact this.elim
  | some b=>rw [hs] at this; exact ⟨b,Eq.refl _,this⟩
 have some':∀ k,(s'.blk k).isSome=(s.blk k).isSome:=by
  intro k
  have:=hb k
  cases hs:s.blk k <;> cases hs':s'.blk k <;> rw [hs,hs'] at this <;> first | rfl | exact this.elim
 exact { h with
  n:=by rw [hn]; exact h.n
  small:=by rw [hn]; exact h.small
  hist:=fun k p hp hk=>h.hist k p hp (by rw [<- some']; exact hk)
  env:=fun t=>by have:=h.env t; unfold St.get at this ⊢; rw [he]; exact this
  mem:=fun k b' hk=>by
   obtain ⟨b,h1,h2⟩:=key k b' hk
   obtain ⟨p,hp,hr⟩:=h.mem k b h1
   exact ⟨p,hp,h2.rep _ _ _ _ _ hr⟩
  dom:=fun k p hp=>by rw [some']; exact h.dom k p hp
  inj:=fun k k' p p' b1 b2 b j hne hp hp' hb1 hb2 hc hc'=>by
   obtain ⟨c1,g1,g2⟩:=key k b1 hb1
   obtain ⟨c2,g3,g4⟩:=key k' b2 hb2
   exact h.inj k k' p p' c1 c2 b j hne hp hp' g1 g3 ((g2.cov _ _ _).1 hc) ((g4.cov _ _ _).1 hc')
  may:=fun k p blk b j hp hk hc hlt=>by
   obtain ⟨c1,g1,g2⟩:=key k blk hk
   exact h.may k p c1 b j hp g1 ((g2.cov _ _ _).1 hc) hlt }

def WkD (d d':D):Prop:=d'=d \/ ∃ sz c,d=.sl sz []/\d'=.st c []
def WkDs:List D->List D->Prop
 | [],[]=>True
 | d :: r,d' :: r'=>WkD d d'/\WkDs r r'
 | _,_=>False
def zwv:List (List D)->List (List D)->Prop
 | [],[]=>True
 | d :: r,d' :: r'=>WkDs d d'/\zwv r r'
 | _,_=>False

theorem RepI.wkD {w:World} {U:Nat->Prop} {v:Value} {d d':D} (h:RepI w U v d) (hw:WkD d d'):RepI w U v d':=by
 rcases hw with rfl | ⟨sz,c,rfl,rfl⟩
 . exact h
 . refine RepI.toSt ?_
   rw [List.map_nil]
   cases h with
   | nil a cap _ hn=>exact .nil a cap _ hn
   | sl b o cap _ rows vals=>exact .nil _ _ _ (fun e=>by cases e)

theorem zq9:∀ {l l':List D},WkDs l l'->l.length=l'.length /\ ∀ (j:Nat) d',l'[j]?=some d' -> ∃ d,l[j]?=some d/\WkD d d'
 | [],[],_=>⟨rfl,fun j d h=>by simp at h⟩
 | d :: r,d' :: r',h=>by
  obtain ⟨h1,h2⟩:=zq9 h.2
  refine ⟨by simp [h1],fun j x hx=>?_⟩
  cases j with
  | zero=>simp at hx; subst hx; exact ⟨d,by simp,h.1⟩
  | succ j=>obtain ⟨y,q1,q2⟩:=h2 j x (by simpa using hx); exact ⟨y,by simpa using q1,q2⟩
 | [],_ :: _,h=>h.elim
 | _ :: _,[],h=>h.elim
theorem zpl:∀ {l l':List (List D)},zwv l l'->l.length=l'.length /\ ∀ (i:Nat) r',l'[i]?=some r' -> ∃ r,l[i]?=some r/\WkDs r r'
 | [],[],_=>⟨rfl,fun j d h=>by simp at h⟩
 | d :: r,d' :: r',h=>by
  obtain ⟨h1,h2⟩:=zpl h.2
  refine ⟨by simp [h1],fun j x hx=>?_⟩
  cases j with
  | zero=>simp at hx; subst hx; exact ⟨d,by simp,h.1⟩
  | succ j=>obtain ⟨y,q1,q2⟩:=h2 j x (by simpa using hx); exact ⟨y,by simpa using q1,q2⟩
 | [],_ :: _,h=>h.elim
 | _ :: _,[],h=>h.elim

theorem zwt {ver:Nat} {e:TypeId} {sz c:Nat} {ap fr:Bool} {rows:List (List D)} {xs:List (τ c)} (hsz:sz=esz c) (hr:zwv rows (xs.map (enc c))):BlkWk (.row ver e sz ap fr rows) (.rowT ver e c ap fr xs):=by
 subst hsz
 refine ⟨rfl,fun p x j=>by cases p <;> exact Iff.rfl,fun w β U base p h=>?_⟩
 obtain ⟨hl,hg⟩:=zpl hr
 cases p with
 | cells=>exact h.elim
 | row v ver0 =>
  obtain ⟨h0,h1,h2⟩:=h
  refine ⟨h0,fun r hr=>?_,?_⟩
  . obtain ⟨t,_,rfl⟩:=List.mem_map.1 hr; exact zeq c t
  . rcases h2 with ⟨e1,e2⟩ | ⟨g,cap,cur,fz,q1,q2,q3,q4,q5,q6,q7,q8⟩
    . refine .inl ⟨e1,?_⟩
      rw [e2] at hl
      exact List.length_eq_zero_iff.1 hl.symm
    . refine .inr ⟨g,cap,cur,fz,by rw [<- hl]; exact q1,q2,by rw [<- hl]; exact q3,q4,q5,q6,by rw [<- hl]; exact q7,fun i j r d hi hj=>?_⟩
      obtain ⟨r0,g1,g2⟩:=hg i r hi
      obtain ⟨_,g3⟩:=zq9 g2
      obtain ⟨d0,g4,g5⟩:=g3 j d hj
      obtain ⟨u,k1,k2,k3⟩:=q8 i j r0 d0 g1 g4
      exact ⟨u,k1,k2,k3.wkD g5⟩

def z84 (c:Nat):D->Option (List (τ c))
 | .st k xs=>if h:k=c then some (h ▸ xs) else none
 | .sl _ []=>some []
 | _=>none
theorem zq5 {c:Nat} {d:D} {xs:List (τ c)} (h:z84 c d=some xs):WkD d (.st c xs):=by
 unfold z84 at h
 split at h
 . split at h
   . rename_i e; subst e; cases h; exact .inl rfl
   . cases h
 . cases h; exact .inr ⟨_,_,rfl,rfl⟩
 . cases h
def dec0:List D->Option Int
 | [.i .i64 n]=>some n
 | _=>none
def dec1:List D->Option Bool
 | [.b b]=>some b
 | _=>none
def dec3:List D->Option (List UInt8)
 | [.s l]=>some l
 | _=>none
def zo6b:List D->Option (List Int)
 | [a]=>z84 0 a
 | _=>none
def dec4:List D->Option TOption
 | [.i .i64 x0,.s x1]=>some (TOption.mk x0 x1)
 | _=>none
def dec5:List D->Option TPart
 | [.i .i64 x0,.s x1,.b x2]=>some (TPart.mk x0 x1 x2)
 | _=>none
def dec6:List D->Option THeap
 | [.i .u32 x0,.i .u32 x1,.i .i64 x2,.i .i64 x3,.i .i64 x4,.i .i64 x5,.s x6,x7]=>match z84 5 x7 with | some y=>some (THeap.mk x0 x1 x2 x3 x4 x5 x6 y) | none=>none
 | _=>none
def dec7:List D->Option TSlot
 | [.b x0,.i .u64 x1,.i .i64 x2]=>some (TSlot.mk x0 x1 x2)
 | _=>none
def dec8:List D->Option TStay
 | [.i .i64 x0,.i .i64 x1]=>some (TStay.mk x0 x1)
 | _=>none
def dec9:List D->Option TNode
 | [.i .i64 x0,.i .i64 x1,.b x2,.i .i64 x3]=>some (TNode.mk x0 x1 x2 x3)
 | _=>none
def zltb:List D->Option TRule
 | [.i .u32 x0,.i .i64 x1,.i .u32 x2,.i .i64 x3,.i .i64 x4,.i .i64 x5,.i .i64 x6,.i .i64 x7,.i .i64 x8,.b x9]=>some (TRule.mk x0 x1 x2 x3 x4 x5 x6 x7 x8 x9)
 | _=>none
def zlsb:List D->Option TDrop
 | [.i .i64 x0,.i .i64 x1]=>some (TDrop.mk x0 x1)
 | _=>none
def zlrb:List D->Option TQueue
 | [.i .i64 x0,.i .i64 x1,x2]=>match z84 0 x2 with | some y=>some (TQueue.mk x0 x1 y) | none=>none
 | _=>none
def zlqb:List D->Option TSent
 | [.i .i64 x0,.i .i64 x1]=>some (TSent.mk x0 x1)
 | _=>none
def zlpb:List D->Option TDue
 | [.i .i64 x0,.i .i64 x1]=>some (TDue.mk x0 x1)
 | _=>none
def zlob:List D->Option TStation
 | [.i .u8 x0,.i .u8 x1,.i .u8 x2,.i .u8 x3,.i .u8 x4,.i .u8 x5,.i .i64 x6,.i .i64 x7]=>some (TStation.mk x0 x1 x2 x3 x4 x5 x6 x7)
 | _=>none
def zlnb:List D->Option TTalk
 | [.i .u32 x0,.i .u32 x1,.i .i64 x2,.i .i64 x3,.i .i64 x4,.i .i64 x5,.i .i64 x6]=>some (TTalk.mk x0 x1 x2 x3 x4 x5 x6)
 | _=>none
def zlmb:List D->Option TMap
 | [.i .i64 x0,.i .u32 x1,.i .i64 x2,.i .i64 x3,.i .i64 x4]=>some (TMap.mk x0 x1 x2 x3 x4)
 | _=>none
def zllb:List D->Option TGuarded
 | [.i .u32 x0,.i .u32 x1,.i .i64 x2,.i .i64 x3,.i .u32 x4,.i .u32 x5,.i .u32 x6,.b x7,.i .i64 x8]=>some (TGuarded.mk x0 x1 x2 x3 x4 x5 x6 x7 x8)
 | _=>none
def zlkb:List D->Option TMeter
 | [.i .u32 x0,.i .i64 x1,.i .i64 x2,.i .i64 x3,.i .i64 x4]=>some (TMeter.mk x0 x1 x2 x3 x4)
 | _=>none
def zlib:List D->Option TPacket
 | [.i .i64 x0,.i .i64 x1,.b x2,.b x3,.i .i64 x4,.i .i64 x5,.i .i64 x6,.i .u32 x7,.i .u32 x8,.s x9,.s x10]=>some (TPacket.mk x0 x1 x2 x3 x4 x5 x6 x7 x8 x9 x10)
 | _=>none
def zlhb:List D->Option TNet
 | [.i .u32 x0,.i .i64 x1]=>some (TNet.mk x0 x1)
 | _=>none
def zlgb:List D->Option TSegment
 | [.i .i64 x0,.i .i64 x1,.i .u32 x2,.i .u32 x3,.i .i64 x4,.i .i64 x5,.i .i64 x6,x7,.s x8]=>match z84 4 x7 with | some y=>some (TSegment.mk x0 x1 x2 x3 x4 x5 x6 y x8) | none=>none
 | _=>none
def zlfb:List D->Option TCame
 | [.b x0,.s x1,.i .i64 x2]=>some (TCame.mk x0 x1 x2)
 | _=>none
def zleb:List D->Option TWent
 | [.s x0,.i .i64 x1,.i .i64 x2]=>some (TWent.mk x0 x1 x2)
 | _=>none
def zldb:List D->Option TRoad
 | [.i .u32 x0,.i .u32 x1,.i .i64 x2,.i .i64 x3]=>some (TRoad.mk x0 x1 x2 x3)
 | _=>none
def zlcb:List D->Option Int
 | [.i .u64 n]=>some n
 | _=>none
def zlbb:List D->Option Int
 | [.i .u32 n]=>some n
 | _=>none
def decD:(c:Nat)->List D->Option (τ c)
 | 0,l=>dec0 l
 | 1,l=>dec1 l
 | 3,l=>dec3 l
 | 4,l=>dec4 l
 | 5,l=>dec5 l
 | 6,l=>dec6 l
 | 7,l=>dec7 l
 | 8,l=>dec8 l
 | 9,l=>dec9 l
 | 10,l=>zltb l
 | 11,l=>zlsb l
 | 12,l=>zlrb l
 | 13,l=>zlqb l
 | 14,l=>zlpb l
 | 15,l=>zlob l
 | 16,l=>zlnb l
 | 17,l=>zlmb l
 | 18,l=>zllb l
 | 19,l=>zlkb l
 | 20,l=>zlib l
 | 21,l=>zlhb l
 | 22,l=>zo6b l
 | 23,l=>zlgb l
 | 24,l=>zlfb l
 | 25,l=>zleb l
 | 26,l=>zldb l
 | 27,l=>zlcb l
 | 28,l=>zlbb l
 | _,_=>none
theorem zaq:∀ (l:List D),WkDs l l
 | []=>trivial
 | d :: r=>⟨.inl rfl,zaq r⟩
theorem zh8b (l:List D) (t:TSegment) (h:zlgb l=some t):WkDs l (enc 23 t):=by
 unfold zlgb at h
 split at h
 . split at h
   . rename_i q; cases h; exact ⟨.inl rfl,.inl rfl,.inl rfl,.inl rfl,.inl rfl,.inl rfl,.inl rfl,zq5 q,.inl rfl,trivial⟩
   . cases h
 . cases h
theorem zh7b (l:List D) (t:TCame) (h:zlfb l=some t):WkDs l (enc 24 t):=by
 unfold zlfb at h
 split at h
 . cases h; exact zaq _
 . cases h
theorem zh6b (l:List D) (t:TWent) (h:zleb l=some t):WkDs l (enc 25 t):=by
 unfold zleb at h
 split at h
 . cases h; exact zaq _
 . cases h
theorem zh5b (l:List D) (t:TRoad) (h:zldb l=some t):WkDs l (enc 26 t):=by
 unfold zldb at h
 split at h
 . cases h; exact zaq _
 . cases h
theorem zh4b (l:List D) (t:Int) (h:zlcb l=some t):WkDs l (enc 27 t):=by
 unfold zlcb at h
 split at h
 . cases h; exact zaq _
 . cases h
theorem zh3b (l:List D) (t:Int) (h:zlbb l=some t):WkDs l (enc 28 t):=by
 unfold zlbb at h
 split at h
 . cases h; exact zaq _
 . cases h
theorem zlub (l:List D) (t:Int) (h:dec0 l=some t):WkDs l (enc 0 t):=by
 unfold dec0 at h
 split at h
 . cases h; exact zaq _
 . cases h
theorem zljb (l:List D) (t:Bool) (h:dec1 l=some t):WkDs l (enc 1 t):=by
 unfold dec1 at h
 split at h
 . cases h; exact zaq _
 . cases h
theorem zlab (l:List D) (t:List UInt8) (h:dec3 l=some t):WkDs l (enc 3 t):=by
 unfold dec3 at h
 split at h
 . cases h; exact zaq _
 . cases h
theorem zk9b (l:List D) (t:TOption) (h:dec4 l=some t):WkDs l (enc 4 t):=by
 unfold dec4 at h
 split at h
 . cases h; exact zaq _
 . cases h
theorem zk8b (l:List D) (t:TPart) (h:dec5 l=some t):WkDs l (enc 5 t):=by
 unfold dec5 at h
 split at h
 . cases h; exact zaq _
 . cases h
theorem zk7b (l:List D) (t:THeap) (h:dec6 l=some t):WkDs l (enc 6 t):=by
 unfold dec6 at h
 split at h
 . split at h
   . rename_i q; cases h; exact ⟨.inl rfl,.inl rfl,.inl rfl,.inl rfl,.inl rfl,.inl rfl,.inl rfl,zq5 q,trivial⟩
   . cases h
 . cases h
theorem zk6b (l:List D) (t:TSlot) (h:dec7 l=some t):WkDs l (enc 7 t):=by
 unfold dec7 at h
 split at h
 . cases h; exact zaq _
 . cases h
theorem zk5b (l:List D) (t:TStay) (h:dec8 l=some t):WkDs l (enc 8 t):=by
 unfold dec8 at h
 split at h
 . cases h; exact zaq _
 . cases h
theorem zk4b (l:List D) (t:TNode) (h:dec9 l=some t):WkDs l (enc 9 t):=by
 unfold dec9 at h
 split at h
 . cases h; exact zaq _
 . cases h
theorem zilb (l:List D) (t:TRule) (h:zltb l=some t):WkDs l (enc 10 t):=by
 unfold zltb at h
 split at h
 . cases h; exact zaq _
 . cases h
theorem zikb (l:List D) (t:TDrop) (h:zlsb l=some t):WkDs l (enc 11 t):=by
 unfold zlsb at h
 split at h
 . cases h; exact zaq _
 . cases h
theorem zijb (l:List D) (t:TQueue) (h:zlrb l=some t):WkDs l (enc 12 t):=by
 unfold zlrb at h
 split at h
 . split at h
   . rename_i q; cases h; exact ⟨.inl rfl,.inl rfl,zq5 q,trivial⟩
   . cases h
 . cases h
theorem ziib (l:List D) (t:TSent) (h:zlqb l=some t):WkDs l (enc 13 t):=by
 unfold zlqb at h
 split at h
 . cases h; exact zaq _
 . cases h
theorem zihb (l:List D) (t:TDue) (h:zlpb l=some t):WkDs l (enc 14 t):=by
 unfold zlpb at h
 split at h
 . cases h; exact zaq _
 . cases h
theorem zigb (l:List D) (t:TStation) (h:zlob l=some t):WkDs l (enc 15 t):=by
 unfold zlob at h
 split at h
 . cases h; exact zaq _
 . cases h
theorem zifb (l:List D) (t:TTalk) (h:zlnb l=some t):WkDs l (enc 16 t):=by
 unfold zlnb at h
 split at h
 . cases h; exact zaq _
 . cases h
theorem zieb (l:List D) (t:TMap) (h:zlmb l=some t):WkDs l (enc 17 t):=by
 unfold zlmb at h
 split at h
 . cases h; exact zaq _
 . cases h
theorem zidb (l:List D) (t:TGuarded) (h:zllb l=some t):WkDs l (enc 18 t):=by
 unfold zllb at h
 split at h
 . cases h; exact zaq _
 . cases h
theorem zicb (l:List D) (t:TMeter) (h:zlkb l=some t):WkDs l (enc 19 t):=by
 unfold zlkb at h
 split at h
 . cases h; exact zaq _
 . cases h
theorem zibb (l:List D) (t:TPacket) (h:zlib l=some t):WkDs l (enc 20 t):=by
 unfold zlib at h
 split at h
 . cases h; exact zaq _
 . cases h
theorem ziab (l:List D) (t:TNet) (h:zlhb l=some t):WkDs l (enc 21 t):=by
 unfold zlhb at h
 split at h
 . cases h; exact zaq _
 . cases h
theorem zh9b (l:List D) (t:List Int) (h:zo6b l=some t):WkDs l (enc 22 t):=by
 match l,h with
 | [a],h=>exact ⟨zq5 h,trivial⟩
 | [],h=>exact absurd (show (none:Option (List Int))=some t from h) (by simp)
 | _ :: _ :: _,h=>exact absurd (show (none:Option (List Int))=some t from h) (by simp)
theorem zk3b (c:Nat) (l:List D) (t:τ c) (h:decD c l=some t):WkDs l (enc c t):=by
 match c,t,h with
 | 0,t,h=>exact zlub l t h
 | 1,t,h=>exact zljb l t h
 | 3,t,h=>exact zlab l t h
 | 4,t,h=>exact zk9b l t h
 | 5,t,h=>exact zk8b l t h
 | 6,t,h=>exact zk7b l t h
 | 7,t,h=>exact zk6b l t h
 | 8,t,h=>exact zk5b l t h
 | 9,t,h=>exact zk4b l t h
 | 10,t,h=>exact zilb l t h
 | 11,t,h=>exact zikb l t h
 | 12,t,h=>exact zijb l t h
 | 13,t,h=>exact ziib l t h
 | 14,t,h=>exact zihb l t h
 | 15,t,h=>exact zigb l t h
 | 16,t,h=>exact zifb l t h
 | 17,t,h=>exact zieb l t h
 | 18,t,h=>exact zidb l t h
 | 19,t,h=>exact zicb l t h
 | 20,t,h=>exact zibb l t h
 | 21,t,h=>exact ziab l t h
 | 22,t,h=>exact zh9b l t h
 | 23,t,h=>exact zh8b l t h
 | 24,t,h=>exact zh7b l t h
 | 25,t,h=>exact zh6b l t h
 | 26,t,h=>exact zh5b l t h
 | 27,t,h=>exact zh4b l t h
 | 28,t,h=>exact zh3b l t h
 | 2,t,h=>have e:decD 2 l=none:=rfl; rw [e] at h; cases h
 | n+29,t,h=>have e:decD (n+29) l=none:=rfl; rw [e] at h; cases h
theorem zgmb {P:Program} {o:Oper} {s:St} {E:Eff} (hd:∀ d,o.dst=some d->d<s.n) (he:eff P o.dst o.op s.eval s.blk=some E) {k:Nat} {b b':Blk} {v:V} (hm:E.mem=some (k,b)) (hv:v=E.val) (hb:BlkWk b b') :
   za0 P o s ⟨v,[(k,b')]⟩:=by
 intro w0 U0 X β0 β U a w hs
 obtain ⟨u,w',h1,β',U',h2⟩:=ztp hs o hd he
 refine ⟨u,w',h1,β',U',h2.blkWk ?_ ?_ ?_⟩
 . rw [St.app_out]; cases o.dst <;> rfl
 . rw [St.app_out,hv]
   unfold St.out St.upd St.put
   cases o.dst <;> rfl
 . intro k'
   rw [St.app_out]
   unfold St.out
   rw [St.blk_put,St.blk_put]
   show zfib (look k' (E.out.mem++s.mem)) (look k' ([(k,b')]++s.mem))
   rw [show E.out.mem=[(k,b)] by simp [Eff.out,hm],List.singleton_append,List.singleton_append,zah,zah]
   split
   . exact hb
   . cases look k' s.mem with
     | none=>trivial
     | some b=>exact BlkWk.rfl b
end Go.Proofs.YthkhikdglmaiaaaGreatDoor.Abs
namespace Go.Proofs.YthkhikdglmaiaaaGreatDoor.Abs
open Go Go.RowKit
set_option linter.unusedVariables false
set_option linter.unusedSimpArgs false

section
variable {P:Program} {w0:World} {U0:Nat->Prop} {X:Nat->Nat->Prop} {β0 β:Nat->Option Place} {U:Nat->Prop} {s:St} {a:Act} {w:World}

theorem zcub {i i' j j' sz:Nat} (hj:j<sz) (hj':j'<sz) (h:i*sz+j=i'*sz+j'):i=i'/\j=j':=by
 have e1:(i*sz+j) / sz=i:=by rw [Nat.mul_comm,Nat.mul_add_div (by omega),Nat.div_eq_of_lt hj]; rfl
 have e2:(i'*sz+j') / sz=i':=by rw [Nat.mul_comm,Nat.mul_add_div (by omega),Nat.div_eq_of_lt hj']; rfl
 have:i=i':=by rw [<- e1,h,e2]
 subst this
 exact ⟨rfl,by omega⟩

theorem SimB.storeRow (h : SimB w0 U0 X β0 β U s a w) {k ver : Nat} {e : TypeId} {sz : Nat} {ap fr fr' : Bool} {rows : List (List D)} {b : Blk} (hb : s.blk k = some b) (hstd : b.std = .row ver e sz ap fr rows)
    {g n c : Nat} (hk : β k = some (.row (.slice (some ⟨g, 0, none⟩) n c) ver)) {us : List Value} {ds : List D} (hl : us.length = ds.length)
    (hds : ∀ (j : Nat) (u : Value) (d : D), us[j]? = some u -> ds[j]? = some d -> RepI w (fun b => U b /\ (fr' = true -> w0.heap.size <= b)) u d) (h1 : ∀ u ∈ us, u.oneCell' = true)
    {i off : Nat} {r : List D} (hr : rows[i]? = some r) (hle : off + ds.length <= sz) :
    SimB w0 U0 X β0 (upd β k (.row (.slice (some ⟨g, 0, none⟩) n c) ver)) U (s.set k (.row ver e sz ap (fr && fr') (rows.set i (zgo r off ds)))) a (w.setCells g (i * sz + off) us) := by
  obtain ⟨q1, q2, q3⟩ := h.placeStd (by rw [hb]; exact congrArg some hstd) hk
  obtain ⟨g', cap', cur, fz, e1, hg, h3, h4, h5, h6, h7, h8⟩ : ∃ (g' cap : Nat) (cur : Array Value) (fz : Nat × Nat), Value.slice (some ⟨g, 0, none⟩) n c = .slice (some ⟨g', 0, none⟩) rows.length cap /\ w.heap[g']? = some (.cells cur e fz) /\ rows.length <= cap /\ cap <= maxLen /\ cur.size = cap * sz /\
         (ap = true -> fz = (0, 0)) /\ (∀ i, i < rows.length * sz -> w.frozen? ⟨g', i, none⟩ = false) /\
         ∀ (i j : Nat) (r : List D) (d : D), rows[i]? = some r -> r[j]? = some d -> ∃ u, cur[i * sz + j]? = some u /\ u.oneCell' = true /\ RepI w (fun b => U b /\ (fr = true -> w0.heap.size <= b)) u d := by
    rcases q3 with ⟨e1, _⟩ | q3
    . cases e1
    . exact q3
  cases e1
  have hi : i < rows.length := (List.getElem?_eq_some_iff.1 hr).1
  have hrl : r.length = sz := q2 r (List.mem_of_getElem? hr)
  obtain ⟨cur', p1, p2, p3⟩ := zcz g us (i * sz + off) w cur e fz hg
  have hUo : ∀ b', U b' -> (w.setCells g (i * sz + off) us).heap[b']? = w.heap[b']? := fun b' hb' => zaj g us _ w b' (fun e => by subst e; exact (h.apart k _ b' hk rfl).1 hb')
  have hwr : ∀ j, j < us.length -> (w.cell? ⟨g, i * sz + off + j, none⟩).isSome = true := fun j hj => by
    have hlt : i * sz + (off + j) < rows.length * sz := zc0 hi (by omega)
    have hlt2 : rows.length * sz <= c * sz := Nat.mul_le_mul_right _ h3
    rw [Nat.add_assoc]
    simp only [World.cell?, hg]
    rw [Array.getElem?_eq_getElem (by omega)]; rfl
  have hin : ∀ j, (hj : j < us.length) -> cur'[i * sz + off + j]? = some us[j] := fun j hj => by
    have := World.cell?_setCells_in g us (i * sz + off) w hwr j hj
    simp only [World.cell?, p1] at this
    exact this
  refine h.repl hk hb (zao g us _ w).1 (zao g us _ w).2.1 (zao g us _ w).2.2 (by rw [setCells_size]; exact Nat.le_refl _) (fun b' _ hne => zaj g us _ w b' (fun e => hne (by rw [e]; rfl)))
    (fun b' j hb' hnc => ?_) (fun b' hb' hpb => ?_) (.inl rfl) (fun b' hb' => .inl hb') (fun b' j hc => .inl hc) ⟨rfl, fun r' hr' => ?_, .inr ⟨g, c, cur', fz, by rw [List.length_set], p1, by rw [List.length_set]; exact h3, h4, by omega, h6, fun j hj => ?_, fun i' j r' d hi' hj => ?_⟩⟩
  . have hne : b' ≠ g := fun e => hnc (by subst e; rfl)
    exact ⟨World.cell?_of_block (w := w) (zaj g us _ w b' hne), World.frozen?_of_block (w := w) (zaj g us _ w b' hne)⟩
  . exact .inr (.inr fun j => hpb)
  . rcases List.mem_or_eq_of_mem_set hr' with hm | rfl
    . exact q2 _ hm
    . rw [zfb _ _ _ (by omega)]; exact hrl
  . rw [List.length_set] at hj; rw [World.frozen?_setCells]; exact h7 j hj
  . have old : ∀ r0 d0, rows[i']? = some r0 -> r0[j]? = some d0 -> (i' = i -> j < off \/ off + ds.length <= j) -> d = d0 -> ∃ u, cur'[i' * sz + j]? = some u /\ u.oneCell' = true /\ RepI (w.setCells g (i * sz + off) us) (fun b => U b /\ ((fr && fr') = true -> w0.heap.size <= b)) u d := by
      intro r0 d0 hr0 hd0 hout hd
      subst hd
      obtain ⟨u, k1, k2, k3⟩ := h8 i' j r0 d hr0 hd0
      have hjl : j < sz := by have := (List.getElem?_eq_some_iff.1 hd0).1; have := q2 r0 (List.mem_of_getElem? hr0); omega
      refine ⟨u, ?_, k2, (k3.mono (fun b hb => ⟨hb.1, fun e => hb.2 (by simp at e; exact e.1)⟩) (fun _ _ => rfl)).mono (fun _ hb => hb) (fun b hb => hUo b hb.1)⟩
      rw [p3 _ (by
        rcases Nat.lt_or_ge (i' * sz + j) (i * sz + off) with hlt | hge
        . exact .inl hlt
        . right
          rcases Nat.lt_or_ge (i' * sz + j) (i * sz + off + us.length) with hlt | hge'
          . exfalso
            obtain ⟨t, ht⟩ : ∃ t, i' * sz + j = i * sz + (off + t) /\ t < us.length := ⟨i' * sz + j - (i * sz + off), by omega, by omega⟩
            obtain ⟨e1, e2⟩ := zcub hjl (by omega) ht.1
            have := hout e1
            omega
          . exact hge')]
      exact k1
    by_cases hii : i = i'
    . subst hii
      rw [List.getElem?_set_self hi] at hi'
      obtain rfl := Option.some.inj hi'
      rw [zh8 _ _ _ _ (by omega)] at hj
      split at hj
      . rename_i hjj
        obtain ⟨hlt, hv⟩ := List.getElem?_eq_some_iff.1 hj
        have hlt' : j - off < us.length := by omega
        have hi2 := hin (j - off) hlt'
        rw [show i * sz + off + (j - off) = i * sz + j by omega] at hi2
        refine ⟨us[j - off], hi2, h1 _ (List.getElem_mem hlt'), (hds (j - off) _ d (List.getElem?_eq_getElem hlt') hj).mono (fun b hb => ⟨hb.1, fun e => hb.2 (by simp at e; exact e.2)⟩) (fun b hb => hUo b hb.1)⟩
      . exact old r d hr hj (fun _ => by omega) rfl
    . rw [List.getElem?_set_ne hii] at hi'
      exact old r' d hi' hj (fun e => absurd e.symm hii) rfl
end
end Go.Proofs.YthkhikdglmaiaaaGreatDoor.Abs
namespace Go.Proofs.YthkhikdglmaiaaaGreatDoor.Abs
open Go Go.RowKit
set_option linter.unusedVariables false
set_option linter.unusedSimpArgs false

inductive Tr (α:Type):Type 1 where
 | ret (a:α)
 | ite (c:Bool) (t e:Tr α)
 | grd (c:Bool) (t:Tr α)
 | opt {β:Type} (o:Option β) (k:β->Tr α)
 | sum {β γ:Type} (o:β⊕γ) (k:β->Tr α) (l:γ->Tr α)
 | stuck (id:Nat) (s:St)
 | fail (why:Nat)

def Tr.eval {α:Type}:Tr α->Option α
 | .ret a=>some a
 | .ite c t e=>bif c then t.eval else e.eval
 | .grd c t=>bif c then t.eval else none
 | .opt o k=>o.bind fun x=>(k x).eval
 | .sum o k l=>match o with | .inl a=>(k a).eval | .inr b=>(l b).eval
 | .stuck _ _=>none
 | .fail _=>none

def Tr.bind {α β:Type} (f:α->Tr β):Tr α->Tr β
 | .ret a=>f a
 | .ite c t e=>.ite c (t.bind f) (e.bind f)
 | .grd c t=>.grd c (t.bind f)
 | .opt o k=>.opt o fun x=>(k x).bind f
 | .sum o k l=>.sum o (fun x=>(k x).bind f) (fun x=>(l x).bind f)
 | .stuck id s=>.stuck id s
 | .fail w=>.fail w

def Tr.map {α β:Type} (f:α->β):Tr α->Tr β
 | .ret a=>.ret (f a)
 | .ite c t e=>.ite c (t.map f) (e.map f)
 | .grd c t=>.grd c (t.map f)
 | .opt o k=>.opt o fun x=>(k x).map f
 | .sum o k l=>.sum o (fun x=>(k x).map f) (fun x=>(l x).map f)
 | .stuck id s=>.stuck id s
 | .fail w=>.fail w

theorem Tr.eval_bind {α β:Type} (f:α->Tr β) (t:Tr α):(t.bind f).eval=t.eval.bind fun x=>(f x).eval:=by
 induction t with
 | ret a=>rfl
 | ite c t e iht ihe=>cases c <;> simp [Tr.bind,Tr.eval,iht,ihe]
 | grd c t ih=>cases c <;> simp [Tr.bind,Tr.eval,ih]
 | opt o k ih=>cases o <;> simp [Tr.bind,Tr.eval,ih]
 | sum o k l ihk ihl=>cases o <;> simp [Tr.bind,Tr.eval,ihk,ihl]
 | stuck=>rfl
 | fail=>rfl
theorem Tr.eval_map {α β:Type} (f:α->β) (t:Tr α):(t.map f).eval=t.eval.map f:=by
 induction t with
 | ret a=>rfl
 | ite c t e iht ihe=>cases c <;> simp [Tr.map,Tr.eval,iht,ihe]
 | grd c t ih=>cases c <;> simp [Tr.map,Tr.eval,ih]
 | opt o k ih=>cases o <;> simp [Tr.map,Tr.eval,ih]
 | sum o k l ihk ihl=>cases o <;> simp [Tr.map,Tr.eval,ihk,ihl]
 | stuck=>rfl
 | fail=>rfl
theorem Tr.eval_ite {α:Type} {c:Bool} {t e:Tr α} {a:α} (h:(Tr.ite c t e).eval=some a):(c=true/\t.eval=some a)\/(c=false/\e.eval=some a):=by
 cases c
 . exact .inr ⟨rfl,h⟩
 . exact .inl ⟨rfl,h⟩
theorem Tr.eval_grd {α:Type} {c:Bool} {t:Tr α} {a:α} (h:(Tr.grd c t).eval=some a):c=true/\t.eval=some a:=by
 cases c
 . cases h
 . exact ⟨rfl,h⟩

def effG (P:Program) (op:Op) (ρ:Operand->V):Option (Bool×V) :=
 match op with
 | .binOp bop _ x y _=>match bop with
  | .shl=>match ρ x,ρ y with | .one (.d (.i k a)),.one (.d (.i _ b))=>some (decide (0<=b),vi k (k.wrap (a*2^min b.toNat k.bits))) | _,_=>none
  | .shr=>match ρ x,ρ y with | .one (.d (.i k a)),.one (.d (.i _ b))=>some (decide (0<=b),vi k (a.fdiv (2^min b.toNat k.bits))) | _,_=>none
  | .quo=>match ρ x,ρ y with | .one (.d (.i k a)),.one (.d (.i k' b))=>if k=k' then some (decide (b≠0),vi k (k.wrap (a.tdiv b))) else none | _,_=>none
  | .rem=>match ρ x,ρ y with | .one (.d (.i k a)),.one (.d (.i k' b))=>if k=k' then some (decide (b≠0),vi k (a.tmod b)) else none | _,_=>none
  | .add=>match ρ x,ρ y with | .one (.d (.s a)),.one (.d (.s b))=>some (decide (a.length+b.length<=9223372036854775807),vs (a++b)) | _,_=>none
  | _=>none
 | .slice t x lo hi none=>match P.underlying t,ρ x with
  | some .string,.one (.d (.s l))=>match optI 0 (lo.map ρ),optI l.length (hi.map ρ) with
   | some a,some b=>some (decide (0<=a/\a<=b/\b<=l.length),vs ((l.take b.toNat).drop a.toNat))
   | _,_=>none
  | _,_=>none
 | .index t x i=>match ρ i with
  | .one (.d (.i _ n))=>match P.underlying t,ρ x with
   | some .string,.one (.d (.s l))=>some (decide (0<=n/\n<l.length),vi .u8 (l.getD n.toNat 0).toNat)
   | _,_=>none
  | _=>none
 | _=>none

theorem zdxb {P:Program} {op:Op} {ρ:Operand->V} {g:Bool} {v:V} (h:effG P op ρ=some (g,v)) (hg:g=true):effQ P op ρ=some v:=by
 subst hg
 unfold effG at h
 split at h
 . rename_i bop t x y t'
   split at h
   . split at h
     . rename_i k a k' b hx hy
       simp only [Option.some.injEq,Prod.mk.injEq,decide_eq_true_eq] at h
       obtain ⟨h1,rfl⟩:=h
       simp [effQ,binA,hx,hy,binI,h1]
     . cases h
   . split at h
     . rename_i k a k' b hx hy
       simp only [Option.some.injEq,Prod.mk.injEq,decide_eq_true_eq] at h
       obtain ⟨h1,rfl⟩:=h
       simp [effQ,binA,hx,hy,binI,h1]
     . cases h
   . split at h
     . rename_i k a k' b hx hy
       split at h
       . rename_i hk
         simp only [Option.some.injEq,Prod.mk.injEq,decide_eq_true_eq] at h
         obtain ⟨h1,rfl⟩:=h
         simp [effQ,binA,hx,hy,binI,h1,hk]
       . cases h
     . cases h
   . split at h
     . rename_i k a k' b hx hy
       split at h
       . rename_i hk
         simp only [Option.some.injEq,Prod.mk.injEq,decide_eq_true_eq] at h
         obtain ⟨h1,rfl⟩:=h
         simp [effQ,binA,hx,hy,binI,h1,hk]
       . cases h
     . cases h
   . split at h
     . rename_i a b hx hy
       simp only [Option.some.injEq,Prod.mk.injEq,decide_eq_true_eq] at h
       obtain ⟨h1,rfl⟩:=h
       simp only [effQ,binA,hx,hy,binS]
       rw [if_pos h1]; rfl
     . cases h
   . cases h
 . rename_i t x lo hi
   split at h
   . rename_i l hu hx
     split at h
     . rename_i a b ha hb
       simp only [Option.some.injEq,Prod.mk.injEq,decide_eq_true_eq] at h
       obtain ⟨h1,rfl⟩:=h
       simp only [effQ,zna,hu,hx,ha,hb]
       rw [if_pos h1]
     . cases h
   . cases h
 . rename_i t x i
   split at h
   . rename_i k n hi
     split at h
     . rename_i l hu hx
       simp only [Option.some.injEq,Prod.mk.injEq,decide_eq_true_eq] at h
       obtain ⟨h1,rfl⟩:=h
       simp only [effQ,zv5,hi,hu,hx]
       rw [if_pos h1.1]
       have h2:n.toNat<l.length:=by omega
       rw [List.getElem?_eq_getElem h2]
       simp [List.getD_eq_getElem?_getD,h2]
     . cases h
   . cases h
 . cases h


def decG (c:Nat) (l:List D):Option (Tr (τ c)) :=
 match c,l with
 | 2,[.i .u8 n]=>some (.grd (decide (0<=n/\n<256)) (.ret (UInt8.ofNat n.toNat)))
 | c,l=>match decD c l with
  | some t=>some (.ret t)
  | none=>none
def zn7 (c:Nat):List (List D)->Option (Tr (List (τ c)))
 | []=>some (.ret [])
 | r :: rs=>match decG c r,zn7 c rs with
  | some T,some Ts=>some (T.bind fun t=>Ts.bind fun ts=>.ret (t :: ts))
  | _,_=>none

theorem z38 {c:Nat} {l:List D} {T:Tr (τ c)} {t:τ c} (h:decG c l=some T) (ht:T.eval=some t):WkDs l (enc c t):=by
 unfold decG at h
 split at h
 . rename_i n
   cases h
   obtain ⟨h1,h2⟩:=Tr.eval_grd ht
   cases h2
   simp only [decide_eq_true_eq] at h1
   refine ⟨.inl ?_,trivial⟩
   have:(UInt8.ofNat n.toNat).toNat=n.toNat:=by
     rw [UInt8.toNat_ofNat']; omega
   show D.i .u8 ((UInt8.ofNat n.toNat).toNat:Int)=D.i .u8 n
   rw [this]
   congr 1; omega
 . split at h
   . rename_i t' hd
     cases h; cases ht
     exact zk3b _ _ _ hd
   . cases h
theorem zmo {c:Nat}:∀ {l:List (List D)} {T:Tr (List (τ c))} {ts:List (τ c)},zn7 c l=some T->T.eval=some ts->zwv l (ts.map (enc c))
 | [],T,ts,h,ht=>by cases h; cases ht; trivial
 | r :: rs,T,ts,h,ht=>by
  unfold zn7 at h
  split at h
  . rename_i T1 T2 h1 h2
    cases h
    rw [Tr.eval_bind] at ht
    obtain ⟨t,e1,e2⟩:=Option.bind_eq_some_iff.1 ht
    rw [Tr.eval_bind] at e2
    obtain ⟨ts',e3,e4⟩:=Option.bind_eq_some_iff.1 e2
    cases e4
    exact ⟨z38 h1 e1,zmo h2 e3⟩
  . cases h

def za7b (m:Nat->Option Blk) (c:Nat) (x:V):Option (List (τ c)×Bool) :=
 match x with
 | .one (.d (.st k xs))=>if h:k=c then some (h ▸ xs,zn0 c) else none
 | .one (.f (.st k xs))=>if h:k=c then some (h ▸ xs,true) else none
 | .one (.own k ver _)=>match m k with
  | some (.rowT ver' _ k' _ fr xs)=>if h:k'=c then (if ver=ver' then some (h ▸ xs,fr) else none) else none
  | _=>none
 | .one (.sub k ver sz off len)=>match m k with
  | some (.rowT ver' _ k' _ fr xs)=>if h:k'=c then (if ver=ver'/\sz=esz c then some (h ▸ ((xs.drop off).take len),fr) else none) else none
  | _=>none
 | .one (.pre k ver sz len)=>match m k with
  | some (.rowT ver' _ k' _ fr xs)=>if h:k'=c then (if ver=ver' then some (h ▸ (xs.take len),fr) else none) else none
  | _=>none
 | .one (.nn (.st k xs))=>if h:k=c then some (h ▸ xs,zn0 c) else none
 | _=>none
def z7g (m:Nat->Option Blk) (x:V):Option Bool :=
 match x with
 | .one (.sub k _ _ off len)=>match m k with
  | some (.rowT _ _ _ _ _ xs)=>some (decide (off+len<=xs.length))
  | _=>none
 | _=>none
def grdC {α:Type}:Option Bool->Tr α->Tr α
 | none,T=>T
 | some c,T=>.grd c T
theorem zn5 {α:Type} {c:Option Bool} {T:Tr α} {a:α} (h:(grdC c T).eval=some a):c.getD true=true/\T.eval=some a:=by
 cases c with
 | none=>exact ⟨rfl,h⟩
 | some c=>exact Tr.eval_grd h
theorem zqz {m:Nat->Option Blk} {c:Nat} {x:V} {xs:List (τ c)} {fr:Bool} (h:za7b m c x=some (xs,fr)) (hc:(z7g m x).getD true=true):rowsOf m x=some (esz c,xs.map (enc c),fr):=by
 unfold za7b at h
 split at h
 . split at h
   . rename_i e; subst e; cases h; rfl
   . cases h
 . split at h
   . rename_i e; subst e; cases h; rfl
   . cases h
 . split at h
   . rename_i hm
     split at h
     . rename_i e; subst e
       split at h
       . rename_i hv; cases h
         simp only [rowsOf,hm,Option.map_some,Blk.std]
         rw [if_pos hv]
       . cases h
     . cases h
   . cases h
 . split at h
   . rename_i hm
     split at h
     . rename_i e; subst e
       split at h
       . rename_i hv; cases h
         simp only [z7g,hm,Option.getD_some,decide_eq_true_eq] at hc
         simp only [rowsOf,hm,Option.map_some,Blk.std,List.length_map]
         rw [if_pos ⟨hv.1,hv.2,hc⟩]
         simp only [List.map_take,List.map_drop,hv.2]
       . cases h
     . cases h
   . cases h
 . split at h
   . rename_i hm
     split at h
     . rename_i e; subst e
       split at h
       . rename_i hv; cases h
         simp only [rowsOf,hm,Option.map_some,Blk.std]
         rw [if_pos hv,List.map_take]
       . cases h
     . cases h
   . cases h
 . split at h
   . rename_i e; subst e; cases h; rfl
   . cases h
 . cases h

theorem zzs (l:List UInt8):zd3 (l.map fun b:UInt8=>[D.i .u8 (b.toNat:Int)])=some l:=by
 unfold zd3
 have:∀ l:List UInt8,(l.map fun b:UInt8=>[D.i .u8 (b.toNat:Int)]).mapM zzr=some (l.map fun b=>(b.toNat:Int)):=by
  intro l
  induction l with
  | nil=>rfl
  | cons b l ih =>
   rw [List.map_cons,List.mapM_cons,ih]
   rfl
 rw [this]
 simp only [Option.map_some,List.map_map,Option.some.injEq]
 have:((fun n:Int=>UInt8.ofNat n.toNat) ∘ fun b:UInt8=>(b.toNat:Int))=id:=by
  funext b; simp
 rw [this,List.map_id]
theorem z2o (l:List UInt8):zd3 (List.map (α:=τ 2) (enc 2) l)=some l:=zzs l

def ints:List C->Option (IntKind×List Int)
 | []=>none
 | [.d (.i k n)]=>some (k,[n])
 | .d (.i k n) :: r=>match ints r with
  | some (k',l)=>if k=k' then some (k,n :: l) else none
  | none=>none
 | _=>none
theorem z5i:∀ {cs:List C} {k:IntKind} {l:List Int},ints cs=some (k,l)->cs=l.map fun n=>C.d (.i k n)
 | [],k,l,h=>by cases h
 | [c],k,l,h=>by
  unfold ints at h
  split at h
  . rename_i e; cases e
  . rename_i e; cases e; cases h; rfl
  . rename_i k' n r hne e; cases e; exact (hne rfl).elim
  . cases h
 | c :: c' :: r,k,l,h=>by
  unfold ints at h
  split at h
  . rename_i e; cases e
  . rename_i e; cases e
  . rename_i k' n r' hne e
    cases e
    split at h
    . rename_i k2 l2 h2
      split at h
      . rename_i ek; subst ek; cases h
        rw [z5i h2]; rfl
      . cases h
    . cases h
  . cases h

def zdyb (P:Program) (op:Op) (ρ:Operand->V):Option (Tr Out) :=
 match effG P op ρ with
 | some (g,v)=>some (.grd g (.ret ⟨v,[]⟩))
 | none=>none

def effX (P:Program) (cod:TypeId->Nat) (dst:Option Nat) (op:Op) (ρ:Operand->V) (m:Nat->Option Blk):Option (Tr Out) :=
 match op with
 | .indexAddr t x i=>match ρ i with
  | .one (.d (.i _ n))=>match P.underlying t,ρ x with
   | some (.slice e),.one (.d (.st c xs))=>if esz c=P.cellsOf e/\(P.info? e).isSome then some (.grd (decide (0<=n)) (.opt (xs[n.toNat]?) fun t=>.ret ⟨.one (.pv (enc c t)),[]⟩)) else none
   | some (.slice e),.one (.f (.st c xs))=>if esz c=P.cellsOf e/\(P.info? e).isSome then some (.grd (decide (0<=n)) (.opt (xs[n.toNat]?) fun t=>.ret ⟨.one (.pv (enc c t)),[]⟩)) else none
   | some (.slice e),.one (.own k ver len)=>if (P.info? e).isSome then some (.grd (decide (0<=n/\n<len)) (.ret ⟨.one (.pr k ver (P.cellsOf e) n.toNat 0),[]⟩)) else none
   | some (.slice e),.one (.sub k ver sz off len)=>if sz=P.cellsOf e/\(P.info? e).isSome then some (.grd (decide (0<=n/\n<len)) (.ret ⟨.one (.pr k ver sz (off+n.toNat) 0),[]⟩)) else none
   | _,_=>none
  | _=>none
 | .index t x (.tmp i)=>match ρ (.tmp i),P.underlying t,ρ x with
  | .one (.d (.i _ n)),some (.array len e),.agg cs=>match ints cs with
   | some (k,ns)=>if len=ns.length/\P.cellsOf e=1/\tagg P e=false/\(P.info? e).isSome/\(P.underlying e).isSome then some (.grd (decide (0<=n)) (.opt (ns[n.toNat]?) fun v=>.ret ⟨vi k v,[]⟩)) else none
   | none=>none
  | _,_,_=>zdyb P (.index t x (.tmp i)) ρ
 | .load t a=>match ρ a with
  | .one (.pr k ver sz i off)=>match m k with
   | some (.rowT ver' _ c _ fr xs)=>if ver=ver'/\sz=esz c then some (.opt (xs[i]?) fun x=>match zma P t ((enc c x).map (toC fr)) off with
    | some v=>.ret ⟨v,[]⟩
    | none=>.fail 41) else none
   | _=>none
  | _=>none
 | .slice t x lo hi none=>match P.underlying t,ρ x with
  | some (.slice e),.one (.d (.st c xs))=>match optI 0 (lo.map ρ),optI xs.length (hi.map ρ) with
   | some a,some b=>if esz c=P.cellsOf e/\(P.info? e).isSome then some (.grd (decide (0<=a/\a<=b/\b<=xs.length)) (.ret ⟨.one (.d (.st c ((xs.take b.toNat).drop a.toNat))),[]⟩)) else none
   | _,_=>none
  | some (.slice e),.one (.f (.st c xs))=>match optI 0 (lo.map ρ),optI xs.length (hi.map ρ) with
   | some a,some b=>if esz c=P.cellsOf e/\(P.info? e).isSome then some (.grd (decide (0<=a/\a<=b/\b<=xs.length)) (.ret ⟨.one (.f (.st c ((xs.take b.toNat).drop a.toNat))),[]⟩)) else none
   | _,_=>none
  | some (.slice e),.one (.own k ver len)=>match optI 0 (lo.map ρ),optI len (hi.map ρ) with
   | some a,some b=>if (P.info? e).isSome then some (.grd (decide (0<=a/\a<=b/\b<=len)) (.ret ⟨.one (.sub k ver (P.cellsOf e) a.toNat (b-a).toNat),[]⟩)) else none
   | _,_=>none
  | some (.slice e),.one (.sub k ver sz off len)=>match optI 0 (lo.map ρ),optI len (hi.map ρ) with
   | some a,some b=>if sz=P.cellsOf e/\(P.info? e).isSome then some (.grd (decide (0<=a/\a<=b/\b<=len)) (.ret ⟨.one (.sub k ver sz (off+a.toNat) (b-a).toNat),[]⟩)) else none
   | _,_=>none
  | _,_=>zdyb P (.slice t x lo hi none) ρ
 | .convert src dst' x=>match dst,P.underlying src,P.underlying dst',ρ x with
  | some k,some .string,some (.slice e),.one (.d (.s l))=>match P.underlying e,m k with
   | some (.int .u8),none=>some (.grd (decide (l.length<=maxLen)) (.ret ⟨.one (.own k 0 l.length),[(k,.rowT 0 e 2 false true l)]⟩))
   | _,_=>none
  | _,some (.slice e),some .string,x=>match P.underlying e,za7b m 2 x with
   | some (.int .u8),some (l,_)=>some (grdC (z7g m x) (.ret ⟨vs l,[]⟩))
   | _,_=>none
  | _,_,_,_=>none
 | .buildSlice t len parts=>match eff P dst op ρ m with
  | some ⟨v,some (k,.row ver e sz ap fr rows)⟩=>if sz=esz (cod t) then match zn7 (cod t) rows with
   | some T=>some (T.bind fun ts=>.ret ⟨v,[(k,.rowT ver e (cod t) ap fr ts)]⟩)
   | none=>none
   else none
  | _=>none
 | .call { callee:=.builtin .append,args,argTypes } => match dst,args.toList,argTypes.toList with
  | some d,[x,y],[t,t']=>match zg0 P t with
   | some e=>match za7b m (cod t) (ρ y) with
    | some (new,fr')=>if t=t'/\esz (cod t)=P.cellsOf e/\0<esz (cod t)/\(zja P e).isSome then match ρ x with
     | .one .nil=>match m d with
      | none=>some (grdC (z7g m (ρ y)) (.grd (decide (new.length*P.bytesOf e<=140737488355328/\new.length<=maxLen)) (.ret ⟨.one (.own d 0 new.length),[(d,.rowT 0 e (cod t) true fr' new)]⟩)))
      | some _=>none
     | .one (.own k ver _)=>match m k with
      | some (.rowT ver' e' c ap fr xs)=>if h:c=cod t then (if ver=ver'/\e=e'/\ap=true then
       some (grdC (z7g m (ρ y)) (.grd (decide (((h ▸ xs:List (τ (cod t))).length+new.length)*P.bytesOf e<=140737488355328/\(h ▸ xs:List (τ (cod t))).length+new.length<=maxLen))
        (.ret ⟨.one (.own k (ver+1) ((h ▸ xs:List (τ (cod t)))++new).length),[(k,.rowT (ver+1) e (cod t) true (fr&&fr') ((h ▸ xs:List (τ (cod t)))++new))]⟩))) else none) else none
      | _=>none
     | _=>none
     else none
    | none=>none
   | none=>none
  | _,_,_=>none
 | op=>zdyb P op ρ

def effS (P:Program) (dst:Option Nat) (op:Op) (ρ:Operand->V) (m:Nat->Option Blk):Option (Tr Out) :=
 match op with
 | .store t y x=>match dst,ρ y,(ρ x).cells with
  | none,.one (.pr k ver sz i off),some cs=>match m k,cs.mapM toD with
   | some (.rowT ver' e c ap fr xs),some ds=>if ver=ver'/\sz=esz c/\ds.length=tsz P t/\off+ds.length<=sz/\(P.info? t).isSome then
    some (.opt (xs[i]?) fun x0=>match decG c (zgo (enc c x0) off ds) with
     | some T=>T.bind fun x1=>.ret ⟨.one .un,[(k,.rowT ver' e c ap (fr&&cs.all C.fresh) (xs.set i x1))]⟩
     | none=>.fail 42) else none
   | _,_=>none
  | _,_,_=>none
 | _=>none

def OutWk (E:Eff) (E':Out):Prop:=E'.val=E.val/\((E.mem=none/\E'.mem=[]) \/ ∃ k b b',E.mem=some (k,b)/\E'.mem=[(k,b')]/\BlkWk b b')

theorem zppb {P:Program} {o:Oper} {s:St} {E:Eff} {E':Out} (hd:∀ d,o.dst=some d->d<s.n) (he:eff P o.dst o.op s.eval s.blk=some E) (hw:OutWk E E'):za0 P o s E':=by
 obtain ⟨hv,⟨h1,h2⟩ | ⟨k,b,b',h1,h2,h3⟩⟩:=hw
 . intro w0 U0 X β0 β U a w hs
   obtain ⟨u,w',q1,q2⟩:=ztp hs o hd he
   refine ⟨u,w',q1,?_⟩
   rw [St.app_out] at q2
   have:E.out=E':=by
    obtain ⟨ev,em⟩:=E; obtain ⟨v',m'⟩:=E'
    simp only at h1 h2 hv; subst h1; subst h2; subst hv; rfl
   rw [<- this]; exact q2
 . have:E'=⟨E.val,[(k,b')]⟩:=by
    obtain ⟨v',m'⟩:=E'; simp only at h2 hv; subst h2; subst hv; rfl
   rw [this]
   exact zgmb hd he h1 rfl h3
end Go.Proofs.YthkhikdglmaiaaaGreatDoor.Abs
namespace Go.Proofs.YthkhikdglmaiaaaGreatDoor.Abs
open Go Go.RowKit
set_option linter.unusedVariables false
set_option linter.unusedSimpArgs false

theorem OutWk.v (v:V):OutWk ⟨v,none⟩ ⟨v,[]⟩:=⟨rfl,.inl ⟨rfl,rfl⟩⟩
theorem zu0 {P:Program} {dst:Option Nat} {op:Op} {ρ:Operand->V} {m:Nat->Option Blk} {v:V} (h:effQ P op ρ=some v):∃ E0,eff P dst op ρ m=some E0/\OutWk E0 ⟨v,[]⟩ :=
 ⟨⟨v,none⟩,by unfold eff; rw [h],OutWk.v v⟩
theorem zo4b {P:Program} {dst:Option Nat} {op:Op} {ρ:Operand->V} {m:Nat->Option Blk} {v:V} (h0:effQ P op ρ=none) (h:effR P op ρ m=some v):∃ E0,eff P dst op ρ m=some E0/\OutWk E0 ⟨v,[]⟩ :=
 ⟨⟨v,none⟩,by unfold eff; rw [h0,h],OutWk.v v⟩
theorem zkyb {P:Program} {dst:Option Nat} {op:Op} {ρ:Operand->V} {m:Nat->Option Blk} {v:V} {k:Nat} {b b':Blk} (h0:effQ P op ρ=none) (h1:effR P op ρ m=none) (h:effW P dst op ρ m=some ⟨v,some (k,b)⟩) (hb:BlkWk b b') :
  ∃ E0,eff P dst op ρ m=some E0/\OutWk E0 ⟨v,[(k,b')]⟩ :=
 ⟨_,by unfold eff; rw [h0,h1,h],rfl,.inr ⟨k,b,b',rfl,rfl,hb⟩⟩
theorem zog (ver:Nat) (e:TypeId) (c:Nat) (ap fr:Bool) (xs:List (τ c)):BlkWk (.row ver e (esz c) ap fr (xs.map (enc c))) (.rowT ver e c ap fr xs) :=
 ⟨rfl,fun p x j=>by cases p <;> exact Iff.rfl,fun w β U base p h=>h⟩

theorem ztq {P:Program} {dst:Option Nat} {op:Op} {ρ:Operand->V} {m:Nat->Option Blk} {T:Tr Out} {E:Out} (h:zdyb P op ρ=some T) (hT:T.eval=some E) :
   ∃ E0,eff P dst op ρ m=some E0/\OutWk E0 E:=by
 unfold zdyb at h
 split at h
 . rename_i g v hg
   cases h
   obtain ⟨h1,h2⟩:=Tr.eval_grd hT
   cases h2
   exact zu0 (zdxb hg h1)
 . cases h

theorem z5w {P : Program} {cod : TypeId -> Nat} {dst : Option Nat} {op : Op} {ρ : Operand -> V} {m : Nat -> Option Blk} {T : Tr Out} {E : Out} (h : effX P cod dst op ρ m = some T) (hT : T.eval = some E) :
   ∃ E0, eff P dst op ρ m = some E0 /\ OutWk E0 E := by
 unfold effX at h
 split at h
 . -- indexAddr
   rename_i t x i
   split at h
   case h_2 => cases h
   rename_i kk n hi
   have q : effQ P (.indexAddr t x i) ρ = zc8 P t (ρ x) (ρ i) := rfl
   split at h
   . rename_i e c xs hu hx
     split at h
     case isFalse => cases h
     rename_i hc
     cases h
     obtain ⟨h1, h2⟩ := Tr.eval_grd hT
     obtain ⟨t', h3, h4⟩ := Option.bind_eq_some_iff.1 h2
     cases h4
     refine zu0 ?_
     rw [q]; simp only [zc8, hi, hu, hx]
     rw [if_pos (by simpa using h1), if_pos hc, h3]; rfl
   . rename_i e c xs hu hx
     split at h
     case isFalse => cases h
     rename_i hc
     cases h
     obtain ⟨h1, h2⟩ := Tr.eval_grd hT
     obtain ⟨t', h3, h4⟩ := Option.bind_eq_some_iff.1 h2
     cases h4
     refine zu0 ?_
     rw [q]; simp only [zc8, hi, hu, hx]
     rw [if_pos (by simpa using h1), if_pos hc, h3]; rfl
   . rename_i e k ver len hu hx
     split at h
     case isFalse => cases h
     rename_i hc
     cases h
     obtain ⟨h1, h2⟩ := Tr.eval_grd hT
     cases h2
     simp only [decide_eq_true_eq] at h1
     refine zu0 ?_
     rw [q]; simp only [zc8, hi, hu, hx]
     rw [if_pos h1.1, if_pos ⟨h1.2, hc⟩]
   . rename_i e k ver sz off len hu hx
     split at h
     case isFalse => cases h
     rename_i hc
     cases h
     obtain ⟨h1, h2⟩ := Tr.eval_grd hT
     cases h2
     simp only [decide_eq_true_eq] at h1
     refine zu0 ?_
     rw [q]; simp only [zc8, hi, hu, hx]
     rw [if_pos h1.1, if_pos ⟨h1.2, hc⟩]
   . cases h
 . -- index
   rename_i t x i
   split at h
   case h_2 => exact ztq h hT
   rename_i kk n len e cs hi hu hx
   split at h
   case h_2 => cases h
   rename_i k ns hns
   split at h
   case isFalse => cases h
   rename_i hc
   obtain ⟨c1, c2, c3, c4, c5⟩ := hc
   cases h
   obtain ⟨h1, h2⟩ := Tr.eval_grd hT
   obtain ⟨v, h3, h4⟩ := Option.bind_eq_some_iff.1 h2
   cases h4
   simp only [decide_eq_true_eq] at h1
   have hlt : n < len := by have := (List.getElem?_eq_some_iff.1 h3).1; omega
   refine zu0 ?_
   show zv5 P t (ρ x) (ρ (.tmp i)) = _
   simp only [zv5, hi, hu, hx]
   rw [if_pos h1, if_pos ⟨hlt, c4⟩]
   unfold zma
   rw [if_neg (by simp only [Option.isNone_iff_eq_none]; intro e1; rw [e1] at c5; cases c5), if_neg (by simp [c3]), c2, Nat.mul_one, z5i hns, List.getElem?_map, h3]
   rfl
 . -- load
   rename_i t a
   split at h
   case h_2 => cases h
   rename_i k ver sz i off ha
   split at h
   case h_2 => cases h
   rename_i ver' e c ap fr xs hm
   split at h
   case isFalse => cases h
   rename_i hc
   cases h
   obtain ⟨x, h3, h4⟩ := Option.bind_eq_some_iff.1 hT
   simp only at h4
   split at h4
   case h_2 => cases h4
   rename_i v hv
   cases h4
   refine zo4b rfl ?_
   simp only [effR, ha, hm]
   rw [if_pos hc, h3]
   exact hv
 . -- slice
   rename_i t x lo hi
   have q : effQ P (.slice t x lo hi none) ρ = zna P t (ρ x) (lo.map ρ) (hi.map ρ) := rfl
   split at h
   . rename_i e c xs hu hx
     split at h
     case h_2 => cases h
     rename_i a b h1 h2
     split at h
     case isFalse => cases h
     rename_i hc
     cases h
     obtain ⟨h3, h4⟩ := Tr.eval_grd hT
     cases h4
     simp only [decide_eq_true_eq] at h3
     refine zu0 ?_
     rw [q]; simp only [zna, hu, hx, h1, h2]
     rw [if_pos ⟨h3.1, h3.2.1, h3.2.2, hc⟩]
   . rename_i e c xs hu hx
     split at h
     case h_2 => cases h
     rename_i a b h1 h2
     split at h
     case isFalse => cases h
     rename_i hc
     cases h
     obtain ⟨h3, h4⟩ := Tr.eval_grd hT
     cases h4
     simp only [decide_eq_true_eq] at h3
     refine zu0 ?_
     rw [q]; simp only [zna, hu, hx, h1, h2]
     rw [if_pos ⟨h3.1, h3.2.1, h3.2.2, hc⟩]
   . rename_i e k ver len hu hx
     split at h
     case h_2 => cases h
     rename_i a b h1 h2
     split at h
     case isFalse => cases h
     rename_i hc
     cases h
     obtain ⟨h3, h4⟩ := Tr.eval_grd hT
     cases h4
     simp only [decide_eq_true_eq] at h3
     refine zu0 ?_
     rw [q]; simp only [zna, hu, hx, h1, h2]
     rw [if_pos ⟨h3.1, h3.2.1, h3.2.2, hc⟩]
   . rename_i e k ver sz off len hu hx
     split at h
     case h_2 => cases h
     rename_i a b h1 h2
     split at h
     case isFalse => cases h
     rename_i hc
     cases h
     obtain ⟨h3, h4⟩ := Tr.eval_grd hT
     cases h4
     simp only [decide_eq_true_eq] at h3
     refine zu0 ?_
     rw [q]; simp only [zna, hu, hx, h1, h2]
     rw [if_pos ⟨h3.1, h3.2.1, h3.2.2, hc⟩]
   . exact ztq h hT
 . -- convert
   rename_i src dst' x
   split at h
   . rename_i k e l hs hd hx
     split at h
     case h_2 => cases h
     rename_i he hm
     cases h
     obtain ⟨h3, h4⟩ := Tr.eval_grd hT
     cases h4
     simp only [decide_eq_true_eq] at h3
     have hte : zg0 P dst' = some e := by simp only [zg0, hd]
     refine zkyb (b := .row 0 e 1 false true (l.map fun b : UInt8 => [D.i .u8 (b.toNat : Int)])) ?_ ?_ ?_ (show BlkWk (.row 0 e (esz 2) false true (List.map (α := τ 2) (enc 2) l)) _ from zog 0 e 2 false true l)
     . show z4a P src dst' (ρ x) = none
       simp only [z4a, hs, hd]
     . simp only [effR, hd]
       have : zg0 P src = none := by simp only [zg0, hs]
       rw [this]
     . simp only [effW, hm, hs, hte, he, hx]
       rw [if_pos h3]
   . rename_i e hs hd
     split at h
     case h_2 => cases h
     rename_i l fr he hr
     cases h
     obtain ⟨h3, h4⟩ := zn5 hT
     cases h4
     have hte : zg0 P src = some e := by simp only [zg0, hs]
     have hro := zqz hr h3
     refine zo4b ?_ ?_
     . show z4a P src dst' (ρ x) = none
       simp only [z4a, hs, hd]
       split
       . rename_i e1 e2 e3; cases e2
       . rename_i e1 e2 e3 l' e4
         rw [e4] at hro; simp [rowsOf] at hro
       . rfl
     . simp only [effR, hte, hd, he]
       split
       . rename_i e1; rw [e1] at hro; simp [rowsOf] at hro
       . rw [hro]
         exact congrArg (Option.map vs) (z2o l)
   . cases h
 . -- buildSlice
   rename_i t len parts
   split at h
   case h_2 => cases h
   rename_i v k ver e sz ap fr rows he
   split at h
   case isFalse => cases h
   rename_i hsz
   split at h
   case h_2 => cases h
   rename_i T' hT'
   cases h
   rw [Tr.eval_bind] at hT
   obtain ⟨ts, h3, h4⟩ := Option.bind_eq_some_iff.1 hT
   cases h4
   exact ⟨_, he, rfl, .inr ⟨k, _, _, rfl, rfl, zwt hsz (zmo hT' h3)⟩⟩
 . -- append
   rename_i args ats
   split at h
   case h_2 => cases h
   rename_i d x y t t' hargs hats
   split at h
   case h_2 => cases h
   rename_i e hte
   split at h
   case h_2 => cases h
   rename_i new fr' hnew
   split at h
   case isFalse => cases h
   rename_i hc
   obtain ⟨rfl, hsz, hpos, hz⟩ := hc
   have hz' : zja P e ≠ none := fun e1 => by rw [e1] at hz; cases hz
   have hq : effQ P (.call { callee := .builtin .append, args := args, argTypes := ats }) ρ = none := rfl
   have hr : effR P (.call { callee := .builtin .append, args := args, argTypes := ats }) ρ m = none := rfl
   split at h
   . rename_i hx
     split at h
     case h_2 => cases h
     rename_i hm
     cases h
     obtain ⟨h3, hT⟩ := zn5 hT
     obtain ⟨h5, h4⟩ := Tr.eval_grd hT
     cases h4
     simp only [decide_eq_true_eq] at h5
     obtain ⟨h5, h6⟩ := h5
     have hro := zqz hnew h3
     refine zkyb hq hr ?_ (zog 0 e (cod t) true fr' new)
     simp only [effW, hargs, hats, if_true, hte, hro]
     rw [if_pos ⟨hsz, hpos, hz'⟩]
     simp only [hx, List.length_map]
     rw [if_pos ⟨hm, h5, h6⟩]
   . rename_i k ver len hx
     split at h
     case h_2 => cases h
     rename_i ver' e' c ap fr xs hm
     split at h
     case isFalse => cases h
     rename_i hcc
     subst hcc
     split at h
     case isFalse => cases h
     rename_i hv
     obtain ⟨rfl, rfl, rfl⟩ := hv
     cases h
     obtain ⟨h3, hT⟩ := zn5 hT
     obtain ⟨h5, h4⟩ := Tr.eval_grd hT
     cases h4
     simp only [decide_eq_true_eq] at h5
     obtain ⟨h5, h6⟩ := h5
     have hro := zqz hnew h3
     have hb := zog (ver + 1) e (cod t) true (fr && fr') (xs ++ new)
     rw [List.map_append] at hb
     refine zkyb hq hr ?_ hb
     simp only [effW, hargs, hats, if_true, hte, hro]
     rw [if_pos ⟨hsz, hpos, hz'⟩]
     simp only [hx, hm, Option.map_some, Blk.std, List.length_map]
     rw [if_pos (by refine ⟨?_, ?_, ?_, ?_, h5, h6⟩ <;> first | trivial | rfl | exact hsz.symm), List.length_append]
   . cases h
 . -- the others
   exact ztq h hT
theorem zh0b {P:Program} {o:Oper} {s:St} {ρ:Operand->V} {m:Nat->Option Blk} (hρ:∀ x∈o.op.operands,s.eval x=ρ x) (hm:∀ k∈zad o.dst o.op ρ,s.blk k=m k) {T:Tr Out} {E:Out} (h:effS P o.dst o.op ρ m=some T) (hT:T.eval=some E) :
   za0 P o s E:=by
 unfold effS at h
 split at h
 case h_2=>cases h
 rename_i t y x hop
 split at h
 case h_2=>cases h
 rename_i k ver sz i off cs hdst hy hcs
 split at h
 case h_2=>cases h
 rename_i ver' e c ap fr xs ds hmk hds
 split at h
 case isFalse=>cases h
 rename_i hc
 obtain ⟨rfl,rfl,hdl,hle,hit⟩:=hc
 cases h
 obtain ⟨x0,hx0,h2⟩:=Option.bind_eq_some_iff.1 hT
 simp only at h2
 split at h2
 case h_2=>cases h2
 rename_i T1 hT1
 rw [Tr.eval_bind] at h2
 obtain ⟨x1,hx1,h3⟩:=Option.bind_eq_some_iff.1 h2
 cases h3
 have hw:=z38 hT1 hx1
 rw [hop] at hρ
 have hy':s.eval y=.one (.pr k ver (esz c) i off):=by rw [hρ y (by simp [Op.operands])]; exact hy
 have hx':s.eval x=ρ x:=hρ x (by simp [Op.operands])
 have hk:s.blk k=some (.rowT ver e c ap fr xs):=by
   rw [hm k (by rw [hop]; simp [zad,hy,V.keys,C.keys])]; exact hmk
 intro w0 U0 X β0 β U a w hs
 obtain ⟨it,hit⟩:=Option.isSome_iff_exists.1 hit
 have hvx:=hs.eval x
 rw [hx'] at hvx
 obtain ⟨hrep,h1⟩:=V.cells_sound hvx hcs
 have hvy:=hs.eval y
 rw [hy'] at hvy
 obtain ⟨ad,v0,ver0,hv,hkβ,hv1,hv2⟩:=hvy.toC
 obtain ⟨q1,q2,q3⟩:=hs.placeStd (by rw [hk]; rfl) hkβ
 subst q1
 obtain ⟨g,n,c',rfl,rfl⟩:=hv2 rfl
 obtain ⟨hdl1,hdg⟩:=znv cs ds hds
 have hul:(a.eval x).cells.toList.length=ds.length:=by rw [<- hdl1]; exact hrep.1
 have hr0:(xs.map (enc c))[i]?=some (enc c x0):=by rw [List.getElem?_map,hx0]; rfl
 have hs1:=hs.storeRow (fr':=cs.all C.fresh) hk rfl hkβ (us:=(a.eval x).cells.toList) (ds:=ds) hul (fun j u d hu hd=>by
     have hj:j<cs.length:=by have:=(List.getElem?_eq_some_iff.1 hd).1; omega
     have hcj:=List.getElem?_eq_getElem hj
     have:=zm3 (hrep.2 j u _ hu hcj) (hdg j _ d hcj hd)
     exact this.mono (fun b hb=>⟨hb.1,fun e1=>hb.2 (List.all_eq_true.1 e1 _ (List.getElem_mem hj))⟩) (fun _ _=>rfl)) h1 hr0 hle
 have hi:i<xs.length:=(List.getElem?_eq_some_iff.1 hx0).1
 rcases q3 with ⟨e1,_⟩ | ⟨g',cap',cur,fz,e1,hg,h3,h4,h5,h6,h7,h8⟩
 . cases e1
 cases e1
 have hsz:(a.eval x).cells.size=it.size:=by
   simp only [Array.length_toList] at hul
   rw [hul,hdl]; simp [tsz,Program.cellsOf,hit]
 have hxl:(xs.map (enc c)).length=xs.length:=by simp
 refine ⟨undef,w.setCells g (i*esz c+off) (a.eval x).cells.toList,.inr ⟨?_,rfl⟩,?_⟩
 . simp only [execOp,hop,hv]
   rw [Sem.run_bind,zry hit hsz (fun j hj=>?_) h1]
   . rfl
   . simp only [Array.length_toList] at hul
     have hlt:i*esz c+(off+j)<(xs.map (enc c)).length*esz c:=zc0 (by omega) (by omega)
     have hlt2:(xs.map (enc c)).length*esz c<=c'*esz c:=Nat.mul_le_mul_right _ h3
     rw [Nat.add_assoc]
     refine ⟨?_,h7 _ hlt⟩
     simp only [World.cell?,hg]
     rw [Array.getElem?_eq_getElem (by omega)]; rfl
 . rw [hdst]
   show Sim w0 U0 X β0 (s.upd [(k,.rowT ver e c ap (fr&&cs.all C.fresh) (xs.set i x1))]) a _
   refine ⟨_,_,hs1.blkWk rfl rfl ?_⟩
   . intro k'
     show zfib (look k' ((k,_) :: s.mem)) (look k' ([(k,_)]++s.mem))
     rw [List.singleton_append,zah,zah]
     split
     . refine zwt rfl ?_
       rw [List.map_set]
       have:∀ (l:List (List D)) (i:Nat) (r r':List D),WkDs r r'->zwv (l.set i r) (l.set i r'):=by
        intro l
        have refl:∀ l:List (List D),zwv l l:=fun l=>by
         induction l with
         | nil=>trivial
         | cons r l ih=>exact ⟨zaq r,ih⟩
        induction l with
        | nil=>intro i r r' h; trivial
        | cons z l ih =>
         intro i r r' h
         cases i with
         | zero=>exact ⟨h,refl l⟩
         | succ i=>exact ⟨zaq z,ih i r r' h⟩
       exact this _ _ _ _ hw
     . cases look k' s.mem with
       | none=>trivial
       | some b=>exact BlkWk.rfl b
end Go.Proofs.YthkhikdglmaiaaaGreatDoor.Abs
namespace Go.Proofs.YthkhikdglmaiaaaGreatDoor.Abs
open Go Go.RowKit
set_option linter.unusedVariables false
set_option linter.unusedSimpArgs false
def zmdb:C->C
 | .pre k ver sz len=>.sub k ver sz 0 len
 | c=>c
def zrj:V->V
 | .one c=>.one (zmdb c)
 | v=>v
theorem z6l (v:V):(zrj v).keys=v.keys:=by
 cases v with
 | one c=>cases c <;> rfl
 | _=>rfl

section
variable {P:Program} {w0:World} {U0:Nat->Prop} {X:Nat->Nat->Prop} {β0 β:Nat->Option Place} {U:Nat->Prop} {s:St} {a:Act} {w:World}

theorem SimB.rowAt (h:SimB w0 U0 X β0 β U s a w) {k:Nat} {v0:Value} {ver0:Nat} (hk:β k=some (.row v0 ver0)):∃ n:Nat,v0=.slice none 0 0 \/ ∃ g cap,v0=.slice (some ⟨g,0,none⟩) n cap/\n<=cap:=by
 obtain ⟨b,hb⟩:=Option.isSome_iff_exists.1 (h.dom k _ hk)
 obtain ⟨p,hp,hr⟩:=h.mem k b hb
 rw [hk] at hp; cases hp
 have key:∀ {ver e sz ap fr rows},zpcb w β U w0.heap.size (.row v0 ver0) (.row ver e sz ap fr rows) -> ∃ n:Nat,v0=.slice none 0 0 \/ ∃ g cap,v0=.slice (some ⟨g,0,none⟩) n cap/\n<=cap:=by
  intro ver e sz ap fr rows hr
  obtain ⟨_,_,⟨e1,_⟩ | ⟨g,cap,cur,fz,e1,_,h3,_⟩⟩:=hr
  . exact ⟨0,.inl e1⟩
  . exact ⟨rows.length,.inr ⟨g,cap,e1,h3⟩⟩
 cases b with
 | cells=>exact hr.elim
 | mp=>exact hr.elim
 | row=>exact key hr
 | rowT=>exact key hr
 | junk ver e sz len N =>
  obtain ⟨_,⟨e1,_⟩ | ⟨g,cur,e1,h3,_⟩⟩:=hr
  . exact ⟨0,.inl e1⟩
  . exact ⟨len,.inr ⟨g,N,e1,h3⟩⟩

theorem SimB.preSub (h:SimB w0 U0 X β0 β U s a w) {v:Value} {k ver sz len:Nat} (hc:RepC w β U w0.heap.size v (.pre k ver sz len)):RepC w β U w0.heap.size v (.sub k ver sz 0 len):=by
 obtain ⟨ao,cap,v0,ver0,h1,h2,h3,h4,h5,h6⟩:=hc
 refine ⟨ao,cap,v0,ver0,h1,h2,h3,h4,h5,fun hv hpos=>?_⟩
 obtain ⟨n,hv0,hln⟩:=h6 hv
 obtain ⟨m,hm | ⟨g,cap',hm,hle⟩⟩:=h.rowAt h4
 . rw [hm] at hv0; cases hv0; omega
 . rw [hm] at hv0; cases hv0
   exact ⟨g,_,_,hm,by simp⟩
theorem SimB.evalUnpre (h:SimB w0 U0 X β0 β U s a w) {ρ:Operand->V} (hρ:∀ y,RepV w β U w0.heap.size (a.eval y) (ρ y)):∀ y,RepV w β U w0.heap.size (a.eval y) (zrj (ρ y)):=by
 intro y
 have hy:=hρ y
 generalize ρ y=v at hy ⊢
 generalize a.eval y=u at hy
 cases hy with
 | one v c hc =>
  refine .one _ _ ?_
  cases c with
  | pre k ver sz len=>exact h.preSub hc
  | _=>exact hc
 | agg vs cs hl h1 hr=>exact .agg vs cs hl h1 hr
 | tup vs xs hl hr=>exact .tup vs xs hl hr

theorem zwd (h:SimB w0 U0 X β0 β U s a w) {ρ:Operand->V} (hρ:∀ y,RepV w β U w0.heap.size (a.eval y) (ρ y)) (o:Oper) (hd:∀ d,o.dst=some d->d<s.n) {E:Eff} (he:eff P o.dst o.op ρ s.blk=some E) :
   ∃ v w',((execOp a.eval o).run P w=.ok (.value v) w'\/((execOp a.eval o).run P w=.ok .skip w'/\v=undef))/\Sim w0 U0 X β0 (s.app o.dst E) (a.put o.dst v) w':=by
 unfold eff at he
 split at he
 . rename_i x hx
   obtain rfl:=Option.some.inj he
   obtain ⟨v,h1,h2⟩:=zwg (P:=P) hρ o hx
   exact ⟨v,w,.inl h1,_,_,h.put h2 hd⟩
 . split at he
   . rename_i x hx
     obtain rfl:=Option.some.inj he
     obtain ⟨v,h1,h2⟩:=zwf h hρ o hx
     exact ⟨v,w,.inl h1,_,_,h.put h2 hd⟩
   . exact zwe h hρ o hd he
end

def effP (P:Program) (cod:TypeId->Nat) (dst:Option Nat) (op:Op) (ρ:Operand->V) (m:Nat->Option Blk):Option (Tr Out) :=
 match effX P cod dst op (fun y=>zrj (ρ y)) m with
 | some T=>some T
 | none=>match eff P dst op (fun y=>zrj (ρ y)) m with
  | some E=>some (.ret E.out)
  | none=>none

def zk0b (P:Program) (cod:TypeId->Nat) (dst:Option Nat) (op:Op) (ρ:Operand->V) (m:Nat->Option Blk):Option (Tr Out) :=
 match op with
 | .indexAddr t x i=>effX P cod dst (.indexAddr t x i) (fun y=>zrj (ρ y)) m
 | _=>none
theorem zkzb {P:Program} {cod:TypeId->Nat} {dst:Option Nat} {op:Op} {ρ:Operand->V} {m:Nat->Option Blk} {T:Tr Out} (h:zk0b P cod dst op ρ m=some T):effP P cod dst op ρ m=some T:=by
 unfold zk0b at h
 split at h
 . unfold effP; rw [h]
 . cases h
theorem z12 (v:V):(zrj v).mkeys=v.mkeys:=by
 cases v with
 | one c=>cases c <;> rfl
 | _=>rfl
theorem z1h {dst:Option Nat} {op:Op} {ρ ρ':Operand->V} (h:∀ x,(ρ x).keys=(ρ' x).keys) (h2:∀ x,(ρ x).mkeys=(ρ' x).mkeys):zad dst op ρ=zad dst op ρ':=by
 have hm:∀ l:List Operand,(l.map ρ).flatMap V.keys=(l.map ρ').flatMap V.keys:=by
  intro l
  induction l with
  | nil=>rfl
  | cons x l ih=>simp only [List.map_cons,List.flatMap_cons,h x,ih]
 have hm2:∀ l:List Operand,(l.map ρ).flatMap V.mkeys=(l.map ρ').flatMap V.mkeys:=by
  intro l
  induction l with
  | nil=>rfl
  | cons x l ih=>simp only [List.map_cons,List.flatMap_cons,h2 x,ih]
 unfold zad
 split <;> first | rfl | simp only [h,hm,hm2]

theorem zu1 {dst:Option Nat} {op:Op} {ρ ρ':Operand->V} (h:∀ x∈op.operands,(ρ x).keys=(ρ' x).keys) (h2:∀ x∈op.operands,(ρ x).mkeys=(ρ' x).mkeys):zad dst op ρ=zad dst op ρ':=by
 have hm:∀ l:List Operand,(∀ x∈l,(ρ x).keys=(ρ' x).keys)->(l.map ρ).flatMap V.keys=(l.map ρ').flatMap V.keys:=by
  intro l
  induction l with
  | nil=>intro _; rfl
  | cons x l ih=>intro hl; simp only [List.map_cons,List.flatMap_cons,hl x (by simp),ih (fun y hy=>hl y (by simp [hy]))]
 have hm2:∀ l:List Operand,(∀ x∈l,(ρ x).mkeys=(ρ' x).mkeys)->(l.map ρ).flatMap V.mkeys=(l.map ρ').flatMap V.mkeys:=by
  intro l
  induction l with
  | nil=>intro _; rfl
  | cons x l ih=>intro hl; simp only [List.map_cons,List.flatMap_cons,hl x (by simp),ih (fun y hy=>hl y (by simp [hy]))]
 cases op <;> simp only [Op.operands] at h h2
 case load t a=>simp only [zad,h a (by simp)]
 case slice t a lo hi mx=>simp only [zad,h a (by cases lo <;> cases hi <;> cases mx <;> simp)]
 case convert t t' a=>simp only [zad,h a (by simp)]
 case store t a b=>simp only [zad,h a (by simp)]
 case lookup t a b c=>simp only [zad,h a (by simp)]
 case mapUpdate t a b c=>simp only [zad,h a (by simp)]
 case mapEntry t a b=>simp only [zad,h a (by simp)]
 case entryStore t a b c=>simp only [zad,h a (by simp)]
 case insert t a b c=>simp only [zad,h a (by simp)]
 case call c =>
  obtain ⟨cal,args,ats⟩:=c
  have e:=hm args.toList fun x hx=>h x (by simp [Call.operands]; exact Or.inr (by simpa using hx))
  have e2:=hm2 args.toList fun x hx=>h2 x (by simp [Call.operands]; exact Or.inr (by simpa using hx))
  cases cal with
  | builtin b=>cases b <;> simp only [zad,e,e2]
  | value f=>rfl
  | invoke r m=>rfl
 all_goals rfl

theorem z5x {P:Program} {cod:TypeId->Nat} {o:Oper} {s:St} {ρ:Operand->V} {m:Nat->Option Blk} (hρ:∀ x∈o.op.operands,s.eval x=ρ x) (hm:∀ k∈zad o.dst o.op ρ,s.blk k=m k) (hd:∀ d,o.dst=some d->d<s.n) {T:Tr Out} {E:Out} (h:effP P cod o.dst o.op ρ m=some T) (hT:T.eval=some E) :
   za0 P o s E:=by
 have main:∀ {E0:Eff} {E:Out},eff P o.dst o.op (fun y=>zrj (ρ y)) m=some E0->OutWk E0 E->za0 P o s E:=by
   intro E0 E he hw
   have he':eff P o.dst o.op (fun y=>zrj (s.eval y)) s.blk=some E0:=by
     rw [<- he]
     refine (z1g (fun x hx=>by rw [hρ x hx]) (fun k hk=>?_))
     refine hm k ?_
     rw [<- z1h (ρ:=fun y=>zrj (ρ y)) (fun x=>z6l _) (fun x=>z12 _)]
     have:zad o.dst o.op (fun y=>zrj (s.eval y))=zad o.dst o.op (fun y=>zrj (ρ y)):=zu1 (fun x hx=>by rw [hρ x hx]) (fun x hx=>by rw [hρ x hx])
     rw [<- this]; exact hk
   obtain ⟨hv,⟨h1,h2⟩ | ⟨k,b,b',h1,h2,h3⟩⟩:=hw
   . intro w0 U0 X β0 β U a w hs
     obtain ⟨u,w',q1,q2⟩:=zwd hs (hs.evalUnpre hs.eval) o hd he'
     refine ⟨u,w',q1,?_⟩
     rw [St.app_out] at q2
     have:E0.out=E:=by
       obtain ⟨ev,em⟩:=E0; obtain ⟨v',m'⟩:=E
       simp only at h1 h2 hv; subst h1; subst h2; subst hv; rfl
     rw [<- this]; exact q2
   . intro w0 U0 X β0 β U a w hs
     obtain ⟨u,w',q1,q2⟩:=zwd hs (hs.evalUnpre hs.eval) o hd he'
     refine ⟨u,w',q1,?_⟩
     rw [St.app_out] at q2
     obtain ⟨ev,em⟩:=E0; obtain ⟨v',m'⟩:=E
     simp only at h1 h2 hv; subst h1; subst h2; subst hv
     obtain ⟨β2,U2,q3⟩:=q2
     refine ⟨β2,U2,q3.blkWk (by cases o.dst <;> rfl) (by cases o.dst <;> rfl) fun k'=>?_⟩
     have e1:∀ B:Blk,(s.out o.dst ⟨v',[(k,B)]⟩).blk k'=if k=k' then some B else s.blk k':=by
       intro B
       show (St.put (s.upd [(k,B)]) o.dst v').blk k'=_
       rw [St.blk_put]
       show look k' ([(k,B)]++s.mem)=_
       rw [List.singleton_append,zah]; rfl
     show zfib ((s.out o.dst ⟨v',[(k,b)]⟩).blk k') _
     rw [e1,e1]
     split
     . exact h3
     . cases s.blk k' with
       | none=>trivial
       | some B=>exact BlkWk.rfl B
 unfold effP at h
 split at h
 . rename_i T' hX
   cases h
   obtain ⟨E0,he,hw⟩:=z5w hX hT
   exact main he hw
 . split at h
   . rename_i E0 he
     cases h; cases hT
     refine main he ⟨rfl,?_⟩
     obtain ⟨v,mm⟩:=E0
     cases mm with
     | none=>exact .inl ⟨rfl,rfl⟩
     | some kb=>obtain ⟨k,b⟩:=kb; exact .inr ⟨k,b,b,rfl,rfl,BlkWk.rfl b⟩
   . cases h
end Go.Proofs.YthkhikdglmaiaaaGreatDoor.Abs
namespace Go.Proofs.YthkhikdglmaiaaaGreatDoor.Abs
open Go Go.RowKit
set_option linter.unusedVariables false
set_option linter.unusedSimpArgs false

def u8s:List C->Option (List Int)
 | []=>some []
 | .d (.i .u8 n) :: r=>match u8s r with | some l=>some (n :: l) | none=>none
 | _=>none
theorem z93:∀ {cs:List C} {l:List Int},u8s cs=some l->cs=l.map fun n=>C.d (.i .u8 n)
 | [],l,h=>by cases h; rfl
 | c :: r,l,h=>by
  unfold u8s at h
  split at h
  . rename_i e; cases e
  . rename_i n r' e
    cases e
    split at h
    . rename_i l' hl
      cases h
      rw [z93 hl]; rfl
    . cases h
  . cases h

def z9m (P:Program) (t:TypeId) (x:Operand) (lo hi mx:Option Operand) (ρ:Operand->V):Option (Tr Out) :=
 match P.underlying t,ρ x with
 | some (.array n e),.one (.ptr k off)=>match lo,hi,mx with
  | none,none,none=>match (P.info? e).isSome with
   | true=>some (.ret ⟨.one (.asl k off n),[]⟩)
   | false=>none
  | _,_,_=>none
 | some (.slice e),.one (.own k ver len)=>match lo,hi,mx with
  | none,some hi,none=>match ρ hi,(P.info? e).isSome with
   | .one (.d (.i _ n)),true=>some (.grd (decide (0<=n/\n<=len)) (.ret ⟨.one (.pre k ver (P.cellsOf e) n.toNat),[]⟩))
   | _,_=>none
  | some lo,some hi,some mx=>match ρ lo,ρ hi,ρ mx,(P.info? e).isSome with
   | .one (.d (.i _ a)),.one (.d (.i _ b)),.one (.d (.i _ c)),true=>some (.grd (decide (0<=a/\a<=b/\b<=c/\c<=len)) (.ret ⟨.one .bad,[]⟩))
   | _,_,_,_=>none
  | _,_,_=>none
 | _,_=>none

def zPre (P:Program) (t:TypeId) (x:Operand) (lo hi:Option Operand) (ρ:Operand->V) (m:Nat->Option Blk):Option (Tr Out) :=
 match P.underlying t,ρ x with
 | some (.slice e),.one (.pre k ver sz len)=>match optI 0 (lo.map ρ),optI len (hi.map ρ),m k with
  | some a,some b,some (.rowT ver' _ c _ _ xs)=>match decide (ver=ver'/\esz c=P.cellsOf e/\(P.info? e).isSome) with
   | true=>some (.grd (decide (0<=a/\a<=b/\b<=xs.length)) (.ret ⟨.one (.sub k ver (esz c) a.toNat (b-a).toNat),[]⟩))
   | false=>none
  | _,_,_=>none
 | _,_=>none

section
variable {P:Program} {w0:World} {U0:Nat->Prop} {X:Nat->Nat->Prop} {β0 β:Nat->Option Place} {U:Nat->Prop} {s:St} {a:Act} {w:World}

theorem zfc {o:Oper} {x:V} (hd:∀ d,o.dst=some d->d<s.n) (h:∀ (w0:World) (U0:Nat->Prop) (X:Nat->Nat->Prop) (β0 β:Nat->Option Place) (U:Nat->Prop) (a:Act) (w:World),SimB w0 U0 X β0 β U s a w ->
  ∃ v,(execOp a.eval o).run P w=.ok (.value v) w/\RepV w β U w0.heap.size v x):za0 P o s ⟨x,[]⟩:=by
 intro w0 U0 X β0 β U a w hs
 obtain ⟨v,h1,h2⟩:=h w0 U0 X β0 β U a w hs
 exact ⟨v,w,.inl h1,β,U,by rw [z2x]; exact hs.put h2 hd⟩
theorem zhu {sm:Sem Value} {v:Value} {w':World} (hs:sm.run P w=.ok v w'):(do pure (.value (<- sm)):Sem Next).run P w=.ok (.value v) w':=by
 rw [Sem.run_bind,hs]; rfl

theorem z2j {len cap:Nat} {ka kb kc:IntKind} {a b c:Int} (h:0<=a/\a<=b/\b<=c/\c<=len) (hlc:len<=cap):(Instr.sliceBounds true len cap (some (.int ka a)) (some (.int kb b)) (some (.int kc c))).run P w=.ok (a.toNat,b.toNat,c.toNat) w:=by
 have h1:0<=c:=by omega
 have h2:c<=cap:=by omega
 have h3:0<=b:=by omega
 have h4:(c.toNat:Int)=c:=by omega
 have h5:(b.toNat:Int)=b:=by omega
 simp [Instr.sliceBounds,Instr.sliceBound,asIntOf,h1,h2,h3,h4,h5,h.1,h.2.1,h.2.2.1]

theorem zrz {len cap:Nat} {lo hi:Option Value} {a b:Int} (h1:(lo=none/\a=0) \/ ∃ k,lo=some (.int k a)) (h2:(hi=none/\b=len) \/ ∃ k,hi=some (.int k b))
   (ha:0<=a) (hab:a<=b) (hbc:b<=cap):(Instr.sliceBounds true len cap lo hi none).run P w=.ok (a.toNat,b.toNat,cap) w:=by
 have hb0:0<=b:=by omega
 have hbt:(b.toNat:Int)=b:=by omega
 rcases h1 with ⟨rfl,rfl⟩ | ⟨k,rfl⟩ <;> rcases h2 with ⟨rfl,rfl⟩ | ⟨k',rfl⟩
 . simp [Instr.sliceBounds]
 . simp [Instr.sliceBounds,Instr.sliceBound,asIntOf,hb0,hbc]
 . simp [Instr.sliceBounds,Instr.sliceBound,asIntOf,ha,hab]
 . simp [Instr.sliceBounds,Instr.sliceBound,asIntOf,hb0,hbc,ha,hbt,hab]

theorem z58 {o : Oper} {t : TypeId} {x : Operand} {lo hi mx : Option Operand} {ρ : Operand -> V} (hop : o.op = .slice t x lo hi mx) (hρ : ∀ y ∈ o.op.operands, s.eval y = ρ y) (hd : ∀ d, o.dst = some d -> d < s.n)
   {T : Tr Out} {E : Out} (h : z9m P t x lo hi mx ρ = some T) (hT : T.eval = some E) : za0 P o s E := by
 unfold z9m at h
 rw [hop] at hρ
 have hx : s.eval x = ρ x := hρ x (by simp [Op.operands])
 split at h
 . -- an array
   rename_i n e k off hu hxe
   split at h
   case h_2 => cases h
   split at h
   case h_2 => cases h
   rename_i hie
   cases h; cases hT
   obtain ⟨ie, hie⟩ := Option.isSome_iff_exists.1 hie
   refine zfc hd fun w0 U0 X β0 β U a w hs => ?_
   have hv := hs.eval x
   rw [hx, hxe] at hv
   obtain ⟨b, of, hk, hv⟩ := hv.toC
   refine ⟨.slice (some ⟨b, of + off, none⟩) n n, ?_, .one _ _ ⟨b, of, hk, rfl⟩⟩
   simp only [execOp, hop, Option.map_none, hv]
   refine zhu ?_
   simp [Instr.sliceAt, run_underlying hu, Instr.sureAddr, Instr.sliceBounds, run_sizeOf w hie, Addr.add_lit, asAddr]
 . rename_i e k ver len hu hxe
   split at h
   . rename_i hi
     have hh : s.eval hi = ρ hi := hρ hi (by simp [Op.operands])
     split at h
     case h_2 => cases h
     rename_i kd n hhe hie
     cases h
     obtain ⟨g1, g2⟩ := Tr.eval_grd hT
     cases g2
     simp only [decide_eq_true_eq] at g1
     obtain ⟨ie, hie⟩ := Option.isSome_iff_exists.1 hie
     refine zfc hd fun w0 U0 X β0 β U a w hs => ?_
     have hv := hs.eval x
     rw [hx, hxe] at hv
     obtain ⟨ao, cap, v0, ver0, hv, hlc, hn0, hs0, hk, hle, hown⟩ := hv.toC
     have hvh := hs.eval hi
     rw [hh, hhe] at hvh
     have hvh := hvh.int
     have hb := zrz (P := P) (w := w) (len := len) (cap := cap) (lo := none) (hi := some (.int kd n)) (a := 0) (b := n) (.inl ⟨rfl, rfl⟩) (.inr ⟨_, rfl⟩) (Int.le_refl _) g1.1 (by omega)
     have ha : ∀ c : Prop, [Decidable c] -> (if c then ao else ao.map (·.add 0)) = ao := by
       intro c _
       split
       . rfl
       . cases ao with
         | none => rfl
         | some x => obtain ⟨g, rfl⟩ := hs0 x rfl; simp [Addr.add_lit]
     refine ⟨.slice ao n.toNat cap, ?_, .one _ _ ⟨ao, cap, v0, ver0, rfl, by omega, fun e => ?_, hk, hle, fun e => ⟨len, by rw [<- hown e, hv], by omega⟩⟩⟩
     . simp only [execOp, hop, Option.map_none, Option.map_some, hv, hvh]
       refine zhu ?_
       simp [Instr.sliceAt, Instr.slice, run_underlying hu, hb, run_sizeOf w hie, ha]
     . obtain ⟨e1, e2⟩ := hn0 e; exact ⟨by omega, e2⟩
   . rename_i lo hi mx
     split at h
     case h_2 => cases h
     rename_i ka a kb b kc c h1 h2 h3 hie
     cases h
     obtain ⟨g1, g2⟩ := Tr.eval_grd hT
     cases g2
     simp only [decide_eq_true_eq] at g1
     obtain ⟨ie, hie⟩ := Option.isSome_iff_exists.1 hie
     refine zfc hd fun w0 U0 X β0 β U a' w hs => ?_
     have hv := hs.eval x
     rw [hx, hxe] at hv
     obtain ⟨ao, cap, v0, ver0, hv, hlc, hn0, hs0, hk, hle, hown⟩ := hv.toC
     have q1 := hs.eval lo; rw [hρ lo (by simp [Op.operands]), h1] at q1; have q1 := q1.int
     have q2 := hs.eval hi; rw [hρ hi (by simp [Op.operands]), h2] at q2; have q2 := q2.int
     have q3 := hs.eval mx; rw [hρ mx (by simp [Op.operands]), h3] at q3; have q3 := q3.int
     have hb := z2j (P := P) (w := w) (len := len) (cap := cap) (ka := ka) (kb := kb) (kc := kc) g1 hlc
     refine ⟨.slice (if c.toNat = a.toNat then ao else ao.map (·.add (a.toNat * P.cellsOf e))) (b.toNat - a.toNat) (c.toNat - a.toNat), ?_, .one _ _ trivial⟩
     . simp only [execOp, hop, Option.map_some, hv, q1, q2, q3]
       refine zhu ?_
       simp [Instr.sliceAt, Instr.slice, run_underlying hu, hb, run_sizeOf w hie, Program.cellsOf, hie]
   . cases h
 . cases h

theorem zfob {o : Oper} {t : TypeId} {x : Operand} {lo hi : Option Operand} {ρ : Operand -> V} {m : Nat -> Option Blk} (hop : o.op = .slice t x lo hi none) (hρ : ∀ y ∈ o.op.operands, s.eval y = ρ y) (hm : ∀ k ∈ (ρ x).keys, s.blk k = m k) (hd : ∀ d, o.dst = some d -> d < s.n)
    {T : Tr Out} {E : Out} (h : zPre P t x lo hi ρ m = some T) (hT : T.eval = some E) : za0 P o s E := by
  unfold zPre at h
  rw [hop] at hρ
  have hx : s.eval x = ρ x := hρ x (by simp [Op.operands])
  split at h
  case h_2 => cases h
  rename_i e k ver sz len hu hxe
  split at h
  case h_2 => cases h
  rename_i a b ver' e' c ap fr xs ha hb hmk
  split at h
  case h_2 => cases h
  rename_i hc
  simp only [decide_eq_true_eq] at hc
  obtain ⟨rfl, hsz, hie⟩ := hc
  cases h
  obtain ⟨g1, g2⟩ := Tr.eval_grd hT
  cases g2
  simp only [decide_eq_true_eq] at g1
  obtain ⟨ie, hie⟩ := Option.isSome_iff_exists.1 hie
  have hblk : s.blk k = some (.rowT ver e' c ap fr xs) := by rw [hm k (by rw [hxe]; simp [V.keys, C.keys])]; exact hmk
  refine zfc hd fun w0 U0 X β0 β U a' w hs => ?_
  have hv := hs.eval x
  rw [hx, hxe] at hv
  obtain ⟨ao, cap, v0, ver0, hv, hlc, hn0, hk, hle, hpre⟩ := hv.toC
  obtain ⟨q1, q2, q3⟩ := hs.placeStd (by rw [hblk]; rfl) hk
  subst q1
  obtain ⟨n, hv0, hln⟩ := hpre rfl
  have hbc : b <= cap := by
    rcases q3 with ⟨e1, e2⟩ | ⟨g, cap', cur, fz, e1, _, h3, _⟩
    . have : xs.length = 0 := by simpa using e2
      omega
    . rw [hv0] at e1; cases e1
      have : xs.length <= cap := by simpa using h3
      omega
  have hopt : ∀ (y : Option Operand), (∀ z, y = some z -> z ∈ (Op.slice t x lo hi none).operands) -> ((y.map a'.eval = none /\ y.map ρ = none) \/ ∃ u v, y.map a'.eval = some u /\ y.map ρ = some v /\ RepV w β U w0.heap.size u v) := by
    intro y hy
    cases y with
    | none => exact .inl ⟨rfl, rfl⟩
    | some z => exact .inr ⟨_, _, rfl, rfl, by rw [<- hρ z (hy z rfl)]; exact hs.eval z⟩
  have hlo := zat (hopt lo (fun z hz => by subst hz; simp [Op.operands])) ha
  have hhi := zat (hopt hi (fun z hz => by subst hz; cases lo <;> simp [Op.operands])) hb
  have hbd := zrz (P := P) (w := w) (len := len) (cap := cap) hlo hhi g1.1 g1.2.1 hbc
  refine ⟨.slice (if cap = a.toNat then ao else ao.map (·.add (a.toNat * P.cellsOf e))) (b.toNat - a.toNat) (cap - a.toNat), ?_, .one _ _ ⟨_, cap - a.toNat, v0, ver, by rw [show (b - a).toNat = b.toNat - a.toNat by omega], by omega, fun hq => ?_, hk, hle, fun hv hpos => ?_⟩⟩
  . simp only [execOp, hop, Option.map_none, hv]
    refine zhu ?_
    simp [Instr.sliceAt, Instr.slice, run_underlying hu, hbd, run_sizeOf w hie, Program.cellsOf, hie]
  . cases ao with
    | none => obtain ⟨e1, e2⟩ := hn0 rfl; omega
    | some y => split at hq
                . cases hq
                . cases hq
  . rw [if_neg (by omega)]
    obtain ⟨n', hm' | ⟨g, cap', hm', _⟩⟩ := hs.rowAt hk
    . rw [hm'] at hv0; cases hv0
      have := hn0 rfl
      omega
    . rw [hm'] at hv0; cases hv0
      exact ⟨g, _, _, hm', by simp [Addr.add_lit, hsz]⟩

def zjnb (P:Program) (src dst:TypeId) (x:Operand) (ρ:Operand->V) (m:Nat->Option Blk):Option (Tr Out) :=
 match ρ x with
 | .one (.asl k off len)=>match P.underlying src,P.underlying dst,m k with
  | some (.slice e),some .string,some (.cells cs)=>match P.underlying e,u8s ((cs.drop off).take len) with
   | some (.int .u8),some l=>match Nat.beq l.length len with
    | true=>some (.ret ⟨vs (l.map fun n=>UInt8.ofNat n.toNat),[]⟩)
    | false=>none
   | _,_=>none
  | _,_,_=>none
 | _=>none

theorem z9t {o:Oper} {src dst:TypeId} {x:Operand} {ρ:Operand->V} {m:Nat->Option Blk} (hop:o.op=.convert src dst x) (hρ:∀ y∈o.op.operands,s.eval y=ρ y) (hm:∀ k∈(ρ x).keys,s.blk k=m k) (hd:∀ d,o.dst=some d->d<s.n)
  {T:Tr Out} {E:Out} (h:zjnb P src dst x ρ m=some T) (hT:T.eval=some E):za0 P o s E:=by
 unfold zjnb at h
 rw [hop] at hρ
 have hx:s.eval x=ρ x:=hρ x (by simp [Op.operands])
 split at h
 case h_2=>cases h
 rename_i k off len hxe
 split at h
 case h_2=>cases h
 rename_i e cs hs1 hd1 hmk
 split at h
 case h_2=>cases h
 rename_i l he hl
 split at h
 case h_2=>cases h
 rename_i hlen
 have hlen:=Nat.eq_of_beq_eq_true hlen
 cases h; cases hT
 have hcs:=z93 hl
 have hblk:s.blk k=some (.cells cs):=by rw [hm k (by rw [hxe]; simp [V.keys,C.keys])]; exact hmk
 refine zfc hd fun w0 U0 X β0 β U a w hs=>?_
 have hv:=hs.eval x
 rw [hx,hxe] at hv
 obtain ⟨b,of,hk,hv⟩:=hv.toC
 have hrep:=hs.placeCells hblk hk
 have hrows:∀ l:List Int,zd3 (l.map fun n=>[D.i .u8 n])=some (l.map fun n=>UInt8.ofNat n.toNat):=by
  intro l
  have:∀ l:List Int,(l.map fun n=>[D.i .u8 n]).mapM zzr=some l:=by
   intro l
   induction l with
   | nil=>rfl
   | cons n l ih=>rw [List.map_cons,List.mapM_cons,ih]; rfl
  unfold zd3
  rw [this]; rfl
 have hrun:=zle (P:=P) (w:=w) (src:=src) (dst:=dst) (e:=e) (g:=b) (o:=of+off) (cap:=len) (rows:=l.map fun n=>[D.i .u8 n]) hs1 he hd1 (hrows l) (fun i n hi=>by
  rw [List.getElem?_map,Option.map_eq_some_iff] at hi
  obtain ⟨n',hn',e1⟩:=hi
  cases e1
  have hc:((cs.drop off).take len)[i]?=some (C.d (.i .u8 n)):=by rw [hcs,List.getElem?_map,hn']; rfl
  rw [List.getElem?_take] at hc
  split at hc
  case isFalse=>cases hc
  rw [List.getElem?_drop] at hc
  obtain ⟨v,h1,_,_,h4⟩:=hrep.2 (off+i) _ hc
  rw [Nat.add_assoc,h1]
  have:RepI w U v (.i .u8 n):=h4
  cases this; rfl)
 rw [List.length_map,hlen] at hrun
 refine ⟨_,?_,repS _⟩
 simp only [execOp,hop,hv]
 exact zhu hrun

def zArr (P:Program) (arr:TypeId) (x:Operand) (ρ:Operand->V):Option (Tr Out) :=
 match P.underlying arr,ρ x with
 | some (.array n e),.one (.own k ver len)=>match Nat.blt 0 n with
  | true=>some (.grd (decide (n<=len)) (.ret ⟨.one (.pr k ver (P.cellsOf e) 0 0),[]⟩))
  | false=>none
 | _,_=>none

theorem zfsb {o:Oper} {arr:TypeId} {x:Operand} {ρ:Operand->V} (hop:o.op=.sliceToArrayPointer arr x) (hρ:∀ y∈o.op.operands,s.eval y=ρ y) (hd:∀ d,o.dst=some d->d<s.n)
  {T:Tr Out} {E:Out} (h:zArr P arr x ρ=some T) (hT:T.eval=some E):za0 P o s E:=by
 unfold zArr at h
 rw [hop] at hρ
 have hx:s.eval x=ρ x:=hρ x (by simp [Op.operands])
 split at h
 case h_2=>cases h
 rename_i n e k ver len hu hxe
 split at h
 case h_2=>cases h
 rename_i hn
 have hn:0<n:=by simpa using hn
 cases h
 obtain ⟨g1,g2⟩:=Tr.eval_grd hT
 cases g2
 simp only [decide_eq_true_eq] at g1
 refine zfc hd fun w0 U0 X β0 β U a w hs=>?_
 have hv:=hs.eval x
 rw [hx,hxe] at hv
 obtain ⟨ao,cap,v0,ver0,hv,hlc,hn0,hs0,hk,hle,hown⟩:=hv.toC
 cases ao with
 | none=>have:=(hn0 rfl).1; omega
 | some ad =>
  obtain ⟨g,rfl⟩:=hs0 ad rfl
  refine ⟨.pointer (some ⟨g,0,none⟩),?_,.one _ _ ⟨⟨g,0,none⟩,v0,ver0,rfl,hk,hle,fun e=>⟨g,len,cap,by rw [<- hown e,hv],by simp⟩⟩⟩
  simp only [execOp,hop,hv]
  refine zhu ?_
  have:¬ (len<n):=by omega
  simp [Instr.arrayAt,run_underlying hu,this]

def zyl (xs:List UInt8) (i n:Nat):List C:=(List.range n).map fun j=>C.d (.i .u8 ((xs.getD (i+j) 0).toNat:Int))
def zjmb (P:Program) (t:TypeId) (a:Operand) (ρ:Operand->V) (m:Nat->Option Blk):Option (Tr Out) :=
 match P.underlying t,ρ a with
 | some (.array n e),.one (.pr k ver sz i 0)=>match m k,P.underlying e with
  | some (.rowT ver' _ 2 _ _ xs),some (.int .u8)=>match decide (ver=ver'/\sz=1/\tsz P t=n) with
   | true=>some (.grd (decide (i+n<=xs.length)) (.ret ⟨.agg (zyl xs i n),[]⟩))
   | false=>none
  | _,_=>none
 | _,_=>none

theorem z9q {o:Oper} {t:TypeId} {y:Operand} {ρ:Operand->V} {m:Nat->Option Blk} (hop:o.op=.load t y) (hρ:∀ y∈o.op.operands,s.eval y=ρ y) (hm:∀ k∈(ρ y).keys,s.blk k=m k) (hd:∀ d,o.dst=some d->d<s.n)
   {T:Tr Out} {E:Out} (h:zjmb P t y ρ m=some T) (hT:T.eval=some E):za0 P o s E:=by
 unfold zjmb at h
 rw [hop] at hρ
 have hx:s.eval y=ρ y:=hρ y (by simp [Op.operands])
 split at h
 case h_2=>cases h
 rename_i n e k ver sz i hu hxe
 split at h
 case h_2=>cases h
 rename_i ver' e' ap fr xs hmk he
 split at h
 case h_2=>cases h
 rename_i hc
 simp only [decide_eq_true_eq] at hc
 obtain ⟨rfl,rfl,hsz⟩:=hc
 cases h
 obtain ⟨g1,g2⟩:=Tr.eval_grd hT
 cases g2
 simp only [decide_eq_true_eq] at g1
 have hblk:s.blk k=some (.rowT ver e' 2 ap fr xs):=by rw [hm k (by rw [hxe]; simp [V.keys,C.keys])]; exact hmk
 refine zfc hd fun w0 U0 X β0 β U a w hs=>?_
 have hv:=hs.eval y
 rw [hx,hxe] at hv
 obtain ⟨ad,v0,ver0,hv,hk,hle,hpr⟩:=hv.toC
 obtain ⟨q1,q2,q3⟩:=hs.placeStd (by rw [hblk]; rfl) hk
 subst q1
 obtain ⟨g,n',c',hv0,rfl⟩:=hpr rfl
 rcases q3 with ⟨e1,_⟩ | ⟨g',cap,cur,fz,e1,hg,h3,h4,h5,h6,h7,h8⟩
 . rw [hv0] at e1; cases e1
 rw [hv0] at e1; cases e1
 generalize hcs:zyl xs i n=cs
 have hagg:tagg P t=true:=by unfold tagg; rw [hu]
 have hpart:zma P t cs 0=some (.agg cs):=by
   unfold zma
   have hl:cs.length=n:=by rw [<- hcs]; simp [zyl]
   rw [if_neg (by rw [hu]; simp),if_pos hagg,hsz,if_pos (by omega),List.drop_zero,<- hl,List.take_length]
 obtain ⟨v,k1,k2⟩:=zhi (P:=P) (w:=w) (β:=β) (U:=U) (base:=w0.heap.size) (b:=g) (o:=i*1+0) (t:=t) (off:=0) (cs:=cs) (fun j c hj=>by
   rw [<- hcs] at hj
   unfold zyl at hj
   rw [List.getElem?_map,Option.map_eq_some_iff] at hj
   obtain ⟨j',hj',rfl⟩:=hj
   have hjj:j'=j/\j<n:=by
     obtain ⟨a1,a2⟩:=List.getElem?_eq_some_iff.1 hj'
     simp at a1 a2
     exact ⟨a2.symm,a1⟩
   obtain ⟨rfl,hjn⟩:=hjj
   have hlt:i+j'<(xs:List UInt8).length:=Nat.lt_of_lt_of_le (by omega) g1
   have hrow:(List.map (α:=τ 2) (enc 2) xs)[i+j']?=some [D.i .u8 (((xs:List UInt8)[i+j']).toNat:Int)]:=by
     rw [List.getElem?_map]
     have:(xs:List UInt8)[i+j']?=some (xs:List UInt8)[i+j']:=List.getElem?_eq_getElem hlt
     rw [show (xs:List (τ 2))[i+j']?=some ((xs:List UInt8)[i+j']:τ 2) from this]; rfl
   obtain ⟨u,r1,r2,r3⟩:=h8 (i+j') 0 _ _ hrow rfl
   refine ⟨u,?_,r2,?_⟩
   . simp only [World.cell?,hg]
     have e2:(i+j')*esz 2+0=i*1+0+j':=by simp [esz]
     rw [e2] at r1
     simpa using r1
   . have e3:List.getD (α:=UInt8) xs (i+j') 0=(xs:List UInt8)[i+j']:=by
      have e4:∀ (ys:List UInt8) (q:Nat) (hq:q<ys.length),ys.getD q 0=ys[q]:=fun ys q hq=>by simp [List.getD_eq_getElem?_getD,hq]
      exact e4 xs _ hlt
     rw [e3]
     exact r3.mono (fun b hb=>hb.1) (fun _ _=>rfl)) hpart
 refine ⟨v,?_,k2⟩
 simp only [execOp,hop,hv]
 exact zhu (by simpa using k1)

def z41:Operand->Bool
 | .const (.slice none 0 0)=>true
 | _=>false
def zi5b:Operand->Bool
 | .const (.pointer none)=>true
 | _=>false
def zkfb:V->Option Bool
 | .one (.ptr _ _)=>some false
 | .one (.pr _ _ _ _ _)=>some false
 | .one (.d (.z (.pointer none)))=>some true
 | _=>none
def zotb:Operand->Bool
 | .const .nilIface=>true
 | _=>false
def zcmb:V->Bool
 | .one (.d (.z .nilIface))=>true
 | _=>false
def z9r (P:Program) (op:BinOp) (t:TypeId) (x y:Operand) (ρ:Operand->V):Option (Tr Out) :=
 match zotb y,P.underlying t,zcmb (ρ x) with
 | true,some (.interface _),true=>match op with
  | .eql=>some (.ret ⟨vb true,[]⟩)
  | .neq=>some (.ret ⟨vb false,[]⟩)
  | _=>none
 | _,_,_=>none
theorem z6b {P:Program} {s:St} {o:Oper} {op:BinOp} {t ty:TypeId} {x y:Operand} {ρ:Operand->V} (hop:o.op=.binOp op t x y ty) (hρ:∀ y∈o.op.operands,s.eval y=ρ y) (hd:∀ d,o.dst=some d->d<s.n)
   {T:Tr Out} {E:Out} (h:z9r P op t x y ρ=some T) (hT:T.eval=some E):za0 P o s E:=by
 unfold z9r at h
 rw [hop] at hρ
 have hx:s.eval x=ρ x:=hρ x (by simp [Op.operands])
 split at h
 case h_2=>cases h
 rename_i e ms hy hu hq
 have hy:y=.const .nilIface:=by
   unfold zotb at hy
   split at hy
   . rfl
   . cases hy
 subst hy
 have hpt:P.underlying t=some (.interface (P.methodsAt t)):=by
   rw [hu]; unfold Program.methodsAt; rw [hu]
 have hval:∀ {w:World} {β:Nat->Option Place} {U:Nat->Prop} {base:Nat} {v:Value},RepV w β U base v (ρ x)->v=.nilIface:=by
   intro w β U base v hv
   unfold zcmb at hq
   split at hq
   . rename_i hxe
     rw [hxe] at hv
     have hv:=hv.toC
     cases hv
     rfl
   . cases hq
 split at h
 . cases h; cases hT
   refine zfc hd fun w0 U0 X β0 β U a w hs=>?_
   have hv:=hs.eval x
   rw [hx] at hv
   refine ⟨.bool true,?_,repB _⟩
   simp only [execOp,hop,hval hv]
   refine zhu ?_
   rw [Sem.run_bind,show (eqGuard .eql t x (.const .nilIface) .nilIface (a.eval (.const .nilIface))).run P w=.ok () w by cases x <;> rfl,Result.andThen_ok]
   exact run_eql_nil_nil w t hpt
 . cases h; cases hT
   refine zfc hd fun w0 U0 X β0 β U a w hs=>?_
   have hv:=hs.eval x
   rw [hx] at hv
   refine ⟨.bool false,?_,repB _⟩
   simp only [execOp,hop,hval hv]
   refine zhu ?_
   rw [Sem.run_bind,show (eqGuard .neq t x (.const .nilIface) .nilIface (a.eval (.const .nilIface))).run P w=.ok () w by cases x <;> rfl,Result.andThen_ok]
   exact run_neq_nil_nil w t hpt
 . cases h
def zjkb (P:Program) (op:BinOp) (t:TypeId) (x y:Operand) (ρ:Operand->V):Option (Tr Out) :=
 match zi5b y,P.underlying t,zkfb (ρ x) with
 | true,some (.pointer _),some q=>match op with
  | .eql=>some (.ret ⟨vb q,[]⟩)
  | .neq=>some (.ret ⟨vb !q,[]⟩)
  | _=>none
 | _,_,_=>z9r P op t x y ρ
theorem z0u {w:World} {β:Nat->Option Place} {U:Nat->Prop} {base:Nat} {v:Value} {x:V} {q:Bool} (hv:RepV w β U base v x) (h:zkfb x=some q):∃ p,v=.pointer p/\p.isNone=q:=by
 unfold zkfb at h
 split at h
 . cases h
   obtain ⟨b,o,_,hv⟩:=hv.toC
   exact ⟨_,hv,rfl⟩
 . cases h
   obtain ⟨a,v0,ver0,hv,_⟩:=hv.toC
   exact ⟨_,hv,rfl⟩
 . cases h
   have hv:=hv.toC
   cases hv
   exact ⟨none,rfl,rfl⟩
 . cases h
theorem z9n {P:Program} {s:St} {o:Oper} {op:BinOp} {t ty:TypeId} {x y:Operand} {ρ:Operand->V} (hop:o.op=.binOp op t x y ty) (hρ:∀ y∈o.op.operands,s.eval y=ρ y) (hd:∀ d,o.dst=some d->d<s.n)
   {T:Tr Out} {E:Out} (h:zjkb P op t x y ρ=some T) (hT:T.eval=some E):za0 P o s E:=by
 unfold zjkb at h
 rw [hop] at hρ
 have hx:s.eval x=ρ x:=hρ x (by simp [Op.operands])
 split at h
 case h_2=>exact z6b hop (by rw [hop]; exact hρ) hd h hT
 rename_i e q hy hu hq
 have hy:y=.const (.pointer none):=by
   unfold zi5b at hy
   split at hy
   . rfl
   . cases hy
 subst hy
 have hpt:P.underlying t=some (.pointer (P.pointee t)):=by
   rw [hu]; unfold Program.pointee; rw [hu]
 split at h
 . cases h; cases hT
   refine zfc hd fun w0 U0 X β0 β U a w hs=>?_
   have hv:=hs.eval x
   rw [hx] at hv
   obtain ⟨p,hv,hp⟩:=z0u hv hq
   refine ⟨.bool q,?_,repB _⟩
   simp only [execOp,hop,hv]
   refine zhu ?_
   rw [Sem.run_bind,<- hp]
   exact run_eql_pointer_nil w t p hpt
 . cases h; cases hT
   refine zfc hd fun w0 U0 X β0 β U a w hs=>?_
   have hv:=hs.eval x
   rw [hx] at hv
   obtain ⟨p,hv,hp⟩:=z0u hv hq
   refine ⟨.bool !q,?_,repB _⟩
   simp only [execOp,hop,hv]
   refine zhu ?_
   rw [Sem.run_bind,<- hp]
   exact run_neq_pointer_nil w t p hpt
 . cases h
def zNil (P:Program) (op:BinOp) (t:TypeId) (x y:Operand) (ρ:Operand->V):Option (Tr Out) :=
 match z41 y,P.underlying t with
 | true,some (.slice _)=>match op,ρ x with
  | .eql,.one (.nn _)=>some (.ret ⟨vb false,[]⟩)
  | .eql,.one .nil=>some (.ret ⟨vb true,[]⟩)
  | _,_=>none
 | _,_=>zjkb P op t x y ρ

theorem zfpb {o:Oper} {op:BinOp} {t ty:TypeId} {x y:Operand} {ρ:Operand->V} (hop:o.op=.binOp op t x y ty) (hρ:∀ y∈o.op.operands,s.eval y=ρ y) (hd:∀ d,o.dst=some d->d<s.n)
   {T:Tr Out} {E:Out} (h:zNil P op t x y ρ=some T) (hT:T.eval=some E):za0 P o s E:=by
 unfold zNil at h
 rw [hop] at hρ
 have hx:s.eval x=ρ x:=hρ x (by simp [Op.operands])
 split at h
 case h_2=>exact z9n hop (by rw [hop]; exact hρ) hd h hT
 rename_i e hy hu
 have hy:y=.const (.slice none 0 0):=by
   unfold z41 at hy
   split at hy
   . rfl
   . cases hy
 subst hy
 split at h
 . rename_i d hxe
   cases h; cases hT
   refine zfc hd fun w0 U0 X β0 β U a w hs=>?_
   have hv:=hs.eval x
   rw [hx,hxe] at hv
   obtain ⟨_,ad,l,c,hv⟩:=hv.toC
   refine ⟨.bool false,?_,repB _⟩
   simp only [execOp,hop,hv]
   refine zhu ?_
   have:=Lib.run_eql_slice_nil (P:=P) w t e (some ad) l c 0 0 hu
   rw [Sem.run_bind]
   exact this
 . rename_i hxe
   cases h; cases hT
   refine zfc hd fun w0 U0 X β0 β U a w hs=>?_
   have hv:=hs.eval x
   rw [hx,hxe] at hv
   have hv:a.eval x=.slice none 0 0:=hv.toC
   refine ⟨.bool true,?_,repB _⟩
   simp only [execOp,hop,hv]
   refine zhu ?_
   have:=Lib.run_eql_slice_nil (P:=P) w t e none 0 0 0 0 hu
   rw [Sem.run_bind]
   exact this
 . cases h
end
end Go.Proofs.YthkhikdglmaiaaaGreatDoor.Abs
namespace Go.Proofs.YthkhikdglmaiaaaGreatDoor.Abs
open Go Go.RowKit
set_option linter.unusedVariables false
set_option linter.unusedSimpArgs false

section
variable {P:Program} {w0:World} {U0:Nat->Prop} {X:Nat->Nat->Prop} {β0 β:Nat->Option Place} {U:Nat->Prop} {s:St} {a:Act} {w:World}

theorem SimB.rewriteRow (h : SimB w0 U0 X β0 β U s a w) {k ver : Nat} {e : TypeId} {sz : Nat} {ap fr fr' : Bool} {rows rows' : List (List D)} {b : Blk} (hb : s.blk k = some b) (hstd : b.std = .row ver e sz ap fr rows)
    {g n c : Nat} (hk : β k = some (.row (.slice (some ⟨g, 0, none⟩) n c) ver)) {us : List Value} {o : Nat} (h1 : ∀ u ∈ us, u.oneCell' = true) (hin : o + us.length <= rows.length * sz)
    (hl : rows'.length = rows.length) (hlen : ∀ r ∈ rows', r.length = sz)
    (hnew : ∀ (i j : Nat) (r : List D) (d : D), rows'[i]? = some r -> r[j]? = some d -> o <= i * sz + j -> i * sz + j < o + us.length -> ∃ u, us[i * sz + j - o]? = some u /\ RepI w (fun b => U b /\ (fr' = true -> w0.heap.size <= b)) u d)
    (hold : ∀ (i j : Nat) (r : List D) (d : D), rows'[i]? = some r -> r[j]? = some d -> (i * sz + j < o \/ o + us.length <= i * sz + j) -> ∃ r0, rows[i]? = some r0 /\ r0[j]? = some d) :
    SimB w0 U0 X β0 (upd β k (.row (.slice (some ⟨g, 0, none⟩) n c) ver)) U (s.set k (.row ver e sz ap (fr && fr') rows')) a (w.setCells g o us) := by
  obtain ⟨q1, q2, q3⟩ := h.placeStd (by rw [hb]; exact congrArg some hstd) hk
  obtain ⟨g', cap', cur, fz, e1, hg, h3, h4, h5, h6, h7, h8⟩ : ∃ (g' cap : Nat) (cur : Array Value) (fz : Nat × Nat), Value.slice (some ⟨g, 0, none⟩) n c = .slice (some ⟨g', 0, none⟩) rows.length cap /\ w.heap[g']? = some (.cells cur e fz) /\ rows.length <= cap /\ cap <= maxLen /\ cur.size = cap * sz /\
         (ap = true -> fz = (0, 0)) /\ (∀ i, i < rows.length * sz -> w.frozen? ⟨g', i, none⟩ = false) /\
         ∀ (i j : Nat) (r : List D) (d : D), rows[i]? = some r -> r[j]? = some d -> ∃ u, cur[i * sz + j]? = some u /\ u.oneCell' = true /\ RepI w (fun b => U b /\ (fr = true -> w0.heap.size <= b)) u d := by
    rcases q3 with ⟨e1, _⟩ | q3
    . cases e1
    . exact q3
  cases e1
  have hcs : rows.length * sz <= cur.size := by rw [h5]; exact Nat.mul_le_mul_right _ h3
  obtain ⟨cur', p1, p2, p3⟩ := zcz g us o w cur e fz hg
  have hUo : ∀ b', U b' -> (w.setCells g o us).heap[b']? = w.heap[b']? := fun b' hb' => zaj g us _ w b' (fun e => by subst e; exact (h.apart k _ b' hk rfl).1 hb')
  have hwr : ∀ j, j < us.length -> (w.cell? ⟨g, o + j, none⟩).isSome = true := fun j hj => by
    simp only [World.cell?, hg]
    rw [Array.getElem?_eq_getElem (by omega)]; rfl
  have hin2 : ∀ j, (hj : j < us.length) -> cur'[o + j]? = some us[j] := fun j hj => by
    have := World.cell?_setCells_in g us o w hwr j hj
    simp only [World.cell?, p1] at this
    exact this
  refine h.repl hk hb (zao g us _ w).1 (zao g us _ w).2.1 (zao g us _ w).2.2 (by rw [setCells_size]; exact Nat.le_refl _) (fun b' _ hne => zaj g us _ w b' (fun e => hne (by rw [e]; rfl)))
    (fun b' j hb' hnc => ?_) (fun b' hb' hpb => .inr (.inr fun j => hpb)) (.inl rfl) (fun b' hb' => .inl hb') (fun b' j hc => .inl hc) ⟨rfl, hlen, .inr ⟨g, c, cur', fz, by rw [hl], p1, by rw [hl]; exact h3, h4, by omega, h6, fun j hj => ?_, fun i j r d hi hj => ?_⟩⟩
  . have hne : b' ≠ g := fun e => hnc (by subst e; rfl)
    exact ⟨World.cell?_of_block (w := w) (zaj g us _ w b' hne), World.frozen?_of_block (w := w) (zaj g us _ w b' hne)⟩
  . rw [hl] at hj; rw [World.frozen?_setCells]; exact h7 j hj
  . by_cases hout : i * sz + j < o \/ o + us.length <= i * sz + j
    . obtain ⟨r0, hr0, hd0⟩ := hold i j r d hi hj hout
      obtain ⟨u, k1, k2, k3⟩ := h8 i j r0 d hr0 hd0
      refine ⟨u, by rw [p3 _ hout]; exact k1, k2, (k3.mono (fun b hb => ⟨hb.1, fun e => hb.2 (by simp at e; exact e.1)⟩) (fun _ _ => rfl)).mono (fun _ hb => hb) (fun b hb => hUo b hb.1)⟩
    . obtain ⟨u, k1, k2⟩ := hnew i j r d hi hj (by omega) (by omega)
      have hlt : i * sz + j - o < us.length := by omega
      have := hin2 (i * sz + j - o) hlt
      rw [show o + (i * sz + j - o) = i * sz + j by omega] at this
      rw [List.getElem?_eq_getElem hlt] at k1
      cases k1
      exact ⟨_, this, h1 _ (List.getElem_mem hlt), (k2.mono (fun b hb => ⟨hb.1, fun e => hb.2 (by simp at e; exact e.2)⟩) (fun _ _ => rfl)).mono (fun _ hb => hb) (fun b hb => hUo b hb.1)⟩

theorem zi3b {α:Type} (l n:List α) (o i:Nat) (h:o+n.length<=l.length):(l.take o++n++l.drop (o+n.length))[i]?=if o<=i/\i<o+n.length then n[i-o]? else l[i]?:=by
 have:=zh8 l n o i h
 exact this
theorem zjzb {α:Type} (l n:List α) (o:Nat) (h:o+n.length<=l.length):(l.take o++n++l.drop (o+n.length)).length=l.length:=zfb l n o h
theorem zd3b {i j sz o m q:Nat} (hj:j<sz) (h1:o*sz<=i*sz+j) (h2:i*sz+j<(o+m)*sz):o<=i/\i<o+m:=by
 constructor
 . rcases Nat.lt_or_ge i o with hlt | hge
   . have:(i+1)*sz<=o*sz:=Nat.mul_le_mul_right _ hlt
     rw [Nat.add_mul] at this; omega
   . exact hge
 . rcases Nat.lt_or_ge i (o+m) with hlt | hge
   . exact hlt
   . have:(o+m)*sz<=i*sz:=Nat.mul_le_mul_right _ hge
     omega

theorem SimB.rewriteAt (h:SimB w0 U0 X β0 β U s a w) {k ver:Nat} {e:TypeId} {c:Nat} {ap fr fr':Bool} {xs ys:List (τ c)} (hb:s.blk k=some (.rowT ver e c ap fr xs))
   {g n cap:Nat} (hk:β k=some (.row (.slice (some ⟨g,0,none⟩) n cap) ver)) {us:List Value} {o:Nat} (h1:∀ u∈us,u.oneCell'=true) (hul:us.length=ys.length*esz c) (hin:o+ys.length<=xs.length)
   (hnew:∀ (i j:Nat) (r:List D) (d:D),(ys.map (enc c))[i]?=some r->r[j]?=some d -> ∃ u,us[i*esz c+j]?=some u/\RepI w (fun b=>U b/\(fr'=true->w0.heap.size<=b)) u d) :
   SimB w0 U0 X β0 (upd β k (.row (.slice (some ⟨g,0,none⟩) n cap) ver)) U (s.set k (.rowT ver e c ap (fr&&fr') (xs.take o++ys++xs.drop (o+ys.length)))) a (w.setCells g (o*esz c) us):=by
 have hin':o+(ys.map (enc c)).length<=(xs.map (enc c)).length:=by simpa using hin
 have:=h.rewriteRow (fr':=fr') (rows':=(xs.map (enc c)).take o++ys.map (enc c)++(xs.map (enc c)).drop (o+(ys.map (enc c)).length)) hb rfl hk (us:=us) (o:=o*esz c) h1
   (by rw [hul,<- Nat.add_mul,List.length_map]; exact Nat.mul_le_mul_right _ hin) (zjzb _ _ _ hin')
   (fun r hr=>by
    have:∀ r∈xs.map (enc c)++ys.map (enc c),r.length=esz c:=by
      intro r hr
      rcases List.mem_append.1 hr with hr | hr <;> (obtain ⟨t,_,rfl⟩:=List.mem_map.1 hr; exact zeq c t)
    refine this r ?_
    rcases List.mem_append.1 hr with hr | hr
    . rcases List.mem_append.1 hr with hr | hr
      . exact List.mem_append_left _ (List.mem_of_mem_take hr)
      . exact List.mem_append_right _ hr
    . exact List.mem_append_left _ (List.mem_of_mem_drop hr))
   (fun i j r d hi hj a1 a2=>by
    rw [zi3b _ _ _ _ hin'] at hi
    rw [hul,<- Nat.add_mul] at a2
    have hrl:r.length=esz c:=by
      split at hi
      . obtain ⟨t,_,rfl⟩:=List.mem_map.1 (List.mem_of_getElem? hi); exact zeq c t
      . obtain ⟨t,_,rfl⟩:=List.mem_map.1 (List.mem_of_getElem? hi); exact zeq c t
    have hjs:j<esz c:=by have:=(List.getElem?_eq_some_iff.1 hj).1; omega
    obtain ⟨b1,b2⟩:=zd3b (q:=0) hjs a1 a2
    rw [if_pos (by simpa using ⟨b1,b2⟩)] at hi
    have:=hnew (i-o) j r d hi hj
    rw [show (i-o)*esz c+j=i*esz c+j-o*esz c by rw [Nat.sub_mul]; have:=Nat.mul_le_mul_right (esz c) b1; omega] at this
    exact this)
   (fun i j r d hi hj hout=>by
    rw [zi3b _ _ _ _ hin'] at hi
    split at hi
    . rename_i hq
      exfalso
      have hrl:r.length=esz c:=by obtain ⟨t,_,rfl⟩:=List.mem_map.1 (List.mem_of_getElem? hi); exact zeq c t
      have hjs:j<esz c:=by have:=(List.getElem?_eq_some_iff.1 hj).1; omega
      obtain ⟨b1,b2⟩:=hq
      rw [List.length_map] at b2
      have c1:=Nat.mul_le_mul_right (esz c) b1
      have c2:(i+1)*esz c<=(o+ys.length)*esz c:=Nat.mul_le_mul_right (esz c) b2
      rw [hul] at hout
      rw [Nat.add_mul,Nat.add_mul] at c2
      omega
    . exact ⟨r,hi,hj⟩)
 refine this.blkWk rfl rfl fun k'=>?_
 rw [St.blk_set,St.blk_set]
 split
 . have hb2:=zog ver e c ap (fr&&fr') (xs.take o++ys++xs.drop (o+ys.length))
   simp only [List.map_append,List.map_take,List.map_drop] at hb2
   rw [List.length_map]
   exact hb2
 . cases s.blk k' with
   | none=>trivial
   | some B=>exact BlkWk.rfl B
end

def zApp (P : Program) (cod : TypeId -> Nat) (dst : Option Nat) (args : List Operand) (ats : List TypeId) (ρ : Operand -> V) (m : Nat -> Option Blk) : Option (Tr Out) :=
  match args, ats with
  | [x, y], [t, t'] => match ρ x, zg0 P t with
    | .one (.pre k ver sz len), some e => match za7b m (cod t) (ρ y), m k with
      | some (new, fr'), some (.rowT ver' e' c ap fr xs) => match decide (t = t' /\ esz (cod t) = P.cellsOf e /\ 0 < esz (cod t) /\ (zja P e).isSome /\ ver = ver' /\ e = e' /\ ap = true) with
        | true => if hc : c = cod t then some (grdC (z7g m (ρ y)) (.grd (decide (len + new.length <= xs.length)) (.ret ⟨.one (.pre k ver sz (len + new.length)),
              [(k, .rowT ver e c ap (fr && fr') (xs.take len ++ (hc ▸ new : List (τ c)) ++ xs.drop (len + (hc ▸ new : List (τ c)).length)))]⟩))) else none
        | false => none
      | _, _ => none
    | _, _ => none
  | _, _ => none

theorem z88 {w:World} {UU:Nat->Prop} {new:List (List D)} {sz:Nat} (hpos:0<sz) (hnl:∀ r∈new,r.length=sz) {ad:Addr}
   (hc:new≠[]->ad.spot=none /\ ∀ (i j:Nat) (r:List D) (d:D),new[i]?=some r->r[j]?=some d -> ∃ u,w.cell? ⟨ad.block,ad.off+i*sz+j,none⟩=some u/\u.oneCell'=true/\RepI w UU u d) :
   ∃ news:List Value,news.length=new.length*sz/\(∀ (q:Nat) (u:Value),news[q]?=some u->w.cell? (ad.add q)=some u)/\(∀ u∈news,u.oneCell'=true) /\
     ∀ (i j:Nat) (r:List D) (d:D),new[i]?=some r->r[j]?=some d -> ∃ u,news[i*sz+j]?=some u/\RepI w UU u d:=by
 obtain ⟨news,hnl2,hnews⟩:∃ news:List Value,news.length=new.length*sz /\ ∀ (q:Nat) (u:Value),news[q]?=some u->w.cell? (ad.add q)=some u/\u.oneCell'=true /\ ∀ (r:List D) (d:D),new[q / sz]?=some r->r[q%sz]?=some d->RepI w UU u d:=by
   by_cases hne:new=[]
   . subst hne; exact ⟨[],by simp,fun q u hq=>by simp at hq⟩
   obtain ⟨hsp,hcell⟩:=hc hne
   obtain ⟨b,off,sp⟩:=ad
   cases hsp
   refine zmj _ fun q hq=>?_
   have h1:q / sz<new.length:=Nat.div_lt_of_lt_mul (by rw [Nat.mul_comm]; exact hq)
   have h2:q%sz<sz:=Nat.mod_lt _ hpos
   have h3:q%sz<(new[q / sz]).length:=by rw [hnl _ (List.getElem_mem h1)]; exact h2
   obtain ⟨u,k1,k2,k3⟩:=hcell (q / sz) (q%sz) _ _ (List.getElem?_eq_getElem h1) (List.getElem?_eq_getElem h3)
   refine ⟨u,?_,k2,fun r d hr hd=>?_⟩
   . rw [Addr.add_lit]
     have:=Nat.div_add_mod q sz
     rw [show off+q=off+q / sz*sz+q%sz by rw [Nat.mul_comm (q / sz)]; omega]
     exact k1
   . rw [List.getElem?_eq_getElem h1] at hr; cases hr
     rw [List.getElem?_eq_getElem h3] at hd; cases hd
     exact k3
 refine ⟨news,hnl2,fun q u hq=>(hnews q u hq).1,fun u hu=>by obtain ⟨j,hj⟩:=List.mem_iff_getElem?.1 hu; exact (hnews j u hj).2.1,fun i j r d hi hj=>?_⟩
 have hjs:j<sz:=by have:=(List.getElem?_eq_some_iff.1 hj).1; rw [hnl r (List.mem_of_getElem? hi)] at this; exact this
 have hil:i<new.length:=(List.getElem?_eq_some_iff.1 hi).1
 have hlt:i*sz+j<news.length:=by rw [hnl2]; exact zc0 hil hjs
 refine ⟨news[i*sz+j],List.getElem?_eq_getElem hlt,(hnews _ _ (List.getElem?_eq_getElem hlt)).2.2 r d ?_ ?_⟩
 . rw [show (i*sz+j) / sz=i by rw [Nat.mul_comm,Nat.mul_add_div hpos,Nat.div_eq_of_lt hjs]; omega]; exact hi
 . rw [show (i*sz+j)%sz=j by rw [Nat.mul_comm,Nat.mul_add_mod]; exact Nat.mod_eq_of_lt hjs]; exact hj

theorem zftb {P : Program} {cod : TypeId -> Nat} {o : Oper} {s : St} {args : Array Operand} {ats : Array TypeId} {ρ : Operand -> V} {m : Nat -> Option Blk} (hop : o.op = .call { callee := .builtin .append, args := args, argTypes := ats }) (hρ : ∀ y ∈ o.op.operands, s.eval y = ρ y)
   (hm : ∀ k ∈ zad o.dst o.op ρ, s.blk k = m k) (hd : ∀ d, o.dst = some d -> d < s.n)
   {T : Tr Out} {E : Out} (h : zApp P cod o.dst args.toList ats.toList ρ m = some T) (hT : T.eval = some E) : za0 P o s E := by
 unfold zApp at h
 rw [hop] at hρ hm
 split at h
 case h_2 => cases h
 rename_i x y t t' hargs hats
 split at h
 case h_2 => cases h
 rename_i k ver sz len e hxe hte
 split at h
 case h_2 => cases h
 rename_i new fr' ver' e' c ap fr xs hnew hmk
 split at h
 case h_2 => cases h
 rename_i hcnd
 simp only [decide_eq_true_eq] at hcnd
 obtain ⟨rfl, hsz, hpos, hz, rfl, rfl, rfl⟩ := hcnd
 split at h
 case isFalse => cases h
 rename_i hcc
 subst hcc
 cases h
 obtain ⟨g0, hT⟩ := zn5 hT
 obtain ⟨g1, g2⟩ := Tr.eval_grd hT
 cases g2
 simp only [decide_eq_true_eq] at g1
 have ht := zde hte
 obtain ⟨zs, hz⟩ := Option.isSome_iff_exists.1 hz
 have hargs' := zw6 hargs
 have hats' := tArg hats
 subst hargs'; subst hats'
 have hx : s.eval x = ρ x := hρ x (by simp [Op.operands, Call.operands])
 have hy : s.eval y = ρ y := hρ y (by simp [Op.operands, Call.operands])
 have hkeys : ∀ q ∈ (ρ x).keys ++ (ρ y).keys, s.blk q = m q := fun q hq => hm q (by simp [zad]; rcases List.mem_append.1 hq with h | h <;> simp [h])
 have hblk : s.blk k = some (.rowT ver e (cod t) true fr xs) := by rw [hkeys k (by rw [hxe]; simp [V.keys, C.keys])]; exact hmk
 have hro := zqz hnew g0
 have hro' : rowsOf s.blk (ρ y) = some (esz (cod t), new.map (enc (cod t)), fr') := by rw [<- hro]; exact zjp (fun q hq => hkeys q (List.mem_append_right _ hq))
 intro w0 U0 X β0 β U a w hs
 have hvy := hs.eval y
 rw [hy] at hvy
 obtain ⟨ao, cap, hv1, hnl, hnn, hcell⟩ := zjo hs hvy hro'
 have hv := hs.eval x
 rw [hx, hxe] at hv
 obtain ⟨a0, cap0, v0, ver0, hv0, hlc, hn0, hk, hle, hpre⟩ := hv.toC
 obtain ⟨q1, q2, q3⟩ := hs.placeStd (by rw [hblk]; rfl) hk
 subst q1
 obtain ⟨n, rfl, hln⟩ := hpre rfl
 obtain ⟨i, z, hi, hzz, _, _, hzs⟩ := zce (w := w) (β := fun _ => none) (U := fun _ => True) (base := 0) hz
 have hci : esz (cod t) = i.size := by rw [hsz]; simp [Program.cellsOf, hi]
 have hexec : ∀ {v' : Value} {w' : World}, (Builtin.append_ #[t, t] o.type #[.slice a0 len cap0, .slice ao new.length cap]).run P w = .ok v' w' -> (execOp a.eval o).run P w = .ok (.value v') w' := by
   intro v' w' hr
   rw [List.length_map] at hv1
   simp only [execOp, hop, resolve, Sem.run_bind, Sem.run_pure, Result.andThen_ok, invoke, builtin, List.map_toArray, List.map_cons, List.map_nil, hv0, hv1, hr]
 have hsrc : ∃ news : List Value, Src P i.size t (.slice ao new.length cap) new.length news w /\ (∀ u ∈ news, u.oneCell' = true) /\ news.length = new.length * esz (cod t) /\
    ∀ (i j : Nat) (r : List D) (d : D), (new.map (enc (cod t)))[i]? = some r -> r[j]? = some d -> ∃ u, news[i * esz (cod t) + j]? = some u /\ RepI w (fun b => U b /\ (fr' = true -> w0.heap.size <= b)) u d := by
   cases ao with
   | none =>
    obtain ⟨e1, rfl⟩ := hnn rfl
    have : new = [] := by simpa using e1
    subst this
    exact ⟨[], Src.ofNil w ht 0, fun u hu => (by cases hu), by simp, fun i j r d hi => by simp at hi⟩
   | some ad =>
    obtain ⟨news, p1, p2, p3, p4⟩ := z88 hpos hnl (hcell ad rfl)
    rw [List.length_map] at p1
    exact ⟨news, Src.ofSlice w ht ad new.length cap news (by rw [<- hci]; exact p1) p2 p3, p3, p1, p4⟩
 obtain ⟨news, hS, hone, hnlen, hnrep⟩ := hsrc
 have hdst : o.dst = none \/ ∃ d, o.dst = some d := by cases o.dst <;> simp
 rcases q3 with ⟨e1, e2⟩ | ⟨g, cap', cur, fz, e1, hg, h3, h4, h5, h6, h7, h8⟩
 . -- nothing there
   cases e1
   have hx0 : xs = [] := by simpa using e2
   subst hx0
   simp only [List.length_nil, Nat.le_zero] at g1
   have hn0' : new = [] := List.eq_nil_of_length_eq_zero (by omega)
   have hl0 : len = 0 := by omega
   subst hn0'; subst hl0
   have hnews : news = [] := List.eq_nil_of_length_eq_zero (by simpa using hnlen)
   subst hnews
   refine ⟨_, w, .inl (hexec (run_append_nothing (P := P) w t t o.type e i ht hi none 0 0 (Nat.le_refl _) _ hS)), ?_⟩
   have hbk := hs.repl (w' := w) (p' := .row (.slice none 0 0) ver) (blk' := .rowT ver e (cod t) true (fr && fr') []) hk hblk rfl rfl rfl (Nat.le_refl _) (fun _ _ _ => rfl) (fun _ _ _ _ => ⟨rfl, rfl⟩) (fun _ _ _ => .inl rfl) (.inl rfl) (fun b hb => .inl hb) (fun b j hc => .inl hc)
    ⟨rfl, fun r hr => by simp at hr, .inl ⟨rfl, rfl⟩⟩
   refine ⟨upd β k (.row (.slice none 0 0) ver), U, ?_⟩
   show SimB w0 U0 X β0 _ _ ((s.set k (.rowT ver e (cod t) true (fr && fr') [])).put o.dst (.one (.pre k ver sz 0))) _ _
   have hp : RepC w (upd β k (.row (.slice none 0 0) ver)) U w0.heap.size (.slice none 0 0) (.pre k ver sz 0) := ⟨none, 0, .slice none 0 0, ver, rfl, Nat.le_refl _, fun _ => ⟨rfl, rfl⟩, zak _ _ _, Nat.le_refl _, fun _ => ⟨0, rfl, Nat.le_refl _⟩⟩
   exact hbk.put (.one _ _ hp) hd
 . cases e1
   have hroom : len + new.length <= cap0 := by
    have : (xs.map (enc (cod t))).length = xs.length := by simp
    omega
   have hxl : (xs.map (enc (cod t))).length = xs.length := by simp
   have hfit : len * i.size + news.length <= xs.length * i.size := by
    rw [hnlen, hci, <- Nat.add_mul]; exact Nat.mul_le_mul_right _ g1
   have hrun := run_append_room_src (P := P) w t t o.type e i ht hi g 0 len cap0 (.slice ao new.length cap) new.length news hS hroom (fun j hj => by
     rw [Nat.zero_add]
     simp only [World.cell?, hg]
     have : xs.length * i.size <= cap0 * i.size := Nat.mul_le_mul_right _ (by omega)
     rw [Array.getElem?_eq_getElem (by rw [h5, hci]; omega)]; rfl) (fun j hj => by
     rw [Nat.zero_add]
     exact h7 _ (by rw [hxl, hci]; omega))
   rw [Nat.zero_add] at hrun
   have hs1 := hs.rewriteAt (fr' := fr') (ys := new) hblk hk (us := news) (o := len) hone hnlen g1 hnrep
   rw [hci] at hs1
   refine ⟨_, _, .inl (hexec hrun), upd β k (.row (.slice (some ⟨g, 0, none⟩) (xs.map (enc (cod t))).length cap0) ver), U, ?_⟩
   show SimB w0 U0 X β0 _ _ ((s.set k (.rowT ver e (cod t) true (fr && fr') (xs.take len ++ new ++ xs.drop (len + new.length)))).put o.dst (.one (.pre k ver sz (len + new.length)))) _ _
   have hp : RepC w (upd β k (.row (.slice (some ⟨g, 0, none⟩) (xs.map (enc (cod t))).length cap0) ver)) U w0.heap.size (.slice (some ⟨g, 0, none⟩) (len + new.length) cap0) (.pre k ver sz (len + new.length)) :=
    ⟨some ⟨g, 0, none⟩, cap0, .slice (some ⟨g, 0, none⟩) (xs.map (enc (cod t))).length cap0, ver, rfl, hroom, (fun e => by cases e), zak _ _ _, Nat.le_refl _, fun _ => ⟨_, rfl, by rw [hxl]; exact g1⟩⟩
   exact hs1.put (.one _ _ (hp.map (fun _ hb => hb) (fun b hb => zaj g news _ w b (fun e => by subst e; exact (hs.apart k _ b hk rfl).1 hb)) (Evo.refl _))) hd

def zeroOf (P:Program) (e:TypeId) (c:Nat):Option (Tr (τ c)) :=
 match zja P e with
 | some zs=>match zs.mapM toD with
  | some ds=>decG c ds
  | none=>none
 | none=>none

theorem zu8 {P:Program} {w:World} {UU:Nat->Prop} {e:TypeId} {c:Nat} {T:Tr (τ c)} {t:τ c} (h:zeroOf P e c=some T) (ht:T.eval=some t) :
  ∃ (i:TypeInfo) (z:Value),P.info? e=some i/\i.zero=some z/\z.cells.size=i.size/\i.size=esz c/\(∀ u∈z.cells.toList,u.oneCell'=true) /\ ∀ (j:Nat) (d:D),(enc c t)[j]?=some d -> ∃ u,z.cells[j]?=some u/\RepI w UU u d:=by
 unfold zeroOf at h
 split at h
 case h_2=>cases h
 rename_i zs hz
 split at h
 case h_2=>cases h
 rename_i ds hds
 have hw:=z38 h ht
 obtain ⟨i,z,hi,hzz,hrep,h1,hzs⟩:=zce (w:=w) (β:=fun _=>none) (U:=UU) (base:=0) hz
 obtain ⟨hl,hg⟩:=znv zs ds hds
 obtain ⟨hl2,hg2⟩:=zq9 hw
 have hlz:z.cells.size=zs.length:=by simpa using hrep.1
 refine ⟨i,z,hi,hzz,hzs,by rw [<- zeq c t]; omega,h1,fun j d hj=>?_⟩
 obtain ⟨d0,hd0,hwd⟩:=hg2 j d hj
 have hjl:j<zs.length:=by have:=(List.getElem?_eq_some_iff.1 hd0).1; omega
 have hjz:j<z.cells.size:=by omega
 have hc:=hg j _ d0 (List.getElem?_eq_getElem hjl) hd0
 have hr:=zm3 (hrep.2 j z.cells[j] _ (by simp [hjz]) (List.getElem?_eq_getElem hjl)) hc
 exact ⟨z.cells[j],by simp [hjz],(hr.mono (fun b hb=>hb.1) (fun _ _=>rfl)).wkD hwd⟩

theorem zyt {w:World} {UU:Nat->Prop} {c:Nat} {t:τ c} {z:Array Value} (hz:z.size=esz c) (hr:∀ (j:Nat) (d:D),(enc c t)[j]?=some d -> ∃ u,z[j]?=some u/\RepI w UU u d) (n:Nat) :
  ∀ (i j:Nat) (r:List D) (d:D),((List.replicate n t).map (enc c))[i]?=some r->r[j]?=some d -> ∃ u,((Array.range (n*z.size)).map (z[· % z.size]!)).toList[i*esz c+j]?=some u/\RepI w UU u d:=by
 intro i j r d hi hj
 have hil:i<n:=by have:=(List.getElem?_eq_some_iff.1 hi).1; simpa using this
 have hre:r=enc c t:=by
  rw [List.map_replicate,List.getElem?_replicate,if_pos hil] at hi
  exact (Option.some.inj hi).symm
 subst hre
 have hjs:j<esz c:=by have:=(List.getElem?_eq_some_iff.1 hj).1; rw [zeq] at this; exact this
 obtain ⟨u,k1,k2⟩:=hr j d hj
 have hlt:i*esz c+j<n*z.size:=by rw [hz]; exact zc0 hil hjs
 refine ⟨u,?_,k2⟩
 simp only [Array.toList_map,Array.toList_range,List.getElem?_map]
 have e1:(List.range (n*z.size))[i*esz c+j]?=some (i*esz c+j):=by simp [hlt]
 rw [e1]
 have e2:(i*esz c+j)%z.size=j:=by rw [hz,Nat.mul_comm,Nat.mul_add_mod]; exact Nat.mod_eq_of_lt hjs
 simp only [Option.map_some,e2]
 have hjz:j<z.size:=by omega
 rw [Array.getElem?_eq_getElem hjz] at k1
 cases k1
 simp [hjz]

def z9u (P:Program) (cod:TypeId->Nat) (dst:Option Nat) (args:List Operand) (ats:List TypeId) (ρ:Operand->V) (m:Nat->Option Blk):Option (Tr Out) :=
 match args,ats with
 | [x],[t]=>match ρ x,zg0 P t with
  | .one (.sub k ver sz off len),some e=>match m k with
   | some (.rowT ver' e' c ap fr xs)=>match decide (ver=ver'/\e=e'/\sz=esz c/\0<sz),zeroOf P e c with
    | true,some T=>some (.grd (decide (off+len<=xs.length)) (T.bind fun z=>.ret ⟨.one .bad,[(k,.rowT ver e c ap (fr&&true) (xs.take off++List.replicate len z++xs.drop (off+(List.replicate len z).length)))]⟩))
    | _,_=>none
   | _=>none
  | _,_=>none
 | _,_=>none

theorem z6d {P:Program} {cod:TypeId->Nat} {o:Oper} {s:St} {args:Array Operand} {ats:Array TypeId} {ρ:Operand->V} {m:Nat->Option Blk} (hop:o.op=.call { callee:=.builtin .clear,args:=args,argTypes:=ats }) (hρ:∀ y∈o.op.operands,s.eval y=ρ y)
   (hm:∀ k∈zad o.dst o.op ρ,s.blk k=m k) (hd:∀ d,o.dst=some d->d<s.n)
   {T:Tr Out} {E:Out} (h:z9u P cod o.dst args.toList ats.toList ρ m=some T) (hT:T.eval=some E):za0 P o s E:=by
 unfold z9u at h
 rw [hop] at hρ hm
 split at h
 case h_2=>cases h
 rename_i x t hargs hats
 split at h
 case h_2=>cases h
 rename_i k ver sz off len e hxe hte
 split at h
 case h_2=>cases h
 rename_i ver' e' c ap fr xs hmk
 split at h
 case h_2=>cases h
 rename_i T' hcnd hzero
 simp only [decide_eq_true_eq] at hcnd
 obtain ⟨rfl,rfl,rfl,hpos⟩:=hcnd
 cases h
 obtain ⟨g1,hT⟩:=Tr.eval_grd hT
 rw [Tr.eval_bind] at hT
 obtain ⟨z,hz,g2⟩:=Option.bind_eq_some_iff.1 hT
 cases g2
 simp only [decide_eq_true_eq] at g1
 have ht:=zde hte
 have hargs':args = #[x]:=by cases args; simp_all
 have hats':ats = #[t]:=by cases ats; simp_all
 subst hargs'; subst hats'
 have hx:s.eval x=ρ x:=hρ x (by simp [Op.operands,Call.operands])
 have hblk:s.blk k=some (.rowT ver e c ap fr xs):=by rw [hm k (by simp [zad,hxe,V.keys,C.keys])]; exact hmk
 intro w0 U0 X β0 β U a w hs
 have hv:=hs.eval x
 rw [hx,hxe] at hv
 obtain ⟨a0,cap0,v0,ver0,hv0,hlc,hn0,hk,hle,hsub⟩:=hv.toC
 obtain ⟨q1,q2,q3⟩:=hs.placeStd (by rw [hblk]; rfl) hk
 subst q1
 obtain ⟨i,zv,hi,hzz,hzs,his,hz1,hzr⟩:=zu8 (w:=w) (UU:=fun b=>U b/\(true=true->w0.heap.size<=b)) hzero hz
 have hexec:∀ {v':Value} {w':World},(Builtin.clear_ #[t] o.type #[.slice a0 len cap0]).run P w=.ok v' w'->(execOp a.eval o).run P w=.ok (.value v') w':=by
   intro v' w' hr
   simp only [execOp,hop,resolve,Sem.run_bind,Sem.run_pure,Result.andThen_ok,invoke,builtin,List.map_toArray,List.map_cons,List.map_nil,hv0,hr]
 have hrl:(List.replicate len z).length=len:=List.length_replicate
 by_cases hl0:len=0
 . subst hl0
   have hrun:(Builtin.clear_ #[t] o.type #[.slice a0 0 cap0]).run P w=.ok (.tuple #[]) w:=by
     cases a0 <;> simp [Builtin.clear_,run_underlying ht]
   refine ⟨_,w,.inl (hexec hrun),?_⟩
   have e1:xs.take off++List.replicate 0 z++xs.drop (off+(List.replicate 0 z).length)=xs:=by simp
   rw [e1,Bool.and_true]
   refine ⟨β,U,?_⟩
   show SimB w0 U0 X β0 β U ((s.set k (.rowT ver e c ap fr xs)).put o.dst (.one .bad)) _ _
   refine SimB.put (s:=s.set k (.rowT ver e c ap fr xs)) (hs.blkWk rfl rfl fun k'=>?_) (RepV.bad _) hd
   rw [St.blk_set]
   split
   . rename_i e2; subst e2; rw [hblk]; exact BlkWk.rfl _
   . cases s.blk k' with
     | none=>trivial
     | some B=>exact BlkWk.rfl B
 . obtain ⟨g,n,cc,rfl,rfl⟩:=hsub rfl (by omega)
   rcases q3 with ⟨e1,_⟩ | ⟨g',cap',cur,fz,e1,hg,h3,h4,h5,h6,h7,h8⟩
   . cases e1
   cases e1
   have hxl:(xs.map (enc c)).length=xs.length:=by simp
   generalize hus:((Array.range (len*zv.cells.size)).map (zv.cells[· % zv.cells.size]!)).toList=us
   have husl:us.length=len*esz c:=by rw [<- hus]; simp [hzs,his]
   have hrep:=zyt (w:=w) (by rw [hzs,his]) hzr len
   rw [hus] at hrep
   have hone:∀ u∈us,u.oneCell'=true:=by
     intro u hu
     rw [<- hus] at hu
     simp only [Array.toList_map,Array.toList_range,List.mem_map] at hu
     obtain ⟨q,hq,rfl⟩:=hu
     have hlt:q%zv.cells.size<zv.cells.size:=Nat.mod_lt _ (by omega)
     have:zv.cells[q%zv.cells.size]! = zv.cells[q%zv.cells.size]:=by simp [hlt]
     rw [this]; exact hz1 _ (by simp)
   have hfit:off*esz c+us.length<=xs.length*esz c:=by rw [husl,<- Nat.add_mul]; exact Nat.mul_le_mul_right _ g1
   have hst:=run_storeCells_cells (P:=P) g (off*esz c) us 0 w (fun j hj=>by
      simp only [World.cell?,hg,Nat.add_zero]
      have:xs.length*esz c<=cc*esz c:=Nat.mul_le_mul_right _ (by omega)
      rw [Array.getElem?_eq_getElem (by rw [h5]; omega)]; rfl) (fun j hj=>by
      rw [Nat.add_zero]; exact h7 _ (by rw [hxl]; omega)) hone
   rw [Nat.add_zero] at hst
   have hrun:(Builtin.clear_ #[t] o.type #[.slice (some ⟨g,off*esz c,none⟩) len cap0]).run P w=.ok (.tuple #[]) (w.setCells g (off*esz c) us):=by
     obtain ⟨m',rfl⟩:∃ m',len=m'+1:=⟨len-1,by omega⟩
     have hzc:(Builtin.zeroCells zv.cells (m'+1)).toList=us:=by rw [<- hus]; rfl
     have hv:(zeroValue e).run P w=.ok zv w:=by simp [zeroValue,typeInfo,hi,hzz]
     simp [Builtin.clear_,run_underlying ht,hv,hzc,hst]
   have hs1:=hs.rewriteAt (fr':=true) (ys:=List.replicate len z) hblk hk (us:=us) (o:=off) hone (by rw [hrl]; exact husl) (by rw [hrl]; exact g1) hrep
   refine ⟨_,_,.inl (hexec hrun),upd β k (.row (.slice (some ⟨g,0,none⟩) (xs.map (enc c)).length cc) ver),U,?_⟩
   show SimB w0 U0 X β0 _ _ ((s.set k (.rowT ver e c ap (fr&&true) (xs.take off++List.replicate len z++xs.drop (off+(List.replicate len z).length)))).put o.dst (.one .bad)) _ _
   exact hs1.put (RepV.bad _) hd
end Go.Proofs.YthkhikdglmaiaaaGreatDoor.Abs
namespace Go.Proofs.YthkhikdglmaiaaaGreatDoor.Abs
open Go Go.RowKit
set_option linter.unusedVariables false
set_option linter.unusedSimpArgs false

section
variable {P:Program} {w0:World} {U0:Nat->Prop} {X:Nat->Nat->Prop} {β0 β:Nat->Option Place} {U:Nat->Prop} {s:St} {a:Act} {w:World}

theorem zkm {UU : Nat -> Prop} {t tx ty e : TypeId} {sz : Nat} {zs : List C} (ht : P.underlying t = some (.slice e)) (hz : zja P e = some zs) (hsz : sz = P.cellsOf e) (hpos : 0 < sz)
   {v0 : Value} {rows new : List (List D)} (h0 : zt5 w UU e sz v0 rows) (hrl : ∀ r ∈ rows, r.length = sz) (hnl : ∀ r ∈ new, r.length = sz) {x : Value} {news : List Value} (hs : Src P sz tx x new.length news w)
   (hc : ∀ (i j : Nat) (r : List D) (d : D), new[i]? = some r -> r[j]? = some d -> ∃ u, news[i * sz + j]? = some u /\ RepI w UU u d)
   (h63 : rows.length + new.length <= maxLen) (hby : (rows.length + new.length) * P.bytesOf e <= 140737488355328) (hUU : ∀ b, UU b -> b < w.heap.size /\ v0.ownBlock ≠ some b) :
   ∃ v' w', (Builtin.append_ #[t, tx] ty #[v0, x]).run P w = .ok v' w' /\ w.grownBy w' v0.ownBlock /\ (v'.ownBlock = v0.ownBlock \/ v'.ownBlock = some w.heap.size) /\ (∀ b, v'.ownBlock = some b -> b < w'.heap.size) /\
     zt5 w' UU e sz v' (rows ++ new) := by
 obtain ⟨i, z, hi, hzz, _, _, hzs⟩ := zce (w := w) (β := fun _ => none) (U := fun _ => True) (base := 0) hz
 have hci : sz = i.size := by rw [hsz]; simp [Program.cellsOf, hi]
 have hbi : P.bytesOf e = i.bytes := by simp [Program.bytesOf, hi]
 have hS : Src P i.size tx x new.length news w := by rw [<- hci]; exact hs
 have hnl2 := hs.newsLen
 have hsmall : ((rows.length + new.length : Nat) : Int) <= 9223372036854775807 := by simp only [maxLen] at h63; omega
 rw [hbi] at hby
 -- a new row
 have grown : ∀ (old : Nat) (olds : List Value), old < rows.length + new.length -> olds.length = rows.length * sz ->
     (∀ (i j : Nat) (r : List D) (d : D), rows[i]? = some r -> r[j]? = some d -> ∃ u, olds[i * sz + j]? = some u /\ u.oneCell' = true /\ RepI w UU u d) ->
     w.grownBy (w.drew.alloc (.cells ((olds ++ news).toArray ++ Builtin.zeroCells z.cells (grownCap w (rows.length + new.length) old e - (rows.length + new.length))) e)) v0.ownBlock /\
     zt5 (w.drew.alloc (.cells ((olds ++ news).toArray ++ Builtin.zeroCells z.cells (grownCap w (rows.length + new.length) old e - (rows.length + new.length))) e)) UU e sz
       (.slice (some ⟨w.heap.size, 0, none⟩) (rows.length + new.length) (grownCap w (rows.length + new.length) old e)) (rows ++ new) := by
   intro old olds ho hol hold
   have hge := grownCap_ge w (rows.length + new.length) old e
   have hcm : grownCap w (rows.length + new.length) old e <= maxLen := grownCap_le_maxLen w _ old e h63
   refine ⟨⟨rfl, rfl, rfl, by simp, fun k hk _ => Below.heap_alloc w.drew _ k hk⟩, .inr ⟨w.heap.size, _, _, (0, 0), by rw [List.length_append], heap_alloc_new w.drew _, by rw [List.length_append]; exact hge, hcm, ?_, rfl, fun i' j r d hi' hj => ?_⟩⟩
   . simp only [Array.size_append, List.size_toArray, List.length_append, size_zeroCells, hzs, hol, hnl2, <- hci, <- Nat.add_mul]
     congr 1
     omega
   . have hUm : ∀ {u : Value} {d : D}, RepI w UU u d -> RepI (w.drew.alloc (.cells ((olds ++ news).toArray ++ Builtin.zeroCells z.cells (grownCap w (rows.length + new.length) old e - (rows.length + new.length))) e)) UU u d :=
       fun hr => hr.mono (fun _ hb => hb) (fun b hb => Below.heap_alloc w.drew _ b (hUU b hb).1)
     have main : ∃ u, (olds ++ news)[i' * sz + j]? = some u /\ u.oneCell' = true /\ RepI w UU u d := by
       by_cases hlt : i' < rows.length
       . rw [List.getElem?_append_left hlt] at hi'
         obtain ⟨u, k1, k2, k3⟩ := hold i' j r d hi' hj
         exact ⟨u, by rw [List.getElem?_append_left (List.getElem?_eq_some_iff.1 k1).1]; exact k1, k2, k3⟩
       . rw [List.getElem?_append_right (by omega)] at hi'
         obtain ⟨u, k1, k2⟩ := hc (i' - rows.length) j r d hi' hj
         have hge : rows.length * sz <= i' * sz := Nat.mul_le_mul_right sz (by omega)
         have hq : i' * sz + j - olds.length = (i' - rows.length) * sz + j := by rw [hol, Nat.sub_mul]; omega
         exact ⟨u, by rw [List.getElem?_append_right (by omega), hq]; exact k1, hs.one u (List.mem_of_getElem? k1), k2⟩
     obtain ⟨u, k1, k2, k3⟩ := main
     refine ⟨u, ?_, k2, hUm k3⟩
     rw [Array.getElem?_append_left (by simpa using (List.getElem?_eq_some_iff.1 k1).1)]
     simpa using k1
 by_cases hn0 : new = []
 . subst hn0
   have hnews : news = [] := List.eq_nil_of_length_eq_zero (by simpa using hnl2)
   subst hnews
   have : ∃ base sl sc, v0 = .slice base sl sc /\ sl <= sc := by
     rcases h0 with ⟨rfl, _⟩ | ⟨g, cap0, cur, fz, rfl, _, h3, _⟩
     . exact ⟨none, 0, 0, rfl, Nat.le_refl _⟩
     . exact ⟨_, _, _, rfl, h3⟩
   obtain ⟨base, sl, sc, rfl, hle⟩ := this
   refine ⟨_, w, run_append_nothing (P := P) w t tx ty e i ht hi base sl sc hle x hS, ⟨rfl, rfl, rfl, Nat.le_refl _, fun _ _ _ => rfl⟩, .inl rfl, fun b hb => ?_, by simpa using h0⟩
   rcases h0 with ⟨e1, _⟩ | ⟨g, cap0, cur, fz, e1, hg, _⟩
   . cases e1; simp [Value.ownBlock] at hb
   . cases e1
     obtain rfl : g = b := by simpa [Value.ownBlock] using hb
     exact (Array.getElem?_eq_some_iff.1 hg).1
 have hnpos : 0 < new.length := by cases new with | nil => exact absurd rfl hn0 | cons => simp
 rcases h0 with ⟨rfl, rfl⟩ | ⟨g, cap0, cur, fz, rfl, hg, h3, h4, h5, rfl, h8⟩
 . have hfit : Builtin.nextslicecap (0 + new.length) 0 * i.bytes <= 281474976710656 := growslice_fits (by simpa using hnpos) (by simpa using hby)
   have hr := run_append_grow_src (P := P) w t tx ty e i z ht hi hzz none 0 0 [] (run_firstCells_none w.drew i.size 0 0 0) x new.length news hS (by omega) (by simpa using hsmall) hfit
   obtain ⟨g1, g2⟩ := grown 0 [] (by simp <;> omega) (by simp) (fun i j r d hi' => by simp at hi')
   simp only [List.length_nil] at g1 g2
   exact ⟨_, _, hr, g1, .inr rfl, fun b hb => by
     obtain rfl : w.heap.size = b := by simpa [Value.ownBlock] using hb
     rw [size_alloc]; simp, g2⟩
 . by_cases hroom : rows.length + new.length <= cap0
   . have hcsz : (rows.length + new.length) * sz <= cur.size := by rw [h5]; exact Nat.mul_le_mul_right _ hroom
     rw [Nat.add_mul] at hcsz
     have hr := run_append_room_src (P := P) w t tx ty e i ht hi g 0 rows.length cap0 x new.length news hS hroom (fun j hj => by
         simp only [World.cell?, hg]
         rw [Array.getElem?_eq_getElem (by rw [<- hci]; omega)]; rfl) (fun j hj => by simp [World.frozen?, hg])
     rw [Nat.zero_add, <- hci] at hr
     obtain ⟨cur', p1, p2, p3⟩ := zcz g news (rows.length * sz) w cur e (0, 0) hg
     have hin2 : ∀ j, (hj : j < news.length) -> cur'[rows.length * sz + j]? = some news[j] := fun j hj => by
       have := World.cell?_setCells_in g news (rows.length * sz) w (fun j hj => by simp only [World.cell?, hg]; rw [Array.getElem?_eq_getElem (by omega)]; rfl) j hj
       simp only [World.cell?, p1] at this
       exact this
     have hUm : ∀ {u : Value} {d : D}, RepI w UU u d -> RepI (w.setCells g (rows.length * sz) news) UU u d := fun hr => hr.mono (fun _ hb => hb) (fun b hb => zaj g news _ w b (fun e => by subst e; exact (hUU b hb).2 rfl))
     refine ⟨_, _, hr, ⟨(zao g news _ w).1, (zao g news _ w).2.1, (zao g news _ w).2.2, by rw [setCells_size]; exact Nat.le_refl _, fun k hk hne => zaj g news _ w k (fun e => hne (by subst e; rfl))⟩, .inl rfl, fun b hb => ?_, .inr ⟨g, cap0, cur', (0, 0), by rw [List.length_append], p1, by rw [List.length_append]; exact hroom, h4, by omega, rfl, fun i' j r d hi' hj => ?_⟩⟩
     . obtain rfl : g = b := by simpa [Value.ownBlock] using hb
       rw [setCells_size]; exact (Array.getElem?_eq_some_iff.1 hg).1
     . by_cases hlt : i' < rows.length
       . rw [List.getElem?_append_left hlt] at hi'
         obtain ⟨u, k1, k2, k3⟩ := h8 i' j r d hi' hj
         have hjs : j < sz := by have := (List.getElem?_eq_some_iff.1 hj).1; rw [hrl r (List.mem_of_getElem? hi')] at this; exact this
         have := zc0 hlt hjs
         exact ⟨u, by rw [p3 _ (.inl this)]; exact k1, k2, hUm k3⟩
       . rw [List.getElem?_append_right (by omega)] at hi'
         obtain ⟨u, k1, k2⟩ := hc (i' - rows.length) j r d hi' hj
         have hge : rows.length * sz <= i' * sz := Nat.mul_le_mul_right sz (by omega)
         have hq : i' * sz + j = rows.length * sz + ((i' - rows.length) * sz + j) := by rw [Nat.sub_mul]; omega
         obtain ⟨q1, q2⟩ := List.getElem?_eq_some_iff.1 k1
         exact ⟨u, by rw [hq, hin2 _ q1, q2], hs.one u (List.mem_of_getElem? k1), hUm k2⟩
   . have hfit : Builtin.nextslicecap (rows.length + new.length) cap0 * i.bytes <= 281474976710656 := growslice_fits (by omega) hby
     have hle : rows.length * sz <= cur.size := by rw [h5]; exact Nat.mul_le_mul_right sz h3
     have holds : ∀ j v, (cur.toList.take (rows.length * sz))[j]? = some v -> w.drew.cell? ((⟨g, 0, none⟩ : Addr).add j) = some v := by
       intro j v hj
       rw [List.getElem?_take] at hj
       split at hj
       . have : w.cell? ⟨g, j, none⟩ = some v := by simp only [World.cell?, hg]; simpa using hj
         rw [Addr.add_lit, Nat.zero_add]; simpa using this
       . cases hj
     have hfc := run_firstCells_some (P := P) w.drew i.size rows.length ⟨g, 0, none⟩ rows.length cap0 (cur.toList.take (rows.length * sz)) (by rw [<- hci]; simp; omega) holds
     have hr := run_append_grow_src (P := P) w t tx ty e i z ht hi hzz (some ⟨g, 0, none⟩) rows.length cap0 _ hfc x new.length news hS (by omega) hsmall hfit
     obtain ⟨g1, g2⟩ := grown cap0 (cur.toList.take (rows.length * sz)) (by omega) (by simp <;> omega) (fun i' j r d hi' hj => by
       obtain ⟨u, k1, k2, k3⟩ := h8 i' j r d hi' hj
       have hlt : i' * sz + j < rows.length * sz := zc0 (List.getElem?_eq_some_iff.1 hi').1 (by have := (List.getElem?_eq_some_iff.1 hj).1; rw [hrl r (List.mem_of_getElem? hi')] at this; exact this)
       exact ⟨u, by rw [List.getElem?_take, if_pos hlt]; simpa using k1, k2, k3⟩)
     exact ⟨_, _, hr, g1, .inr rfl, fun b hb => by
       obtain rfl : w.heap.size = b := by simpa [Value.ownBlock] using hb
       rw [size_alloc]; simp, g2⟩

theorem zu6 (h:SimB w0 U0 X β0 β U s a w) {k ver:Nat} {e:TypeId} {c:Nat} {fr fr2:Bool} {xs zs:List (τ c)} {v0 v':Value} {w':World} (hblk:s.blk k=some (.rowT ver e c true fr xs)) (hk:β k=some (.row v0 ver))
   (hgrow:w.grownBy w' v0.ownBlock) (hob:v'.ownBlock=v0.ownBlock\/v'.ownBlock=some w.heap.size) (hlt:∀ b,v'.ownBlock=some b->b<w'.heap.size)
   (hrow:zt5 w' (fun b=>U b/\(fr2=true->w0.heap.size<=b)) e (esz c) v' (zs.map (enc c))) {dst:Option Nat} (hd:∀ d,dst=some d->d<s.n) :
   Sim w0 U0 X β0 (s.out dst ⟨.one (.own k (ver+1) zs.length),[(k,.rowT (ver+1) e c true fr2 zs)]⟩) (a.put dst v') w':=by
 have hs1:=h.repl (p':=.row v' (ver+1)) (blk':=.rowT (ver+1) e c true fr2 zs) hk hblk hgrow.os hgrow.tape hgrow.output hgrow.size
    (fun b hb hne=>hgrow.block b hb (fun e'=>hne e'.symm))
    (fun b j hb hnc=>by
     have hne:some b≠v0.ownBlock:=fun e'=>hnc e'.symm
     exact ⟨World.cell?_of_block (w:=w) (hgrow.block b hb hne),World.frozen?_of_block (w:=w) (hgrow.block b hb hne)⟩)
    (fun b _ hb=>.inr (.inr fun j=>hb))
    (.inr ⟨_,ver,v',ver+1,rfl,rfl,by omega⟩)
    (fun b hb=>by
     have hb':v'.ownBlock=some b:=hb
     rcases hob with h1 | h1
     . left; rw [h1] at hb'; exact hb'
     . right
       have hlt':=hlt w.heap.size h1
       rw [h1] at hb'
       obtain rfl:w.heap.size=b:=by simpa using hb'
       exact ⟨Nat.le_refl _,hlt'⟩)
    (fun b j hc=>by
     have hb':v'.ownBlock=some b:=hc
     rcases hob with h1 | h1
     . left; rw [h1] at hb'; exact hb'
     . right
       rw [h1] at hb'
       have:w.heap.size=b:=by simpa using hb'
       omega)
    ⟨rfl,fun r hr=>by obtain ⟨t,_,rfl⟩:=List.mem_map.1 hr; exact zeq c t,by
     rcases hrow with hr | ⟨g,cap',cur,fz,q1,q2,q3,q4,q5,rfl,q7⟩
     . exact .inl hr
     . exact .inr ⟨g,cap',cur,(0,0),q1,q2,q3,q4,q5,fun _=>rfl,fun i _=>by simp [World.frozen?,q2],q7⟩⟩
 refine ⟨_,_,hs1.put (s:=s.set k (.rowT (ver+1) e c true fr2 zs)) ?_ hd⟩
 rcases hrow with ⟨rfl,hnil⟩ | ⟨g,cap',cur,fz,rfl,q2,q3,q4,q5,q6,q7⟩
 . have:zs=[]:=by simpa using hnil
   rw [this]
   exact zlf (zak _ _ _) (Nat.le_refl _) (fun _=>⟨rfl,rfl⟩) (fun x hx=>by cases hx)
 . rw [List.length_map] at q3 ⊢
   exact zlf (zak _ _ _) q3 (fun e=>by cases e) (fun x hx=>by cases hx; exact ⟨g,rfl⟩)

theorem zmc (h:SimB w0 U0 X β0 β U s a w) {d:Nat} {e:TypeId} {c:Nat} {fr2:Bool} {zs:List (τ c)} {v':Value} {w':World} (hkd:s.blk d=none) (hdn:d<s.n)
   (hgrow:w.grownBy w' none) (hob:v'.ownBlock=none\/v'.ownBlock=some w.heap.size) (hlt:∀ b,v'.ownBlock=some b->b<w'.heap.size)
   (hrow:zt5 w' (fun b=>U b/\(fr2=true->w0.heap.size<=b)) e (esz c) v' (zs.map (enc c))) :
   Sim w0 U0 X β0 (s.out (some d) ⟨.one (.own d 0 zs.length),[(d,.rowT 0 e c true fr2 zs)]⟩) (a.put (some d) v') w':=by
 have hgold:∀ b,b<w.heap.size->w'.heap[b]?=w.heap[b]?:=fun b hb=>hgrow.block b hb (fun e=>by cases e)
 obtain ⟨hs1,hup⟩:=h.newKey (w':=w') (p:=.row v' 0) (blk:=.rowT 0 e c true fr2 zs) (Nat.lt_of_lt_of_le hdn (Nat.le_trans h.small (by decide))) hkd hgrow.os hgrow.tape hgrow.output hgrow.size hgold
    (fun b hb=>by
     have hb':v'.ownBlock=some b:=hb
     rcases hob with h1 | h1
     . rw [h1] at hb'; cases hb'
     . rw [h1] at hb'
       have hlt':=hlt w.heap.size h1
       obtain rfl:w.heap.size=b:=by simpa using hb'
       exact ⟨Nat.le_refl _,hlt'⟩)
    ⟨rfl,fun r hr=>by obtain ⟨t,_,rfl⟩:=List.mem_map.1 hr; exact zeq c t,by
     rcases hrow with hr | ⟨g,cap',cur,fz,q1,q2,q3,q4,q5,rfl,q7⟩
     . exact .inl hr
     . exact .inr ⟨g,cap',cur,(0,0),q1,q2,q3,q4,q5,fun _=>rfl,fun i _=>by simp [World.frozen?,q2],q7⟩⟩
 refine ⟨_,_,hs1.put (s:=s.set d (.rowT 0 e c true fr2 zs)) ?_ (fun d' e'=>by cases e'; exact hdn)⟩
 rcases hrow with ⟨rfl,hnil⟩ | ⟨g,cap',cur,fz,rfl,q2,q3,q4,q5,q6,q7⟩
 . have:zs=[]:=by simpa using hnil
   rw [this]
   exact zlf (zak _ _ _) (Nat.le_refl _) (fun _=>⟨rfl,rfl⟩) (fun x hx=>by cases hx)
 . rw [List.length_map] at q3 ⊢
   exact zlf (zak _ _ _) q3 (fun e=>by cases e) (fun x hx=>by cases hx; exact ⟨g,rfl⟩)
end

def zStr (P:Program) (dst:Option Nat) (args:List Operand) (ats:List TypeId) (ρ:Operand->V) (m:Nat->Option Blk):Option (Tr Out) :=
 match dst,args,ats with
 | some d,[x,y],[t,t']=>match zg0 P t,P.underlying t',ρ y with
  | some e,some .string,.one (.d (.s l))=>match P.underlying e,ρ x with
   | some (.int .u8),.one (.own k ver len)=>match m k with
    | some (.rowT ver' e' 2 ap fr xs)=>match decide (ver=ver'/\e=e'/\ap=true/\P.cellsOf e=1/\(zja P e).isSome) with
     | true=>some (.grd (decide ((xs.length+l.length)*P.bytesOf e<=140737488355328/\xs.length+l.length<=maxLen)) (.ret ⟨.one (.own k (ver+1) (HAppend.hAppend (α:=List UInt8) (β:=List UInt8) xs l).length),[(k,.rowT (ver+1) e 2 true true (HAppend.hAppend (α:=List UInt8) (β:=List UInt8) xs l))]⟩))
     | false=>none
    | _=>none
   | some (.int .u8),.one .nil=>match m d,decide (P.cellsOf e=1/\(zja P e).isSome) with
    | none,true=>some (.grd (decide (l.length*P.bytesOf e<=140737488355328/\l.length<=maxLen)) (.ret ⟨.one (.own d 0 l.length),[(d,.rowT 0 e 2 true true l)]⟩))
    | _,_=>none
   | _,_=>none
  | _,_,_=>none
 | _,_,_=>none

def ziv (l:List UInt8):List (List D):=l.map fun b=>[D.i .u8 (b.toNat:Int)]
theorem zda (l:List UInt8):(ziv l).length=l.length:=by simp [ziv]
theorem z1w (l k:List UInt8):ziv (l++k)=ziv l++ziv k:=by simp [ziv]
theorem zt1 (l:List UInt8):∀ r∈ziv l,r.length=1:=by
 intro r hr
 obtain ⟨b,_,rfl⟩:=List.mem_map.1 hr
 rfl
theorem z1v {l:List UInt8} {i:Nat} {r:List D} (h:(ziv l)[i]?=some r):∃ b,l[i]?=some b/\r=[D.i .u8 (b.toNat:Int)]:=by
 unfold ziv at h
 rw [List.getElem?_map,Option.map_eq_some_iff] at h
 obtain ⟨b,hb,rfl⟩:=h
 exact ⟨b,hb,rfl⟩

theorem zfmb {P:Program} {o:Oper} {s:St} {args:Array Operand} {ats:Array TypeId} {ρ:Operand->V} {m:Nat->Option Blk} (hop:o.op=.call { callee:=.builtin .append,args:=args,argTypes:=ats }) (hρ:∀ y∈o.op.operands,s.eval y=ρ y)
   (hm:∀ k∈zad o.dst o.op ρ,s.blk k=m k) (hd:∀ d,o.dst=some d->d<s.n)
   {T:Tr Out} {E:Out} (h:zStr P o.dst args.toList ats.toList ρ m=some T) (hT:T.eval=some E):za0 P o s E:=by
 unfold zStr at h
 rw [hop] at hρ hm
 split at h
 case h_2=>cases h
 rename_i d x y t t' hdst hargs hats
 split at h
 case h_2=>cases h
 rename_i e l hte hu' hye
 have ht:=zde hte
 have hargs':=zw6 hargs
 have hats':=tArg hats
 subst hargs'; subst hats'
 have hx:s.eval x=ρ x:=hρ x (by simp [Op.operands,Call.operands])
 have hy:s.eval y=ρ y:=hρ y (by simp [Op.operands,Call.operands])
 have hkeys:∀ q∈(ρ x).keys++[d],s.blk q=m q:=fun q hq=>hm q (by
   simp only [zad,hdst,Option.toList]
   rcases List.mem_append.1 hq with h | h
   . exact List.mem_append_left _ (by simp [h])
   . exact List.mem_append_right _ h)
 have hsl:(⟨l.toArray⟩:ByteArray).size=l.length:=by simp [ByteArray.size]
 have hsrc:∀ w:World,Src P 1 t' (.string ⟨l.toArray⟩) (ziv l).length (byteCells ⟨l.toArray⟩) w:=fun w=>by
   have:=Src.ofString (P:=P) w hu' ⟨l.toArray⟩
   rw [hsl] at this
   rwa [zda]
 have hrep:∀ (w:World) (UU:Nat->Prop) (i j:Nat) (r:List D) (d:D),(ziv l)[i]?=some r->r[j]?=some d -> ∃ u,(byteCells ⟨l.toArray⟩)[i*1+j]?=some u/\RepI w UU u d:=by
   intro w UU i j r d hi hj
   obtain ⟨b,hb,rfl⟩:=z1v hi
   cases j with
   | zero =>
     simp at hj; subst hj
     refine ⟨.int .u8 b.toNat,?_,.i _ _⟩
     rw [Nat.mul_one,Nat.add_zero]
     unfold byteCells
     rw [List.getElem?_map]
     show Option.map _ l[i]?=_
     rw [hb]; rfl
   | succ j=>simp at hj
 split at h
 . rename_i k ver len he hxe
   split at h
   case h_2=>cases h
   rename_i ver' e' ap fr xs hmk
   split at h
   case h_2=>cases h
   rename_i hc
   simp only [decide_eq_true_eq] at hc
   obtain ⟨rfl,rfl,rfl,hce,hz⟩:=hc
   cases h
   obtain ⟨g1,g2⟩:=Tr.eval_grd hT
   cases g2
   simp only [decide_eq_true_eq] at g1
   obtain ⟨zs,hz⟩:=Option.isSome_iff_exists.1 hz
   have hblk:s.blk k=some (.rowT ver e 2 true fr xs):=by rw [hkeys k (by rw [hxe]; simp [V.keys,C.keys])]; exact hmk
   intro w0 U0 X β0 β U a w hs
   have hv:=hs.eval x
   rw [hx,hxe] at hv
   obtain ⟨a0,cap0,v0,ver0,hv0,hlc,hn0,hs0,hk,hle,hown⟩:=hv.toC
   obtain ⟨q1,q2,q3⟩:=hs.placeStd (sz:=1) (rows:=ziv xs) (by rw [hblk]; rfl) hk
   subst q1
   have hv1:=hown rfl
   have hvy:=hs.eval y
   rw [hy,hye] at hvy
   have hvy:=hvy.str
   have e1:(ziv xs).length=List.length (α:=τ 2) xs:=zda xs
   have e3:ziv xs++ziv l=ziv (HAppend.hAppend (α:=List UInt8) (β:=List UInt8) xs l):=(z1w xs l).symm
   obtain ⟨v',w',hrun,hgrow,hob,hlt,hrow⟩:=zkm (P:=P) (w:=w) (UU:=fun b=>U b/\(true=true->w0.heap.size<=b)) (t:=t) (tx:=t') (ty:=o.type) (sz:=1) (rows:=ziv xs) (new:=ziv l) ht hz hce.symm (by decide) (v0:=v0)
     (by
      rcases q3 with ⟨e1,e2⟩ | ⟨g,cap',cur,fz,e1,hg,h3,h4,h5,h6,h7,h8⟩
      . exact .inl ⟨e1,e2⟩
      . refine .inr ⟨g,cap',cur,fz,e1,hg,h3,h4,h5,h6 rfl,fun i j r d hi hj=>?_⟩
        obtain ⟨u,k1,k2,k3⟩:=h8 i j r d hi hj
        obtain ⟨b,hb,rfl⟩:=z1v hi
        refine ⟨u,k1,k2,?_⟩
        cases j with
        | zero=>simp at hj; subst hj; cases k3; exact .i _ _
        | succ j=>simp at hj)
     (zt1 _) (zt1 _) (hsrc w) (hrep w _) (by rw [e1,zda]; exact g1.2) (by rw [e1,zda]; exact g1.1)
     (fun b hb=>⟨hs.stab b hb.1,fun e'=>(hs.apart k _ b hk e').1 hb.1⟩)
   rw [e3] at hrow
   refine ⟨v',w',.inl ?_,?_⟩
   . simp only [execOp,hop,resolve,Sem.run_bind,Sem.run_pure,Result.andThen_ok,invoke,builtin,List.map_toArray,List.map_cons,List.map_nil,hv1,hvy,hrun]
   . exact zu6 (c:=2) (fr:=fr) hs hblk hk hgrow hob hlt hrow hd
 . rename_i he hxe
   split at h
   case h_2=>cases h
   rename_i hmd hc
   simp only [decide_eq_true_eq] at hc
   obtain ⟨hce,hz⟩:=hc
   cases h
   obtain ⟨g1,g2⟩:=Tr.eval_grd hT
   cases g2
   simp only [decide_eq_true_eq] at g1
   obtain ⟨zs,hz⟩:=Option.isSome_iff_exists.1 hz
   have hkd:s.blk d=none:=by rw [hkeys d (by simp)]; exact hmd
   intro w0 U0 X β0 β U a w hs
   have hv:=hs.eval x
   rw [hx,hxe] at hv
   have hv0:a.eval x=.slice none 0 0:=hv.toC
   have hvy:=hs.eval y
   rw [hy,hye] at hvy
   have hvy:=hvy.str
   obtain ⟨v',w',hrun,hgrow,hob,hlt,hrow⟩:=zkm (P:=P) (w:=w) (UU:=fun b=>U b/\(true=true->w0.heap.size<=b)) (t:=t) (tx:=t') (ty:=o.type) (sz:=1) (rows:=[]) (new:=ziv l) ht hz hce.symm (by decide) (v0:=.slice none 0 0)
     (.inl ⟨rfl,rfl⟩) (fun r hr=>by simp at hr) (zt1 _) (hsrc w) (hrep w _) (by rw [zda]; simpa using g1.2) (by rw [zda]; simpa using g1.1)
     (fun b hb=>⟨hs.stab b hb.1,by simp [Value.ownBlock]⟩)
   rw [List.nil_append] at hrow
   refine ⟨v',w',.inl ?_,?_⟩
   . simp only [execOp,hop,resolve,Sem.run_bind,Sem.run_pure,Result.andThen_ok,invoke,builtin,List.map_toArray,List.map_cons,List.map_nil,hv0,hvy,hrun]
   . rw [hdst]
     exact zmc (c:=2) hs hkd (hd d hdst) hgrow hob hlt hrow
 . cases h

def zjlb (P:Program) (cod:TypeId->Nat) (dst:Option Nat) (t:TypeId) (l c:Operand) (ρ:Operand->V) (m:Nat->Option Blk):Option (Tr Out) :=
 match dst,zg0 P t,ρ l,ρ c with
 | some d,some e,.one (.d (.i _ n)),.one (.d (.i _ q))=>match m d,zeroOf P e (cod t) with
  | none,some T=>some (.grd (decide (0<=n/\n<=q/\q.toNat*P.bytesOf e<=140737488355328/\q<=maxLen)) (T.bind fun z=>.ret ⟨.one (.own d 0 (List.replicate n.toNat z).length),[(d,.rowT 0 e (cod t) true true (List.replicate n.toNat z))]⟩))
  | _,_=>none
 | _,_,_,_=>none

theorem z9p {P:Program} {cod:TypeId->Nat} {o:Oper} {s:St} {t:TypeId} {l c:Operand} {ρ:Operand->V} {m:Nat->Option Blk} (hop:o.op=.makeSlice t l c) (hρ:∀ y∈o.op.operands,s.eval y=ρ y)
   (hm:∀ k∈zad o.dst o.op ρ,s.blk k=m k) (hd:∀ d,o.dst=some d->d<s.n)
   {T:Tr Out} {E:Out} (h:zjlb P cod o.dst t l c ρ m=some T) (hT:T.eval=some E):za0 P o s E:=by
 unfold zjlb at h
 rw [hop] at hρ hm
 split at h
 case h_2=>cases h
 rename_i d e kl n kc q hdst hte hle hce
 split at h
 case h_2=>cases h
 rename_i T' hmd hzero
 cases h
 obtain ⟨g1,hT⟩:=Tr.eval_grd hT
 rw [Tr.eval_bind] at hT
 obtain ⟨z,hz,g2⟩:=Option.bind_eq_some_iff.1 hT
 cases g2
 simp only [decide_eq_true_eq] at g1
 have ht:=zde hte
 have hl:s.eval l=ρ l:=hρ l (by simp [Op.operands])
 have hc:s.eval c=ρ c:=hρ c (by simp [Op.operands])
 have hkd:s.blk d=none:=by rw [hm d (by simp [zad,hdst])]; exact hmd
 intro w0 U0 X β0 β U a w hs
 obtain ⟨i,zv,hi,hzz,hzs,his,hz1,hzr⟩:=zu8 (w:=w) (UU:=fun b=>U b/\(true=true->w0.heap.size<=b)) hzero hz
 have q1:=hs.eval l; rw [hl,hle] at q1; have q1:=q1.int
 have q2:=hs.eval c; rw [hc,hce] at q2; have q2:=q2.int
 have hbi:P.bytesOf e=i.bytes:=by simp [Program.bytesOf,hi]
 have hq0:0<=q:=by omega
 have hmax:=g1.2.2.2
 have h63:q<=9223372036854775807:=by simp only [maxLen] at hmax; omega
 have hby:(i.bytes:Int)*q<=281474976710656:=by
   have:=g1.2.2.1
   rw [hbi] at this
   have e1:((q.toNat*i.bytes:Nat):Int)<=140737488355328:=by omega
   rw [Int.natCast_mul,Int.toNat_of_nonneg hq0,Int.mul_comm] at e1
   omega
 have hr:=run_make (P:=P) w t e i zv ht hi hzz kl kc n q g1.1 g1.2.1 hby h63
 have hrep:=zyt (w:=w) (by rw [hzs,his]) hzr q.toNat
 have hlen:(List.replicate n.toNat z).length=n.toNat:=List.length_replicate
 refine ⟨.slice (some ⟨w.heap.size,0,none⟩) n.toNat q.toNat,w.alloc (.cells (madeCells zv.cells (q.toNat*i.size)) e),.inl ?_,?_⟩
 . simp only [execOp,hop,q1,q2]
   exact zhu hr
 . rw [hdst]
   refine zmc (c:=cod t) hs hkd (hd d hdst) ⟨rfl,rfl,rfl,by simp,fun k hk _=>Below.heap_alloc w _ k hk⟩ (.inr rfl) (fun b hb=>?_) (.inr ⟨w.heap.size,q.toNat,_,(0,0),by rw [List.length_map,hlen],heap_alloc_new w _,by rw [List.length_map,hlen]; omega,by omega,by simp [madeCells,his],rfl,fun i' j r dd hi' hj=>?_⟩)
   . obtain rfl:w.heap.size=b:=by simpa [Value.ownBlock] using hb
     rw [size_alloc]; omega
   . have hil:i'<n.toNat:=by have:=(List.getElem?_eq_some_iff.1 hi').1; rw [List.length_map,hlen] at this; exact this
     have hi2:((List.replicate q.toNat z).map (enc (cod t)))[i']?=some r:=by
      rw [List.map_replicate,List.getElem?_replicate,if_pos hil] at hi'
      rw [List.map_replicate,List.getElem?_replicate,if_pos (by omega)]; exact hi'
     obtain ⟨u,k1,k2⟩:=hrep i' j r dd hi2 hj
     rw [hzs] at k1
     have k1':(madeCells zv.cells (q.toNat*i.size))[i'*esz (cod t)+j]?=some u:=by
      rw [<- Array.getElem?_toList]; unfold madeCells; rw [hzs]; exact k1
     refine ⟨u,k1',?_,k2.mono (fun _ hb=>hb) (fun b hb=>Below.heap_alloc w _ b (hs.stab b hb.1))⟩
     have hmem:=List.mem_of_getElem? k1
     simp only [Array.toList_map,Array.toList_range,List.mem_map] at hmem
     obtain ⟨p,hp,rfl⟩:=hmem
     have hpos:0<i.size:=by
      rcases Nat.eq_zero_or_pos i.size with h0 | h0
      . rw [h0,Nat.mul_zero] at hp; simp at hp
      . exact h0
     have hlt:p%i.size<zv.cells.size:=by rw [hzs]; exact Nat.mod_lt _ hpos
     have:zv.cells[p%i.size]! = zv.cells[p%i.size]:=by simp [hlt]
     rw [this]; exact hz1 _ (by simp)

def z9s (P:Program) (cod:TypeId->Nat) (dst:Option Nat) (t:TypeId) (len:Nat) (parts:List (Nat×Operand)) (m:Nat->Option Blk):Option (Tr Out) :=
 match dst,len,parts,zg0 P t with
 | some d,0,[],some e=>match m d,decide (esz (cod t)=P.cellsOf e/\(zja P e).isSome) with
  | none,true=>some (.ret ⟨.one (.own d 0 0),[(d,.rowT 0 e (cod t) true true [])]⟩)
  | _,_=>none
 | _,_,_,_=>none

theorem z6c {P:Program} {cod:TypeId->Nat} {o:Oper} {s:St} {t:TypeId} {len:Nat} {parts:Array (Nat×Operand)} {ρ:Operand->V} {m:Nat->Option Blk} (hop:o.op=.buildSlice t len parts)
   (hm:∀ k∈zad o.dst o.op ρ,s.blk k=m k) (hd:∀ d,o.dst=some d->d<s.n)
   {T:Tr Out} {E:Out} (h:z9s P cod o.dst t len parts.toList m=some T) (hT:T.eval=some E):za0 P o s E:=by
 unfold z9s at h
 rw [hop] at hm
 split at h
 case h_2=>cases h
 rename_i d e hdst hparts hte
 split at h
 case h_2=>cases h
 rename_i hmd hc
 simp only [decide_eq_true_eq] at hc
 obtain ⟨hsz,hz⟩:=hc
 cases h; cases hT
 have ht:=zde hte
 obtain ⟨zs,hz⟩:=Option.isSome_iff_exists.1 hz
 have hkd:s.blk d=none:=by rw [hm d (by simp [zad,hdst])]; exact hmd
 have hp:parts = #[]:=by cases parts; simp_all
 subst hp
 intro w0 U0 X β0 β U a w hs
 obtain ⟨i,z,hi,hzz,_,_,hzs⟩:=zce (w:=w) (β:=fun _=>none) (U:=fun _=>True) (base:=0) hz
 have hr:(Instr.buildSlice t 0 #[]).run P w=.ok (.slice (some ⟨w.heap.size,0,none⟩) 0 0) (w.alloc (.cells #[] e)):=by
   simp [Instr.buildSlice,run_underlying ht,sizeOf,typeInfo,zeroValue,hi,hzz,Instr.fill,newRow]
   have e0:(Array.range 0) = #[]:=Array.ext' (by simp)
   rw [e0]; simp
 refine ⟨.slice (some ⟨w.heap.size,0,none⟩) 0 0,w.alloc (.cells #[] e),.inl ?_,?_⟩
 . simp only [execOp,hop]
   exact zhu (by simpa using hr)
 . rw [hdst]
   refine zmc (c:=cod t) (zs:=[]) hs hkd (hd d hdst) ⟨rfl,rfl,rfl,by simp,fun k hk _=>Below.heap_alloc w _ k hk⟩ (.inr rfl) (fun b hb=>?_) (.inr ⟨w.heap.size,0,#[],(0,0),rfl,heap_alloc_new w _,Nat.le_refl _,Nat.zero_le _,by simp,rfl,fun i' j r dd hi' hj=>by simp at hi'⟩)
   obtain rfl:w.heap.size=b:=by simpa [Value.ownBlock] using hb
   rw [size_alloc]; omega

def zLit (P:Program) (cod:TypeId->Nat) (t:TypeId) (len:Nat) (parts:List (Nat×Operand)) (ρ:Operand->V):Option (Tr Out) :=
 match lits.contains t,zg0 P t with
 | true,some e=>match zja P e with
  | some zero=>match decide (len*zero.length<=2^24/\len<=maxLen/\0<len*zero.length/\zero.length=esz (cod t)) with
   | true=>match z3z (fun i=>some (i*zero.length,zero.length)) ((List.range (len*zero.length)).map fun i=>zero.getD (i%zero.length) .bad) (parts.map fun p=>(p.1,ρ p.2)) with
    | some cs=>match cs.mapM toD with
     | some ds=>match zn7 (cod t) (chunks len zero.length ds) with
      | some T=>some (T.bind fun ts=>.ret ⟨.one (match cs.all C.fresh with | true=>.f (.st (cod t) ts) | false=>.d (.st (cod t) ts)),[]⟩)
      | none=>none
     | none=>none
    | none=>none
   | false=>none
  | none=>none
 | _,_=>none
theorem zfqb {P : Program} {cod : TypeId -> Nat} {o : Oper} {s : St} {t : TypeId} {len : Nat} {parts : Array (Nat × Operand)} {ρ : Operand -> V} (hop : o.op = .buildSlice t len parts) (hρ : ∀ y ∈ o.op.operands, s.eval y = ρ y)
   (hd : ∀ d, o.dst = some d -> d < s.n) {T : Tr Out} {E : Out} (h : zLit P cod t len parts.toList ρ = some T) (hT : T.eval = some E) : za0 P o s E := by
 unfold zLit at h
 split at h
 case h_2 => cases h
 rename_i e _ hte
 have ht := zde hte
 split at h
 case h_2 => cases h
 rename_i zero hz
 split at h
 case h_2 => cases h
 rename_i hc
 simp only [decide_eq_true_eq] at hc
 obtain ⟨hsmall, hmax, hpos, hze⟩ := hc
 split at h
 case h_2 => cases h
 rename_i cs hfill
 split at h
 case h_2 => cases h
 rename_i ds hds
 split at h
 case h_2 => cases h
 rename_i T0 hT0
 cases h
 rw [Tr.eval_bind] at hT
 obtain ⟨ts, h1, h2⟩ := Option.bind_eq_some_iff.1 hT
 cases h2
 have hwk := zmo hT0 h1
 intro w0 U0 X β0 β U a w hs
 obtain ⟨z, i, hi, hzz, his, hzs, hzr, hz1⟩ := zvd (w := w) (β := β) (U := U) (base := w0.heap.size) hz len
 have hparts : parts.toList.map (fun p => (p.1, s.eval p.2)) = parts.toList.map (fun p => (p.1, ρ p.2)) := List.map_congr_left fun p hp => by
   rw [hρ p.2 (by rw [hop]; simp only [Op.operands]; simp; exact ⟨p.1, by simpa using hp⟩)]
 obtain ⟨us', q1, q2, q3⟩ := zk3 (w := w) (β := β) (U := U) (base := w0.heap.size) _ (parts.map fun (i, y) => (i, a.eval y)).toList (parts.toList.map fun p => (p.1, ρ p.2)) _ _ cs (by rw [<- hparts]; simpa using zig (fun y => hs.eval y) parts.toList) hzr hz1 hfill
 have hus : us'.size = len * zero.length := by
   have hl1 : us'.size = ((Array.range (len * zero.length)).map (z.cells[· % z.cells.size]!)).size := by
    exact ztj _ _ _ _ q1
   rw [hl1]; simp
 obtain ⟨hdl, hdg⟩ := znv cs ds hds
 have hcl : cs.length = len * zero.length := by have := q2.1; simp only [Array.length_toList] at this; omega
 have hs1 := hs.allocData us' e
 obtain ⟨hwl, hwg⟩ := zpl hwk
 have hlen : (ts.map (enc (cod t))).length = len := by rw [<- hwl]; exact zph _ _ _
 have hnewb : (w.alloc (.cells us' e (0, 0))).heap[w.heap.size]? = some (.cells us' e (0, 0)) := heap_alloc_new w _
 have hUold : ∀ b, U b -> (w.alloc (.cells us' e (0, 0))).heap[b]? = w.heap[b]? := fun b hb => Below.heap_alloc _ _ _ (hs.stab b hb)
 -- each cell
 have cell : ∀ (i' j : Nat) (r : List D) (d : D), (ts.map (enc (cod t)))[i']? = some r -> r[j]? = some d -> i' * esz (cod t) + j < us'.size /\ ∀ hu : i' * esz (cod t) + j < us'.size,
    RepI w (fun b => U b /\ (cs.all C.fresh = true -> w0.heap.size <= b)) us'[i' * esz (cod t) + j] d := by
   intro i' j r d hi' hj
   obtain ⟨r0, hr0, hrw⟩ := hwg i' r hi'
   obtain ⟨hl0, hg0⟩ := zq9 hrw
   obtain ⟨d0, hd0, hdw⟩ := hg0 j d hj
   obtain ⟨hlt, rfl⟩ := zpi hr0
   rw [List.getElem?_take] at hd0
   split at hd0
   case isFalse => cases hd0
   rename_i hjs
   rw [List.getElem?_drop] at hd0
   have hq : i' * zero.length + j < len * zero.length := zc0 hlt hjs
   have hu : i' * zero.length + j < us'.size := by omega
   have hcq : i' * zero.length + j < cs.length := by omega
   have hcc := hdg _ _ _ (List.getElem?_eq_getElem hcq) hd0
   have hrc := q2.2 (i' * zero.length + j) us'[i' * zero.length + j] _ (by simp [hu]) (List.getElem?_eq_getElem hcq)
   rw [<- hze]
   refine ⟨hu, fun _ => ?_⟩
   exact ((zm3 hrc hcc).mono (fun b hb => ⟨hb.1, fun e => hb.2 (List.all_eq_true.1 e _ (List.getElem_mem hcq))⟩) (fun _ _ => rfl)).wkD hdw
 have rep : ∀ (UU : Nat -> Prop), UU w.heap.size -> (∀ b, U b /\ (cs.all C.fresh = true -> w0.heap.size <= b) -> UU b) -> RepI (w.alloc (.cells us' e (0, 0))) UU (.slice (some ⟨w.heap.size, 0, none⟩) len len) (.st (cod t) ts) := by
   intro UU hU1 hU2
   refine RepI.toSt ?_
   have := RepI.sl (w := w.alloc (.cells us' e (0, 0))) (U := UU) w.heap.size 0 len (esz (cod t)) (ts.map (enc (cod t))) (fun i' j => us'.getD (i' * esz (cod t) + j) undef) hU1 (fun r hr => by
    obtain ⟨x, _, rfl⟩ := List.mem_map.1 hr
    exact zeq _ _) (by rw [hlen]; exact Nat.le_refl _) (fun i' j r d hi' hj => by
     obtain ⟨hu, _⟩ := cell i' j r d hi' hj
     simp only [World.cell?, hnewb]
     simp [hu, Nat.zero_add]) (fun i' j r d hi' hj => by
     obtain ⟨hu, hr⟩ := cell i' j r d hi' hj
     have := hr hu
     simp only [Array.getD, hu, dif_pos]
     exact this.mono hU2 (fun b hb => hUold b hb.1))
   rw [hlen] at this
   exact this
 refine ⟨.slice (some ⟨w.heap.size, 0, none⟩) len len, w.alloc (.cells us' e), .inl ?_, β, fun b => U b \/ b = w.heap.size, ?_⟩
 . simp only [execOp, hop]
   refine zhu (run_buildSlice w t e len _ us' i z ht hi hzz (by rw [his]; omega) (by rw [his]; omega) ?_)
   rw [his]
   exact q1
 . show SimB w0 U0 X β0 β _ (s.put o.dst (.one (match cs.all C.fresh with | true => .f (.st (cod t) ts) | false => .d (.st (cod t) ts)))) _ _
   refine hs1.put ?_ (by simpa using hd)
   refine .one _ _ ?_
   cases hfr : cs.all C.fresh with
   | true => exact rep (fun b => (U b \/ b = w.heap.size) /\ w0.heap.size <= b) ⟨.inr rfl, hs.baseLe⟩ (fun b hb => ⟨.inl hb.1, hb.2 hfr⟩)
   | false => exact rep (fun b => U b \/ b = w.heap.size) (.inr rfl) (fun b hb => .inl hb.1)
end Go.Proofs.YthkhikdglmaiaaaGreatDoor.Abs
namespace Go.Proofs.YthkhikdglmaiaaaGreatDoor.Abs
open Go Go.RowKit
set_option linter.unusedVariables false
set_option linter.unusedSimpArgs false

theorem z3m:∀ {kt:Nat} {kd:IntKind} (t:τ kt),keyI kt=some kd->enc kt t=[.i kd (keyN kt t)]
 | 0,kd,t,h=>by cases h; rfl
 | 27,kd,t,h=>by cases h; rfl
 | 28,kd,t,h=>by cases h; rfl
 | 1,_,_,h | 2,_,_,h | 3,_,_,h | 4,_,_,h | 5,_,_,h | 6,_,_,h | 7,_,_,h | 8,_,_,h | 9,_,_,h | 10,_,_,h | 11,_,_,h | 12,_,_,h | 13,_,_,h | 14,_,_,h | 15,_,_,h | 16,_,_,h | 17,_,_,h | 18,_,_,h | 19,_,_,h | 20,_,_,h | 21,_,_,h | 22,_,_,h | 23,_,_,h | 24,_,_,h | 25,_,_,h | 26,_,_,h=>by cases h
 | n+29,_,_,h=>by cases h
def zlo (P : Program) : Nat -> List IntKind -> List Field -> Bool
 | _, [], [] => true
 | k, kd :: ks, f :: fs => decide (f.name ≠ "_") && decide (f.offset = k) && (match P.underlying f.type with | some (.int q) => decide (q = kd) | _ => false) && zlo P (k + 1) ks fs
 | _, _, _ => false
def zet (ks:List IntKind) (us:List Int):List Value:=List.zipWith Value.int ks us
theorem zkp {P:Program} {t:TypeId} {q:IntKind} (h:P.underlying t=some (.int q)):tagg P t=false:=by
 cases ht:tagg P t with
 | false=>rfl
 | true=>rcases (zm6 P t).1 ht with ⟨fs,e⟩ | ⟨n,e',e⟩ <;> rw [h] at e <;> cases e
theorem zo8 {pre:List Value} {k:Nat} (hp:pre.length=k) (x:Value) (r:List Value):(pre++x :: r).toArray[k]?=some x:=by
 rw [List.getElem?_toArray,List.getElem?_append_right (by omega),hp,Nat.sub_self]; rfl
theorem zjgb {P:Program} {w:World} {d:Nat}:∀ (fs:List Field) (ks:List IntKind) (k:Nat) (us vs:List Int) (pre pre':List Value),zlo P k ks fs=true->us.length=ks.length->vs.length=ks.length->pre.length=k->pre'.length=k ->
  (Op.eqFields (d+1) (pre++zet ks us).toArray (pre'++zet ks vs).toArray fs).run P w=.ok (decide (us=vs)) w
 | [],[],k,us,vs,pre,pre',h,hu,hv,hp,hp'=>by
  have e1:us=[]:=List.length_eq_zero_iff.1 hu
  have e2:vs=[]:=List.length_eq_zero_iff.1 hv
  subst e1; subst e2
  simp [Op.eqFields]
 | [],kd :: ks,k,us,vs,pre,pre',h,hu,hv,hp,hp'=>by simp [zlo] at h
 | f :: fs,[],k,us,vs,pre,pre',h,hu,hv,hp,hp'=>by simp [zlo] at h
 | f :: fs,kd :: ks,k,[],vs,pre,pre',h,hu,hv,hp,hp'=>by simp at hu
 | f :: fs,kd :: ks,k,u :: us,[],pre,pre',h,hu,hv,hp,hp'=>by simp at hv
 | f :: fs,kd :: ks,k,u :: us,v :: vs,pre,pre',h,hu,hv,hp,hp'=>by
  simp only [zlo,Bool.and_eq_true,decide_eq_true_eq] at h
  obtain ⟨⟨⟨h1,h2⟩,h3⟩,h4⟩:=h
  split at h3
  case h_2=>cases h3
  rename_i q hq
  simp only [decide_eq_true_eq] at h3
  subst h3
  have ih:=zjgb (P:=P) (w:=w) (d:=d) fs ks (k+1) us vs (pre++[.int q u]) (pre'++[.int q v]) h4 (by simpa using hu) (by simpa using hv) (by simp [hp]) (by simp [hp'])
  simp only [List.append_assoc,List.singleton_append] at ih
  have p1:(part f.type (pre++zet (q :: ks) (u :: us)).toArray f.offset).run P w=.ok (.int q u) w:=zbz (zkp hq) (by rw [hq]; rfl) (by rw [h2]; exact zo8 hp _ _)
  have p2:(part f.type (pre'++zet (q :: ks) (v :: vs)).toArray f.offset).run P w=.ok (.int q v) w:=zbz (zkp hq) (by rw [hq]; rfl) (by rw [h2]; exact zo8 hp' _ _)
  have p3:=run_equalIn_int (P:=P) w d f.type q q u v hq
  unfold Op.eqFields
  rw [if_pos h1]
  simp only [Sem.run_bind,p1,p2,p3,Result.andThen_ok]
  by_cases huv:u=v
  . subst huv
    simp only [BEq.rfl,Bool.not_true,Bool.false_eq_true,if_false]
    rw [show (pre++zet (q :: ks) (u :: us))=pre++Value.int q u :: zet ks us from rfl,show (pre'++zet (q :: ks) (u :: vs))=pre'++Value.int q u :: zet ks vs from rfl,ih]
    congr 1
    simp
  . rw [show (u==v)=false by simp [huv]]
    simp only [Bool.not_false,if_true]
    simp [huv]
theorem zjib {P : Program} {w : World} {em : Bool} {d : Nat} : ∀ (fs : List Field) (ks : List IntKind) (k : Nat) (us : List Int) (pre : List Value), zlo P k ks fs = true -> us.length = ks.length -> pre.length = k ->
  (forIn fs PUnit.unit (fun f _ =>
   if f.name ≠ "_" then do
    let y <- part f.type (pre ++ zet ks us).toArray f.offset
    Instr.checkKey em (d + 1) f.type y
    pure (ForInStep.yield PUnit.unit)
   else pure (ForInStep.yield PUnit.unit)) : Sem PUnit).run P w = .ok () w
 | [], [], k, us, pre, h, hu, hp => by simp
 | [], kd :: ks, k, us, pre, h, hu, hp => by simp [zlo] at h
 | f :: fs, [], k, us, pre, h, hu, hp => by simp [zlo] at h
 | f :: fs, kd :: ks, k, [], pre, h, hu, hp => by simp at hu
 | f :: fs, kd :: ks, k, u :: us, pre, h, hu, hp => by
  simp only [zlo, Bool.and_eq_true, decide_eq_true_eq] at h
  obtain ⟨⟨⟨h1, h2⟩, h3⟩, h4⟩ := h
  split at h3
  case h_2 => cases h3
  rename_i q hq
  simp only [decide_eq_true_eq] at h3
  subst h3
  have ih := zjib (P := P) (w := w) (em := em) (d := d) fs ks (k + 1) us (pre ++ [.int q u]) h4 (by simpa using hu) (by simp [hp])
  simp only [List.append_assoc, List.singleton_append] at ih
  have p1 : (part f.type (pre ++ zet (q :: ks) (u :: us)).toArray f.offset).run P w = .ok (.int q u) w := zbz (zkp hq) (by rw [hq]; rfl) (by rw [h2]; exact zo8 hp _ _)
  have p2 : (Instr.checkKey em (d + 1) f.type (.int q u)).run P w = .ok () w := by simp [Instr.checkKey, run_underlying hq]
  simp only [List.forIn_cons, Sem.run_bind, h1, ne_eq, not_false_eq_true, if_true, Result.andThen_ok, p1, p2, Sem.run_pure]
  exact ih
theorem zo1b {P:Program} {w:World} {d:Nat} {e:TypeId} {q:IntKind} (hq:P.underlying e=some (.int q)):∀ (m k:Nat) (us vs:List Int) (pre pre':List Value),us.length=m->vs.length=m->pre.length=k->pre'.length=k ->
  (Op.eqItems (d+1) e 1 (pre++us.map (Value.int q)).toArray (pre'++vs.map (Value.int q)).toArray (List.range' k m)).run P w=.ok (decide (us=vs)) w
 | 0,k,us,vs,pre,pre',hu,hv,hp,hp'=>by
  have e1:us=[]:=List.length_eq_zero_iff.1 hu
  have e2:vs=[]:=List.length_eq_zero_iff.1 hv
  subst e1; subst e2
  simp [Op.eqItems]
 | m+1,k,[],vs,pre,pre',hu,hv,hp,hp'=>by simp at hu
 | m+1,k,u :: us,[],pre,pre',hu,hv,hp,hp'=>by simp at hv
 | m+1,k,u :: us,v :: vs,pre,pre',hu,hv,hp,hp'=>by
  have ih:=zo1b (P:=P) (w:=w) (d:=d) hq m (k+1) us vs (pre++[.int q u]) (pre'++[.int q v]) (by simpa using hu) (by simpa using hv) (by simp [hp]) (by simp [hp'])
  simp only [List.append_assoc,List.singleton_append] at ih
  have p1:(part e (pre++(u :: us).map (Value.int q)).toArray (k*1)).run P w=.ok (.int q u) w:=zbz (zkp hq) (by rw [hq]; rfl) (by rw [Nat.mul_one]; exact zo8 hp _ _)
  have p2:(part e (pre'++(v :: vs).map (Value.int q)).toArray (k*1)).run P w=.ok (.int q v) w:=zbz (zkp hq) (by rw [hq]; rfl) (by rw [Nat.mul_one]; exact zo8 hp' _ _)
  have p3:=run_equalIn_int (P:=P) w d e q q u v hq
  rw [List.range'_succ]
  simp only [Op.eqItems,Sem.run_bind,p1,p2,p3,Result.andThen_ok]
  by_cases huv:u=v
  . subst huv
    simp only [BEq.rfl,Bool.not_true,Bool.false_eq_true,if_false]
    rw [List.map_cons,List.map_cons,ih]
    congr 1
    simp
  . rw [show (u==v)=false by simp [huv]]
    simp [huv]
theorem zo8b {P:Program} {w:World} {em:Bool} {d:Nat} {e:TypeId} {q:IntKind} {i:TypeInfo} (hq:P.underlying e=some (.int q)) (hi:P.info? e=some i) (hc:P.cellsOf e=1):∀ (m k:Nat) (us:List Int) (pre:List Value),us.length=m->pre.length=k ->
  (forIn (List.range' k m) PUnit.unit (fun j _=>do
   Instr.checkKey em (d+1) e (<- part e (pre++us.map (Value.int q)).toArray (j*(<- sizeOf e)))
   pure (ForInStep.yield PUnit.unit)):Sem PUnit).run P w=.ok () w
 | 0,k,us,pre,hu,hp=>by simp
 | m+1,k,[],pre,hu,hp=>by simp at hu
 | m+1,k,u :: us,pre,hu,hp=>by
  have ih:=zo8b (P:=P) (w:=w) (em:=em) (d:=d) hq hi hc m (k+1) us (pre++[.int q u]) (by simpa using hu) (by simp [hp])
  simp only [List.append_assoc,List.singleton_append] at ih
  have p1:(part e (pre++(u :: us).map (Value.int q)).toArray (k*1)).run P w=.ok (.int q u) w:=zbz (zkp hq) (by rw [hq]; rfl) (by rw [Nat.mul_one]; exact zo8 hp _ _)
  have p2:(Instr.checkKey em (d+1) e (.int q u)).run P w=.ok () w:=by simp [Instr.checkKey,run_underlying hq]
  rw [List.range'_succ]
  simp only [List.forIn_cons,Sem.run_bind,run_sizeOf w hi,hc,Result.andThen_ok,p1,p2,Sem.run_pure]
  exact ih
theorem zhhb:∀ {kt:Nat} (t:τ kt),2<=(keyK kt).length->(keyL kt t).length=(keyK kt).length/\zcn (enc kt t)=.agg (zet (keyK kt) (keyL kt t)).toArray
 | 17,t,_=>⟨rfl,rfl⟩
 | 29,t,_=>⟨rfl,rfl⟩
 | 0,_,h | 1,_,h | 2,_,h | 3,_,h | 4,_,h | 5,_,h | 6,_,h | 7,_,h | 8,_,h | 9,_,h | 10,_,h | 11,_,h | 12,_,h | 13,_,h | 14,_,h | 15,_,h | 16,_,h | 18,_,h | 19,_,h | 20,_,h | 21,_,h | 22,_,h | 23,_,h | 24,_,h | 25,_,h | 26,_,h | 27,_,h | 28,_,h=>by simp [keyK] at h
 | n+30,_,h=>by simp [keyK] at h
theorem zs7 (q:IntKind) (n:Nat) (us:List Int) (h:us.length=n):zet (List.replicate n q) us=us.map (Value.int q):=by
 induction n generalizing us with
 | zero=>have:us=[]:=List.length_eq_zero_iff.1 h; subst this; rfl
 | succ n ih =>
  cases us with
  | nil=>simp at h
  | cons u us=>rw [List.replicate_succ]; show Value.int q u :: zet _ us=_; rw [ih us (by simpa using h)]; rfl
theorem zxc:∀ (ks:List IntKind) (us:List Int) (n:Nat),((zet ks us).zip (zet ks us)).all (fun (x,y)=>Instr.sameBits n x y)=true:=by
 intro ks us n
 have:∀ v∈zet ks us,∃ k u,v=Value.int k u:=by
  intro v hv
  unfold zet at hv
  rw [List.zipWith_eq_zipWith_take_min] at hv
  rcases List.mem_iff_getElem?.1 hv with ⟨j,hj⟩
  rw [List.getElem?_zipWith] at hj
  split at hj
  . exact ⟨_,_,(Option.some.inj hj).symm⟩
  . cases hj
 generalize zet ks us=l at this
 induction l with
 | nil=>rfl
 | cons v l ih =>
  obtain ⟨k,u,rfl⟩:=this v List.mem_cons_self
  simp only [List.zip_cons_cons,List.all_cons,ih (fun x hx=>this x (List.mem_cons_of_mem _ hx)),Bool.and_true]
  unfold Instr.sameBits
  cases n <;> simp
theorem z3n {kt:Nat} {kd:IntKind} (h:keyI kt=some kd) (a b:τ kt):zdc kt a b=decide (keyN kt a=keyN kt b):=by
 unfold zdc
 split
 . cases h
 . cases h
 . rfl
theorem zcjb:∀ {kt:Nat} (a b:τ kt),2<=(keyK kt).length->zdc kt a b=decide (keyL kt a=keyL kt b)
 | 17,a,b,_=>rfl
 | 29,a,b,_=>rfl
 | 0,_,_,h | 1,_,_,h | 2,_,_,h | 3,_,_,h | 4,_,_,h | 5,_,_,h | 6,_,_,h | 7,_,_,h | 8,_,_,h | 9,_,_,h | 10,_,_,h | 11,_,_,h | 12,_,_,h | 13,_,_,h | 14,_,_,h | 15,_,_,h | 16,_,_,h | 18,_,_,h | 19,_,_,h | 20,_,_,h | 21,_,_,h | 22,_,_,h | 23,_,_,h | 24,_,_,h | 25,_,_,h | 26,_,_,h | 27,_,_,h | 28,_,_,h=>by simp [keyK] at h
 | n+30,_,_,h=>by simp [keyK] at h
theorem zb9b {kt:Nat} {t:τ kt}:∀ {es:List (τ kt×Int)} {j:Nat},mIdx kt t es=some j -> ∃ e,es[j]?=some e/\zdc kt t e.1=true
 | e :: r,j,h=>by
  unfold mIdx at h
  split at h
  . rename_i q; cases h; exact ⟨e,rfl,q⟩
  . obtain ⟨i,hi,rfl⟩:=Option.map_eq_some_iff.1 h
    obtain ⟨e',h1,h2⟩:=zb9b hi
    exact ⟨e',by simpa using h1,h2⟩
 | [],j,h=>by cases h

structure KeyOk (P:Program) (kT:TypeId) (kt:Nat):Prop where
 check:∀ (w:World) (em:Bool) (t:τ kt),(Instr.checkKey em 10000 kT (zcn (enc kt t))).run P w=.ok () w
 find:∀ (w:World) (t:τ kt) (es:List (τ kt×Int)) (bs:List Nat),bs.length=es.length->(Instr.findKey kT (zcn (enc kt t)) (zipE kt es bs)).run P w=.ok ((mIdx kt t es).map fun j=>(j,.int .i64 (mVal es j))) w
 stays:∀ (w:World) (t:τ kt),(Instr.keyThatStays (zcn (enc kt t)) (zcn (enc kt t))).run P w=.ok (zcn (enc kt t)) w
 same:∀ (t t':τ kt),zdc kt t t'=true->zcn (enc kt t')=zcn (enc kt t)
theorem zti {kt:Nat} {kd:IntKind} (hk:keyI kt=some kd) (t:τ kt):∀ (es:List (τ kt×Int)) (bs:List Nat) (i:Nat),bs.length=es.length ->
  Instr.findNow (.int kd) (zcn (enc kt t)) (zipE kt es bs) i=some ((mIdx kt t es).map fun j=>(i+j,.int .i64 (mVal es j)))
 | [],bs,i,h=>by simp [zipE,Instr.findNow,mIdx]
 | e :: r,[],i,h=>by simp at h
 | e :: r,b :: bs,i,h=>by
  have ih:=zti hk t r bs (i+1) (by simpa using h)
  have e1:zcn (enc kt t)=.int kd (keyN kt t):=by rw [z3m t hk]; rfl
  have e2:zcn (enc kt e.1)=.int kd (keyN kt e.1):=by rw [z3m e.1 hk]; rfl
  have hz:zipE kt (e :: r) (b :: bs)=⟨zcn (enc kt e.1),.int .i64 e.2,b⟩ :: zipE kt r bs:=rfl
  rw [hz]
  unfold Instr.findNow
  simp only [e1,e2,Instr.sameNow,if_true]
  rw [e1] at ih
  by_cases hq:keyN kt t=keyN kt e.1
  . have hm:mIdx kt t (e :: r)=some 0:=by simp only [mIdx,z3n hk,hq,decide_true]
    rw [hm,show (keyN kt t==keyN kt e.1)=true by simp [hq]]
    rfl
  . have hm:mIdx kt t (e :: r)=(mIdx kt t r).map (· + 1):=by simp only [mIdx,z3n hk,hq,decide_false]
    rw [hm,show (keyN kt t==keyN kt e.1)=false by simp [hq]]
    simp only [ih,Option.map_map]
    congr 1
    cases mIdx kt t r with
    | none=>rfl
    | some j=>simp [mVal]; omega
theorem zs5 {P:Program} {kT:TypeId} {kt:Nat} {kd:IntKind} (hk:keyI kt=some kd) (hu:P.underlying kT=some (.int kd)):KeyOk P kT kt:=by
 have e:∀ t:τ kt,zcn (enc kt t)=.int kd (keyN kt t):=fun t=>by rw [z3m t hk]; rfl
 have ik:∀ t:τ kt,MapKept.IsKey (.int kd) (zcn (enc kt t)):=fun t=>by rw [e]; exact rfl
 refine ⟨fun w em t=>MapKept.run_checkKey hu (ik t) em 9999,fun w t es bs h=>?_,fun w t=>MapKept.run_keyThatStays (ik t),fun t t' h=>?_⟩
 . have:=zti hk t es bs 0 h
   simp only [Nat.zero_add] at this
   exact MapKept.run_findKey hu this
 . rw [e,e]; rw [z3n hk,decide_eq_true_eq] at h; rw [h]
theorem zdfb {P:Program} {w:World} {kT:TypeId} {kt:Nat} (heq:∀ t t':τ kt,(Op.equal kT (zcn (enc kt t)) (zcn (enc kt t'))).run P w=.ok (zdc kt t t') w) (t:τ kt):∀ (es:List (τ kt×Int)) (bs:List Nat) (i:Nat),bs.length=es.length ->
  (Instr.findAsking kT (zcn (enc kt t)) (zipE kt es bs) i).run P w=.ok ((mIdx kt t es).map fun j=>(i+j,.int .i64 (mVal es j))) w
 | [],bs,i,h=>by simp [zipE,Instr.findAsking,mIdx]
 | e :: r,[],i,h=>by simp at h
 | e :: r,b :: bs,i,h=>by
  have ih:=zdfb heq t r bs (i+1) (by simpa using h)
  have hz:zipE kt (e :: r) (b :: bs)=⟨zcn (enc kt e.1),.int .i64 e.2,b⟩ :: zipE kt r bs:=rfl
  rw [hz]
  unfold Instr.findAsking
  simp only [Sem.run_bind,heq,Result.andThen_ok]
  rcases Bool.eq_false_or_eq_true (zdc kt t e.1) with hq | hq
  . have hm:mIdx kt t (e :: r)=some 0:=by simp only [mIdx,hq]
    rw [hm,hq]
    rfl
  . have hm:mIdx kt t (e :: r)=(mIdx kt t r).map (· + 1):=by simp only [mIdx,hq]
    rw [hm,hq]
    simp only [Bool.false_eq_true,if_false,ih,Option.map_map]
    congr 1
    cases mIdx kt t r with
    | none=>rfl
    | some j=>simp [mVal]; omega
theorem z0t {P:Program} {kT:TypeId} {kt:Nat} (hk:2<=(keyK kt).length) (hwide:(∃ n e,P.underlying kT=some (.array n e)) \/ ∃ fs,P.underlying kT=some (.struct fs))
   (hck:∀ (w:World) (em:Bool) (us:List Int),us.length=(keyK kt).length->(Instr.checkKey em 10000 kT (.agg (zet (keyK kt) us).toArray)).run P w=.ok () w)
   (heq:∀ (w:World) (us vs:List Int),us.length=(keyK kt).length->vs.length=(keyK kt).length->(Op.equal kT (.agg (zet (keyK kt) us).toArray) (.agg (zet (keyK kt) vs).toArray)).run P w=.ok (decide (us=vs)) w):KeyOk P kT kt:=by
 have e:=fun t:τ kt=>zhhb t hk
 have heq':∀ (w:World) (t t':τ kt),(Op.equal kT (zcn (enc kt t)) (zcn (enc kt t'))).run P w=.ok (zdc kt t t') w:=fun w t t'=>by
   rw [(e t).2,(e t').2,zcjb t t' hk]; exact heq w _ _ (e t).1 (e t').1
 refine ⟨fun w em t=>by rw [(e t).2]; exact hck w em _ (e t).1,fun w t es bs h=>?_,fun w t=>?_,fun t t' h=>?_⟩
 . have hw0:=run_findKey_eq (P:=P) w (k:=kT) (by rcases hwide with ⟨n,e,hw⟩ | ⟨fs,hw⟩ <;> rw [hw]) (zcn (enc kt t)) (zipE kt es bs)
   rw [hw0]
   have:=zdfb (heq' w) t es bs 0 h
   simp only [Nat.zero_add] at this
   exact this
 . have hs:Instr.sameBits 10000 (zcn (enc kt t)) (zcn (enc kt t))=true:=by
    rw [(e t).2]
    show Instr.sameBits (9999+1) _ _=true
    unfold Instr.sameBits
    simp only [BEq.rfl,Bool.true_and]
    exact zxc _ _ _
   unfold Instr.keyThatStays
   rw [if_pos hs]
   simp
 . rw [(e t).2,(e t').2]
   rw [zcjb t t' hk,decide_eq_true_eq] at h
   rw [h]
def zffb (P:Program) (n:Nat) (e:TypeId):Bool:=decide (n=6)&&(match P.underlying e with | some (.int .u8)=>true | _=>false)&&(P.info? e).isSome&&decide (P.cellsOf e=1)
def z3h (P:Program) (kT:TypeId) (fs:Array Field):Bool:=zlo P 0 (keyK 17) fs.toList && !(P.stoodInHeld kT)
def za6 (P:Program) (kT:TypeId):Nat:=match P.underlying kT with
 | some (.int .i64)=>0
 | some (.int .u64)=>27
 | some (.int .u32)=>28
 | some (.array n e)=>(match zffb P n e with | true=>29 | false=>99)
 | some (.struct fs)=>(match z3h P kT fs with | true=>17 | false=>99)
 | _=>99
theorem zcib {P:Program} {kT:TypeId} {n:Nat} {e:TypeId} (hu:P.underlying kT=some (.array n e)) (h:zffb P n e=true):KeyOk P kT 29:=by
 unfold zffb at h
 simp only [Bool.and_eq_true,decide_eq_true_eq] at h
 obtain ⟨⟨⟨hn,hq⟩,hi⟩,hc⟩:=h
 subst hn
 split at hq
 case h_2=>cases hq
 rename_i hqe
 obtain ⟨i,hi⟩:=Option.isSome_iff_exists.1 hi
 refine z0t (kt:=29) (by decide) (.inl ⟨_,_,hu⟩) (fun w em us hl=>?_) (fun w us vs hl hl'=>?_)
 . show (Instr.checkKey em (9998+1+1) kT (.agg (zet (List.replicate 6 .u8) us).toArray)).run P w=_
   rw [zs7 _ 6 _ hl,Instr.checkKey]
   simp only [Sem.run_bind,run_underlying hu,Result.andThen_ok]
   simp only [Std.Legacy.Range.forIn_eq_forIn_range',Std.Legacy.Range.size,Nat.sub_zero,Nat.add_one_sub_one,Nat.div_one]
   have hz:=zo8b (P:=P) (w:=w) (em:=em) (d:=9998) hqe hi hc 6 0 us [] hl rfl
   simp only [List.nil_append] at hz
   rw [hz]
   simp
 . show (Op.equalIn (9998+1+1) kT (.agg (zet (List.replicate 6 .u8) us).toArray) (.agg (zet (List.replicate 6 .u8) vs).toArray)).run P w=_
   rw [zs7 _ 6 _ hl,zs7 _ 6 _ hl',run_equalIn_array _ _ _ _ hu hi,hc,List.range_eq_range']
   exact zo1b (d:=9998) hqe 6 0 us vs [] [] hl hl' rfl rfl
theorem zchb {P:Program} {kT:TypeId} {fs:Array Field} (hu:P.underlying kT=some (.struct fs)) (h:z3h P kT fs=true):KeyOk P kT 17:=by
 unfold z3h at h
 simp only [Bool.and_eq_true,Bool.not_eq_true'] at h
 obtain ⟨hf,hs⟩:=h
 have hfs:P.fieldsOf kT=fs:=by unfold Program.fieldsOf; rw [hu]
 refine z0t (kt:=17) (by decide) (.inr ⟨_,hu⟩) (fun w em us hl=>?_) (fun w us vs hl hl'=>?_)
 . show (Instr.checkKey em (9998+1+1) kT _).run P w=_
   rw [Instr.checkKey]
   simp only [Sem.run_bind,run_underlying hu,Result.andThen_ok]
   rw [<- Array.forIn_toList]
   have hz:=zjib (P:=P) (w:=w) (em:=em) (d:=9998) fs.toList _ 0 us [] hf hl rfl
   simp only [List.nil_append] at hz
   rw [hz]
   simp
 . show (Op.equalIn (9998+1+1) kT _ _).run P w=_
   rw [run_equalIn_struct _ _ _ _ _ (by rw [hfs]; exact hu) hs,hfs]
   exact zjgb (d:=9998) fs.toList _ 0 us vs [] [] hf hl hl' rfl rfl
theorem z5f {P:Program} {kT:TypeId} (h:za6 P kT<99):KeyOk P kT (za6 P kT):=by
 unfold za6 at h ⊢
 split
 . rename_i hu; exact zs5 rfl hu
 . rename_i hu; exact zs5 rfl hu
 . rename_i hu; exact zs5 rfl hu
 . rename_i n e hu
   split
   . rename_i ha; exact zcib hu ha
   . rename_i ha; rw [hu] at h; simp only [ha] at h; exact absurd h (by decide)
 . rename_i fs hu
   split
   . rename_i ha; exact zchb hu ha
   . rename_i ha; rw [hu] at h; simp only [ha] at h; exact absurd h (by decide)
 . rename_i h1 h2 h3 h4 h5
   split at h
   . rename_i e; exact absurd e h1
   . rename_i e; exact absurd e h2
   . rename_i e; exact absurd e h3
   . rename_i e; exact absurd e (h4 _ _)
   . rename_i e; exact absurd e (h5 _)
   . exact absurd h (by decide)
def zvz:(kt:Nat)->List D->Option (τ kt)
 | 0,[.i .i64 n]=>some n
 | 27,[.i .u64 n]=>some n
 | 28,[.i .u32 n]=>some n
 | 17,[.i .i64 a,.i .u32 b,.i .i64 c,.i .i64 d,.i .i64 e]=>some ⟨a,b,c,d,e⟩
 | 29,[.i .u8 a,.i .u8 b,.i .u8 c,.i .u8 d,.i .u8 e,.i .u8 f]=>some ⟨a,b,c,d,e,f⟩
 | _,_=>none
theorem z74 {kt:Nat} {l:List D} {t:τ kt} (h:zvz kt l=some t):l=enc kt t:=by
 unfold zvz at h
 split at h <;> first | (cases h; rfl) | cases h
theorem zkx:∀ kt:Nat,zvz kt []=none
 | 0 | 1 | 2 | 3 | 4 | 5 | 6 | 7 | 8 | 9 | 10 | 11 | 12 | 13 | 14 | 15 | 16 | 17 | 18 | 19 | 20 | 21 | 22 | 23 | 24 | 25 | 26 | 27 | 28 | 29=>rfl
 | n+30=>rfl
def z8c:List C->Option (List D)
 | []=>some []
 | .d (.i k n) :: r=>(z8c r).map (D.i k n :: ·)
 | _=>none
def many:Option (List D)->List D
 | some (a :: b :: r)=>a :: b :: r
 | _=>[]
def z5e:V->List D
 | .one (.d (.i k n))=>[.i k n]
 | .agg cs=>many (z8c cs)
 | _=>[]
theorem z0x {w:World} {β:Nat->Option Place} {U:Nat->Prop} {base:Nat}:∀ {us:List Value} {cs:List C} {l:List D},us.length=cs.length->(∀ (j:Nat) (u:Value) (c:C),us[j]?=some u->cs[j]?=some c->RepC w β U base u c)->z8c cs=some l->us=l.map dv
 | [],[],l,_,_,h=>by cases h; rfl
 | [],c :: cs,l,hl,_,h=>by simp at hl
 | u :: us,[],l,hl,_,h=>by simp at hl
 | u :: us,c :: cs,l,hl,hr,h=>by
  unfold z8c at h
  split at h
  . rename_i he; cases he
  . rename_i k n r he
    cases he
    obtain ⟨l',hl',rfl⟩:=Option.map_eq_some_iff.1 h
    have h0:=hr 0 u _ rfl rfl
    have:=z0x (us:=us) (by simpa using hl) (fun j u' c' h1 h2=>hr (j+1) u' c' h1 h2) hl'
    rw [this,List.map_cons]
    congr 1
    cases h0; rfl
  . cases h
theorem zvy {w:World} {β:Nat->Option Place} {U:Nat->Prop} {base:Nat} {v:Value} {x:V} {kt:Nat} {t:τ kt} (hx:RepV w β U base v x) (h:zvz kt (z5e x)=some t):v=zcn (enc kt t):=by
 have he:=z74 h
 unfold z5e at h he
 split at h
 . rename_i k n
   rw [<- he]
   exact hx.int
 . rename_i cs
   replace he:many (z8c cs)=enc kt t:=he
   cases hi:z8c cs with
   | none=>rw [hi] at h; simp only [many] at h; rw [zkx] at h; cases h
   | some l =>
    rw [hi] at h he
    match l,hi,h,he with
    | [],hi,h,he=>simp only [many] at h; rw [zkx] at h; cases h
    | [_],hi,h,he=>simp only [many] at h; rw [zkx] at h; cases h
    | a :: b :: r,hi,h,he =>
     rw [<- he]
     cases hx with
     | agg vs _ hl h1 hr =>
      have:=z0x (by simpa using hl) (fun j u c h1 h2=>hr j u c (by simpa using h1) h2) hi
      show Value.agg vs.toArray=.agg ((a :: b :: r).map dv).toArray
      rw [<- this]
 . rw [zkx] at h; cases h
def z10 (P:Program) (eT:TypeId):Bool:=match P.info? eT with
 | some i=>(match i.zero with
  | some (.int .i64 n)=>n==0
  | _=>false)
 | none=>false
theorem z1z {P:Program} {eT:TypeId} (h:z10 P eT=true) (w:World):(zeroValue eT).run P w=.ok (.int .i64 0) w:=by
 unfold z10 at h
 split at h
 . rename_i i hi
   split at h
   . rename_i n hz
     have:n=0:=by simpa using h
     subst this
     simp [zeroValue,typeInfo,hi,hz]
   . cases h
 . cases h

def z9o (P:Program) (dst:Option Nat) (t:TypeId) (r:Option Operand) (m:Nat->Option Blk):Option (Tr Out) :=
 match dst,r,P.underlying t with
 | some d,none,some (.map kT eT)=>match m d,decide (za6 P kT<99) with
  | none,true=>some (.ret ⟨.one (.mp d),[(d,.mp (za6 P kT) [])]⟩)
  | _,_=>none
 | _,_,_=>none
def zyu (P:Program) (t:TypeId) (x i:Operand) (ok:Bool) (ρ:Operand->V) (m:Nat->Option Blk):Option (Tr Out) :=
 match P.underlying t,ρ x with
 | some (.map kT eT),.one (.mp k)=>match m k with
  | some (.mp kt es)=>match decide (kt=za6 P kT/\za6 P kT<99/\z10 P eT=true),zvz kt (z5e (ρ i)) with
   | true,some key=>some (.ret ⟨(match ok with | true=>.tup [vi .i64 ((mGet kt key es).getD 0),vb (mGet kt key es).isSome] | false=>vi .i64 ((mGet kt key es).getD 0)),[]⟩)
   | _,_=>none
  | _=>none
 | _,_=>none
def zPut (P:Program) (t:TypeId) (x i y:Operand) (ρ:Operand->V) (m:Nat->Option Blk):Option (Tr Out) :=
 match P.underlying t,ρ x with
 | some (.map kT eT),.one (.mp k)=>match m k,ρ y with
  | some (.mp kt es),.one (.d (.i .i64 v))=>match decide (kt=za6 P kT/\za6 P kT<99),zvz kt (z5e (ρ i)) with
   | true,some key=>some (.ret ⟨.one .un,[(k,.mp kt (mPut kt key v es))]⟩)
   | _,_=>none
  | _,_=>none
 | _,_=>none
def zLen (P:Program) (args:List Operand) (ats:List TypeId) (ρ:Operand->V) (m:Nat->Option Blk):Option (Tr Out) :=
 match args,ats with
 | [x],[t]=>match P.underlying t,ρ x with
  | some (.map kT eT),.one (.mp k)=>match m k with
   | some (.mp kt es)=>some (.ret ⟨vi .i64 (es.length:Int),[]⟩)
   | _=>none
  | _,_=>none
 | _,_=>none

section
variable {P:Program} {w0:World} {U0:Nat->Prop} {X:Nat->Nat->Prop} {β0 β:Nat->Option Place} {U:Nat->Prop} {s:St} {a:Act} {w:World}

theorem SimB.placeMap (h:SimB w0 U0 X β0 β U s a w) {k kt:Nat} {es:List (τ kt×Int)} (hb:s.blk k=some (.mp kt es)) {b o:Nat} (hk:β k=some (.cells b o)):o=0 /\ ∃ (bs:List Nat) (cl:Nat),Births bs cl es.length/\w.heap[b]?=some (.map (zipE kt es bs).toArray cl):=by
 obtain ⟨p,hp,hr⟩:=h.mem k _ hb
 rw [hk] at hp; cases hp
 exact hr
theorem SimB.replMap (h:SimB w0 U0 X β0 β U s a w) {k kt:Nat} {es es':List (τ kt×Int)} (hb:s.blk k=some (.mp kt es)) {b:Nat} (hk:β k=some (.cells b 0)) {bs:List Nat} {cl:Nat} (hl:Births bs cl es'.length) :
   SimB w0 U0 X β0 (upd β k (.cells b 0)) U (s.set k (.mp kt es')) a { w with heap:=w.heap.setIfInBounds b (.map (zipE kt es' bs).toArray cl) }:=by
 obtain ⟨_,bs0,cl0,_,h0⟩:=h.placeMap hb hk
 obtain ⟨s1,s2⟩:=MapKept.heap_set (o':=Obj.map (zipE kt es' bs).toArray cl) h0
 refine h.repl (p:=.cells b 0) (p':=.cells b 0) (blk:=.mp kt es) (blk':=.mp kt es') hk hb rfl rfl rfl (by simp) (fun b' hb' hne=>?_) (fun b' j hb' hnc=>?_) (fun b' hb' hp=>.inr (.inr fun j=>?_)) (.inl rfl) (fun b' hp=>.inl hp) (fun b' j hc=>.inl hc) ⟨rfl,bs,cl,hl,s1⟩
 . exact s2 b' (fun e=>hne (by rw [e]; rfl))
 . have hne:b'≠b:=fun e=>hnc e
   have e:=s2 b' hne
   exact ⟨World.cell?_of_block (w:=w) e,World.frozen?_of_block (w:=w) e⟩
 . exact (Option.some.inj hp).symm
end
theorem z59 {P : Program} {o : Oper} {s : St} {t : TypeId} {r : Option Operand} {ρ : Operand -> V} {m : Nat -> Option Blk} (hop : o.op = .makeMap t r)
    (hm : ∀ k ∈ zad o.dst o.op ρ, s.blk k = m k) (hd : ∀ d, o.dst = some d -> d < s.n) {T : Tr Out} {E : Out} (h : z9o P o.dst t r m = some T) (hT : T.eval = some E) : za0 P o s E := by
  unfold z9o at h
  rw [hop] at hm
  split at h
  case h_2 => cases h
  rename_i d kT eT hdst hu
  split at h
  case h_2 => cases h
  rename_i hmd hkc
  cases h; cases hT
  have hblk : s.blk d = none := by rw [hm d (by simp [zad, hdst])]; exact hmd
  have hdl : d < s.n := hd d hdst
  intro w0 U0 X β0 β U a w hs
  have hsm := hs.small
  obtain ⟨q1, q2⟩ := hs.newKey (k := d) (p := .cells w.heap.size 0) (blk := .mp (za6 P kT) []) (w' := w.alloc (.map #[] 0)) (by omega) hblk rfl rfl rfl (by rw [size_alloc]; omega) (fun b hb => Below.heap_alloc _ _ _ hb)
    (fun b hb => by obtain rfl : w.heap.size = b := by simpa [Place.block] using hb
                    rw [size_alloc]; omega) ⟨rfl, [], 0, ⟨rfl, fun _ => ⟨rfl, rfl⟩⟩, heap_alloc_new w _⟩
  refine ⟨.map (some w.heap.size), w.alloc (.map #[] 0), .inl ?_, ?_⟩
  . simp only [execOp, hop, Option.map_none]
    refine zhu ?_
    simp [Instr.makeMap]
  . refine ⟨upd β d (.cells w.heap.size 0), U, ?_⟩
    show SimB w0 U0 X β0 _ U ((s.set d (.mp (za6 P kT) [])).put o.dst (.one (.mp d))) _ _
    exact q1.put (RepV.one (.map (some w.heap.size)) (.mp d) ⟨w.heap.size, zak _ _ _, rfl⟩) (by simpa using hd)

theorem zrd {P:Program} {o:Oper} {s:St} {t:TypeId} {x i:Operand} {ok:Bool} {ρ:Operand->V} {m:Nat->Option Blk} (hop:o.op=.lookup t x i ok) (hρ:∀ y∈o.op.operands,s.eval y=ρ y)
  (hm:∀ k∈zad o.dst o.op ρ,s.blk k=m k) (hd:∀ d,o.dst=some d->d<s.n) {T:Tr Out} {E:Out} (h:zyu P t x i ok ρ m=some T) (hT:T.eval=some E):za0 P o s E:=by
 unfold zyu at h
 rw [hop] at hρ hm
 split at h
 case h_2=>cases h
 rename_i kT eT k hu hxe
 split at h
 case h_2=>cases h
 rename_i kt es hmk
 split at h
 case h_2=>cases h
 rename_i key hc hkey
 simp only [decide_eq_true_eq] at hc
 obtain ⟨rfl,hlt,hz⟩:=hc
 cases h; cases hT
 have hx:s.eval x=ρ x:=hρ x (by simp [Op.operands])
 have hi:s.eval i=ρ i:=hρ i (by simp [Op.operands])
 have hblk:s.blk k=some (.mp (za6 P kT) es):=by rw [hm k (by simp [zad,hxe,V.keys,C.keys])]; exact hmk
 have K:=z5f hlt
 refine zfc hd fun w0 U0 X β0 β U a w hs=>?_
 have hv:=hs.eval x
 rw [hx,hxe] at hv
 obtain ⟨b,hk,hv⟩:=hv.toC
 have hvi:=hs.eval i
 rw [hi] at hvi
 have hvi:=zvy hvi hkey
 obtain ⟨_,bs,cl,hl,h0⟩:=hs.placeMap hblk hk
 have hf:=K.find w key es bs hl.1
 have hch:∀ em,(Instr.checkKey em 10000 kT (zcn (enc (za6 P kT) key))).run P w=.ok () w:=fun em=>K.check w em key
 have hzr:=z1z hz w
 have run:∀ (v:Int) (q:Bool),(v=((mGet (za6 P kT) key es).getD 0)/\q=(mGet (za6 P kT) key es).isSome) ->
    (Instr.lookup t (.map (some b)) (zcn (enc (za6 P kT) key)) ok).run P w=.ok (if ok then .tuple #[.int .i64 v,.bool q] else .int .i64 v) w:=by
  rintro v q ⟨rfl,rfl⟩
  unfold mGet
  cases hmi:mIdx (za6 P kT) key es with
  | none =>
    rw [hmi] at hf
    simp only [Option.map_none] at hf
    cases ok <;> simp [Instr.lookup,run_underlying hu,MapKept.run_getObj_map h0,hch,hf,hzr,Result.andThen]
  | some j =>
    rw [hmi] at hf
    simp only [Option.map_some] at hf
    cases ok <;> simp [Instr.lookup,run_underlying hu,MapKept.run_getObj_map h0,hch,hf,Result.andThen]
 cases ok with
 | true =>
  refine ⟨.tuple #[.int .i64 ((mGet (za6 P kT) key es).getD 0),.bool (mGet (za6 P kT) key es).isSome],?_,?_⟩
  . simp only [execOp,hop,hv,hvi]
    exact zhu (run _ _ ⟨rfl,rfl⟩)
  . refine .tup [_,_] [_,_] rfl fun j u x hu hx=>?_
    match j,hu,hx with
    | 0,hu,hx=>simp at hu hx; subst hu; subst hx; exact .one _ _ (.i _ _)
    | 1,hu,hx=>simp at hu hx; subst hu; subst hx; exact .one _ _ (.b _)
    | j+2,hu,hx=>simp at hu
 | false =>
  refine ⟨.int .i64 ((mGet (za6 P kT) key es).getD 0),?_,.one _ _ (.i _ _)⟩
  simp only [execOp,hop,hv,hvi]
  exact zhu (run _ _ ⟨rfl,rfl⟩)

theorem zkcb (kt:Nat):∃ f:τ kt->List Int,∀ a b:τ kt,zdc kt a b=decide (f a=f b):=by
 by_cases h1:kt=17
 . subst h1; exact ⟨keyL 17,fun a b=>rfl⟩
 . by_cases h2:kt=29
   . subst h2; exact ⟨keyL 29,fun a b=>rfl⟩
   . refine ⟨fun t=>[keyN kt t],fun a b=>?_⟩
     unfold zdc
     split
     . exact (h1 rfl).elim
     . exact (h2 rfl).elim
     . simp
theorem z0n (kt:Nat) (k:τ kt) (e:τ kt×Int) (r:List (τ kt×Int)):mGet kt k (e :: r)=if zdc kt k e.1=true then some e.2 else mGet kt k r:=by
 unfold mGet
 by_cases h:zdc kt k e.1=true
 . rw [if_pos h]
   simp only [mIdx,h]
   rfl
 . have h':zdc kt k e.1=false:=by simpa using h
   rw [if_neg h]
   simp only [mIdx,h']
   cases mIdx kt k r with
   | none=>rfl
   | some j=>simp [mVal]
theorem zi9b (kt:Nat) (k:τ kt) (v:Int) (e:τ kt×Int) (r:List (τ kt×Int)):mPut kt k v (e :: r)=if zdc kt k e.1=true then (k,v) :: r else e :: mPut kt k v r:=by
 unfold mPut
 by_cases h:zdc kt k e.1=true
 . rw [if_pos h]
   simp only [mIdx,h]
   rfl
 . have h':zdc kt k e.1=false:=by simpa using h
   rw [if_neg h]
   simp only [mIdx,h']
   cases mIdx kt k r with
   | none=>rfl
   | some j=>simp
theorem z5p {kt:Nat} (key key0:τ kt):∀ es:List (τ kt×Int),(mGet kt key (mPut kt key0 ((mGet kt key0 es).getD 0) es)).getD 0=(mGet kt key es).getD 0
 | []=>by
  show (mGet kt key [(key0,0)]).getD 0=0
  rw [z0n]
  split <;> rfl
 | e :: r=>by
  obtain ⟨f,hf⟩:=zkcb kt
  rw [z0n kt key0,z0n kt key]
  by_cases h:zdc kt key0 e.1=true
  . rw [if_pos h,zi9b,if_pos h,z0n]
    have hk:zdc kt key key0=zdc kt key e.1:=by
      rw [hf] at h
      rw [hf,hf,of_decide_eq_true h]
    simp only [hk,Option.getD_some]
  . rw [if_neg h,zi9b,if_neg h,z0n]
    have:=z5p key key0 r
    split
    . rfl
    . exact this
theorem z6a {P:Program} {o:Oper} {s:St} {t:TypeId} {x i:Operand} {ρ:Operand->V} {m:Nat->Option Blk} (hop:o.op=.lookup t x i false) (hρ:∀ y∈o.op.operands,s.eval y=ρ y)
  (hm:∀ k∈zad o.dst o.op ρ,s.blk k=m k\/Dfl (m k) (s.blk k)) (hd:∀ d,o.dst=some d->d<s.n) {T:Tr Out} {E:Out} (h:zyu P t x i false ρ m=some T) (hT:T.eval=some E):za0 P o s E:=by
 unfold zyu at h
 rw [hop] at hm
 split at h
 case h_2=>cases h
 rename_i kT eT k hu hxe
 split at h
 case h_2=>cases h
 rename_i kt es hmk
 split at h
 case h_2=>cases h
 rename_i key hc hkey
 cases h
 have hk:=hm k (by simp [zad,hxe,V.keys,C.keys])
 obtain ⟨es',e1,e2⟩:∃ es':List (τ kt×Int),s.blk k=some (.mp kt es')/\(mGet kt key es').getD 0=(mGet kt key es).getD 0:=by
  rcases hk with hk | hk | ⟨kt',es',key',h1,h2⟩
  . exact ⟨es,by rw [hk,hmk],rfl⟩
  . exact ⟨es,by rw [hk,hmk],rfl⟩
  . rw [hmk] at h1
    cases h1
    exact ⟨_,h2,z5p _ _ _⟩
 have hz:zyu P t x i false ρ s.blk=some (.ret ⟨vi .i64 ((mGet kt key es').getD 0),[]⟩):=by
  unfold zyu
  simp only [hu,hxe,e1,hc,hkey]
 rw [e2] at hz
 exact zrd hop hρ (fun k _=>rfl) hd hz hT
theorem z4l {kt:Nat} (t:τ kt) (v:Int):∀ (es:List (τ kt×Int)) (bs:List Nat) (j:Nat),bs.length=es.length->(zipE kt es bs).modify j (fun e=>{ e with key:=zcn (enc kt t),val:=.int .i64 v })=zipE kt (es.set j (t,v)) bs
 | [],bs,j,h=>by simp [zipE]
 | e :: r,[],j,h=>by simp at h
 | e :: r,b :: bs,0,h=>by simp [zipE]
 | e :: r,b :: bs,j+1,h=>by
  have:=z4l t v r bs j (by simpa using h)
  simp only [zipE,List.zipWith_cons_cons,List.set_cons_succ,List.modify_succ_cons] at this ⊢
  rw [this]
theorem z4n {kt:Nat} (t:τ kt) (v:Int) (c:Nat):∀ (es:List (τ kt×Int)) (bs:List Nat),bs.length=es.length->zipE kt es bs++[⟨zcn (enc kt t),.int .i64 v,c⟩]=zipE kt (es++[(t,v)]) (bs++[c])
 | [],[],h=>rfl
 | [],_ :: _,h=>by simp at h
 | e :: r,[],h=>by simp at h
 | e :: r,b :: bs,h=>by
  have:=z4n t v c r bs (by simpa using h)
  simp only [zipE,List.zipWith_cons_cons,List.cons_append] at this ⊢
  rw [this]
theorem z4m {kt:Nat}:∀ (es:List (τ kt×Int)) (bs:List Nat) (j:Nat) (e:τ kt×Int),bs.length=es.length->es[j]?=some e -> ∃ b,(zipE kt es bs)[j]?=some ⟨zcn (enc kt e.1),.int .i64 e.2,b⟩
 | e0 :: r,b :: bs,0,e,h,he=>by simp at he; subst he; exact ⟨b,rfl⟩
 | e0 :: r,b :: bs,j+1,e,h,he=>by
  obtain ⟨b',hb⟩:=z4m r bs j e (by simpa using h) (by simpa using he)
  exact ⟨b',by simpa [zipE] using hb⟩
 | [],bs,j,e,h,he=>by simp at he
 | e0 :: r,[],j,e,h,he=>by simp at h
theorem zflb {kt:Nat} (es:List (τ kt×Int)) (bs:List Nat) (h:bs.length=es.length):(zipE kt es bs).length=es.length:=by simp [zipE,h]

theorem Births.push {bs:List Nat} {cl n m:Nat} (h:Births bs cl n) (hm:m=n+1):Births (bs++[cl]) (cl+1) m:=by
 subst hm
 refine ⟨by simp [h.1],fun hs=>?_⟩
 obtain ⟨e1,e2⟩:=h.2 hs
 subst e2
 rw [e1]
 exact ⟨(List.range_succ).symm,rfl⟩
theorem zfnb {P:Program} {w:World} {t kT eT:TypeId} {kt:Nat} (K:KeyOk P kT kt) (hu:P.underlying t=some (.map kT eT)) {b:Nat} {es:List (τ kt×Int)} {bs:List Nat} {cl:Nat} (hl:Births bs cl es.length) (h0:w.heap[b]?=some (.map (zipE kt es bs).toArray cl)) (key:τ kt) (v:Int) :
  ∃ (bs':List Nat) (cl':Nat),Births bs' cl' (mPut kt key v es).length/\(Instr.mapUpdate t (.map (some b)) (zcn (enc kt key)) (.int .i64 v)).run P w=.ok () { w with heap:=w.heap.setIfInBounds b (.map (zipE kt (mPut kt key v es) bs').toArray cl') }:=by
 have hf:=K.find w key es bs hl.1
 have hch:=K.check w false key
 unfold mPut
 cases hmi:mIdx kt key es with
 | none =>
  rw [hmi] at hf
  refine ⟨bs++[cl],cl+1,hl.push (by simp),?_⟩
  simp only [Instr.mapUpdate,Sem.run_bind,run_underlying hu,MapKept.run_getObj_map h0,hch,Result.andThen]
  simp only [Option.map_none] at hf
  simp only [hf,Sem.run_bind,Result.andThen,MapKept.run_setObj_map _ h0]
  rw [<- z4n key v cl es bs hl.1]
  simp
 | some j =>
  rw [hmi] at hf
  obtain ⟨e,he,hq⟩:=zb9b hmi
  obtain ⟨b',hb'⟩:=z4m es bs j e hl.1 he
  have hsame:=K.same key e.1 hq
  refine ⟨bs,cl,by simpa using hl,?_⟩
  simp only [Instr.mapUpdate,Sem.run_bind,run_underlying hu,MapKept.run_getObj_map h0,hch,Result.andThen]
  simp only [Option.map_some] at hf
  have hst:=K.stays w key
  have hkk:(((zipE kt es bs).toArray[j]?).map (·.key)).getD (zcn (enc kt key))=zcn (enc kt key):=by
   rw [List.getElem?_toArray,hb']; simp [hsame]
  simp only [hf,Sem.run_bind,Result.andThen,hkk,hst,MapKept.run_setObj_map _ h0]
  rw [<- z4l key v es bs j hl.1]
  have:(zipE kt es bs).toArray.modify j (fun e=>{ e with key:=zcn (enc kt key),val:=.int .i64 v })=((zipE kt es bs).modify j (fun e=>{ e with key:=zcn (enc kt key),val:=.int .i64 v })).toArray:=by
   apply Array.toList_inj.1; simp
  rw [this]
theorem z4o {P:Program} {o:Oper} {s:St} {t:TypeId} {x i y:Operand} {ρ:Operand->V} {m:Nat->Option Blk} (hop:o.op=.mapUpdate t x i y\/o.op=.insert t x i y) (hρ:∀ y∈o.op.operands,s.eval y=ρ y)
   (hm:∀ k∈zad o.dst o.op ρ,s.blk k=m k) (hd:∀ d,o.dst=some d->d<s.n) {T:Tr Out} {E:Out} (h:zPut P t x i y ρ m=some T) (hT:T.eval=some E):za0 P o s E:=by
 unfold zPut at h
 have hops:x∈o.op.operands/\i∈o.op.operands/\y∈o.op.operands:=by rcases hop with hop | hop <;> rw [hop] <;> simp [Op.operands]
 have hkeys:zad o.dst o.op ρ=(ρ x).keys:=by rcases hop with hop | hop <;> rw [hop] <;> rfl
 rw [hkeys] at hm
 split at h
 case h_2=>cases h
 rename_i kT eT k hu hxe
 split at h
 case h_2=>cases h
 rename_i kt es v hmk hye
 split at h
 case h_2=>cases h
 rename_i key hc hkey
 simp only [decide_eq_true_eq] at hc
 obtain ⟨rfl,hlt⟩:=hc
 cases h; cases hT
 have hx:s.eval x=ρ x:=hρ x hops.1
 have hi:s.eval i=ρ i:=hρ i hops.2.1
 have hy:s.eval y=ρ y:=hρ y hops.2.2
 have hblk:s.blk k=some (.mp (za6 P kT) es):=by rw [hm k (by simp [hxe,V.keys,C.keys])]; exact hmk
 have K:=z5f hlt
 intro w0 U0 X β0 β U a w hs
 have hv:=hs.eval x
 rw [hx,hxe] at hv
 obtain ⟨b,hk,hv⟩:=hv.toC
 have hvi:=hs.eval i
 rw [hi] at hvi
 have hvi:=zvy hvi hkey
 have hvy:=hs.eval y
 rw [hy,hye] at hvy
 have hvy:=hvy.int
 obtain ⟨_,bs,cl,hl,h0⟩:=hs.placeMap hblk hk
 obtain ⟨bs',cl',hl',hrun⟩:=zfnb K hu hl h0 key v
 have hs1:=hs.replMap (es':=mPut (za6 P kT) key v es) hblk hk (bs:=bs') (cl:=cl') hl'
 refine ⟨undef,{ w with heap:=w.heap.setIfInBounds b (.map (zipE (za6 P kT) (mPut (za6 P kT) key v es) bs').toArray cl') },.inr ⟨?_,rfl⟩,upd β k (.cells b 0),U,?_⟩
 . rcases hop with hop | hop <;> simp only [execOp,hop,hv,hvi,hvy,Sem.run_bind,hrun,Result.andThen] <;> rfl
 . show SimB w0 U0 X β0 _ U ((s.set k (.mp (za6 P kT) (mPut (za6 P kT) key v es))).put o.dst (.one .un)) _ _
   exact hs1.put (RepV.one undef .un rfl) (by simpa using hd)
theorem zfrb {P:Program} {o:Oper} {s:St} {args:Array Operand} {ats:Array TypeId} {ρ:Operand->V} {m:Nat->Option Blk} (hop:o.op=.call { callee:=.builtin .len,args:=args,argTypes:=ats }) (hρ:∀ y∈o.op.operands,s.eval y=ρ y)
  (hm:∀ k∈zad o.dst o.op ρ,s.blk k=m k) (hd:∀ d,o.dst=some d->d<s.n) {T:Tr Out} {E:Out} (h:zLen P args.toList ats.toList ρ m=some T) (hT:T.eval=some E):za0 P o s E:=by
 unfold zLen at h
 rw [hop] at hρ hm
 split at h
 case h_2=>cases h
 rename_i x t hargs hats
 split at h
 case h_2=>cases h
 rename_i kT eT k hu hxe
 split at h
 case h_2=>cases h
 rename_i kt es hmk
 cases h; cases hT
 have hargs':args = #[x]:=by cases args; simp_all
 have hats':ats = #[t]:=by cases ats; simp_all
 subst hargs'; subst hats'
 have hx:s.eval x=ρ x:=hρ x (by simp [Op.operands,Call.operands])
 have hblk:s.blk k=some (.mp kt es):=by rw [hm k (by simp [zad,hxe,V.mkeys])]; exact hmk
 refine zfc hd fun w0 U0 X β0 β U a w hs=>?_
 have hv:=hs.eval x
 rw [hx,hxe] at hv
 obtain ⟨b,hk,hv⟩:=hv.toC
 obtain ⟨_,bs,cl,hl,h0⟩:=hs.placeMap hblk hk
 have hrun:(Builtin.len_ #[t] o.type #[.map (some b)]).run P w=.ok (.int .i64 (es.length:Int)) w:=by
  simp [Builtin.len_,run_underlying hu,MapKept.run_getObj_map h0,Result.andThen,goInt,zflb es bs hl.1]
 refine ⟨.int .i64 (es.length:Int),?_,.one _ _ (.i _ _)⟩
 simp only [execOp,hop,resolve,Sem.run_bind,Sem.run_pure,Result.andThen_ok,invoke,builtin,List.map_toArray,List.map_cons,List.map_nil,hv,hrun]
end Go.Proofs.YthkhikdglmaiaaaGreatDoor.Abs
namespace Go.Proofs.YthkhikdglmaiaaaGreatDoor.Abs
open Go Go.RowKit
set_option linter.unusedVariables false
set_option linter.unusedSimpArgs false
def effZ (P:Program) (cod:TypeId->Nat) (dst:Option Nat) (op:Op) (ρ:Operand->V) (m:Nat->Option Blk):Option (Tr Out) :=
 match op with
 | .slice t x lo hi mx=>match z9m P t x lo hi mx ρ with
  | some T=>some T
  | none=>match mx with
   | none=>zPre P t x lo hi ρ m
   | some _=>none
 | .convert src dst' x=>zjnb P src dst' x ρ m
 | .sliceToArrayPointer arr x=>zArr P arr x ρ
 | .load t y=>zjmb P t y ρ m
 | .binOp bop t x y _=>zNil P bop t x y ρ
 | .makeSlice t l c=>zjlb P cod dst t l c ρ m
 | .buildSlice t len parts=>match zLit P cod t len parts.toList ρ with
  | some T=>some T
  | none=>z9s P cod dst t len parts.toList m
 | .call { callee:=.builtin .append,args,argTypes } => match zApp P cod dst args.toList argTypes.toList ρ m with
  | some T=>some T
  | none=>zStr P dst args.toList argTypes.toList ρ m
 | .call { callee:=.builtin .clear,args,argTypes } => z9u P cod dst args.toList argTypes.toList ρ m
 | .makeMap t r=>z9o P dst t r m
 | .lookup t x i ok=>zyu P t x i ok ρ m
 | .mapUpdate t x i y=>zPut P t x i y ρ m
 | .insert t x i y=>zPut P t x i y ρ m
 | .call { callee:=.builtin .len,args,argTypes } => zLen P args.toList argTypes.toList ρ m
 | _=>none

theorem zhzb {P:Program} {cod:TypeId->Nat} {o:Oper} {s:St} {ρ:Operand->V} {m:Nat->Option Blk} (hρ:∀ y∈o.op.operands,s.eval y=ρ y) (hm:∀ k∈zad o.dst o.op ρ,s.blk k=m k) (hd:∀ d,o.dst=some d->d<s.n)
   {T:Tr Out} {E:Out} (h:effZ P cod o.dst o.op ρ m=some T) (hT:T.eval=some E):za0 P o s E:=by
 unfold effZ at h
 split at h
 . rename_i t x lo hi mx hop
   split at h
   . rename_i T' hz
     cases h
     exact z58 hop hρ hd hz hT
   . split at h
     . refine zfob hop hρ (fun k hk=>hm k ?_) hd h hT
       rw [hop]; exact hk
     . cases h
 . rename_i src dst' x hop
   refine z9t hop hρ (fun k hk=>hm k ?_) hd h hT
   rw [hop]; exact List.mem_append_left _ hk
 . rename_i arr x hop; exact zfsb hop hρ hd h hT
 . rename_i t y hop
   refine z9q hop hρ (fun k hk=>hm k ?_) hd h hT
   rw [hop]; exact hk
 . rename_i bop t x y ty hop; exact zfpb hop hρ hd h hT
 . rename_i t l c hop; exact z9p hop hρ hm hd h hT
 . rename_i t len parts hop
   split at h
   . rename_i T' hz
     cases h
     exact zfqb hop hρ hd hz hT
   . exact z6c hop hm hd h hT
 . rename_i args ats hop
   split at h
   . rename_i T' hz
     cases h
     exact zftb hop hρ hm hd hz hT
   . exact zfmb hop hρ hm hd h hT
 . rename_i args ats hop; exact z6d hop hρ hm hd h hT
 . rename_i t r hop; exact z59 hop hm hd h hT
 . rename_i t x i ok hop; exact zrd hop hρ hm hd h hT
 . rename_i t x i y hop; exact z4o (.inl hop) hρ hm hd h hT
 . rename_i t x i y hop; exact z4o (.inr hop) hρ hm hd h hT
 . rename_i args ats hop; exact zfrb hop hρ hm hd h hT
 . cases h

end Go.Proofs.YthkhikdglmaiaaaGreatDoor.Abs
