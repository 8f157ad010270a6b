/- Texts towards the law HouseRight, put together (part 3): an abstract walk and its proof, functions of the program as trees, and plain laws. Conditions: none. -/
import Derived.LoopN
import Derived.Test.YthkhikdglmaiaaaGreatDoorProg
import Derived.KernelRfl
import Derived.Lib.TrailingZeros
import Derived.Laws.Bits64b
import Derived.WalkKit
import Derived.Test.YthkhikdglmaiaaaGreatDoorK2
set_option linter.unusedSimpArgs false
set_option linter.unusedVariables false
set_option maxRecDepth 100000
namespace Go.Proofs.YthkhikdglmaiaaaGreatDoor.Abs
open Go Go.RowKit
set_option linter.unusedVariables false
set_option linter.unusedSimpArgs false
abbrev Mem:=List (Nat×Blk)

inductive PD where
 | i (k:IntKind)
 | b
 | s
 | st (c:Nat)
def PdsT:List PD->Type->Type
 | [],R=>R
 | .i _ :: ps,R=>Int×PdsT ps R
 | .b :: ps,R=>Bool×PdsT ps R
 | .s :: ps,R=>List UInt8×PdsT ps R
 | .st c :: ps,R=>List (τ c)×PdsT ps R
def zcc:(ps:List PD) -> {R:Type} -> PdsT ps R->List D×R
 | [],_,r=>([],r)
 | .i k :: ps,_,(n,x)=>(.i k n :: (zcc ps x).1,(zcc ps x).2)
 | .b :: ps,_,(n,x)=>(.b n :: (zcc ps x).1,(zcc ps x).2)
 | .s :: ps,_,(n,x)=>(.s n :: (zcc ps x).1,(zcc ps x).2)
 | .st c :: ps,_,(n,x)=>(.st c n :: (zcc ps x).1,(zcc ps x).2)
def zkh (c k:Nat) (xs:List (τ k)):Option (List (τ c)):=if h:k=c then some (h ▸ xs) else none
theorem zob {c k:Nat} {xs:List (τ k)} {ys:List (τ c)} (h:zkh c k xs=some ys):D.st k xs=D.st c ys:=by
 unfold zkh at h
 split at h
 . rename_i e; subst e; cases h; rfl
 . cases h
def zuy:(ps:List PD)->List D->Option (∀ R:Type,R->PdsT ps R)
 | [],[]=>some fun _ r=>r
 | .i k :: ps,d :: ds=>match d,zuy ps ds with
  | .i k' n,some g=>if k=k' then some fun R r=>(n,g R r) else none
  | _,_=>none
 | .b :: ps,d :: ds=>match d,zuy ps ds with
  | .b n,some g=>some fun R r=>(n,g R r)
  | _,_=>none
 | .s :: ps,d :: ds=>match d,zuy ps ds with
  | .s n,some g=>some fun R r=>(n,g R r)
  | _,_=>none
 | .st c :: ps,d :: ds=>match d,zuy ps ds with
  | .st k xs,some g=>match zkh c k xs with
   | some ys=>some fun R r=>(ys,g R r)
   | none=>none
  | _,_=>none
 | _,_=>none
theorem zj4:∀ {ps:List PD} {ds:List D} {g:∀ R:Type,R->PdsT ps R},zuy ps ds=some g -> ∀ (R:Type) (r:R),zcc ps (g R r)=(ds,r)
 | [],[],g,h,R,r=>by cases h; rfl
 | [],_ :: _,g,h,R,r=>by cases h
 | .i k :: ps,[],g,h,R,r=>by cases h
 | .b :: ps,[],g,h,R,r=>by cases h
 | .s :: ps,[],g,h,R,r=>by cases h
 | .st c :: ps,[],g,h,R,r=>by cases h
 | .i k :: ps,d :: ds,g,h,R,r=>by
  unfold zuy at h
  split at h
  . rename_i k' n g' hg
    split at h
    . rename_i e; subst e; cases h
      simp only [zcc,zj4 hg R r]
    . cases h
  . cases h
 | .b :: ps,d :: ds,g,h,R,r=>by
  unfold zuy at h
  split at h
  . rename_i n g' hg
    cases h
    simp only [zcc,zj4 hg R r]
  . cases h
 | .s :: ps,d :: ds,g,h,R,r=>by
  unfold zuy at h
  split at h
  . rename_i n g' hg
    cases h
    simp only [zcc,zj4 hg R r]
  . cases h
 | .st c :: ps,d :: ds,g,h,R,r=>by
  unfold zuy at h
  split at h
  . rename_i k xs g' hg
    split at h
    . rename_i ys hy
      cases h
      simp only [zcc,zj4 hg R r,zob hy]
    . cases h
  . cases h

inductive Pt where
 | i (k:IntKind)
 | kn (k:IntKind) (n:Nat)
 | b
 | s
 | st (c:Nat) (fr:Bool)
 | nil
 | un
 | bad
 | own (k:Nat)
 | pre (k sz:Nat)
 | pr (k sz off:Nat)
 | mp (k:Nat)
 | ptr (k off:Nat)
 | clo (f:FuncId) (ps:List PD)
 | clp (f:FuncId) (ks:List (Nat×Nat))
def Pt.T:Pt->Type->Type
 | .i _,R=>Int×R
 | .b,R=>Bool×R
 | .s,R=>List UInt8×R
 | .st c _,R=>List (τ c)×R
 | .clo _ ps,R=>PdsT ps R
 | .pre _ _,R=>Nat×R
 | .pr _ _ _,R=>Nat×R
 | .kn _ _,R=>R
 | .nil,R | .un,R | .bad,R | .own _,R | .ptr _ _,R | .clp _ _,R | .mp _,R=>R
def stC (fr:Bool) (c:Nat) (xs:List (τ c)):C:=match fr with | true=>.f (.st c xs) | false=>.d (.st c xs)
def vk (k:Nat):Nat:=match Nat.ble 1000000 k&&Nat.blt k 1500000 with | true=>1 | false=>0
def Pt.put (len:Nat->Nat):(p:Pt) -> {R:Type} -> p.T R->C×R
 | .i k,_,(n,r)=>(.d (.i k n),r)
 | .kn k n,_,r=>(.d (.i k (n:Int)),r)
 | .b,_,(x,r)=>(.d (.b x),r)
 | .s,_,(l,r)=>(.d (.s l),r)
 | .st c fr,_,(xs,r)=>(stC fr c xs,r)
 | .nil,_,r=>(.nil,r)
 | .un,_,r=>(.un,r)
 | .bad,_,r=>(.bad,r)
 | .own k,_,r=>(.own k (vk k) (len k),r)
 | .pre k sz,_,(n,r)=>(.pre k (vk k) sz n,r)
 | .pr k sz off,_,(n,r)=>(.pr k (vk k) sz n off,r)
 | .mp k,_,r=>(.mp k,r)
 | .ptr k o,_,r=>(.ptr k o,r)
 | .clo f ps,_,x=>(.clo f (zcc ps x).1,(zcc ps x).2)
 | .clp f ks,_,r=>(.clp f ks,r)
def zoyb (c:Nat) (fr:Bool):C->Option (List (τ c))
 | .d (.st k xs)=>match fr with | true=>none | false=>zkh c k xs
 | .f (.st k xs)=>zkh c k xs
 | .nil=>some []
 | _=>none
theorem zhsb {c:Nat} {fr:Bool} {x:C} {xs:List (τ c)} (h:zoyb c fr x=some xs):WkC x (stC fr c xs):=by
 cases x with
 | d d =>
  cases d with
  | st k ys =>
   cases fr with
   | true=>cases h
   | false=>exact .inl (by rw [zob (show zkh c k ys=some xs from h)]; rfl)
  | _=>cases h
 | f d =>
  cases d with
  | st k ys =>
   have:=zob (show zkh c k ys=some xs from h)
   cases fr with
   | true=>exact .inl (by rw [this]; rfl)
   | false=>exact .inr (.inr (.inr ⟨_,rfl,by rw [this]; rfl⟩))
  | _=>cases h
 | nil =>
  have:xs=[]:=by cases h; rfl
  subst this
  cases fr with
  | true=>exact .inr (.inr (.inl ⟨rfl,.inr (.inr ⟨c,rfl⟩)⟩))
  | false=>exact .inr (.inr (.inl ⟨rfl,.inr (.inl ⟨c,rfl⟩)⟩))
 | _=>cases h
abbrev Ob:=List (Nat×Nat)
def Pt.get:(p:Pt)->C->Option (Ob × ∀ R:Type,R->p.T R)
 | .i k,c=>match c with
  | .d (.i k' n)=>if k=k' then some ([],fun _ r=>(n,r)) else none
  | _=>none
 | .kn k n,c=>match c with
  | .d (.i k' m)=>if k=k'/\m=(n:Int) then some ([],fun _ r=>r) else none
  | _=>none
 | .b,c=>match c with
  | .d (.b x)=>some ([],fun _ r=>(x,r))
  | _=>none
 | .s,c=>match c with
  | .d (.s l)=>some ([],fun _ r=>(l,r))
  | _=>none
 | .st q fr,c=>match zoyb q fr c with
  | some xs=>some ([],fun _ r=>(xs,r))
  | none=>none
 | .nil,c=>match c with
  | .nil=>some ([],fun _ r=>r)
  | _=>none
 | .un,c=>match c with
  | .un=>some ([],fun _ r=>r)
  | _=>none
 | .bad,_=>some ([],fun _ r=>r)
 | .own k,c=>match c with
  | .own k' ver len=>if k=k'/\ver=vk k then some ([(k,len)],fun _ r=>r) else none
  | _=>none
 | .pre k sz,c=>match c with
  | .pre k' ver sz' len=>if k=k'/\ver=vk k/\sz=sz' then some ([],fun _ r=>(len,r)) else none
  | _=>none
 | .pr k sz off,c=>match c with
  | .pr k' ver sz' ix off'=>if k=k'/\ver=vk k/\sz=sz'/\off=off' then some ([],fun _ r=>(ix,r)) else none
  | _=>none
 | .mp k,c=>match c with
  | .mp k'=>if k=k' then some ([],fun _ r=>r) else none
  | _=>none
 | .ptr k o,c=>match c with
  | .ptr k' o'=>if k=k'/\o=o' then some ([],fun _ r=>r) else none
  | _=>none
 | .clo f ps,c=>match c with
  | .clo f' ds=>if f=f' then match zuy ps ds with
   | some g=>some ([],g)
   | none=>none
   else none
  | _=>none
 | .clp f ks,c=>match c with
  | .clp f' ks'=>if f=f'/\ks=ks' then some ([],fun _ r=>r) else none
  | _=>none
def ObOk (len:Nat->Nat) (l:Ob):Prop:=∀ q∈l,q.2=len q.1
theorem Pt.get_put {len:Nat->Nat} {p:Pt} {c:C} {l:Ob} {g:∀ R:Type,R->p.T R} (h:p.get c=some (l,g)) (ho:ObOk len l) (R:Type) (r:R):(p.put len (g R r)).2=r/\WkC c (p.put len (g R r)).1:=by
 cases p with
 | i k =>
  simp only [Pt.get] at h
  split at h
  . split at h
    . rename_i e; subst e; cases h; exact ⟨rfl,.inl rfl⟩
    . cases h
  . cases h
 | kn k n =>
  simp only [Pt.get] at h
  split at h
  . split at h
    . rename_i e; obtain ⟨rfl,rfl⟩:=e; cases h; exact ⟨rfl,.inl rfl⟩
    . cases h
  . cases h
 | b=>simp only [Pt.get] at h; split at h; (cases h; exact ⟨rfl,.inl rfl⟩); cases h
 | s=>simp only [Pt.get] at h; split at h; (cases h; exact ⟨rfl,.inl rfl⟩); cases h
 | st q fr =>
  simp only [Pt.get] at h
  split at h
  . rename_i xs hx; cases h; exact ⟨rfl,zhsb hx⟩
  . cases h
 | nil=>simp only [Pt.get] at h; split at h; (cases h; exact ⟨rfl,.inl rfl⟩); cases h
 | un=>simp only [Pt.get] at h; split at h; (cases h; exact ⟨rfl,.inl rfl⟩); cases h
 | bad=>simp only [Pt.get] at h; cases h; exact ⟨rfl,.inr (.inl rfl)⟩
 | own k =>
  simp only [Pt.get] at h
  split at h
  . split at h
    . rename_i k' ver n e
      obtain ⟨rfl,rfl⟩:=e
      cases h
      refine ⟨rfl,.inl ?_⟩
      have:=ho (k,n) (by simp)
      simp only at this
      rw [this]; rfl
    . cases h
  . cases h
 | pre k sz =>
  simp only [Pt.get] at h
  split at h
  . split at h
    . rename_i e; obtain ⟨rfl,rfl,rfl⟩:=e; cases h; exact ⟨rfl,.inl rfl⟩
    . cases h
  . cases h
 | pr k sz off =>
  simp only [Pt.get] at h
  split at h
  . split at h
    . rename_i e; obtain ⟨rfl,rfl,rfl,rfl⟩:=e; cases h; exact ⟨rfl,.inl rfl⟩
    . cases h
  . cases h
 | mp k =>
  simp only [Pt.get] at h
  split at h
  . split at h
    . rename_i e; subst e; cases h; exact ⟨rfl,.inl rfl⟩
    . cases h
  . cases h
 | ptr k o =>
  simp only [Pt.get] at h
  split at h
  . split at h
    . rename_i e; obtain ⟨rfl,rfl⟩:=e; cases h; exact ⟨rfl,.inl rfl⟩
    . cases h
  . cases h
 | clp f ks =>
  simp only [Pt.get] at h
  split at h
  . split at h
    . rename_i e; obtain ⟨rfl,rfl⟩:=e; cases h; exact ⟨rfl,.inl rfl⟩
    . cases h
  . cases h
 | clo f ps =>
  simp only [Pt.get] at h
  split at h
  . split at h
    . rename_i e; subst e
      split at h
      . rename_i g' hg; cases h
        have:=zj4 hg R r
        refine ⟨by simp only [Pt.put]; rw [this],.inl ?_⟩
        simp only [Pt.put]; rw [this]
      . cases h
    . cases h
  . cases h

def PtsT:List Pt->Type->Type
 | [],R=>R
 | p :: ps,R=>p.T (PtsT ps R)
def zhd (len:Nat->Nat):(ps:List Pt) -> {R:Type} -> PtsT ps R->List C×R
 | [],_,r=>([],r)
 | p :: ps,_,x=>((p.put len x).1 :: (zhd len ps (p.put len x).2).1,(zhd len ps (p.put len x).2).2)
def zte:(ps:List Pt)->List C->Option (Ob × ∀ R:Type,R->PtsT ps R)
 | [],[]=>some ([],fun _ r=>r)
 | p :: ps,c :: cs=>match p.get c,zte ps cs with
  | some (l1,g1),some (l2,g2)=>some (l1++l2,fun R r=>g1 _ (g2 R r))
  | _,_=>none
 | _,_=>none
theorem ObOk.left {len:Nat->Nat} {l1 l2:Ob} (h:ObOk len (l1++l2)):ObOk len l1:=fun q hq=>h q (List.mem_append_left _ hq)
theorem ObOk.right {len:Nat->Nat} {l1 l2:Ob} (h:ObOk len (l1++l2)):ObOk len l2:=fun q hq=>h q (List.mem_append_right _ hq)
theorem zo9 {len:Nat->Nat}:∀ {ps:List Pt} {cs:List C} {l:Ob} {g:∀ R:Type,R->PtsT ps R},zte ps cs=some (l,g)->ObOk len l -> ∀ (R:Type) (r:R),(zhd len ps (g R r)).2=r/\WkCs cs (zhd len ps (g R r)).1
 | [],[],l,g,h,ho,R,r=>by cases h; exact ⟨rfl,trivial⟩
 | [],_ :: _,l,g,h,ho,R,r=>by cases h
 | _ :: _,[],l,g,h,ho,R,r=>by cases h
 | p :: ps,c :: cs,l,g,h,ho,R,r=>by
  unfold zte at h
  split at h
  . rename_i l1 g1 l2 g2 h1 h2
    cases h
    obtain ⟨a1,a2⟩:=Pt.get_put h1 ho.left _ (g2 R r)
    obtain ⟨b1,b2⟩:=zo9 h2 ho.right R r
    simp only [zhd]
    rw [a1]
    exact ⟨b1,a2,b2⟩
  . cases h
def zjwb:(ps:List Pt) -> {R:Type} -> PtsT ps R->R:=fun ps _ x=>(zhd (fun _=>0) ps x).2

inductive VP1 where
 | one (p:Pt)
 | agg (ps:List Pt)
inductive VP where
 | v (x:VP1)
 | tup (xs:List VP1)
def VP1.T:VP1->Type->Type
 | .one p,R=>p.T R
 | .agg ps,R=>PtsT ps R
def VP1.put (len:Nat->Nat):(p:VP1) -> {R:Type} -> p.T R->V×R
 | .one p,_,x=>(.one (p.put len x).1,(p.put len x).2)
 | .agg ps,_,x=>(.agg (zhd len ps x).1,(zhd len ps x).2)
def VP1.get:(p:VP1)->V->Option (Ob × ∀ R:Type,R->p.T R)
 | .one p,v=>match v with
  | .one c=>p.get c
  | _=>none
 | .agg ps,v=>match v with
  | .agg cs=>zte ps cs
  | _=>none
theorem VP1.get_put {len:Nat->Nat} {p:VP1} {u:V} {l:Ob} {g:∀ R:Type,R->p.T R} (h:p.get u=some (l,g)) (ho:ObOk len l) (R:Type) (r:R):(p.put len (g R r)).2=r/\WkV u (p.put len (g R r)).1:=by
 cases p with
 | one p =>
  cases u with
  | one c =>
   have h':p.get c=some (l,g):=h
   have:=Pt.get_put (len:=len) h' ho R r
   exact ⟨this.1,this.2⟩
  | agg=>cases h
  | tup=>cases h
 | agg ps =>
  cases u with
  | agg cs =>
   have h':zte ps cs=some (l,g):=h
   have:=zo9 (len:=len) h' ho R r
   exact ⟨this.1,this.2⟩
  | one=>cases h
  | tup=>cases h
def VPsT:List VP1->Type->Type
 | [],R=>R
 | p :: ps,R=>p.T (VPsT ps R)
def zgr (len:Nat->Nat):(ps:List VP1) -> {R:Type} -> VPsT ps R->List V×R
 | [],_,r=>([],r)
 | p :: ps,_,x=>((p.put len x).1 :: (zgr len ps (p.put len x).2).1,(zgr len ps (p.put len x).2).2)
def z8l:(ps:List VP1)->List V->Option (Ob × ∀ R:Type,R->VPsT ps R)
 | [],[]=>some ([],fun _ r=>r)
 | p :: ps,c :: cs=>match p.get c,z8l ps cs with
  | some (l1,g1),some (l2,g2)=>some (l1++l2,fun R r=>g1 _ (g2 R r))
  | _,_=>none
 | _,_=>none
theorem ztd {len:Nat->Nat}:∀ {ps:List VP1} {cs:List V} {l:Ob} {g:∀ R:Type,R->VPsT ps R},z8l ps cs=some (l,g)->ObOk len l -> ∀ (R:Type) (r:R),(zgr len ps (g R r)).2=r/\WkVs cs (zgr len ps (g R r)).1
 | [],[],l,g,h,ho,R,r=>by cases h; exact ⟨rfl,trivial⟩
 | [],_ :: _,l,g,h,ho,R,r=>by cases h
 | _ :: _,[],l,g,h,ho,R,r=>by cases h
 | p :: ps,c :: cs,l,g,h,ho,R,r=>by
  unfold z8l at h
  split at h
  . rename_i l1 g1 l2 g2 h1 h2
    cases h
    obtain ⟨a1,a2⟩:=VP1.get_put h1 ho.left _ (g2 R r)
    obtain ⟨b1,b2⟩:=ztd h2 ho.right R r
    simp only [zgr]
    rw [a1]
    exact ⟨b1,a2,b2⟩
  . cases h
def WkX (x y:V):Prop:=WkV x y \/ ∃ vs vs',x=.tup vs/\y=.tup vs'/\WkVs vs vs'
def VP.T:VP->Type->Type
 | .v p,R=>p.T R
 | .tup ps,R=>VPsT ps R
def VP.put (len:Nat->Nat):(p:VP) -> {R:Type} -> p.T R->V×R
 | .v p,_,x=>p.put len x
 | .tup ps,_,x=>(.tup (zgr len ps x).1,(zgr len ps x).2)
def VP.get:(p:VP)->V->Option (Ob × ∀ R:Type,R->p.T R)
 | .v p,u=>p.get u
 | .tup ps,u=>match u with
  | .tup vs=>z8l ps vs
  | _=>none
theorem VP.get_put {len:Nat->Nat} {p:VP} {u:V} {l:Ob} {g:∀ R:Type,R->p.T R} (h:p.get u=some (l,g)) (ho:ObOk len l) (R:Type) (r:R):(p.put len (g R r)).2=r/\WkX u (p.put len (g R r)).1:=by
 cases p with
 | v p =>
  have h':p.get u=some (l,g):=h
  have:=VP1.get_put (len:=len) h' ho R r
  exact ⟨this.1,.inl this.2⟩
 | tup ps =>
  cases u with
  | tup us =>
   have h':z8l ps us=some (l,g):=h
   have:=ztd (len:=len) h' ho R r
   exact ⟨this.1,.inr ⟨_,_,rfl,rfl,this.2⟩⟩
  | one=>cases h
  | agg=>cases h

def EnvT:List (Nat×VP)->Type->Type
 | [],R=>R
 | p :: ps,R=>p.2.T (EnvT ps R)
def zfl (len:Nat->Nat):(ps:List (Nat×VP)) -> {R:Type} -> EnvT ps R->List (Nat×V)×R
 | [],_,r=>([],r)
 | p :: ps,_,x=>((p.1,(p.2.put len x).1) :: (zfl len ps (p.2.put len x).2).1,(zfl len ps (p.2.put len x).2).2)
def z5o:(ps:List (Nat×VP))->List (Nat×V)->Option (Ob × ∀ R:Type,R->EnvT ps R)
 | [],[]=>some ([],fun _ r=>r)
 | p :: ps,c :: cs=>match Nat.beq p.1 c.1,p.2.get c.2,z5o ps cs with
  | true,some (l1,g1),some (l2,g2)=>some (l1++l2,fun R r=>g1 _ (g2 R r))
  | _,_,_=>none
 | _,_=>none
def EnvWk:List (Nat×V)->List (Nat×V)->Prop
 | [],[]=>True
 | c :: cs,d :: ds=>c.1=d.1/\WkX c.2 d.2/\EnvWk cs ds
 | _,_=>False
theorem zpa {len:Nat->Nat}:∀ {ps:List (Nat×VP)} {cs:List (Nat×V)} {l:Ob} {g:∀ R:Type,R->EnvT ps R},z5o ps cs=some (l,g)->ObOk len l -> ∀ (R:Type) (r:R),(zfl len ps (g R r)).2=r/\EnvWk cs (zfl len ps (g R r)).1
 | [],[],l,g,h,ho,R,r=>by cases h; exact ⟨rfl,trivial⟩
 | [],_ :: _,l,g,h,ho,R,r=>by cases h
 | _ :: _,[],l,g,h,ho,R,r=>by cases h
 | p :: ps,c :: cs,l,g,h,ho,R,r=>by
  unfold z5o at h
  split at h
  . rename_i l1 g1 l2 g2 h0 h1 h2
    cases h
    obtain ⟨a1,a2⟩:=VP.get_put h1 ho.left _ (g2 R r)
    obtain ⟨b1,b2⟩:=zpa h2 ho.right R r
    simp only [zfl]
    rw [a1]
    exact ⟨b1,(Nat.eq_of_beq_eq_true h0).symm,a2,b2⟩
  . cases h
inductive BP where
 | cells (ps:List Pt)
 | row (e:TypeId) (c:Nat) (ap fr:Bool)
 | map (kt:Nat)
 | junk (e:TypeId) (sz:Nat)
def BP.T:BP->Type->Type
 | .junk _ _,R=>Nat×R
 | .map kt,R=>List (τ kt×Int)×R
 | .cells ps,R=>PtsT ps R
 | .row _ c _ _,R=>List (τ c)×R
def BP.put (len:Nat->Nat) (k:Nat):(p:BP) -> {R:Type} -> p.T R->Blk×R
 | .cells ps,_,x=>(.cells (zhd len ps x).1,(zhd len ps x).2)
 | .row e c ap fr,_,(xs,r)=>(.rowT (vk k) e c ap fr xs,r)
 | .map kt,_,(es,r)=>(.mp kt es,r)
 | .junk e sz,_,(n,r)=>(.junk (vk k) e sz (len k) n,r)
def zc7b (k:Nat) (e:TypeId) (sz:Nat):Blk->Option (Nat×Nat)
 | .junk ver e' sz' l n=>if ver=vk k/\e=e'/\sz=sz' then some (l,n) else none
 | _=>none
theorem zhub {k:Nat} {e:TypeId} {sz:Nat} {b:Blk} {l n:Nat} (h:zc7b k e sz b=some (l,n)):b=.junk (vk k) e sz l n:=by
 cases b with
 | junk ver e' sz' l' n' =>
  have h':(if ver=vk k/\e=e'/\sz=sz' then some (l',n') else none)=some (l,n):=h
  split at h'
  . rename_i q; obtain ⟨rfl,rfl,rfl⟩:=q; cases h'; rfl
  . cases h'
 | cells=>exact absurd (show (none:Option (Nat×Nat))=some (l,n) from h) (by simp)
 | row=>exact absurd (show (none:Option (Nat×Nat))=some (l,n) from h) (by simp)
 | rowT=>exact absurd (show (none:Option (Nat×Nat))=some (l,n) from h) (by simp)
 | mp=>exact absurd (show (none:Option (Nat×Nat))=some (l,n) from h) (by simp)
def zc6b (kt:Nat):Blk->Option (List (τ kt×Int))
 | .mp kt' es=>if h:kt'=kt then some (h ▸ es) else none
 | _=>none
theorem zhtb {kt:Nat} {b:Blk} {es:List (τ kt×Int)} (h:zc6b kt b=some es):b=.mp kt es:=by
 cases b with
 | mp kt' es' =>
  have h':(if h:kt'=kt then some (h ▸ es') else none)=some es:=h
  split at h'
  . rename_i e; subst e; cases h'; rfl
  . cases h'
 | cells=>exact absurd (show (none:Option (List (τ kt×Int)))=some es from h) (by simp)
 | row=>exact absurd (show (none:Option (List (τ kt×Int)))=some es from h) (by simp)
 | rowT=>exact absurd (show (none:Option (List (τ kt×Int)))=some es from h) (by simp)
 | junk=>exact absurd (show (none:Option (List (τ kt×Int)))=some es from h) (by simp)
def z03 (k:Nat) (e:TypeId) (c:Nat) (ap fr:Bool):Blk->Option (List (τ c))
 | .rowT ver e' c' ap' fr' xs=>if ver=vk k/\e=e'/\ap=ap'/\fr=fr' then zkh c c' xs else none
 | _=>none
theorem zc5b {k:Nat} {e:TypeId} {c:Nat} {ap fr:Bool} {b:Blk} {ys:List (τ c)} (h:z03 k e c ap fr b=some ys):b=.rowT (vk k) e c ap fr ys:=by
 cases b with
 | rowT ver e' c' ap' fr' xs =>
  have h':(if ver=vk k/\e=e'/\ap=ap'/\fr=fr' then zkh c c' xs else none)=some ys:=h
  by_cases e1:ver=vk k/\e=e'/\ap=ap'/\fr=fr'
  . rw [if_pos e1] at h'
    obtain ⟨rfl,rfl,rfl,rfl⟩:=e1
    unfold zkh at h'
    split at h'
    . rename_i e; subst e; cases h'; rfl
    . cases h'
  . rw [if_neg e1] at h'; cases h'
 | cells=>exact absurd (show (none:Option (List (τ c)))=some ys from h) (by simp)
 | mp=>exact absurd (show (none:Option (List (τ c)))=some ys from h) (by simp)
 | row=>exact absurd (show (none:Option (List (τ c)))=some ys from h) (by simp)
 | junk=>exact absurd (show (none:Option (List (τ c)))=some ys from h) (by simp)
def BP.get (k:Nat):(p:BP)->Blk->Option (Ob × ∀ R:Type,R->p.T R)
 | .cells ps,b=>match b with
  | .cells cs=>zte ps cs
  | _=>none
 | .row e c ap fr,b=>match z03 k e c ap fr b with
  | some ys=>some ([],fun _ r=>(ys,r))
  | none=>none
 | .map kt,b=>match zc6b kt b with
  | some es=>some ([],fun _ r=>(es,r))
  | none=>none
 | .junk e sz,b=>match zc7b k e sz b with
  | some (l,n)=>some ([(k,l)],fun _ r=>(n,r))
  | none=>none
theorem WkB.blk {b b':Blk} (h:WkB b b'):BlkWk b b':=by
 refine ⟨?_,fun p x j=>zww h,fun w β U base p hr=>hr.wk h⟩
 cases b with
 | cells cs=>cases b' with
  | cells=>rfl
  | mp=>cases h
  | row=>cases h
  | rowT=>cases h
  | junk=>cases h
 | mp=>cases h; rfl
 | junk=>cases h; rfl
 | row=>cases h; rfl
 | rowT=>cases h; rfl
theorem BP.get_put {len:Nat->Nat} {k:Nat} {p:BP} {b:Blk} {l:Ob} {g:∀ R:Type,R->p.T R} (h:p.get k b=some (l,g)) (ho:ObOk len l) (R:Type) (r:R):(p.put len k (g R r)).2=r/\BlkWk b (p.put len k (g R r)).1:=by
 cases p with
 | cells ps =>
  cases b with
  | cells cs =>
   have h':zte ps cs=some (l,g):=h
   have:=zo9 (len:=len) h' ho R r
   exact ⟨this.1,WkB.blk (show WkB (.cells _) (.cells _) from this.2)⟩
  | mp=>cases h
  | row=>cases h
  | rowT=>cases h
  | junk=>cases h
 | junk e sz =>
  cases hr:zc7b k e sz b with
  | none =>
   have h':(match zc7b k e sz b with | some (l,n)=>some (([(k,l)]:Ob),fun (R:Type) (r:R)=>((n,r):Nat×R)) | none=>none)=some (l,g):=h
   rw [hr] at h'
   exact absurd h' (by simp)
  | some q =>
   obtain ⟨l0,n0⟩:=q
   have h':(match zc7b k e sz b with | some (l,n)=>some (([(k,l)]:Ob),fun (R:Type) (r:R)=>((n,r):Nat×R)) | none=>none)=some (l,g):=h
   rw [hr] at h'
   have h1:[(k,l0)]=l:=congrArg Prod.fst (Option.some.inj h')
   have h2:=congrArg Prod.snd (Option.some.inj h')
   have h3:g=fun R r=>(n0,r):=h2.symm
   subst h1; subst h3
   refine ⟨rfl,?_⟩
   have h4:l0=len k:=ho (k,l0) (by simp)
   rw [zhub hr,h4]
   exact BlkWk.rfl _
 | map kt =>
  cases hr:zc6b kt b with
  | none =>
   have h':(match zc6b kt b with | some es=>some (([]:Ob),fun (R:Type) (r:R)=>((es,r):List (τ kt×Int)×R)) | none=>none)=some (l,g):=h
   rw [hr] at h'
   exact absurd h' (by simp)
  | some es =>
   have h':(match zc6b kt b with | some es=>some (([]:Ob),fun (R:Type) (r:R)=>((es,r):List (τ kt×Int)×R)) | none=>none)=some (l,g):=h
   rw [hr] at h'
   have h2:=congrArg Prod.snd (Option.some.inj h')
   have h3:g=fun R r=>(es,r):=h2.symm
   subst h3
   refine ⟨rfl,?_⟩
   rw [zhtb hr]
   exact BlkWk.rfl _
 | row e c ap fr =>
  cases hr:z03 k e c ap fr b with
  | none =>
   have h':(match z03 k e c ap fr b with | some ys=>some (([]:Ob),fun (R:Type) (r:R)=>((ys,r):List (τ c)×R)) | none=>none)=some (l,g):=h
   rw [hr] at h'
   exact absurd h' (by simp)
  | some ys =>
   have h':(match z03 k e c ap fr b with | some ys=>some (([]:Ob),fun (R:Type) (r:R)=>((ys,r):List (τ c)×R)) | none=>none)=some (l,g):=h
   rw [hr] at h'
   have h2:=congrArg Prod.snd (Option.some.inj h')
   have h3:g=fun R r=>(ys,r):=h2.symm
   subst h3
   refine ⟨rfl,?_⟩
   rw [zc5b hr]
   exact BlkWk.rfl _
def MemT:List (Nat×BP)->Type->Type
 | [],R=>R
 | p :: ps,R=>p.2.T (MemT ps R)
def zvs (len:Nat->Nat):(ps:List (Nat×BP)) -> {R:Type} -> MemT ps R->List (Nat×Blk)×R
 | [],_,r=>([],r)
 | p :: ps,_,x=>((p.1,(p.2.put len p.1 x).1) :: (zvs len ps (p.2.put len p.1 x).2).1,(zvs len ps (p.2.put len p.1 x).2).2)
def z5n:(ps:List (Nat×BP))->List (Nat×Blk)->Option (Ob × ∀ R:Type,R->MemT ps R)
 | [],[]=>some ([],fun _ r=>r)
 | p :: ps,c :: cs=>match Nat.beq p.1 c.1,p.2.get p.1 c.2,z5n ps cs with
  | true,some (l1,g1),some (l2,g2)=>some (l1++l2,fun R r=>g1 _ (g2 R r))
  | _,_,_=>none
 | _,_=>none
def MemWk:List (Nat×Blk)->List (Nat×Blk)->Prop
 | [],[]=>True
 | c :: cs,d :: ds=>c.1=d.1/\BlkWk c.2 d.2/\MemWk cs ds
 | _,_=>False
theorem zv9 {len:Nat->Nat}:∀ {ps:List (Nat×BP)} {cs:List (Nat×Blk)} {l:Ob} {g:∀ R:Type,R->MemT ps R},z5n ps cs=some (l,g)->ObOk len l -> ∀ (R:Type) (r:R),(zvs len ps (g R r)).2=r/\MemWk cs (zvs len ps (g R r)).1
 | [],[],l,g,h,ho,R,r=>by cases h; exact ⟨rfl,trivial⟩
 | [],_ :: _,l,g,h,ho,R,r=>by cases h
 | _ :: _,[],l,g,h,ho,R,r=>by cases h
 | p :: ps,c :: cs,l,g,h,ho,R,r=>by
  unfold z5n at h
  split at h
  . rename_i l1 g1 l2 g2 h0 h1 h2
    cases h
    obtain ⟨a1,a2⟩:=BP.get_put h1 ho.left _ (g2 R r)
    obtain ⟨b1,b2⟩:=zv9 h2 ho.right R r
    simp only [zvs]
    rw [a1]
    exact ⟨b1,(Nat.eq_of_beq_eq_true h0).symm,a2,b2⟩
  . cases h
def z0l:(ps:List (Nat×BP)) -> {R:Type} -> MemT ps R->Nat->Nat
 | [],_,_,_=>0
 | (q,.row e c ap fr) :: ps,_,(xs,x),k=>match Nat.beq q k with | true=>xs.length | false=>z0l ps x k
 | (q,.cells cs) :: ps,_,x,k=>z0l ps (zjwb cs x) k
 | (q,.map kt) :: ps,_,(es,x),k=>z0l ps x k
 | (q,.junk e sz) :: ps,_,(n,x),k=>match Nat.beq q k with | true=>n | false=>z0l ps x k

structure SP where
 n:Nat
 env:List (Nat×VP)
 mem:List (Nat×BP)
def SP.T (sp:SP):Type:=EnvT sp.env (MemT sp.mem Unit)
def SP.len (sp:SP) (x:sp.T):Nat->Nat:=z0l sp.mem (zfl (fun _=>0) sp.env x).2
def SP.put (sp:SP) (x:sp.T):St :=
 ⟨sp.n,(zfl (sp.len x) sp.env x).1,(zvs (sp.len x) sp.mem (zfl (sp.len x) sp.env x).2).1⟩
def SP.get (sp:SP) (s:St):Option (Ob×sp.T) :=
 match Nat.beq s.n sp.n,z5o sp.env s.env,z5n sp.mem s.mem with
 | true,some (l1,g1),some (l2,g2)=>some (l1++l2,g1 _ (g2 Unit ()))
 | _,_,_=>none
def zx6 {α:Type} (len:Nat->Nat):Ob->Tr α->Tr α
 | [],T=>T
 | (k,n) :: r,T=>.grd (decide (n=len k)) (zx6 len r T)
theorem zcx {α:Type} {len:Nat->Nat}:∀ {l:Ob} {T:Tr α} {a:α},(zx6 len l T).eval=some a->ObOk len l/\T.eval=some a
 | [],T,a,h=>⟨fun q hq=>(by cases hq),h⟩
 | (k,n) :: r,T,a,h=>by
  obtain ⟨h1,h2⟩:=Tr.eval_grd h
  obtain ⟨h3,h4⟩:=zcx h2
  refine ⟨fun q hq=>?_,h4⟩
  rcases List.mem_cons.1 hq with rfl | hq
  . simpa using h1
  . exact h3 q hq

theorem SP.get_put {sp:SP} {s:St} {l:Ob} {x:sp.T} (h:sp.get s=some (l,x)) (hob0:ObOk (sp.len x) l):s.n=(sp.put x).n/\EnvWk s.env (sp.put x).env/\MemWk s.mem (sp.put x).mem:=by
 unfold SP.get at h
 split at h
 . rename_i l1 g1 l2 g2 h0 h1 h2
   have ho:=congrArg Prod.fst (Option.some.inj h)
   have hx:=congrArg Prod.snd (Option.some.inj h)
   simp only at ho hx
   subst hx
   subst ho
   have skip0:∀ (len:Nat->Nat),ObOk len l1->(zfl len sp.env (g1 _ (g2 Unit ()))).2=g2 Unit ():=fun len hl=>(zpa h1 hl _ _).1
   have skip:∀ (len:Nat->Nat),(zfl len sp.env (g1 _ (g2 Unit ()))).2=g2 Unit ():=by
    intro len
    have e:∀ len len':Nat->Nat,(zfl len sp.env (g1 _ (g2 Unit ()))).2=(zfl len' sp.env (g1 _ (g2 Unit ()))).2:=by
     intro len len'
     have ePt:∀ (p:Pt) {R:Type} (x:p.T R),(p.put len x).2=(p.put len' x).2:=by
      intro p R x; cases p <;> rfl
     have ePts:∀ (ps:List Pt) {R:Type} (x:PtsT ps R),(zhd len ps x).2=(zhd len' ps x).2:=by
      intro ps
      induction ps with
      | nil=>intro R x; rfl
      | cons p ps ih=>intro R x; simp only [zhd]; rw [ePt p x]; exact ih _
     have eV1:∀ (p:VP1) {R:Type} (x:p.T R),(p.put len x).2=(p.put len' x).2:=by
      intro p R x
      cases p with
      | one p=>exact ePt p x
      | agg ps=>exact ePts ps x
     have eVs:∀ (ps:List VP1) {R:Type} (x:VPsT ps R),(zgr len ps x).2=(zgr len' ps x).2:=by
      intro ps
      induction ps with
      | nil=>intro R x; rfl
      | cons p ps ih=>intro R x; simp only [zgr]; rw [eV1 p x]; exact ih _
     have eV:∀ (p:VP) {R:Type} (x:p.T R),(p.put len x).2=(p.put len' x).2:=by
      intro p R x
      cases p with
      | v p=>exact eV1 p x
      | tup ps=>exact eVs ps x
     have eE:∀ (ps:List (Nat×VP)) {R:Type} (x:EnvT ps R),(zfl len ps x).2=(zfl len' ps x).2:=by
      intro ps
      induction ps with
      | nil=>intro R x; rfl
      | cons p ps ih=>intro R x; simp only [zfl]; rw [eV p.2 x]; exact ih _
     exact eE _ _
    rw [e len (sp.len (g1 _ (g2 Unit ())))]
    exact skip0 _ (fun q hq=>hob0 q (List.mem_append_left _ hq))
   have hob:∀ q∈l1++l2,q.2=sp.len (g1 _ (g2 Unit ())) q.1:=hob0
   refine ⟨Nat.eq_of_beq_eq_true h0,(zpa h1 (fun q hq=>hob q (List.mem_append_left _ hq)) _ _).2,?_⟩
   unfold SP.put
   simp only
   rw [skip]
   exact (zv9 h2 (fun q hq=>hob q (List.mem_append_right _ hq)) _ _).2
 . cases h

theorem EnvWk.get:∀ {cs ds:List (Nat×V)},EnvWk cs ds -> ∀ t,(look t cs=none/\look t ds=none) \/ ∃ x y,look t cs=some x/\look t ds=some y/\WkX x y
 | [],[],h,t=>.inl ⟨rfl,rfl⟩
 | c :: cs,d :: ds,h,t=>by
  obtain ⟨h1,h2,h3⟩:=h
  obtain ⟨a,b⟩:=c; obtain ⟨a',b'⟩:=d
  simp only at h1 h2; subst h1
  rw [zah,zah]
  by_cases e:a=t
  . rw [if_pos e,if_pos e]; exact .inr ⟨_,_,rfl,rfl,h2⟩
  . rw [if_neg e,if_neg e]; exact EnvWk.get h3 t
 | [],_ :: _,h,t=>h.elim
 | _ :: _,[],h,t=>h.elim
theorem MemWk.get:∀ {cs ds:List (Nat×Blk)},MemWk cs ds -> ∀ t,zfib (look t cs) (look t ds)
 | [],[],h,t=>trivial
 | c :: cs,d :: ds,h,t=>by
  obtain ⟨h1,h2,h3⟩:=h
  obtain ⟨a,b⟩:=c; obtain ⟨a',b'⟩:=d
  simp only at h1 h2; subst h1
  rw [zah,zah]
  by_cases e:a=t
  . rw [if_pos e,if_pos e]; exact h2
  . rw [if_neg e,if_neg e]; exact MemWk.get h3 t
 | [],_ :: _,h,t=>h.elim
 | _ :: _,[],h,t=>h.elim

theorem RepV.wkX {w:World} {β:Nat->Option Place} {U:Nat->Prop} {base:Nat} {v:Value} {x y:V} (h:RepV w β U base v x) (hw:WkX x y):RepV w β U base v y:=by
 rcases hw with hw | ⟨vs,vs',rfl,rfl,hw⟩
 . exact h.wk hw
 . cases h with
   | tup us _ hl h =>
    obtain ⟨h1,h2⟩:=zyq hw
    refine .tup us vs' (by omega) fun j u x hu hx=>?_
    have hj:j<vs.length:=by have:=(List.getElem?_eq_some_iff.1 hx).1; omega
    exact (h j u _ hu (List.getElem?_eq_getElem hj)).wk (h2 j _ x (List.getElem?_eq_getElem hj) hx)

structure StWk (s s':St):Prop where
 n:s.n=s'.n
 env:EnvWk s.env s'.env
 mem:MemWk s.mem s'.mem
theorem SP.wk {sp:SP} {s:St} {l:Ob} {x:sp.T} (h:sp.get s=some (l,x)) (ho:ObOk (sp.len x) l):StWk s (sp.put x):=⟨(SP.get_put h ho).1,(SP.get_put h ho).2.1,(SP.get_put h ho).2.2⟩

theorem SimB.stWk {w0:World} {U0:Nat->Prop} {X:Nat->Nat->Prop} {β0 β:Nat->Option Place} {U:Nat->Prop} {s s':St} {a:Act} {w:World} (h:SimB w0 U0 X β0 β U s a w) (hw:StWk s s'):SimB w0 U0 X β0 β U s' a w:=by
 have h1:SimB w0 U0 X β0 β U { s with env:=s'.env } a w:={ h with
  env:=fun t=>by
   rcases hw.env.get t with ⟨e1,e2⟩ | ⟨x,y,e1,e2,e3⟩
   . have:=h.env t
     unfold St.get at this ⊢
     rw [e2]; exact .bad _
   . have:=h.env t
     unfold St.get at this ⊢
     rw [e1] at this; rw [e2]
     exact this.wkX e3 }
 exact h1.blkWk hw.n.symm rfl (fun k=>hw.mem.get k)
theorem Sim.stWk {w0:World} {U0:Nat->Prop} {X:Nat->Nat->Prop} {β0:Nat->Option Place} {s s':St} {a:Act} {w:World} (h:Sim w0 U0 X β0 s a w) (hw:StWk s s'):Sim w0 U0 X β0 s' a w:=by
 obtain ⟨β,U,hb⟩:=h
 exact ⟨β,U,hb.stWk hw⟩
end Go.Proofs.YthkhikdglmaiaaaGreatDoor.Abs
namespace Go.Proofs.YthkhikdglmaiaaaGreatDoor.Abs
open Go Go.RowKit
set_option linter.unusedVariables false
set_option linter.unusedSimpArgs false

abbrev Kn:=List (Nat×Bool)
abbrev Log:=List (List Nat×List Nat)

def unKn (d:Nat):Kn->Kn
 | []=>[]
 | (t,b) :: r=>match Nat.beq t d with | true=>unKn d r | false=>(t,b) :: unKn d r
def zf0 (kn:Kn) (dst:Option Nat) (b:Option Bool):Kn :=
 match dst with
 | none=>kn
 | some d=>match b with | some b=>(d,b) :: unKn d kn | none=>unKn d kn
def known (kn:Kn):Operand->Option Bool
 | .tmp t=>look t kn
 | .const (.bool b)=>some b
 | _=>none

def KnOk (kn:Kn) (s:St):Prop:=∀ t b,look t kn=some b->s.get t=vb b

def zsl:List C->List Nat
 | []=>[]
 | .own k _ _ :: r=>k :: zsl r
 | _ :: r=>zsl r
def V.own1:V->List Nat
 | .one c=>zsl [c]
 | .agg cs=>zsl cs
 | .tup _=>[]
def V.owns:V->List Nat
 | .tup vs=>vs.flatMap V.own1
 | v=>v.own1
def zkt (old:List Nat):Nat->List Nat->List (Nat×Nat)
 | _,[]=>[]
 | j,k :: r=>match old.contains k with
  | true=>zkt old j r
  | false=>(k,j) :: zkt (k :: old) (j+1) r
def z0b (m:Nat->Option Blk):List V->List Nat
 | []=>[]
 | .one (.ptr k _) :: r=>match m k with
  | some (.cells cs)=>zsl cs++z0b m r
  | _=>z0b m r
 | v :: r=>v.own1++z0b m r
def ze2b:List V->List Nat
 | []=>[]
 | .one (.clp _ ks) :: r=>ks.map (·.1)++ze2b r
 | _ :: r=>ze2b r
def zoqb (args:List V):List (Nat×Nat):=ksOf 0 args++zkt ((ksOf 0 args).map (·.1)) 1000200 (ze2b args)
def zbsb (mode:Nat):List Nat->List V->List V
 | m :: ms,v :: vs=>match Nat.beq m mode with
  | true=>v :: zbsb mode ms vs
  | false=>zbsb mode ms vs
 | _,_=>[]
def zqw:List V->List Nat
 | []=>[]
 | .one (.own k _ _) :: r=>k :: zqw r
 | .one (.pre k _ _ _) :: r=>k :: zqw r
 | _ :: r=>zqw r
def zpwb (m:Nat->Option Blk) (args:List V) (ms:List Nat):List (Nat×Nat):=zoqb args++zkt [] 1000100 (z0b m (zbsb 1 ms args))++zkt (z0b m (zbsb 1 ms args)) 1500100 (zqw (zbsb 2 ms args))
def zs4 (own:List Nat) (m:Nat->Option Blk) (args:List V):List (Nat×Nat):=match own with | []=>zoqb args | m1 :: ms=>zpwb m args (m1 :: ms)
def rowB:Option Blk->Bool
 | some (.row _ _ _ _ _ _)=>true
 | some (.rowT _ _ _ _ _ _)=>true
 | _=>false
def zkbb (ks:List (Nat×Nat)) (m:Nat->Option Blk):List Nat->Bool
 | []=>false
 | k :: r=>match look k ks with
  | some _=>zkbb ks m r
  | none=>match rowB (m k) with
   | true=>true
   | false=>zkbb ks m r
def z48 (ks:List (Nat×Nat)) (m:Nat->Option Blk) (vals:List V):Bool:=zkbb ks m (vals.flatMap V.keysA++ks.flatMap fun p=>zq7 (m p.1))

variable (P:Program) (cod:TypeId->Nat) (own:FuncId->List Nat) (call:FuncId->List V->Mem->Tr (V×Mem)) {ρ:Type}

def zyb (o:Oper) (kn:Kn) (s:St) (K:Kn->List Nat->List Nat->St->Tr ρ) (f:FuncId) (caps:List V) (args:List Operand):Tr ρ :=
 match zc4 s.blk (zcy s.blk (zs4 (own f) s.blk (args.map s.eval++caps))) (z48 (zs4 (own f) s.blk (args.map s.eval++caps)) s.blk (args.map s.eval++caps)) (zs4 (own f) s.blk (args.map s.eval++caps)) with
 | none=>.fail 11
 | some m1=>match zq8 P f&&okKs (zs4 (own f) s.blk (args.map s.eval++caps))&&decide ((args.length+caps.length)<=900) with
  | true=>(call f ((args.map s.eval++caps).map (zt6 s.blk (zcy s.blk (zs4 (own f) s.blk (args.map s.eval++caps))) (z48 (zs4 (own f) s.blk (args.map s.eval++caps)) s.blk (args.map s.eval++caps)))) m1).bind fun rm =>
   match zki s (zs4 (own f) s.blk (args.map s.eval++caps)) (z48 (zs4 (own f) s.blk (args.map s.eval++caps)) s.blk (args.map s.eval++caps)) o.dst rm.1 rm.2 with
   | some E=>K (zf0 kn o.dst none) (zty (zs4 (own f) s.blk (args.map s.eval++caps)) s.blk (args.map s.eval++caps)) (E.mem.map (·.1)) (s.out o.dst E)
   | none=>.fail 12
  | false=>.fail 13

def execOp (o:Oper) (kn:Kn) (s:St) (K:Kn->List Nat->List Nat->St->Tr ρ):Tr ρ :=
 match o.op with
 | .pick c a b=>match known kn c with
  | some t=>match t with
   | true=>K (zf0 kn o.dst (known kn a)) [] [] (s.put o.dst (s.eval a))
   | false=>K (zf0 kn o.dst (known kn b)) [] [] (s.put o.dst (s.eval b))
  | none=>match s.eval c with
   | .one (.d (.b t))=>.ite t (K (zf0 kn o.dst (known kn a)) [] [] (s.put o.dst (s.eval a))) (K (zf0 kn o.dst (known kn b)) [] [] (s.put o.dst (s.eval b)))
   | _=>.fail 1
 | .assign x=>K (zf0 kn o.dst (known kn x)) [] [] (s.put o.dst (s.eval x))
 | .move x=>K (zf0 kn o.dst (known kn x)) [] [] (s.put o.dst (s.eval x))
 | .call { callee:=.value fo,args,.. } => match z85 (s.eval fo) with
  | some (f,caps)=>zyb P own call o kn s K f caps args.toList
  | none=>.fail 2
 | .lookup t x i ok=>match zyu P t x i ok s.eval s.blk with
  | some T=>T.bind fun E=>K (zf0 kn o.dst none) (zad o.dst (.lookup t x i ok) s.eval) (E.mem.map (·.1)) (s.out o.dst E)
  | none=>.fail 3
 | .mapEntry t x i=>.fail 3
 | op=>match effS P o.dst op s.eval s.blk with
  | some T=>T.bind fun E=>K (zf0 kn o.dst none) (zad o.dst op s.eval) (E.mem.map (·.1)) (s.out o.dst E)
  | none=>match effZ P cod o.dst op s.eval s.blk with
  | some T=>T.bind fun E=>K (zf0 kn o.dst none) (zad o.dst op s.eval) (E.mem.map (·.1)) (s.out o.dst E)
  | none=>match effX P cod o.dst op s.eval s.blk with
  | some T=>T.bind fun E=>K (zf0 kn o.dst none) (zad o.dst op s.eval) (E.mem.map (·.1)) (s.out o.dst E)
  | none=>match zk0b P cod o.dst op s.eval s.blk with
  | some T=>T.bind fun E=>K (zf0 kn o.dst none) (zad o.dst op s.eval) (E.mem.map (·.1)) (s.out o.dst E)
  | none=>match eff P o.dst op s.eval s.blk with
   | some E=>K (zf0 kn o.dst none) (zad o.dst op s.eval) (E.out.mem.map (·.1)) (s.out o.dst E.out)
   | none=>match effP P cod o.dst op s.eval s.blk with
    | some T=>T.bind fun E=>K (zf0 kn o.dst none) (zad o.dst op s.eval) (E.mem.map (·.1)) (s.out o.dst E)
    | none=>.fail 3

def zdj (ops:Array Oper):List Oper->Kn->Log->St->(Kn->Log->St->Tr ρ)->Tr ρ
 | [],kn,log,s,K=>K kn log s
 | o :: rest,kn,log,s,K =>
  match zd2b s o.dst with
  | false=>.fail 4
  | true=>match o.guard with
   | none=>execOp P cod own call o kn s fun kn' R W s'=>zdj ops rest kn' (log++[(R,W)]) s' K
   | some (j,want)=>match (ops[j]?).bind (·.dst) with
    | none=>.fail 5
    | some t=>match look t kn with
     | some b=>match b==want with
      | true=>execOp P cod own call o kn s fun kn' R W s'=>zdj ops rest kn' (log++[(R,W)]) s' K
      | false=>zdj ops rest (zf0 kn o.dst none) (log++[([],[])]) (s.put o.dst (.one .un)) K
     | none=>match s.get t with
      | .one .un=>zdj ops rest (zf0 kn o.dst none) (log++[([],[])]) (s.put o.dst (.one .un)) K
      | .one (.d (.b c))=>match want with
       | true=>.ite c (execOp P cod own call o ((t,true) :: kn) s fun kn' R W s'=>zdj ops rest kn' (log++[(R,W)]) s' K)
        (zdj ops rest (zf0 ((t,false) :: kn) o.dst none) (log++[([],[])]) (s.put o.dst (.one .un)) K)
       | false=>.ite c (zdj ops rest (zf0 ((t,true) :: kn) o.dst none) (log++[([],[])]) (s.put o.dst (.one .un)) K)
        (execOp P cod own call o ((t,false) :: kn) s fun kn' R W s'=>zdj ops rest kn' (log++[(R,W)]) s' K)
      | _=>.fail 6

def lid:Code->Nat
 | .region id _ _=>id
 | .seq a _=>lid a
 | .block _ b=>lid b
 | .loop b=>lid b
 | .cond _ a _=>lid a
 | .scope b=>lid b
 | _=>0

def zgs (ks:List (Nat×Nat)) (sp:SP) (s:St):Option (Ob×sp.T) :=
 match s.norm false (sp.env.map (·.1)) ks with
 | some s1=>sp.get s1
 | none=>none
def zo7:List (Nat×TypeId×Nat)->St->St
 | [],s=>s
 | (t,e,c) :: r,s=>match s.get t,s.blk t,Nat.blt t 1000000 with
  | .one .nil,none,true=>zo7 r { n:=s.n,env:=(t,.one (.own t 0 0)) :: s.env,mem:=(t,.rowT 0 e c true true []) :: s.mem }
  | _,_,_=>zo7 r s
structure EX where
 e:Option Nat
 ks:List (Nat×Nat)
 sp:SP
def EX.exit (x:EX):Exit:=match x.e with | some id=>.exit id | none=>.ret
def EX.hits (x:EX) (e:Exit):Bool :=
 match x.e with
 | some id=>match e with | .exit id'=>Nat.beq id id' | _=>false
 | none=>match e with | .ret=>true | _=>false
structure LS where
 id:Nat
 ks:List (Nat×Nat)
 sp:SP
 es:List EX
 gs:List (Nat×TypeId×Nat)
def ExT:List EX->Type
 | []=>Empty
 | [x]=>x.sp.T
 | x :: y :: r=>x.sp.T⊕ExT (y :: r)
def z8n:(es:List EX)->Exit->St->Option (Tr (ExT es))
 | [],_,_=>none
 | [x],e,s=>match x.hits e with
  | true=>match zgs x.ks x.sp s with
   | some (g,y)=>some (zx6 (x.sp.len y) g (.ret y))
   | none=>some (.stuck 997 s)
  | false=>none
 | x :: y :: r,e,s=>match x.hits e with
  | true=>match zgs x.ks x.sp s with
   | some (g,y)=>some (zx6 (x.sp.len y) g (.ret (.inl y)))
   | none=>some (.stuck 997 s)
  | false=>match z8n (y :: r) e s with
   | some T=>some (T.map .inr)
   | none=>none
def z30:(es:List EX)->ExT es->Tr (Exit×St)
 | [],o=>nomatch o
 | [x],o=>.ret (x.exit,x.sp.put o)
 | x :: y :: r,o=>.sum o (fun a=>.ret (x.exit,x.sp.put a)) (fun b=>z30 (y :: r) b)
def zb2 {A B:Type} (tag:Nat) (f:A->Option (A⊕B)):Nat->A->Option B
 | 0,_=>none
 | n+1,a=>match f a with
  | none=>none
  | some (.inl a')=>zb2 tag f n a'
  | some (.inr b)=>some b
def zhbb (L:LS) (e:Exit) (s:St):Tr (L.sp.T⊕ExT L.es) :=
 match (match e with | .normal=>true | _=>false) with
 | true=>match zgs L.ks L.sp (zo7 L.gs s) with
  | some (g,y)=>zx6 (L.sp.len y) g (.ret (.inl y))
  | none=>.stuck 996 s
 | false=>match z8n L.es e s with
  | some T=>T.map .inr
  | none=>.stuck (match e with | .exit id=>2000+id | .ret=>1999 | _=>1998) s
def zksb (id:Nat):List LS->Option LS
 | []=>none
 | L :: r=>match Nat.beq L.id id with | true=>some L | false=>zksb id r

def jid:Code->Nat
 | .region id _ _=>id
 | .block id _=>20000+id
 | .cond _ a b=>40000+(match lid a with | 0=>lid b | n+1=>n+1)
 | .seq a _=>60000+lid a
 | _=>80000
def zkdb (fi j:Nat) (L:LS) (e:Exit) (s:St):Tr (ExT L.es) :=
 match (match e with | .normal=>some (Exit.exit 9998) | .exit id=>(match Nat.beq id 9998 with | true=>none | false=>some (.exit id)) | e=>some e) with
 | none=>.fail 15
 | some e'=>match z8n L.es e' s with
  | some T=>T
  | none=>.stuck (1000000000+(fi*100000+j)*10000+(match e' with | .exit id=>id | _=>9999)) s
def unJ:Exit->Exit
 | .exit id=>match Nat.beq id 9998 with | true=>.normal | false=>.exit id
 | e=>e
def z4h:Code->List Nat
 | .region _ ops _=>ops.toList.filterMap fun o=>o.dst
 | .seq a b=>z4h a++z4h b
 | .cond _ a b=>z4h a++z4h b
 | .block _ b=>z4h b
 | .loop b=>z4h b
 | _=>[]
def zk2b:List Nat->List Nat->List Nat
 | [],acc=>acc.reverse
 | k :: r,acc=>match acc.contains k with | true=>zk2b r acc | false=>zk2b r (k :: acc)
def zn1b (body:Code) (s:St):Option St:=s.norm false (List.range s.n) (((zk2b (s.mem.map (·.1)) []).filter fun k=>!(z4h body).contains k).map fun k=>(k,k))
def zkeb {ρ:Type}:Nat->((Kn->St->Tr ρ)->Kn->St->Tr ρ)->Kn->St->Tr ρ
 | 0,_,_,_=>.fail 14
 | n+1,F,kn,s=>F (zkeb n F) kn s

variable (Λ:List LS) (fi:Nat)

def exec:Code->(ρ:Type)->Kn->St->(Exit->Kn->St->Tr ρ)->Tr ρ
 | .skip,_,kn,s,K=>K .normal kn s
 | .region _ ops draw,_,kn,s,K=>match draw with
  | false=>zdj P cod own call ops ops.toList kn [] s fun kn' _ s'=>K .normal kn' s'
  | true=>match P.follows .mixedOrders with
   | true=>zdj P cod own call ops ops.toList kn [] s fun kn' log s'=>match zxy ops log with
    | true=>K .normal kn' s'
    | false=>.fail 7
   | false=>.fail 7
 | .seq a b,ρ,kn,s,K=>match zksb (100000+jid a) Λ with
  | none=>exec a ρ kn s fun e kn' s'=>match e with
   | .normal=>exec b ρ kn' s' K
   | e=>K e kn' s'
  | some L=>.opt (exec a (ExT L.es) kn s fun e _ s'=>zkdb fi (jid a) L e s').eval fun o =>
    (z30 L.es o).bind fun es=>match unJ es.1 with
     | .normal=>exec b ρ [] es.2 K
     | e=>K e [] es.2
 | .cond c a b,ρ,kn,s,K=>match known kn c with
  | some t=>match t with
   | true=>exec a ρ kn s K
   | false=>exec b ρ kn s K
  | none=>match s.eval c with
   | .one (.d (.b t))=>match c with
    | .tmp j=>.ite t (exec a ρ ((j,true) :: kn) s K) (exec b ρ ((j,false) :: kn) s K)
    | _=>.ite t (exec a ρ kn s K) (exec b ρ kn s K)
   | _=>.fail 8
 | .block id body,ρ,kn,s,K=>exec body ρ kn s fun e kn' s'=>match e with
  | .exit id'=>match Nat.beq id' id with
   | true=>K .normal kn' s'
   | false=>K (.exit id') kn' s'
  | e=>K e kn' s'
 | .loop body,ρ,kn,s,K=>match zksb (lid body) Λ with
  | none=>.stuck (10000*(fi+1)+lid body) s
  | some L=>match L.sp.n with
   | 0=>zkeb 70 (fun again kn s=>exec body ρ kn s fun e kn' s'=>match e with
    | .normal=>(match zn1b body s' with | some s2=>again [] s2 | none=>.fail 16)
    | e=>K e kn' s') kn s
   | _+1=>match zgs L.ks L.sp (zo7 L.gs s) with
    | none=>.stuck (10000*(fi+1)+5000+lid body) s
    | some (g,x)=>zx6 (L.sp.len x) g (.opt (zb2 (10000*fi+L.id) (fun x=>(exec body (L.sp.T⊕ExT L.es) [] (L.sp.put x) fun e _ s'=>zhbb L e s').eval) 18446744073709551616 x) fun o =>
      (z30 L.es o).bind fun es=>K es.1 [] es.2)
 | .exit id,_,kn,s,K=>K (.exit id) kn s
 | .ret,_,kn,s,K=>K .ret kn s
 | _,_,_,_,_=>.fail 9

def V.ptr1:V->List Nat
 | .one (.ptr k _)=>[k]
 | .agg cs=>cs.flatMap fun c=>match c with | .ptr k _=>[k] | _=>[]
 | _=>[]
def V.ptrs:V->List Nat
 | .tup vs=>vs.flatMap V.ptr1
 | v=>v.ptr1
def inKs (mem:Mem) (k:Nat):List Nat:=match look k mem with
 | some (.cells cs)=>cs.flatMap fun c=>match c with | .own k _ _=>[k] | .ptr k _=>[k] | _=>[]
 | _=>[]
def zkxb (m mem:Mem) (v:V):List (Nat×Nat):=m.map (fun p=>(p.1,p.1))++zkt (m.map (·.1)) 2000000 (v.owns++(v.ptrs++(v.ptrs++m.map (·.1)).flatMap (inKs mem)))

structure FS (P:Program) where
 f:FuncId
 ap:List VP1
 rp:SP
 fn:VPsT ap Unit->Option rp.T
 ok:∀ x r,fn x=some r->ACall P f (zgr (fun _=>0) ap x).1 [] fun r' m'=>r'=(rp.put r).get 0/\m'=(rp.put r).mem
structure PF (P:Program) where
 f:FuncId
 own:List Nat
 tr:List V->Mem->Option (Tr (V×Mem))
 ok:∀ ys m T r m',tr ys m=some T->T.eval=some (r,m') -> ∃ ys' m2,WkVs ys ys'/\WkM m m2/\ACall P f ys' m2 fun r' m''=>r'=r/\m''=m'
def zdeb {P:Program} (f:FuncId) (ys:List V) (m:Mem):List (PF P)->Option (Tr (V×Mem))
 | []=>none
 | F :: r=>match Nat.beq F.f f with
  | true=>match F.tr ys m with
   | some T=>some T
   | none=>zdeb f ys m r
  | false=>zdeb f ys m r
def ownF {P:Program}:List (PF P)->FuncId->List Nat
 | [],_=>[]
 | F :: r,f=>match Nat.beq F.f f with
  | true=>match F.own with
   | []=>ownF r f
   | m :: ms=>m :: ms
  | false=>ownF r f

variable (Γ:List (PF P)) (Λs:List (FuncId×LS))
def zx1 (f:FuncId):List (FuncId×LS)->List LS
 | []=>[]
 | (g,L) :: r=>match Nat.beq g f with | true=>L :: zx1 f r | false=>zx1 f r

def zya (rs:List ResultVar) (m:Mem) (e:Exit) (s:St):Tr (V×Mem) :=
 match (match e with | .normal | .ret=>true | _=>false) with
 | true=>match resA P rs s with
  | some v=>match St.norm true (zmx { n:=1,env:=[(0,v)],mem:=s.mem }) [0] (zkxb m s.mem ((zmx { n:=1,env:=[(0,v)],mem:=s.mem }).get 0)) with
   | some s1=>match s1.env with
    | [(_,r)]=>.ret (r,s1.mem)
    | _=>.fail 20
   | none=>.fail 21
  | none=>.fail 22
 | false=>.fail 23

def zn4 (fn:Func) (f:FuncId) (ys:List V) (m:Mem):Tr (V×Mem) :=
 match fn.body with
 | some c=>match decide (fn.ntmps<=900)&&decide (ys.length<=fn.ntmps) with
  | true=>exec P cod own call (zx1 f Λs) f c (V×Mem) [] ⟨fn.ntmps,zby 0 ys,m⟩ fun e _ s=>zya P fn.results.toList m e s
  | false=>.fail 24
 | none=>.fail 25

def z5u (F:FS P) (ys:List V) (m:Mem):Option (Tr (V×Mem)) :=
 match m with
 | []=>match z8l F.ap ys with
  | some ([],g)=>some (.opt (F.fn (g Unit ())) fun r=>.ret ((F.rp.put r).get 0,(F.rp.put r).mem))
  | _=>none
 | _=>none

def z08:Nat->FuncId->List V->Mem->Tr (V×Mem)
 | 0,_,_,_=>.fail 26
 | n+1,f,ys,m=>match zdeb f ys m Γ with
  | some T=>T
  | none=>match P.funcs[f]? with
   | some fn=>zn4 P cod (ownF Γ) (z08 n) Λs fn f ys m
   | none=>.fail 27

def frzC (m:Mem):C->C
 | .own k ver len=>match look k m with
  | some (.rowT ver' _ c _ fr xs)=>if ver=ver' then stC fr c xs else .bad
  | _=>.bad
 | .sub _ _ _ _ _=>.bad
 | .ptr _ _=>.bad
 | .pr _ _ _ _ _=>.bad
 | .asl _ _ _=>.bad
 | .clp _ _=>.bad
 | .mp _=>.bad
 | .pre _ _ _ _=>.bad
 | c=>c
def zkqb (m:Mem):V->V
 | .one c=>.one (frzC m c)
 | .agg cs=>.agg (cs.map (frzC m))
 | .tup _=>.one .bad
def frzV (m:Mem):V->V
 | .tup vs=>.tup (vs.map (zkqb m))
 | v=>zkqb m v

def fnTr (n:Nat) (f:FuncId) (ap:List VP1) (rp:SP) (x:VPsT ap Unit):Tr rp.T :=
 match P.funcs[f]? with
 | some fn=>(zn4 P cod (ownF Γ) (z08 P cod Γ Λs n) Λs fn f (zgr (fun _=>0) ap x).1 []).bind fun rm=>match rp.get ⟨1,[(0,frzV rm.2 rm.1)],[]⟩ with
  | some (g,y)=>zx6 (rp.len y) g (.ret y)
  | none=>.stuck 994 ⟨1,[(0,frzV rm.2 rm.1)],rm.2⟩
 | none=>.fail 28

def gsTr (n:Nat) (f:FuncId) (ap rp:SP) (x:ap.T):Tr rp.T :=
 match P.funcs[f]? with
 | some fn=>match fn.body with
  | some c=>match Nat.beq fn.ntmps ap.n&&decide (fn.ntmps<=900) with
   | true=>(exec P cod (ownF Γ) (z08 P cod Γ Λs n) (zx1 f Λs) f c (V×Mem) [] (ap.put x) fun e _ s=>zya P fn.results.toList (ap.put x).mem e s).bind fun rm =>
    match zgs (rm.2.map fun p=>(p.1,p.1)) rp ⟨1,[(0,rm.1)],rm.2⟩ with
    | some (g,y)=>zx6 (rp.len y) g (.ret y)
    | none=>.stuck 993 ⟨1,[(0,rm.1)],rm.2⟩
   | false=>.fail 24
  | none=>.fail 25
 | none=>.fail 28
def zq3 (ap:SP) (ys:List V) (m:Mem):Option (Ob×ap.T) :=
 match decide (ys.length<=ap.n) with
 | true=>zgs (m.map fun p=>(p.1,p.1)) ap ⟨ap.n,zby 0 ys,m⟩
 | false=>none
def zjeb (ap rp:SP) (fn:ap.T->Option rp.T) (ys:List V) (m:Mem):Option (Tr (V×Mem)) :=
 match zq3 ap ys m with
 | some (g,x)=>some (zx6 (ap.len x) g (.opt (fn x) fun r=>.ret ((rp.put r).get 0,(rp.put r).mem)))
 | none=>none
end Go.Proofs.YthkhikdglmaiaaaGreatDoor.Abs
namespace Go.Proofs.YthkhikdglmaiaaaGreatDoor.Abs
open Go Go.RowKit
set_option linter.unusedVariables false
set_option linter.unusedSimpArgs false

variable {P:Program} {cod:TypeId->Nat} {own:FuncId->List Nat} {call:FuncId->List V->Mem->Tr (V×Mem)} {ρ:Type}

theorem z4r (s:St):(zmx s).n=s.n:=by
 unfold zmx
 split
 . split
   . split <;> rfl
   . rfl
 . rfl
def zwx (P:Program) (call:FuncId->List V->Mem->Tr (V×Mem)):Prop :=
 ∀ f xs m r m',(call f xs m).eval=some (r,m') -> ∃ ys m2,WkVs xs ys/\WkM m m2/\ACall P f ys m2 fun r' m''=>r'=r/\m''=m'

theorem znw {d t:Nat}:∀ {kn:Kn} {b:Bool},look t (unKn d kn)=some b->look t kn=some b/\t≠d
 | [],b,h=>by cases h
 | (j,c) :: r,b,h=>by
  unfold unKn at h
  split at h
  . rename_i e
    have e:j=d:=Nat.eq_of_beq_eq_true e
    obtain ⟨h1,h2⟩:=znw h
    refine ⟨?_,h2⟩
    rw [zah,if_neg (by rw [e]; exact fun q=>h2 q.symm)]; exact h1
  . rename_i e
    have e:j≠d:=Nat.ne_of_beq_eq_false e
    rw [zah] at h ⊢
    split at h
    . rename_i q; rw [if_pos q]; exact ⟨h,by rw [<- q]; exact e⟩
    . rename_i q; rw [if_neg q]; exact znw h

theorem KnOk.put {kn:Kn} {s s':St} {dst:Option Nat} {v:V} {b:Option Bool} (h:KnOk kn s) (hs:∀ t,s'.get t=(s.put dst v).get t) (hb:∀ c,b=some c->v=vb c):KnOk (zf0 kn dst b) s':=by
 intro t c ht
 rw [hs]
 cases dst with
 | none=>exact h t c ht
 | some d =>
  rw [St.get_put]
  unfold zf0 at ht
  cases b with
  | none =>
   simp only at ht
   obtain ⟨h1,h2⟩:=znw ht
   rw [if_neg (fun e=>h2 e.symm)]; exact h t c h1
  | some b =>
   simp only at ht
   rw [zah] at ht
   split at ht
   . rename_i e; rw [if_pos e]; cases ht; exact hb _ rfl
   . rename_i e
     obtain ⟨h1,h2⟩:=znw ht
     rw [if_neg e]; exact h t c h1

theorem zhl {kn:Kn} {s:St} (h:KnOk kn s) {x:Operand} {b:Bool} (hx:known kn x=some b):s.eval x=vb b:=by
 unfold known at hx
 split at hx
 . exact h _ _ hx
 . cases hx; rfl
 . cases hx

theorem KnOk.cons {kn:Kn} {s:St} (h:KnOk kn s) {t:Nat} {b:Bool} (ht:s.get t=vb b):KnOk ((t,b) :: kn) s:=by
 intro t' b' h'
 rw [zah] at h'
 split at h'
 . rename_i e; subst e; cases h'; exact ht
 . exact h t' b' h'
theorem KnOk.nil {s:St}:KnOk [] s:=fun t b h=>by cases h

theorem zj3 (s:St) (dst:Option Nat) (E:Out) (t:Nat):(s.out dst E).get t=(s.put dst E.val).get t:=by
 cases dst <;> rfl

def OpOk (P:Program) (ops:Array Oper) (o:Oper) (s:St) (R W:List Nat) (s':St):Prop:=∃ E:Out,Loc P ops o s R E/\W=E.mem.map (·.1)/\s'=s.out o.dst E

theorem zbyb {ops:Array Oper} {o:Oper} {s:St} {v:V} (hg:zf1 ops s.get o=some true) (he:effQ P o.op s.eval=some v) {R:List Nat} (hR:zad o.dst o.op s.eval=R):OpOk P ops o s R [] (s.put o.dst v):=by
 subst hR
 refine ⟨⟨v,[]⟩,?_,rfl,(z2x ..).symm⟩
 exact zjbb (E:=⟨v,none⟩) hg (by unfold eff; rw [he])

theorem zuz (hcall:zwx P call) {ops:Array Oper} {o:Oper} {kn:Kn} {s:St} {K:Kn->List Nat->List Nat->St->Tr ρ} {f:FuncId} {caps:List V} {args:List Operand} {r:ρ}
   (hi:zod o s=some (f,caps,args)) (hg:zf1 ops s.get o=some true) (hkn:KnOk kn s)
   (h:(zyb P own call o kn s K f caps args).eval=some r):∃ kn' R W s',KnOk kn' s'/\(K kn' R W s').eval=some r/\OpOk P ops o s R W s':=by
 unfold zyb at h
 split at h
 . cases h
 rename_i m1 hm1
 split at h
 case h_2=>cases h
 rename_i hc
 simp only [Bool.and_eq_true,decide_eq_true_eq] at hc
 obtain ⟨⟨hen,hok⟩,hfew⟩:=hc
 rw [Tr.eval_bind] at h
 obtain ⟨⟨r0,m0⟩,h1,h2⟩:=Option.bind_eq_some_iff.1 h
 simp only at h2
 split at h2
 case h_2=>cases h2
 rename_i E hE
 obtain ⟨ys,m2,hw,hwm,hac⟩:=hcall _ _ _ _ _ h1
 have hlen:ys.length=args.length+caps.length:=by
   have:∀ (a b:List V),WkVs a b->a.length=b.length:=by
    intro a
    induction a with
    | nil=>intro b hb; cases b; rfl; exact hb.elim
    | cons x a ih=>intro b hb; cases b; exact hb.elim; simp [ih _ hb.2]
   rw [<- this _ _ hw]; simp
 have hc:CallTo P o s (zs4 (own f) s.blk (args.map s.eval++caps)) (z48 (zs4 (own f) s.blk (args.map s.eval++caps)) s.blk (args.map s.eval++caps)) f caps args ys m2 r0 m0 E:=⟨zoc hi,hen,hok,hw,⟨m1,hm1,hwm⟩,by omega,hac,hE⟩
 refine ⟨_,_,_,_,?_,h2,E,?_,rfl,rfl⟩
 . exact hkn.put (v:=E.val) (fun t=>zj3 s o.dst E t) (fun c hc=>by cases hc)
 . exact .plain (z23 hi) fun s' ha=>.call _ _ _ f caps args ys m2 r0 m0 E (by rw [zbq ha,hg]) (z4i ha hc)

theorem zg1b {o:Oper} {s:St} {c a b:Operand} {t:Bool} (ho:o.op=.pick c a b) (hc:s.eval c=vb t):effQ P o.op s.eval=some (s.eval (if t then a else b)):=by
 rw [ho]
 simp only [effQ,hc]
 cases t <;> rfl

theorem z07 (hcall:zwx P call) {ops:Array Oper} {o:Oper} {kn:Kn} {s:St} {K:Kn->List Nat->List Nat->St->Tr ρ} {r:ρ} (hg:zf1 ops s.get o=some true) (hkn:KnOk kn s)
   (h:(execOp P cod own call o kn s K).eval=some r):∃ kn' R W s',KnOk kn' s'/\(K kn' R W s').eval=some r/\OpOk P ops o s R W s':=by
 have pk:∀ {c a b:Operand} {t:Bool} {kn:Kn},KnOk kn s->o.op=.pick c a b->s.eval c=vb t->(K (zf0 kn o.dst (known kn (if t then a else b))) [] [] (s.put o.dst (s.eval (if t then a else b)))).eval=some r ->
     ∃ kn' R W s',KnOk kn' s'/\(K kn' R W s').eval=some r/\OpOk P ops o s R W s':=fun hk ho hc h =>
   ⟨_,_,_,_,hk.put (fun _=>rfl) (fun c hc=>zhl hk hc),h,zbyb hg (zg1b ho hc) (by rw [ho]; rfl)⟩
 unfold execOp at h
 split at h
 . rename_i c a b ho
   split at h
   . rename_i t hk
     have hc:=zhl hkn hk
     split at h
     . exact pk hkn ho hc h
     . exact pk hkn ho hc h
   . split at h
     . rename_i t hc
       rcases Tr.eval_ite h with ⟨rfl,h⟩ | ⟨rfl,h⟩
       . exact pk hkn ho hc h
       . exact pk hkn ho hc h
     . cases h
 . rename_i x ho
   exact ⟨_,_,_,_,hkn.put (fun _=>rfl) (fun c hc=>zhl hkn hc),h,zbyb hg (by rw [ho]; rfl) (by rw [ho]; rfl)⟩
 . rename_i x ho
   exact ⟨_,_,_,_,hkn.put (fun _=>rfl) (fun c hc=>zhl hkn hc),h,zbyb hg (by rw [ho]; rfl) (by rw [ho]; rfl)⟩
 . rename_i fo args ats ho
   split at h
   . rename_i f caps hf
     refine zuz hcall (f:=f) (caps:=caps) (args:=args.toList) ?_ hg hkn h
     unfold zod
     rw [ho]; simp only [hf]
   . cases h
 . rename_i mt x i ok hop
   split at h
   . rename_i T hT
     rw [Tr.eval_bind] at h
     obtain ⟨E,h1,h2⟩:=Option.bind_eq_some_iff.1 h
     refine ⟨_,_,_,_,hkn.put (v:=E.val) (fun t=>zj3 s o.dst E t) (fun c hc=>by cases hc),h2,E,?_,rfl,rfl⟩
     rw [<- hop]
     cases ok with
     | true =>
       have hp:zi8 o:=znk (fun t x i e=>by rw [hop] at e; cases e) (fun t x i e=>by rw [hop] at e; cases e)
       refine .plain hp fun s' ha=>.sem _ E (by rw [zbq ha,hg]) fun hd=>?_
       exact zrd (ρ:=s.eval) (m:=s.blk) hop (fun x hx=>(zdb ha x hx).symm) (fun k hk=>ha.blk hp (.inl hk)) hd hT h1
     | false =>
       refine ⟨fun s' ha=>.sem _ E (by rw [zbq ha,hg]) fun hd=>?_,fun he=>?_⟩
       . refine z6a (ρ:=s.eval) (m:=s.blk) hop (fun x hx=>(zdb ha x hx).symm) (fun k hk=>?_) hd hT h1
         rcases ha.2.2 k (.inl hk) with h | ⟨_,h⟩
         . exact .inl h
         . exact .inr h
       . unfold z75 at he
         rw [hop] at he
         simp at he
   . cases h
 . cases h
 . rename_i n1 n2 n3 n4 n5 n6
   have hp:zi8 o:=znk (fun t x i e=>n5 t x i false e) (fun t x i e=>n6 t x i e)
   split at h
   . rename_i T hT
     rw [Tr.eval_bind] at h
     obtain ⟨E,h1,h2⟩:=Option.bind_eq_some_iff.1 h
     refine ⟨_,_,_,_,hkn.put (v:=E.val) (fun t=>zj3 s o.dst E t) (fun c hc=>by cases hc),h2,E,.plain hp fun s' ha=>.sem _ E (by rw [zbq ha,hg]) fun hd=>?_,rfl,rfl⟩
     exact zh0b (ρ:=s.eval) (m:=s.blk) (fun x hx=>(zdb ha x hx).symm) (fun k hk=>ha.blk hp (.inl hk)) hT h1
   . split at h
     . rename_i T hT
       rw [Tr.eval_bind] at h
       obtain ⟨E,h1,h2⟩:=Option.bind_eq_some_iff.1 h
       refine ⟨_,_,_,_,hkn.put (v:=E.val) (fun t=>zj3 s o.dst E t) (fun c hc=>by cases hc),h2,E,.plain hp fun s' ha=>.sem _ E (by rw [zbq ha,hg]) fun hd=>?_,rfl,rfl⟩
       exact zhzb (ρ:=s.eval) (m:=s.blk) (fun x hx=>(zdb ha x hx).symm) (fun k hk=>ha.blk hp (.inl hk)) hd hT h1
     . split at h
       . rename_i T hT
         rw [Tr.eval_bind] at h
         obtain ⟨E,h1,h2⟩:=Option.bind_eq_some_iff.1 h
         refine ⟨_,_,_,_,hkn.put (v:=E.val) (fun t=>zj3 s o.dst E t) (fun c hc=>by cases hc),h2,E,.plain hp fun s' ha=>.sem _ E (by rw [zbq ha,hg]) fun hd=>?_,rfl,rfl⟩
         obtain ⟨E0,he,hw⟩:=z5w hT h1
         exact zppb hd (by rw [z1y hp ha rfl]; exact he) hw
       . split at h
         . rename_i T hT
           rw [Tr.eval_bind] at h
           obtain ⟨E,h1,h2⟩:=Option.bind_eq_some_iff.1 h
           refine ⟨_,_,_,_,hkn.put (v:=E.val) (fun t=>zj3 s o.dst E t) (fun c hc=>by cases hc),h2,E,.plain hp fun s' ha=>.sem _ E (by rw [zbq ha,hg]) fun hd=>?_,rfl,rfl⟩
           exact z5x (ρ:=s.eval) (m:=s.blk) (fun x hx=>(zdb ha x hx).symm) (fun k hk=>ha.blk hp (.inl hk)) hd (zkzb hT) h1
         split at h
         . rename_i E he
           exact ⟨_,_,_,_,hkn.put (v:=E.val) (fun t=>zj3 s o.dst E.out t) (fun c hc=>by cases hc),h,E.out,zjbb hg he,rfl,rfl⟩
         . split at h
           . rename_i T hT
             rw [Tr.eval_bind] at h
             obtain ⟨E,h1,h2⟩:=Option.bind_eq_some_iff.1 h
             refine ⟨_,_,_,_,hkn.put (v:=E.val) (fun t=>zj3 s o.dst E t) (fun c hc=>by cases hc),h2,E,.plain hp fun s' ha=>.sem _ E (by rw [zbq ha,hg]) fun hd=>?_,rfl,rfl⟩
             exact z5x (ρ:=s.eval) (m:=s.blk) (fun x hx=>(zdb ha x hx).symm) (fun k hk=>ha.blk hp (.inl hk)) hd hT h1
           . cases h

theorem zeu (hcall:zwx P call) {ops:Array Oper}:∀ (rest:List Oper) {kn:Kn} {log:Log} {s:St} {K:Kn->Log->St->Tr ρ} {r:ρ},KnOk kn s->(zdj P cod own call ops rest kn log s K).eval=some r ->
  ∃ kn' log' s',KnOk kn' s'/\(K kn' log' s').eval=some r /\ ∀ (fin:Log->Prop) (Kp:St->Prop),fin log'->Kp s'->ARun P ops fin rest log s Kp
 | [],kn,log,s,K,r,hkn,h=>⟨kn,log,s,hkn,h,fun fin Kp h1 h2=>⟨h1,h2⟩⟩
 | o :: rest,kn,log,s,K,r,hkn,h=>by
  have run:∀ {kn:Kn},zd2b s o.dst=true->KnOk kn s->zf1 ops s.get o=some true->(execOp P cod own call o kn s fun kn' R W s'=>zdj P cod own call ops rest kn' (log++[(R,W)]) s' K).eval=some r ->
      ∃ kn' log' s',KnOk kn' s'/\(K kn' log' s').eval=some r /\ ∀ (fin:Log->Prop) (Kp:St->Prop),fin log'->Kp s'->ARun P ops fin (o :: rest) log s Kp:=by
    intro kn hd hkn hg h
    obtain ⟨kn1,R,W,s1,hk1,h1,E,hl,hW,hs1⟩:=z07 hcall hg hkn h
    obtain ⟨kn2,log2,s2,hk2,h2,hrun⟩:=zeu hcall rest hk1 h1
    refine ⟨kn2,log2,s2,hk2,h2,fun fin Kp h3 h4=>⟨zwi hd,R,E,hl,?_⟩⟩
    rw [<- hs1,<- hW]
    exact hrun fin Kp h3 h4
  have skip:∀ {kn:Kn},zd2b s o.dst=true->KnOk kn s->zf1 ops s.get o=some false->(zdj P cod own call ops rest (zf0 kn o.dst none) (log++[([],[])]) (s.put o.dst (.one .un)) K).eval=some r ->
      ∃ kn' log' s',KnOk kn' s'/\(K kn' log' s').eval=some r /\ ∀ (fin:Log->Prop) (Kp:St->Prop),fin log'->Kp s'->ARun P ops fin (o :: rest) log s Kp:=by
    intro kn hd hkn hg h
    obtain ⟨kn2,log2,s2,hk2,h2,hrun⟩:=zeu hcall rest (hkn.put (fun _=>rfl) (fun c hc=>by cases hc)) h
    refine ⟨kn2,log2,s2,hk2,h2,fun fin Kp h3 h4=>⟨zwi hd,[],⟨mkgd false (.one .un),[]⟩,zonb hg,?_⟩⟩
    rw [z2x]
    exact hrun fin Kp h3 h4
  unfold zdj at h
  split at h
  . cases h
  rename_i hd
  split at h
  . rename_i hgd
    exact run hd hkn (by unfold zf1; rw [hgd]) h
  rename_i j want hgd
  split at h
  . cases h
  rename_i t ht
  have gc:∀ (v:V) (b:Option Bool),s.get t=v->yl v want=b->zf1 ops s.get o=b:=by
    intro v b h1 h2
    unfold zf1
    rw [hgd]; simp only [ht,h1,h2]
  split at h
  . rename_i b hb
    have hv:=hkn _ _ hb
    have hg:=gc _ _ hv rfl
    rw [yl_b] at hg
    split at h
    . rename_i e; exact run hd hkn (by rw [hg,e]) h
    . rename_i e; exact skip hd hkn (by rw [hg,e]) h
  . split at h
    . rename_i hv
      exact skip hd hkn (gc _ _ hv rfl) h
    . rename_i c hv
      have hg:=gc _ _ hv rfl
      rw [show yl (V.one (C.d (D.b c))) want=some (c==want) from rfl] at hg
      split at h
      . rcases Tr.eval_ite h with ⟨rfl,h⟩ | ⟨rfl,h⟩
        . exact run hd (hkn.cons hv) (by rw [hg]; rfl) h
        . exact skip hd (hkn.cons hv) (by rw [hg]; rfl) h
      . rcases Tr.eval_ite h with ⟨rfl,h⟩ | ⟨rfl,h⟩
        . exact skip hd (hkn.cons hv) (by rw [hg]; rfl) h
        . exact run hd (hkn.cons hv) (by rw [hg]; rfl) h
    . cases h

def Fwd (s s':St):Prop:=∀ (w0:World) (U0:Nat->Prop) (X:Nat->Nat->Prop) (β0:Nat->Option Place) (a:Act) (w:World),Sim w0 U0 X β0 s a w->Sim w0 U0 X β0 s' a w
theorem zdt {ks:List (Nat×Nat)} {sp:SP} {s:St} {l:Ob} {x:sp.T} (h:zgs ks sp s=some (l,x)) (ho:ObOk (sp.len x) l):Fwd s (sp.put x):=by
 unfold zgs at h
 split at h
 . rename_i s1 hn
   intro w0 U0 X β0 a w hs
   exact (hs.norm hn).stWk (SP.wk h ho)
 . cases h
theorem SimB.ghost {w0:World} {U0:Nat->Prop} {X:Nat->Nat->Prop} {β0 β:Nat->Option Place} {U:Nat->Prop} {s:St} {a:Act} {w:World} (h:SimB w0 U0 X β0 β U s a w) {t:Nat} {e:TypeId} {c:Nat} (ht:s.get t=.one .nil) (hk:s.blk t=none) (hk0:t<1000000) :
   Sim w0 U0 X β0 { n:=s.n,env:=(t,.one (.own t 0 0)) :: s.env,mem:=(t,.rowT 0 e c true true []) :: s.mem } a w:=by
 have hv:a.tmps.getD t undef=.slice none 0 0:=by
   have:=h.env t; rw [ht] at this; exact this.toC
 obtain ⟨h1,h2⟩:=h.newKey (w':=w) (p:=.row (.slice none 0 0) 0) (blk:=.rowT 0 e c true true []) hk0 hk rfl rfl rfl (Nat.le_refl _) (fun _ _=>rfl) (fun b hb=>by simp [Place.block,Value.ownBlock] at hb) ⟨rfl,fun r hr=>by simp at hr,.inl ⟨rfl,rfl⟩⟩
 refine ⟨_,_,{ h1 with env:=fun t'=>?_ }⟩
 show RepV w _ U w0.heap.size _ ((look t' ((t,V.one (.own t 0 0)) :: s.env)).getD (.one .bad))
 rw [zah]
 by_cases q:t=t'
 . subst q
   rw [if_pos rfl,hv]
   exact .one _ _ ⟨none,0,.slice none 0 0,0,rfl,Nat.le_refl _,fun _=>⟨rfl,rfl⟩,fun x hx=>by (cases hx),zak _ _ _,Nat.le_refl _,fun _=>rfl⟩
 . rw [if_neg q]; exact h1.env t'
theorem znz:∀ (gs:List (Nat×TypeId×Nat)) (s:St),Fwd s (zo7 gs s)
 | [],s=>fun _ _ _ _ _ _ h=>h
 | (t,e,c) :: r,s=>by
  unfold zo7
  split
  . rename_i h1 h2 h3
    intro w0 U0 X β0 a w hs
    obtain ⟨β,U,hb⟩:=hs
    exact znz r _ _ _ _ _ _ _ (hb.ghost h1 h2 (by simpa using h3))
  . exact znz r s
theorem Fwd.trans {s1 s2 s3:St} (h:Fwd s1 s2) (k:Fwd s2 s3):Fwd s1 s3:=fun w0 U0 X β0 a w hs=>k _ _ _ _ _ _ (h _ _ _ _ _ _ hs)
theorem zfdb {ι:Type} (I:ι->St) (p:ι->Prop) (μ:ι->Nat) {c:Code} {Q:Exit->St->Prop} {s:St} (h0:∃ x,p x/\Fwd s (I x))
  (hround:∀ x,p x->AWp P c (zn4b (fun s1=>∃ x',p x'/\μ x' < μ x/\Fwd s1 (I x')) Q) (I x)):AWp P (.loop c) Q s:=by
 intro w0 U0 X β0 a w hs
 obtain ⟨x0,hp0,hx0⟩:=h0
 refine z6e (fun x a' w'=>p x/\Sim w0 U0 X β0 (I x) a' w') μ (fun x a w hI=>?_) (x0:=x0) ⟨hp0,hx0 _ _ _ _ _ _ hs⟩
 refine wp_mono (hround x hI.1 w0 U0 X β0 a w hI.2) ?_
 rintro e a' w' ⟨s',h1,h2⟩
 cases e with
 | normal =>
  obtain ⟨x',q1,q2,q3⟩:=h1
  exact ⟨x',q2,q1,q3 _ _ _ _ _ _ h2⟩
 | _=>exact ⟨s',h1,h2⟩
theorem zfeb {c:Code} {s s1 s2:St} {e:Exit} (h:AWp P c (fun e1 s'=>e1=e/\s'=s1) s) (hf:Fwd s1 s2):AWp P c (fun e1 s'=>e1=e/\s'=s2) s:=by
 intro w0 U0 X β0 a w hs
 refine wp_mono (h w0 U0 X β0 a w hs) ?_
 rintro e1 a' w' ⟨s',⟨rfl,rfl⟩,h2⟩
 exact ⟨s2,⟨rfl,rfl⟩,hf _ _ _ _ _ _ h2⟩

theorem z01 {x:EX} {e:Exit} (h:x.hits e=true):x.exit=e:=by
 obtain ⟨xe,ks,sp⟩:=x
 cases xe with
 | some id =>
  cases e with
  | exit id' =>
   have h':Nat.beq id id'=true:=h
   rw [Nat.eq_of_beq_eq_true h']; rfl
  | _=>cases h
 | none =>
  cases e with
  | ret=>rfl
  | _=>cases h
theorem ztl:∀ (es:List EX) {e:Exit} {s:St} {T:Tr (ExT es)} {o:ExT es},z8n es e s=some T->T.eval=some o -> ∃ s2,(z30 es o).eval=some (e,s2)/\Fwd s s2
 | [],e,s,T,o,h,ht=>by cases h
 | [x],e,s,T,o,h,ht=>by
  unfold z8n at h
  split at h
  . rename_i hh
    split at h
    . rename_i g y hg
      cases h
      obtain ⟨h1,h2⟩:=zcx ht
      cases h2
      exact ⟨x.sp.put o,by unfold z30; rw [z01 hh]; rfl,zdt hg h1⟩
    . cases h; cases ht
  . cases h
 | x :: y :: r,e,s,T,o,h,ht=>by
  unfold z8n at h
  split at h
  . rename_i hh
    split at h
    . rename_i g z hg
      cases h
      obtain ⟨h1,h2⟩:=zcx ht
      cases h2
      exact ⟨x.sp.put z,by show (Tr.ret (x.exit,x.sp.put z)).eval=_; rw [z01 hh]; rfl,zdt hg h1⟩
    . cases h; cases ht
  . split at h
    . rename_i T' hT
      cases h
      have ht':T'.eval.map Sum.inr=some o:=(Tr.eval_map (Sum.inr:ExT (y :: r)->x.sp.T⊕ExT (y :: r)) T').symm.trans ht
      obtain ⟨b,hb,rfl⟩:=Option.map_eq_some_iff.1 ht'
      obtain ⟨s2,h1,h2⟩:=ztl (y :: r) hT hb
      exact ⟨s2,h1,h2⟩
    . cases h

theorem z72 {L:LS} {body:Code} {F:L.sp.T->Option (L.sp.T⊕ExT L.es)}
  (hbody:∀ x r,F x=some r -> ∃ e s',(zhbb L e s').eval=some r/\AWp P body (fun e1 s1=>e1=e/\s1=s') (L.sp.put x)) {n tag:Nat} {x:L.sp.T} {o:ExT L.es} (h:zb2 tag F n x=some o) {e:Exit} {s2:St} (ho:(z30 L.es o).eval=some (e,s2))
  {s:St} (hs:Fwd s (L.sp.put x)):AWp P (.loop body) (fun e1 s1=>e1=e/\s1=s2) s:=by
 refine zfdb (ι:=Nat×L.sp.T) (fun z=>L.sp.put z.2) (fun z=>zb2 tag F z.1 z.2=some o) (fun z=>z.1) ⟨(n,x),h,hs⟩ ?_
 rintro ⟨m,y⟩ hp
 simp only at hp ⊢
 cases m with
 | zero=>cases hp
 | succ m =>
  unfold zb2 at hp
  split at hp
  . cases hp
  . rename_i y' hy
    obtain ⟨e1,s1,h1,h2⟩:=hbody y _ hy
    unfold zhbb at h1
    split at h1
    . rename_i he
      split at h1
      . rename_i g z hg
        obtain ⟨q1,q2⟩:=zcx h1
        cases q2
        refine zew h2 ?_
        rintro e3 s3 ⟨rfl,rfl⟩
        cases e3 with
        | normal=>exact ⟨(m,y'),hp,Nat.lt_succ_self m,(znz L.gs _).trans (zdt hg q1)⟩
        | _=>cases he
      . cases h1
    . split at h1
      . rename_i T hT
        rw [Tr.eval_map] at h1
        obtain ⟨b,hb,hb2⟩:=Option.map_eq_some_iff.1 h1
        cases hb2
      . cases h1
  . rename_i b hy
    cases hp
    obtain ⟨e1,s1,h1,h2⟩:=hbody y _ hy
    unfold zhbb at h1
    split at h1
    . split at h1
      . rename_i g z hg
        obtain ⟨q1,q2⟩:=zcx h1
        cases q2
      . cases h1
    . rename_i he
      split at h1
      . rename_i T hT
        rw [Tr.eval_map] at h1
        obtain ⟨b',hb,hb2⟩:=Option.map_eq_some_iff.1 h1
        cases hb2
        obtain ⟨s3,q1,q2⟩:=ztl L.es hT hb
        rw [ho] at q1
        cases q1
        have h3:=zfeb h2 q2
        refine zew h3 ?_
        rintro e4 s4 ⟨rfl,rfl⟩
        cases e4 with
        | normal=>cases he
        | _=>exact ⟨rfl,rfl⟩
      . cases h1

theorem zv0 {Λ:List LS} {fi:Nat} {body:Code} {ρ:Type} {K:Exit->Kn->St->Tr ρ} {r:ρ}
  (hb:∀ {kn:Kn} {s:St} {K:Exit->Kn->St->Tr ρ} {r:ρ},KnOk kn s->(exec P cod own call Λ fi body ρ kn s K).eval=some r -> ∃ e kn' s',KnOk kn' s'/\(K e kn' s').eval=some r/\AWp P body (fun e1 s1=>e1=e/\s1=s') s) :
  ∀ (n:Nat) {kn:Kn} {s:St},KnOk kn s->(zkeb n (fun again kn s=>exec P cod own call Λ fi body ρ kn s fun e kn' s'=>match e with
    | .normal=>(match zn1b body s' with | some s2=>again [] s2 | none=>.fail 16)
    | e=>K e kn' s') kn s).eval=some r ->
   ∃ e kn' s',KnOk kn' s'/\(K e kn' s').eval=some r /\ ∀ (w0:World) (U0:Nat->Prop) (X:Nat->Nat->Prop) (β0:Nat->Option Place) (a:Act) (w:World),Sim w0 U0 X β0 s a w->Code.rounds P body (fun e1 a' w'=>∃ s1,(e1=e/\s1=s')/\Sim w0 U0 X β0 s1 a' w') n a w
 | 0,kn,s,hkn,h=>by cases h
 | n+1,kn,s,hkn,h=>by
  obtain ⟨e1,kn1,s1,h1,h2,h3⟩:=hb hkn h
  cases e1 with
  | normal =>
   simp only at h2
   split at h2
   case h_2=>cases h2
   rename_i s3 hs3
   obtain ⟨e,kn',s',q1,q2,q3⟩:=zv0 hb n KnOk.nil h2
   refine ⟨e,kn',s',q1,q2,fun w0 U0 X β0 a w hs=>?_⟩
   refine wp_mono (h3 w0 U0 X β0 a w hs) ?_
   rintro e2 a2 w2 ⟨s2,⟨rfl,rfl⟩,hs2⟩
   exact q3 w0 U0 X β0 a2 w2 (hs2.norm hs3)
  | _ =>
   refine ⟨_,kn1,s1,h1,h2,fun w0 U0 X β0 a w hs=>?_⟩
   refine wp_mono (h3 w0 U0 X β0 a w hs) ?_
   rintro e2 a2 w2 ⟨s2,⟨rfl,rfl⟩,hs2⟩
   exact ⟨_,⟨rfl,rfl⟩,hs2⟩

theorem zclb {fi j:Nat} {L:LS} {e:Exit} {s:St} {o:ExT L.es} (h:(zkdb fi j L e s).eval=some o):∃ e' s2,(z30 L.es o).eval=some (e',s2)/\unJ e'=e/\Fwd s s2:=by
 unfold zkdb at h
 split at h
 . cases h
 rename_i e' he
 split at h
 . rename_i T hT
   obtain ⟨s2,h1,h2⟩:=ztl L.es hT h
   refine ⟨e',s2,h1,?_,h2⟩
   cases e with
   | normal=>cases he; rfl
   | exit id =>
    simp only at he
    split at he
    . cases he
    . rename_i hb
      cases he
      show (match Nat.beq id 9998 with | true=>Exit.normal | false=>.exit id)=_
      rw [hb]
   | _=>cases he; rfl
 . cases h

theorem zb6 (hcall:zwx P call) {Λ:List LS} {fi:Nat}:∀ (c:Code) {ρ:Type} {kn:Kn} {s:St} {K:Exit->Kn->St->Tr ρ} {r:ρ},KnOk kn s->(exec P cod own call Λ fi c ρ kn s K).eval=some r ->
  ∃ e kn' s',KnOk kn' s'/\(K e kn' s').eval=some r/\AWp P c (fun e1 s1=>e1=e/\s1=s') s
 | .skip,ρ,kn,s,K,r,hkn,h=>⟨.normal,kn,s,hkn,h,ziub ⟨rfl,rfl⟩⟩
 | .region id ops draw,ρ,kn,s,K,r,hkn,h=>by
  unfold exec at h
  split at h
  . obtain ⟨kn',log',s',h1,h2,h3⟩:=zeu hcall _ hkn h
    refine ⟨.normal,kn',s',h1,h2,?_⟩
    have:=z9i (P:=P) (id:=id) (l:=ops.toList) (Q:=fun e1 s1=>e1=Exit.normal/\s1=s') (s:=s) (by
      rw [show ops.toList.toArray=ops by simp]
      exact h3 _ _ trivial ⟨rfl,rfl⟩)
    rwa [show ops.toList.toArray=ops by simp] at this
  . split at h
    . rename_i hf
      obtain ⟨kn',log',s',h1,h2,h3⟩:=zeu hcall _ hkn h
      split at h2
      . rename_i ho
        refine ⟨.normal,kn',s',h1,h2,?_⟩
        have:=zu5 (P:=P) (id:=id) (l:=ops.toList) (Q:=fun e1 s1=>e1=Exit.normal/\s1=s') (s:=s) hf (by
          rw [show ops.toList.toArray=ops by simp]
          exact h3 _ _ ho ⟨rfl,rfl⟩)
        rwa [show ops.toList.toArray=ops by simp] at this
      . cases h2
    . cases h
 | .seq a b,ρ,kn,s,K,r,hkn,h=>by
  unfold exec at h
  have fin:∀ {e kn1 s1},KnOk kn1 s1->(match e with | Exit.normal=>exec P cod own call Λ fi b ρ kn1 s1 K | e=>K e kn1 s1).eval=some r->AWp P a (fun e1 s2=>e1=e/\s2=s1) s ->
      ∃ e kn' s',KnOk kn' s'/\(K e kn' s').eval=some r/\AWp P (.seq a b) (fun e1 s1=>e1=e/\s1=s') s:=by
    intro e kn1 s1 h1 h2 h3
    cases e with
    | normal =>
      obtain ⟨e2,kn2,s2,q1,q2,q3⟩:=zb6 hcall b h1 h2
      refine ⟨e2,kn2,s2,q1,q2,zfcb (zew h3 ?_)⟩
      rintro e s ⟨rfl,rfl⟩
      exact q3
    | _ =>
      refine ⟨_,kn1,s1,h1,h2,zfcb (zew h3 ?_)⟩
      rintro e s ⟨rfl,rfl⟩
      exact ⟨rfl,rfl⟩
  split at h
  . obtain ⟨e,kn1,s1,h1,h2,h3⟩:=zb6 hcall a hkn h
    exact fin h1 h2 h3
  . rename_i L hL
    obtain ⟨o,h1,h2⟩:=Option.bind_eq_some_iff.1 h
    simp only at h2
    rw [Tr.eval_bind] at h2
    obtain ⟨⟨e,s2⟩,h3,h4⟩:=Option.bind_eq_some_iff.1 h2
    obtain ⟨e1,kn1,s1,q1,q2,q3⟩:=zb6 hcall a hkn h1
    obtain ⟨e',s3,p1,p2,p3⟩:=zclb q2
    rw [h3] at p1
    cases p1
    exact fin (e:=e1) KnOk.nil (by rw [<- p2]; exact h4) (zfeb q3 p3)
 | .cond c a b,ρ,kn,s,K,r,hkn,h=>by
  unfold exec at h
  have ha:∀ {kn:Kn},KnOk kn s->s.eval c=vb true->(exec P cod own call Λ fi a ρ kn s K).eval=some r -> ∃ e kn' s',KnOk kn' s'/\(K e kn' s').eval=some r/\AWp P (.cond c a b) (fun e1 s1=>e1=e/\s1=s') s:=by
    intro kn hk hc h
    obtain ⟨e,kn1,s1,h1,h2,h3⟩:=zb6 hcall a hk h
    exact ⟨e,kn1,s1,h1,h2,z55 hc (fun _=>h3) (fun e=>by cases e)⟩
  have hb:∀ {kn:Kn},KnOk kn s->s.eval c=vb false->(exec P cod own call Λ fi b ρ kn s K).eval=some r -> ∃ e kn' s',KnOk kn' s'/\(K e kn' s').eval=some r/\AWp P (.cond c a b) (fun e1 s1=>e1=e/\s1=s') s:=by
    intro kn hk hc h
    obtain ⟨e,kn1,s1,h1,h2,h3⟩:=zb6 hcall b hk h
    exact ⟨e,kn1,s1,h1,h2,z55 hc (fun e=>by cases e) (fun _=>h3)⟩
  split at h
  . rename_i t hk
    have hc:=zhl hkn hk
    split at h
    . exact ha hkn hc h
    . exact hb hkn hc h
  . split at h
    . rename_i t hc
      split at h
      . rename_i j
        rcases Tr.eval_ite h with ⟨rfl,h⟩ | ⟨rfl,h⟩
        . exact ha (hkn.cons hc) hc h
        . exact hb (hkn.cons hc) hc h
      . rcases Tr.eval_ite h with ⟨rfl,h⟩ | ⟨rfl,h⟩
        . exact ha hkn hc h
        . exact hb hkn hc h
    . cases h
 | .block id body,ρ,kn,s,K,r,hkn,h=>by
  unfold exec at h
  obtain ⟨e,kn1,s1,h1,h2,h3⟩:=zb6 hcall body hkn h
  cases e with
  | exit id' =>
    simp only at h2
    split at h2
    . rename_i e
      obtain rfl:id'=id:=Nat.eq_of_beq_eq_true e
      refine ⟨.normal,kn1,s1,h1,h2,zt2 (zew h3 ?_)⟩
      rintro e s ⟨rfl,rfl⟩
      exact z9c ⟨rfl,rfl⟩
    . rename_i e
      have e:id'≠id:=Nat.ne_of_beq_eq_false e
      refine ⟨_,kn1,s1,h1,h2,zt2 (zew h3 ?_)⟩
      rintro e s ⟨rfl,rfl⟩
      exact z4g (by simpa using e) ⟨rfl,rfl⟩
  | _ =>
    refine ⟨_,kn1,s1,h1,h2,zt2 (zew h3 ?_)⟩
    rintro e s ⟨rfl,rfl⟩
    exact ⟨rfl,rfl⟩
 | .loop body,ρ,kn,s,K,r,hkn,h=>by
  unfold exec at h
  split at h
  . cases h
  rename_i L hL
  split at h
  . obtain ⟨e,kn',s',h1,h2,h3⟩:=zv0 (fun hk he=>zb6 hcall body hk he) 70 hkn h
    exact ⟨e,kn',s',h1,h2,fun w0 U0 X β0 a w hs=>wp_loop_rounds 70 (h3 w0 U0 X β0 a w hs)⟩
  split at h
  . cases h
  rename_i g x hg
  obtain ⟨q1,h⟩:=zcx h
  obtain ⟨o,h1,h2⟩:=Option.bind_eq_some_iff.1 h
  simp only at h2
  rw [Tr.eval_bind] at h2
  obtain ⟨⟨e,s2⟩,h3,h4⟩:=Option.bind_eq_some_iff.1 h2
  refine ⟨e,[],s2,KnOk.nil,h4,z72 (L:=L) (fun x r hr=>?_) h1 h3 ((znz L.gs _).trans (zdt hg q1))⟩
  obtain ⟨e,kn',s',a1,a2,a3⟩:=zb6 hcall body (KnOk.nil) hr
  exact ⟨e,s',a2,a3⟩
 | .exit id,ρ,kn,s,K,r,hkn,h=>⟨.exit id,kn,s,hkn,h,zivb ⟨rfl,rfl⟩⟩
 | .ret,ρ,kn,s,K,r,hkn,h=>⟨.ret,kn,s,hkn,h,zl2b ⟨rfl,rfl⟩⟩
 | .rangeFunc ..,ρ,kn,s,K,r,hkn,h=>by cases h
 | .scope ..,ρ,kn,s,K,r,hkn,h=>by cases h
 | .label ..,ρ,kn,s,K,r,hkn,h=>by cases h
 | .goto ..,ρ,kn,s,K,r,hkn,h=>by cases h
 | .refuse ..,ρ,kn,s,K,r,hkn,h=>by cases h

theorem zgv (hcall:zwx P call) {Λs:List (FuncId×LS)} {f:FuncId} {fn:Func} (hf:P.funcs[f]?=some fn)
   {ys:List V} {m:Mem} {r:V} {m':Mem} (h:(zn4 P cod own call Λs fn f ys m).eval=some (r,m')):ACall P f ys m fun r' m''=>r'=r/\m''=m':=by
 unfold zn4 at h
 split at h
 case h_2=>cases h
 rename_i c hb
 split at h
 case h_2=>cases h
 rename_i hn
 simp only [Bool.and_eq_true,decide_eq_true_eq] at hn
 obtain ⟨e,kn',s',h1,h2,h3⟩:=zb6 hcall c KnOk.nil h
 unfold zya at h2
 split at h2
 case h_2=>cases h2
 rename_i he
 split at h2
 case h_2=>cases h2
 rename_i v hv
 split at h2
 case h_2=>cases h2
 rename_i s1 hs1
 split at h2
 case h_2=>cases h2
 rename_i q1 r1 hs2
 cases h2
 refine zt4 (zkxb m s'.mem ((zmx { n:=1,env:=[(0,v)],mem:=s'.mem }).get 0)) hf hb rfl rfl hn.1 hn.2 (zew h3 ?_)
 rintro e1 s2 ⟨rfl,rfl⟩
 refine ⟨?_,r,s1.mem,?_,rfl,rfl⟩
 . cases e1 <;> first | exact .inl rfl | exact .inr rfl | cases he
 . simp only [hv]
   have hs3:=hs1
   unfold St.norm at hs3
   split at hs3
   . cases hs3
     simp only [List.map_cons,List.map_nil] at hs2 ⊢
     cases hs2
     rw [hs1,z4r]; rfl
   . cases hs3

theorem zgk:∀ (l:List V),WkVs l l
 | []=>trivial
 | x :: r=>⟨by cases x; exact .inl rfl; exact zyr _; exact rfl,zgk r⟩

theorem zmi {f:FuncId} {ys:List V} {m:Mem}:∀ {Γ:List (PF P)} {T:Tr (V×Mem)} {r:V} {m':Mem},zdeb f ys m Γ=some T->T.eval=some (r,m') -> ∃ ys' m2,WkVs ys ys'/\WkM m m2/\ACall P f ys' m2 fun r' m''=>r'=r/\m''=m'
 | [],T,r,m',h,hT=>by cases h
 | F :: Γ,T,r,m',h,hT=>by
  unfold zdeb at h
  split at h
  . rename_i e
    split at h
    . rename_i T' hF
      cases h
      have:=F.ok ys m _ r m' hF hT
      rw [Nat.eq_of_beq_eq_true e] at this
      exact this
    . exact zmi h hT
  . exact zmi h hT
theorem zj6 {Γ:List (PF P)} {Λs:List (FuncId×LS)}:∀ n,zwx P (z08 P cod Γ Λs n)
 | 0=>fun f xs m r m' h=>by cases h
 | n+1=>fun f xs m r m' h=>by
  unfold z08 at h
  split at h
  . rename_i T hT
    exact zmi hT h
  . split at h
    . rename_i fn hf
      exact ⟨xs,m,zgk _,z4j _,zgv (zj6 n) hf h⟩
    . cases h

theorem SimB.monoX {w0:World} {U0:Nat->Prop} {X X':Nat->Nat->Prop} {β0 β:Nat->Option Place} {U:Nat->Prop} {s:St} {a:Act} {w:World} (h:SimB w0 U0 X β0 β U s a w) (hX:∀ b j,X b j->X' b j):SimB w0 U0 X' β0 β U s a w :=
 { h with
  chg:=⟨h.chg.os,h.chg.tape,h.chg.output,h.chg.size,fun b hb=>by
   rcases h.chg.block b hb with e | ⟨c,c',e,f,e1,e2,e3,e4⟩ | e
   . exact .inl e
   . exact .inr (.inl ⟨c,c',e,f,e1,e2,e3,fun j hj=>e4 j (fun q=>hj (hX b j q))⟩)
   . exact .inr (.inr fun j=>hX b j (e j))⟩
  may:=fun k p blk b j h1 h2 h3 h4=>hX b j (h.may k p blk b j h1 h2 h3 h4) }

theorem SimB.freeze {w0:World} {U0:Nat->Prop} {β0 β:Nat->Option Place} {U:Nat->Prop} {s:St} {a:Act} {w:World} (h:SimB w0 U0 (fun _ _=>False) β0 β U s a w) (hβ:∀ k,β0 k=none) :
  Sim w0 U0 (fun _ _=>False) β0 ⟨s.n,s.env.map fun p=>(p.1,frzV s.mem p.2),[]⟩ a w:=by
 let U':Nat->Prop:=fun b=>U b \/ ∃ k v ver,β k=some (.row v ver)/\v.ownBlock=some b
 have hU:∀ b,U b->U' b:=fun b hb=>.inl hb
 have hnew:∀ k v ver b,β k=some (.row v ver)->v.ownBlock=some b->w0.heap.size<=b:=by
  intro k v ver b hk hb
  obtain ⟨blk,hblk⟩:=Option.isSome_iff_exists.1 (h.dom k _ hk)
  rcases Nat.lt_or_ge b w0.heap.size with hlt | hge
  . exact (h.may k _ blk b 0 hk hblk hb hlt).elim
  . exact hge
 have hC:∀ (v:Value) (c:C),RepC w β U w0.heap.size v c->RepC w (fun _=>none) U' w0.heap.size v (frzC s.mem c):=by
  intro v c hc
  cases c with
  | mp k=>exact trivial
  | own k ver len =>
    simp only [frzC]
    split
    . rename_i ver' e c' ap fr xs hb
      split
      . rename_i hv
        subst hv
        obtain ⟨ao,cap,v0,ver0,rfl,hlc,hn0,hs0,hk,hv1,hv2⟩:=hc
        have hb':(s.blk k).map Blk.std=some (.row ver e (esz c') ap fr (xs.map (enc c'))):=by
          show (look k s.mem).map Blk.std=_; rw [hb]; rfl
        obtain ⟨q1,q2,q3⟩:=h.placeStd hb' hk
        subst q1
        obtain rfl:=hv2 rfl
        have main:∀ UU:Nat->Prop,(∀ g cap',(Value.slice ao len cap:Value)=.slice (some ⟨g,0,none⟩) (xs.map (enc c')).length cap'->UU g)->(∀ b,(U b/\(fr=true->w0.heap.size<=b))->UU b)->RepI w UU (.slice ao len cap) (.st c' xs):=by
          intro UU hg hsub
          refine RepI.toSt ?_
          rcases q3 with ⟨e1,e2⟩ | ⟨g,cap',cur,fz,e1,hgh,h3,h4,h5,h6,h7,h8⟩
          . cases e1; rw [e2]; exact .nil _ _ _ (fun _=>rfl)
          . have hgg:=hg g cap' e1
            cases e1
            have:=zg7 (w:=w) (UU:=UU) (g:=g) (off:=0) (len:=(xs.map (enc c')).length) (cap:=cap) (sz:=esz c') (rows:=xs.map (enc c')) hgg q2 (by omega) (by omega) (fun i j r d hi hj=>by
             obtain ⟨u,k1,k2,k3⟩:=h8 i j r d hi hj
             exact ⟨u,by simp only [World.cell?,hgh]; simpa using k1,k3.mono hsub (fun _ _=>rfl)⟩)
            rw [List.drop_zero,List.take_length,Nat.zero_mul] at this
            exact this
        have hown:∀ g cap',(Value.slice ao len cap:Value)=.slice (some ⟨g,0,none⟩) (xs.map (enc c')).length cap'->(Value.slice ao len cap).ownBlock=some g:=by
          intro g cap' e1; rw [e1]; rfl
        cases fr with
        | true=>exact main (fun b=>U' b/\w0.heap.size<=b) (fun g cap' e1=>⟨.inr ⟨k,_,_,hk,hown g cap' e1⟩,hnew k _ _ g hk (hown g cap' e1)⟩) (fun b hb=>⟨.inl hb.1,hb.2 rfl⟩)
        | false=>exact main U' (fun g cap' e1=>.inr ⟨k,_,_,hk,hown g cap' e1⟩) (fun b hb=>.inl hb.1)
      . trivial
    . trivial
  | sub=>trivial
  | ptr=>trivial
  | pr=>trivial
  | asl=>trivial
  | clp=>trivial
  | pre=>trivial
  | nn x=>exact ⟨RepI.mono hc.1 hU (fun _ _=>rfl),hc.2⟩
  | d x=>exact RepI.mono hc hU (fun _ _=>rfl)
  | f x=>exact RepI.mono (U:=fun b=>U b/\w0.heap.size<=b) hc (fun b hb=>⟨hU b hb.1,hb.2⟩) (fun _ _=>rfl)
  | nil=>exact hc
  | pv cells =>
    obtain ⟨b,o,vals,h1,h2,h3⟩:=hc
    exact ⟨b,o,vals,h1,hU b h2,fun j d hj=>⟨(h3 j d hj).1,((h3 j d hj).2).mono hU (fun _ _=>rfl)⟩⟩
  | clo f caps=>obtain ⟨us,h1,h2,h3⟩:=hc; exact ⟨us,h1,h2,fun j u d hu hd=>(h3 j u d hu hd).mono hU (fun _ _=>rfl)⟩
  | un=>exact hc
  | bad=>trivial
 have hV1:∀ (v:Value) (x:V),RepV w β U w0.heap.size v x->RepV w (fun _=>none) U' w0.heap.size v (zkqb s.mem x):=by
  intro v x hx
  cases hx with
  | one v c hc=>exact .one _ _ (hC v c hc)
  | agg vs cs hl h1 hr =>
    refine .agg vs _ (by simpa using hl) h1 fun j u c hu hc=>?_
    rw [List.getElem?_map,Option.map_eq_some_iff] at hc
    obtain ⟨c0,hc0,rfl⟩:=hc
    exact hC _ _ (hr j u c0 hu hc0)
  | tup vs xs hl hr=>exact .bad _
 have hV:∀ (v:Value) (x:V),RepV w β U w0.heap.size v x->RepV w (fun _=>none) U' w0.heap.size v (frzV s.mem x):=by
  intro v x hx
  cases hx with
  | one v c hc=>exact hV1 v (.one c) (.one v c hc)
  | agg vs cs hl h1 hr=>exact hV1 _ (.agg cs) (.agg vs cs hl h1 hr)
  | tup vs xs hl hr =>
    refine .tup vs _ (by simpa using hl) fun j u x hu hx=>?_
    rw [List.getElem?_map,Option.map_eq_some_iff] at hx
    obtain ⟨x0,hx0,rfl⟩:=hx
    exact hV1 _ _ (hr j u x0 hu hx0)
 refine ⟨fun _=>none,U',?_⟩
 exact {
  n:=h.n,small:=h.small,args:=h.args,ver0:=h.ver0,defers:=h.defers,glob:=h.glob.map hU (fun _ _=>rfl)
  hist:=fun k p hp=>by rw [hβ k] at hp; cases hp
  env:=fun t=>by
    have he:=h.env t
    unfold St.get at he ⊢
    have:∀ l:List (Nat×V),look t (l.map fun p=>(p.1,frzV s.mem p.2))=(look t l).map (frzV s.mem):=by
      intro l
      induction l with
      | nil=>rfl
      | cons p l ih =>
        obtain ⟨j,v⟩:=p
        rw [List.map_cons,zah,zah]
        split
        . rfl
        . exact ih
    rw [this]
    cases hl:look t s.env with
    | none=>exact .bad _
    | some x=>rw [hl] at he; exact hV _ _ he
  mem:=fun k blk hk=>by cases hk
  dom:=fun k p hp=>by cases hp
  apart:=fun k p b hp=>by cases hp
  inj:=fun k k' p p' b1 b2 b j hne hp=>by cases hp
  stab:=fun b hb=>by
    rcases hb with hb | ⟨k,v,ver,hk,hv⟩
    . exact h.stab b hb
    . exact (h.apart k _ b hk hv).2
  old:=fun b hb=>.inl (h.old b hb)
  new:=fun b hlt hb=>by
    rcases hb with hb | ⟨k,v,ver,hk,hv⟩
    . exact h.new b hlt hb
    . have:=hnew k v ver b hk hv; omega
  chg:=h.chg
  may:=fun k p blk b j hp=>by cases hp }

theorem zpb {Γ:List (PF P)} {Λs:List (FuncId×LS)} {n:Nat} {f:FuncId} {ap:List VP1} {rp:SP} {x:VPsT ap Unit} {r:rp.T} (h:(fnTr P cod Γ Λs n f ap rp x).eval=some r) :
  ACall P f (zgr (fun _=>0) ap x).1 [] fun r' m'=>r'=(rp.put r).get 0/\m'=(rp.put r).mem:=by
 unfold fnTr at h
 split at h
 case h_2=>cases h
 rename_i fn hf
 rw [Tr.eval_bind] at h
 obtain ⟨⟨r0,m0⟩,h1,h2⟩:=Option.bind_eq_some_iff.1 h
 simp only at h2
 split at h2
 case h_2=>cases h2
 rename_i g y hg
 obtain ⟨q1,q2⟩:=zcx h2
 cases q2
 have hc:=zgv (zj6 (cod:=cod) (Γ:=Γ) (Λs:=Λs) n) hf h1
 have hw:=SP.wk hg q1
 intro w U0 X β0 us hs
 have hβ:∀ k,β0 k=none:=by
  intro k
  cases hk:β0 k with
  | none=>rfl
  | some p=>have:=hs.dom k p hk; cases this
 have hs0:SimB w U0 (fun _ _=>False) β0 β0 U0 ⟨(zgr (fun _=>0) ap x).1.length,zby 0 (zgr (fun _=>0) ap x).1,[]⟩ ⟨us,[]⟩ w :=
  { hs with chg:=Chg.refl _ _ _,may:=fun k p blk b j hp=>by rw [hβ k] at hp; cases hp }
 refine (hc w U0 _ β0 us hs0).mono ?_
 rintro e w' ⟨v,r',m',rfl,⟨rfl,rfl⟩,hsim⟩
 refine ⟨v,_,_,rfl,⟨rfl,rfl⟩,?_⟩
 obtain ⟨β1,U1,hb1⟩:=hsim
 have h3:=(hb1.freeze hβ).stWk hw
 obtain ⟨β,U,h4'⟩:=h3
 have h4:=h4'.monoX (X':=X) (fun _ _ e=>e.elim)
 have hn:(rp.put r).n=1:=hw.n.symm
 refine ⟨β,U,{ h4 with n:=by rw [h4.n,hn],small:=by simp,env:=fun t=>?_ }⟩
 have:=h4.env t
 cases t with
 | zero=>exact this
 | succ t =>
  have e:(#[v]:Array Value).getD (t+1) undef=undef:=by simp
  rw [e]
  show RepV _ _ _ _ undef ((look (t+1) [(0,(rp.put r).get 0)]).getD (.one .bad))
  simp [look]
  exact .bad _

def FS.pf {P:Program} (F:FS P):PF P:=⟨F.f,[],z5u P F,fun ys m T r m' hT h=>by
 unfold z5u at hT
 split at hT
 . split at hT
   . rename_i g hg
     cases hT
     obtain ⟨y,h1,h2⟩:=Option.bind_eq_some_iff.1 h
     cases h2
     obtain ⟨_,hw⟩:=ztd (len:=fun _=>0) hg (fun q hq=>by cases hq) Unit ()
     exact ⟨_,[],hw,trivial,F.ok _ _ h1⟩
   . cases hT
 . cases hT⟩

theorem zwu {P:Program} {f:FuncId} {args:List V} {m:List (Nat×Blk)} {K K':V->List (Nat×Blk)->Prop} (h:ACall P f args m K)
  (hk:∀ r m',K r m' -> ∃ r2 m2,K' r2 m2/\Fwd ⟨1,[(0,r)],m'⟩ ⟨1,[(0,r2)],m2⟩):ACall P f args m K':=by
 intro w U0 X β0 us hs
 refine (h w U0 X β0 us hs).mono ?_
 rintro e w' ⟨v,r,m',rfl,hK,hsim⟩
 obtain ⟨r2,m2,h1,h2⟩:=hk r m' hK
 exact ⟨v,r2,m2,rfl,h1,h2 _ _ _ _ _ _ hsim⟩

theorem z26 {ks:List (Nat×Nat)} {sp:SP} {r:V} {m:Mem} {l:Ob} {y:sp.T} (h:zgs ks sp ⟨1,[(0,r)],m⟩=some (l,y)) (ho:ObOk (sp.len y) l):Fwd ⟨1,[(0,r)],m⟩ ⟨1,[(0,(sp.put y).get 0)],(sp.put y).mem⟩:=by
 have hf:=zdt h ho
 have hn:(sp.put y).n=1:=by
  unfold zgs at h
  split at h
  . rename_i s1 hs1
    have hw:=SP.wk h ho
    rw [<- hw.n]
    unfold St.norm at hs1
    split at hs1
    . cases hs1; rfl
    . cases hs1
  . cases h
 intro w0 U0 X β0 a w hs
 have hs0:=hs
 obtain ⟨β1,U1,h1⟩:=hs0
 obtain ⟨β,U,h4⟩:=hf w0 U0 X β0 a w hs
 refine ⟨β,U,{ h4 with n:=by rw [h4.n,hn],small:=by simp,env:=fun t=>?_ }⟩
 have:=h4.env t
 show RepV w β U w0.heap.size (a.tmps.getD t undef) ((look t [(0,(sp.put y).get 0)]).getD (.one .bad))
 cases t with
 | zero=>exact this
 | succ t=>simp [look]; exact .bad _

theorem zhqb {Γ:List (PF P)} {Λs:List (FuncId×LS)} {n:Nat} {f:FuncId} {ap rp:SP} {x:ap.T} {r:rp.T} (h:(gsTr P cod Γ Λs n f ap rp x).eval=some r)
  {ys:List V} {m:Mem} {g:Ob} (he:zq3 ap ys m=some (g,x)) (hg:ObOk (ap.len x) g):ACall P f ys m fun r' m'=>r'=(rp.put r).get 0/\m'=(rp.put r).mem:=by
 unfold zq3 at he
 split at he
 case h_2=>cases he
 rename_i hle
 simp only [decide_eq_true_eq] at hle
 unfold gsTr at h
 split at h
 case h_2=>cases h
 rename_i fn hf
 split at h
 case h_2=>cases h
 rename_i c hb
 split at h
 case h_2=>cases h
 rename_i hn
 simp only [Bool.and_eq_true,decide_eq_true_eq] at hn
 obtain ⟨hn1,hn2⟩:=hn
 have hn1:=Nat.eq_of_beq_eq_true hn1
 rw [Tr.eval_bind] at h
 obtain ⟨⟨r0,m0⟩,h1,h2⟩:=Option.bind_eq_some_iff.1 h
 simp only at h2
 split at h2
 case h_2=>cases h2
 rename_i g2 y hy
 obtain ⟨q1,q2⟩:=zcx h2
 cases q2
 obtain ⟨e,kn',s',h3,h4,h5⟩:=zb6 (zj6 (cod:=cod) (Γ:=Γ) (Λs:=Λs) n) c KnOk.nil h1
 unfold zya at h4
 split at h4
 case h_2=>cases h4
 rename_i he'
 split at h4
 case h_2=>cases h4
 rename_i v hv
 split at h4
 case h_2=>cases h4
 rename_i s1 hs1
 split at h4
 case h_2=>cases h4
 rename_i z1 z2 hs2
 cases h4
 have hfw:Fwd ⟨ap.n,zby 0 ys,m⟩ (ap.put x):=zdt he hg
 have hac:ACall P f ys m fun r' m''=>r'=r0/\m''=s1.mem:=by
  refine zt4 (zkxb (ap.put x).mem s'.mem ((zmx { n:=1,env:=[(0,v)],mem:=s'.mem }).get 0)) hf hb hn1 rfl (by omega) hle ?_
  have hA:AWp P c (fun e1 s1=>e1=e/\s1=s') ⟨ap.n,zby 0 ys,m⟩:=fun w0 U0 X β0 a w hs=>h5 w0 U0 X β0 a w (hfw _ _ _ _ _ _ hs)
  refine zew hA ?_
  rintro e1 s2 ⟨rfl,rfl⟩
  refine ⟨?_,r0,s1.mem,?_,rfl,rfl⟩
  . cases e1 <;> first | exact .inl rfl | exact .inr rfl | cases he'
  . simp only [hv]
    have hs3:=hs1
    unfold St.norm at hs3
    split at hs3
    . cases hs3
      simp only [List.map_cons,List.map_nil] at hs2 ⊢
      cases hs2
      rw [hs1,z4r]; rfl
    . cases hs3
 refine zwu hac ?_
 rintro r' m' ⟨rfl,rfl⟩
 exact ⟨_,_,⟨rfl,rfl⟩,z26 hy q1⟩

structure GS (P:Program) where
 f:FuncId
 ms:List Nat
 ap:SP
 rp:SP
 fn:ap.T->Option rp.T
 ok:∀ x r,fn x=some r -> ∀ ys m g,zq3 ap ys m=some (g,x)->ObOk (ap.len x) g->ACall P f ys m fun r' m'=>r'=(rp.put r).get 0/\m'=(rp.put r).mem
def GS.pf {P:Program} (G:GS P):PF P:=⟨G.f,G.ms,zjeb G.ap G.rp G.fn,fun ys m T r m' hT h=>by
 unfold zjeb at hT
 split at hT
 . rename_i g x hg
   cases hT
   obtain ⟨h1,h2⟩:=zcx h
   obtain ⟨y,h3,h4⟩:=Option.bind_eq_some_iff.1 h2
   cases h4
   exact ⟨ys,m,zgk _,z4j _,G.ok x y h3 ys m g hg h1⟩
 . cases hT⟩

theorem SimB.ghostEnd {w0:World} {U0:Nat->Prop} {X:Nat->Nat->Prop} {β0 β:Nat->Option Place} {U:Nat->Prop} {a:Act} {w:World} (h:SimB w0 U0 X β0 β U ⟨1,[(0,.one .nil)],[]⟩ a w) (e:TypeId) (c:Nat) (fr:Bool) :
  Sim w0 U0 X β0 ⟨1,[(0,.one (.own 2000000 0 0))],[(2000000,.rowT 0 e c true fr [])]⟩ a w:=by
 have hv:a.tmps.getD 0 undef=.slice none 0 0:=(h.env 0).toC
 have hno:∀ k,β k=none:=fun k=>by
  cases hb:β k with
  | none=>rfl
  | some p=>have:=h.dom k p hb; cases this
 refine ⟨upd β 2000000 (.row (.slice none 0 0) 0),U,?_⟩
 have hget:∀ k p,upd β 2000000 (.row (.slice none 0 0) 0) k=some p->k=2000000/\p=.row (.slice none 0 0) 0:=by
  intro k p hp
  by_cases e:2000000=k
  . subst e; rw [zak] at hp; exact ⟨rfl,by simpa using hp.symm⟩
  . rw [upd_ne β e,hno] at hp; cases hp
 have hblk:∀ k b,look k [(2000000,Blk.rowT 0 e c true fr [])]=some b->k=2000000/\b=.rowT 0 e c true fr []:=by
  intro k b hb
  rw [zah] at hb
  split at hb
  . rename_i q; exact ⟨q.symm,by simpa using hb.symm⟩
  . cases hb
 exact {
  n:=h.n,small:=h.small,args:=h.args,ver0:=h.ver0,defers:=h.defers,glob:=h.glob
  hist:=fun k p hp hb=>by
    obtain ⟨b,hb⟩:=Option.isSome_iff_exists.1 hb
    obtain ⟨rfl,_⟩:=hblk k b hb
    rw [h.args 2000000 (by omega)] at hp; cases hp
  env:=fun t=>by
    show RepV w _ U w0.heap.size (a.tmps.getD t undef) ((look t [(0,V.one (.own 2000000 0 0))]).getD (.one .bad))
    cases t with
    | zero =>
     rw [hv]
     exact .one _ _ ⟨none,0,.slice none 0 0,0,rfl,Nat.le_refl _,fun _=>⟨rfl,rfl⟩,fun x hx=>by (cases hx),zak _ _ _,Nat.le_refl _,fun _=>rfl⟩
    | succ t=>simp [look]; exact .bad _
  mem:=fun k b hb=>by
    obtain ⟨rfl,rfl⟩:=hblk k b hb
    exact ⟨_,zak _ _ _,rfl,fun r hr=>by simp at hr,.inl ⟨rfl,rfl⟩⟩
  dom:=fun k p hp=>by
    obtain ⟨rfl,_⟩:=hget k p hp
    rfl
  apart:=fun k p b hp hb=>by
    obtain ⟨rfl,rfl⟩:=hget k p hp
    simp [Place.block,Value.ownBlock] at hb
  inj:=fun k1 k2 p1 p2 b1 b2 b j hne hp1 hp2=>by
    obtain ⟨rfl,_⟩:=hget k1 p1 hp1
    obtain ⟨rfl,_⟩:=hget k2 p2 hp2
    exact absurd rfl hne
  stab:=h.stab,old:=h.old,new:=h.new,chg:=h.chg
  may:=fun k p blk b j hp hb hc=>by
    obtain ⟨rfl,rfl⟩:=hget k p hp
    have:=zan hc
    simp [Place.block,Value.ownBlock] at this }

def zdm (e c b:Nat) (xs:List (τ c)):Tr (V×Mem) :=
 .grd (decide ((0+xs.length)*b<=140737488355328/\0+xs.length<=maxLen)) (.ret (.one (.own 2000000 0 xs.length),[(2000000,.rowT 0 e c true (zn0 c) xs)]))
def z4c (e c b:Nat) (ys:List V) (m:Mem):Option (Tr (V×Mem)) :=
 match ys,m with
 | [.one (.d (.st k xs))],[]=>match zkh c k xs with
  | some xs=>some (zdm e c b xs)
  | none=>none
 | [.one .nil],[]=>some (.ret (.one (.own 2000000 0 0),[(2000000,.rowT 0 e c true (zn0 c) [])]))
 | _,_=>none
def zdq (P:Program) (cod:TypeId->Nat) (f:FuncId) (ys:List V):Tr (V×Mem) :=
 match P.funcs[f]? with
 | some fn=>zn4 P cod (fun _=>[]) (fun _ _ _=>.fail 0) [] fn f ys []
 | none=>.fail 0
theorem zqg {P:Program} {cod:TypeId->Nat} {f:FuncId} {ys:List V} {r:V} {m:Mem} (h:(zdq P cod f ys).eval=some (r,m)):ACall P f ys [] fun r' m'=>r'=r/\m'=m:=by
 unfold zdq at h
 split at h
 . rename_i fn hf
   exact zgv (fun f xs m r m' h=>by cases h) hf h
 . cases h

theorem zyh {e c b:Nat} {ys:List V} {m:Mem} {T:Tr (V×Mem)} (h:z4c e c b ys m=some T) :
   (∃ xs:List (τ c),ys=[.one (.d (.st c xs))]/\m=[]/\T=zdm e c b xs)\/(ys=[.one .nil]/\m=[]/\T=.ret (.one (.own 2000000 0 0),[(2000000,.rowT 0 e c true (zn0 c) [])])):=by
 unfold z4c at h
 split at h
 . rename_i k xs
   split at h
   . rename_i xs' hc
     cases h
     refine .inl ⟨xs',?_,rfl,rfl⟩
     rw [zob hc]
   . cases h
 . cases h; exact .inr ⟨rfl,rfl,rfl⟩
 . cases h

def zmp (P : Program) (cod : TypeId -> Nat) (f e c b : Nat) (h1 : ∀ xs : List (τ c), (zdq P cod f [.one (.nn (.st c xs))]).eval = (zdm e c b xs).eval) (h2 : (zdq P cod f [.one .nil]).eval = some (.one .nil, [])) : PF P := ⟨f, [], z4c e c b, fun ys m T r m' hT h => by
 have hnil : ACall P f [.one .nil] [] fun r' m'' => r' = .one (.own 2000000 0 0) /\ m'' = [(2000000, .rowT 0 e c true (zn0 c) [])] := by
   refine zwu (zqg (cod := cod) (r := .one .nil) (m := []) h2) ?_
   rintro r' m' ⟨rfl, rfl⟩
   refine ⟨_, _, ⟨rfl, rfl⟩, ?_⟩
   rintro w0 U0 X β0 a w ⟨β, U, hs⟩
   exact hs.ghostEnd e c (zn0 c)
 have hnn : ∀ (xs : List (τ c)) (r : V) (m' : Mem), (zdm e c b xs).eval = some (r, m') -> ACall P f [.one (.nn (.st c xs))] [] fun r' m'' => r' = r /\ m'' = m' := fun xs r m' h =>
   zqg (cod := cod) (by rw [h1]; exact h)
 rcases zyh hT with ⟨xs, rfl, rfl, rfl⟩ | ⟨rfl, rfl, rfl⟩
 . refine ⟨[.one (.d (.st c xs))], [], zgk _, trivial, ?_⟩
   intro w U0 X β0 us hs
   have hv := (hs.env 0).toC
   have hst : RepI w U0 (us.getD 0 undef) (.st c xs) := hv
   have hun := RepI.unst hst
   -- what a value says is enough
   have up : ∀ {c' : C}, RepC w β0 U0 w.heap.size (us.getD 0 undef) c' -> SimB w U0 X β0 β0 U0 ⟨1, zby 0 [.one c'], []⟩ ⟨us, []⟩ w := fun {c'} hc' => { hs with
    env := fun t => by
     show RepV w β0 U0 w.heap.size (us.getD t undef) ((look t [(0, V.one c')]).getD (.one .bad))
     cases t with
     | zero => exact .one _ _ hc'
     | succ t => simp [look]; exact .bad _ }
   have hsome : ∀ ad l cc, us.getD 0 undef = .slice (some ad) l cc -> Calls P f us w fun e' w' => ∃ v r' m'', e' = .returned v /\ (r' = r /\ m'' = m') /\ Sim w U0 X β0 ⟨1, [(0, r')], m''⟩ ⟨#[v], []⟩ w' :=
    fun ad l cc he => hnn xs r m' h w U0 X β0 us (up (c' := .nn (.st c xs)) ⟨hst, ad, l, cc, he⟩)
   generalize hu : us.getD 0 undef = u at hun hsome up
   have hlen : xs.length = (xs.map (enc c)).length := by simp
   generalize xs.map (enc c) = rows at hun hlen
   cases hun with
   | nil ao cap _ hn =>
    have hx0 : xs = [] := List.eq_nil_of_length_eq_zero (by simpa using hlen)
    subst hx0
    cases ao with
    | some ad => exact hsome ad 0 cap rfl
    | none =>
     have hc0 := hn rfl
     subst hc0
     obtain ⟨_, h3⟩ := Tr.eval_grd h
     cases h3
     exact hnil w U0 X β0 us (up (c' := .nil) rfl)
   | sl b' o cap _ _ vals => exact hsome _ _ _ rfl
 . cases h
   exact ⟨[.one .nil], [], zgk _, trivial, hnil⟩⟩

def zejb {P:Program} (F:PF P):PF P:=⟨F.f,[],fun ys m=>match m with
  | []=>match F.tr ys [] with
   | some T=>some (T.bind fun rm=>.ret (frzV rm.2 rm.1,[]))
   | none=>none
  | _=>none,fun ys m T r m' hT h=>by
 split at hT
 case h_2=>cases hT
 split at hT
 case h_2=>cases hT
 rename_i T0 hT0
 cases hT
 rw [Tr.eval_bind] at h
 obtain ⟨⟨r0,m0⟩,h1,h2⟩:=Option.bind_eq_some_iff.1 h
 cases h2
 obtain ⟨ys',m2,hw,hwm,hc⟩:=F.ok _ _ _ _ _ hT0 h1
 have hm2:m2=[]:=by cases m2; rfl; exact hwm.elim
 subst hm2
 refine ⟨ys',[],hw,trivial,?_⟩
 intro w U0 X β0 us hs
 have hβ:∀ k,β0 k=none:=by
  intro k
  cases hk:β0 k with
  | none=>rfl
  | some p=>have:=hs.dom k p hk; cases this
 have hs0:SimB w U0 (fun _ _=>False) β0 β0 U0 ⟨ys'.length,zby 0 ys',[]⟩ ⟨us,[]⟩ w :=
  { hs with chg:=Chg.refl _ _ _,may:=fun k p blk b j hp=>by rw [hβ k] at hp; cases hp }
 refine (hc w U0 _ β0 us hs0).mono ?_
 rintro e w' ⟨v,r',m',rfl,⟨rfl,rfl⟩,hsim⟩
 refine ⟨v,_,_,rfl,⟨rfl,rfl⟩,?_⟩
 obtain ⟨β1,U1,hb1⟩:=hsim
 obtain ⟨β,U,h4'⟩:=hb1.freeze hβ
 exact ⟨β,U,h4'.monoX (X':=X) (fun _ _ e=>e.elim)⟩⟩
end Go.Proofs.YthkhikdglmaiaaaGreatDoor.Abs
namespace Go.Proofs.YthkhikdglmaiaaaGreatDoor.X
def cod:Go.TypeId->Nat
 | 23=>10
 | 26=>19
 | 27=>16
 | 28=>16
 | 32=>17
 | 76=>4
 | 93=>20
 | 97=>6
 | 134=>5
 | 147=>2
 | 166=>0
 | 185=>2
 | _=>99
open Go Go.RowKit Go.Proofs.YthkhikdglmaiaaaGreatDoor.Abs
open Go.IntKind renaming wrap -> wW
theorem ze0b (xs:List (τ 10)):(zdq Go.Proofs.Tryz.prog cod 12 [.one (.nn (.st 10 xs))]).eval=(zdm 54 10 80 xs).eval:=by kernel_rfl
theorem zezb:(zdq Go.Proofs.Tryz.prog cod 12 [.one .nil]).eval=some (.one .nil,[]):=by kernel_rfl
def z1s:PF Go.Proofs.Tryz.prog:=zejb (zmp Go.Proofs.Tryz.prog cod 12 54 10 80 ze0b zezb)
theorem zeyb (xs:List (τ 16)):(zdq Go.Proofs.Tryz.prog cod 14 [.one (.nn (.st 16 xs))]).eval=(zdm 64 16 48 xs).eval:=by kernel_rfl
theorem zexb:(zdq Go.Proofs.Tryz.prog cod 14 [.one .nil]).eval=some (.one .nil,[]):=by kernel_rfl
def z1r:PF Go.Proofs.Tryz.prog:=zejb (zmp Go.Proofs.Tryz.prog cod 14 64 16 48 zeyb zexb)
theorem zipb (xs:List (τ 17)):(zdq Go.Proofs.Tryz.prog cod 15 [.one (.nn (.st 17 xs))]).eval=(zdm 67 17 40 xs).eval:=by kernel_rfl
theorem ziob:(zdq Go.Proofs.Tryz.prog cod 15 [.one .nil]).eval=some (.one .nil,[]):=by kernel_rfl
def ze1b:PF Go.Proofs.Tryz.prog:=zejb (zmp Go.Proofs.Tryz.prog cod 15 67 17 40 zipb ziob)
open Go Go.RowKit Go.Proofs.YthkhikdglmaiaaaGreatDoor.Abs
open Go.IntKind renaming wrap -> wW
def mFS {P:Program} (Γ:List (PF P)) (Λs:List (FuncId×LS)) (f:FuncId) (ap:List VP1) (rp:SP) (t:VPsT ap Unit → Tr rp.T) (h:∀ x,fnTr P cod Γ Λs 30 f ap rp x=t x):FS P:=⟨f,ap,rp,fun x=>(t x).eval,fun x r e=>zpb (cod:=cod) (Γ:=Γ) (Λs:=Λs) (n:=30) ((congrArg Tr.eval (h x)).trans e)⟩
def mGS {P:Program} (Γ:List (PF P)) (Λs:List (FuncId×LS)) (f:FuncId) (ms:List Nat) (ap rp:SP) (t:ap.T → Tr rp.T) (h:∀ x,gsTr P cod Γ Λs 30 f ap rp x=t x):GS P:=⟨f,ms,ap,rp,fun x=>(t x).eval,fun x r e ys m g he hg=>zhqb (cod:=cod) (Γ:=Γ) (Λs:=Λs) (n:=30) ((congrArg Tr.eval (h x)).trans e) he hg⟩
def lpT {A B:Type} (g:Nat) (s:A → Tr (A⊕B)) (x:A):Option B:=zb2 g (fun x=>(s x).eval) 18446744073709551616 x
def zub:LS:=⟨1,[],⟨12,[(0,.v (.one (.i .u64)))],[]⟩,[⟨some 0,[],⟨12,[(0,.v (.one (.i .u64)))],[]⟩⟩],[]⟩
def zcr:(Int×Unit)->Tr ((Int×Unit)⊕(Int×Unit)) :=
 fun (a0,_) =>.ite (decide (65535<a0)) (.grd (true) (.ret (Sum.inl (wW .u64 (Int.fdiv a0 ((2:Int)^(16:Nat))+bits .and .u64 a0 65535),())))) (.ret (Sum.inr (a0,())))
def zg2 (x:(Int×Unit)):Option (Int×Unit):=zb2 1520001 (fun x=>(zcr x).eval) 18446744073709551616 x
def z65:List VP1:=[.one (.i .u64)]
def z64:SP:=⟨1,[(0,.v (.one (.i .u16)))],[]⟩
def zjk:(Int×Unit)->Tr (Int×Unit) :=
 fun (a0,_) =>.opt ((zg2 (a0,()))) (fun r0 =>.ret (wW .u16 r0.1,()))
def zg3 (x:(Int×Unit)):Option (Int×Unit):=(zjk x).eval
noncomputable def zgn:FS Tryz.prog:=mFS [] [(152,zub)] 152 z65 z64 zjk fun x=>by kernel_rfl
def zxa:LS:=⟨2,[],⟨33,[(1,.v (.one (.s))),(5,.v (.one (.i .u64)))],[]⟩,[⟨some 0,[],⟨33,[(1,.v (.one (.s))),(5,.v (.one (.i .u64)))],[]⟩⟩],[]⟩
abbrev ty0_:Type:=((List UInt8)×(Int×Unit))
def zc2:ty0_->Tr (ty0_⊕ty0_) :=
 fun (a0,a1,_) =>.ite (decide (1<(↑(a0.length):Int))) (.grd (decide ((0:Int)<=(0:Int)/\0<(↑(a0.length):Int))) (.grd (true) (.grd (decide ((0:Int)<=(1:Int)/\1<(↑(a0.length):Int))) (.grd (decide ((0:Int)<=(2:Int)/\2<=(↑(a0.length):Int)/\(↑(a0.length):Int)<=(↑(a0.length):Int))) (
 .ret (Sum.inl (List.drop (2:Nat) (List.take (Int.toNat (↑(a0.length):Int)) a0),(wW .u64 (a1+bits .or .u64 (wW .u64 (wW .u64 (↑(UInt8.toNat (List.getD a0 (0:Nat) (0:UInt8))):Int)*(2:Int)^(8:Nat))) (wW .u64 (↑(UInt8.toNat (List.getD a0 (1:Nat) (0:UInt8))):Int))),())))))))) (.ret (Sum.inr (a0,(a1,()))))
def ziw (x:ty0_):Option ty0_:=zb2 1110002 (fun x=>(zc2 x).eval) 18446744073709551616 x
def za2b:List VP1:=[.one (.i .u16),.one (.s)]
def za1b:SP:=⟨1,[(0,.v (.one (.i .u16)))],[]⟩
abbrev ty1_:Type:=(Int×((List UInt8)×Unit))
def zl6:ty1_->Tr (Int×Unit) :=
 fun (a0,a1,_) =>.opt ((ziw (a1,(wW .u64 a0,())))) (fun r0 =>.ite (!decide (r0.1=[])) (.grd (decide ((0:Int)<=(0:Int)/\0<(↑(List.length r0.1):Int))) (.grd (true) (.opt ((zg3 (wW .u64 (r0.2.1+wW .u64 (wW .u64 (↑(UInt8.toNat (List.getD r0.1 (0:Nat) (0:UInt8))):Int)*(2:Int)^(8:Nat))),()))) (fun r1 =>.ret (r1.1,()))))) (.opt ((zg3 (r0.2.1,()))) (fun r1 =>.ret (r1.1,()))))
def zm7 (x:ty1_):Option (Int×Unit):=(zl6 x).eval
noncomputable def zm8:FS Tryz.prog:=mFS [FS.pf zgn] [(111,zxa)] 111 za2b za1b zl6 fun x=>by kernel_rfl
def zglb:List VP1:=[.one (.s)]
def zgkb:SP:=⟨1,[(0,.v (.one (.i .u16)))],[]⟩
def zvj:((List UInt8)×Unit)->Tr (Int×Unit) :=
 fun (a0,_) =>.opt ((zm7 (0,(a0,())))) (fun r0 =>.ret (bits BinOp.xor IntKind.u16 (if IntKind.signed IntKind.u16=true then (-1:Int) else IntKind.max IntKind.u16) r0.1,()))
def zkr (x:((List UInt8)×Unit)):Option (Int×Unit):=(zvj x).eval
noncomputable def sumOf:FS Tryz.prog:=mFS [FS.pf zgn,FS.pf zm8] [] 81 zglb zgkb zvj fun x=>by kernel_rfl
def z2h:List VP1:=[.one (.s)]
def z2g:SP:=⟨1,[(0,.v (.one (.b)))],[]⟩
def zh6:((List UInt8)×Unit)->Tr (Bool×Unit) :=
 fun (a0,_) =>.opt ((zm7 (0,(a0,())))) (fun r0 =>.ret (decide (r0.1=65535),()))
def zc5 (x:((List UInt8)×Unit)):Option (Bool×Unit):=(zh6 x).eval
noncomputable def zh7:FS Tryz.prog:=mFS [FS.pf zgn,FS.pf zm8,FS.pf sumOf] [] 63 z2h z2g zh6 fun x=>by kernel_rfl
def za0b:List VP1:=[.one (.i .u16),.one (.i .u16),.one (.i .u16)]
def zazb:SP:=⟨1,[(0,.v (.one (.i .u16)))],[]⟩
abbrev ty2_:Type:=(Int×(Int×(Int×Unit)))
def zl5:ty2_->Tr (Int×Unit) :=
 fun (a0,a1,a2,_) =>.opt ((zg3 (wW .u64 (wW .u64 (wW .u64 (bits .xor .u16 (if IntKind.signed IntKind.u16=true then (-1:Int) else IntKind.max IntKind.u16) a0)+wW .u64 (bits .xor .u16 (if IntKind.signed IntKind.u16=true then (-1:Int) else IntKind.max IntKind.u16) a1))+wW .u64 a2),()))) (fun r0 =>.ret (bits .xor .u16 (if IntKind.signed IntKind.u16=true then (-1:Int) else IntKind.max IntKind.u16) r0.1,()))
def zg4 (x:ty2_):Option (Int×Unit):=(zl5 x).eval
noncomputable def zvk:FS Tryz.prog:=mFS [FS.pf zgn,FS.pf zm8,FS.pf sumOf,FS.pf zh7] [] 134 za0b zazb zl5 fun x=>by kernel_rfl
def zd5b:List VP1:=[.one (.i .i64)]
def zd4b:SP:=⟨1,[(0,.v (.one (.s)))],[]⟩
def zml:(Int×Unit)->Tr ((List UInt8)×Unit) :=
 fun (a0,_) =>.grd (true) (.grd (decide (0<=wW .u8 (Int.fdiv a0 ((2:Int)^(8:Nat)))/\wW .u8 (Int.fdiv a0 ((2:Int)^(8:Nat)))<256)) (.grd (decide (0<=wW .u8 a0/\wW .u8 a0<256)) (.ret ([UInt8.ofNat (Int.toNat (wW .u8 (Int.fdiv a0 ((2:Int)^(8:Nat))))),UInt8.ofNat (Int.toNat (wW .u8 a0))],()))))
noncomputable def gm0:List (PF Go.Proofs.Tryz.prog):=[FS.pf zgn,FS.pf zm8,FS.pf sumOf,FS.pf zh7,FS.pf zvk]
def zcl (x:(Int×Unit)):Option ((List UInt8)×Unit):=(zml x).eval
noncomputable def zwj:FS Tryz.prog:=mFS gm0 [] 113 zd5b zd4b zml fun x=>by kernel_rfl
def zebb:List VP1:=[.one (.i .u32)]
def zeab:SP:=⟨1,[(0,.v (.one (.s)))],[]⟩
def zmm:(Int×Unit)->Tr ((List UInt8)×Unit) :=
 fun (a0,_) =>.grd (true) (.opt ((zcl (wW .i64 (Int.fdiv a0 ((2:Int)^(16:Nat))),()))) (fun r0 =>.opt ((zcl (wW .i64 a0,()))) (fun r1 =>.grd (decide (List.length r0.1+List.length r1.1<=(9223372036854775807:Nat))) (.ret (r0.1++r1.1,())))))
noncomputable def gm1:List (PF Go.Proofs.Tryz.prog):=gm0++[FS.pf zwj]
def zn6 (x:(Int×Unit)):Option ((List UInt8)×Unit):=(zmm x).eval
noncomputable def zwn:FS Tryz.prog:=mFS gm1 [] 112 zebb zeab zmm fun x=>by kernel_rfl
def z35:List VP1:=[.one (.s),.one (.i .i64)]
def z34:SP:=⟨1,[(0,.v (.one (.i .i64)))],[]⟩
def zir:ty0_->Tr (Int×Unit) :=
 fun (a0,a1,_) =>.grd (decide (0<=a1/\a1<(↑(a0.length):Int))) (.grd (true) (.grd (decide (0<=wW .i64 (a1+1)/\wW .i64 (a1+1)<(↑(a0.length):Int))) (.ret (bits .or .i64 (wW .i64 (wW .i64 (↑(UInt8.toNat (List.getD a0 (Int.toNat a1) (0:UInt8))):Int)*(2:Int)^(8:Nat))) (wW .i64 (↑(UInt8.toNat (List.getD a0 (Int.toNat (wW .i64 (a1+1))) (0:UInt8))):Int)),()))))
noncomputable def gm2:List (PF Go.Proofs.Tryz.prog):=gm1++[FS.pf zwn]
def zcm (x:ty0_):Option (Int×Unit):=(zir x).eval
noncomputable def zk4:FS Tryz.prog:=mFS gm2 [] 91 z35 z34 zir fun x=>by kernel_rfl
def z81:List VP1:=[.one (.i .u32),.one (.i .u32),.one (.i .i64),.one (.i .i64)]
def z80:SP:=⟨1,[(0,.v (.one (.s)))],[]⟩
abbrev ty3_:Type:=(Int×(Int×(Int×(Int×Unit))))
def zkb:ty3_->Tr ((List UInt8)×Unit) :=
 fun (a0,a1,a2,a3,_) =>.opt ((zn6 (a0,()))) (fun r0 =>.opt ((zn6 (a1,()))) (fun r1 =>.grd (decide (List.length r0.1+List.length r1.1<=(9223372036854775807:Nat))) (.opt ((zcl (bits BinOp.and IntKind.i64 a2 255,()))) (fun r2 =>.grd (decide (List.length (r0.1++r1.1)+List.length r2.1<=(9223372036854775807:Nat))) (.opt ((zcl (a3,()))) (fun r3 =>.grd (decide (List.length (r0.1++r1.1++r2.1)+List.length r3.1<=(9223372036854775807:Nat))) (.ret (r0.1++r1.1++r2.1++r3.1,()))))))))
noncomputable def gm3:List (PF Go.Proofs.Tryz.prog):=gm2++[FS.pf zk4]
def ze1 (x:ty3_):Option ((List UInt8)×Unit):=(zkb x).eval
noncomputable def zpf:FS Tryz.prog:=mFS gm3 [] 65 z81 z80 zkb fun x=>by kernel_rfl
def zd9b:List VP1:=[.one (.i .i64)]
def zd8b:SP:=⟨1,[(0,.v (.one (.b)))],[]⟩
def ztu:(Int×Unit)->Tr (Bool×Unit) :=
 fun (a0,_) =>.ite (decide (0<=a0)) (.ret (decide (a0<=65535),())) (.ret (false,()))
noncomputable def gm4:List (PF Go.Proofs.Tryz.prog):=gm3++[FS.pf zpf]
def z1k (x:(Int×Unit)):Option (Bool×Unit):=(ztu x).eval
noncomputable def zwm:FS Tryz.prog:=mFS gm4 [] 114 zd9b zd8b ztu fun x=>by kernel_rfl
def z8z:List VP1:=[.agg [.i .i64,.i .i64,.s],.one (.i .u32),.one (.i .u32)]
def z8x:SP:=⟨1,[(0,.tup [.one (.s),.one (.i .i64)])],[]⟩
abbrev ty4_:Type:=(Int×(Int×((List UInt8)×(Int×(Int×Unit)))))
def zqe:ty4_->Tr ty0_ :=
 fun (a0,a1,a2,a3,a4,_) =>.opt ((z1k (a0,()))) (fun r0 =>.ite (!r0.1) (.ret ([],(1,()))) (.opt ((z1k (a1,()))) (fun r1 =>.ite (!r1.1) (.ret ([],(1,()))) (.ite (decide (65507<(↑(a2.length):Int))) (.ret ([],(2,()))) (.opt ((zcl (a0,()))) (fun r2 =>.opt ((zcl (a1,()))) (fun r3 =>.grd (decide (List.length r2.1+List.length r3.1<=(9223372036854775807:Nat))) (.opt ((zcl (wW .i64 ((8:Int)+(↑(a2.length):Int)),()))) (fun r4 =>.grd (decide (List.length (r2.1++r3.1)+List.length r4.1<=(9223372036854775807:Nat))) (
 .opt ((ze1 (a3,(a4,(17,(wW .i64 ((8:Int)+(↑(a2.length):Int)),())))))) (fun r5 =>.grd (decide (List.length r5.1+List.length (r2.1++r3.1++r4.1)<=(9223372036854775807:Nat))) (.grd (decide (List.length (r5.1++(r2.1++r3.1++r4.1))+a2.length<=(9223372036854775807:Nat))) (.opt ((zkr (r5.1++(r2.1++r3.1++r4.1)++a2,()))) (fun r6 =>.ite (decide (r6.1=0)) (.opt ((zcl (65535,()))) (fun r7 =>.grd (decide (List.length (r2.1++r3.1++r4.1)+List.length r7.1<=(9223372036854775807:Nat))) (
 .grd (decide (List.length (r2.1++r3.1++r4.1++r7.1)+a2.length<=(9223372036854775807:Nat))) (.ret (r2.1++r3.1++r4.1++r7.1++a2,(0,())))))) (.opt ((zcl (wW .i64 r6.1,()))) (fun r7 =>.grd (decide (List.length (r2.1++r3.1++r4.1)+List.length r7.1<=(9223372036854775807:Nat))) (.grd (decide (List.length (r2.1++r3.1++r4.1++r7.1)+a2.length<=(9223372036854775807:Nat))) (.ret (r2.1++r3.1++r4.1++r7.1++a2,(0,()))))))))))))))))))))
noncomputable def gm5:List (PF Go.Proofs.Tryz.prog):=gm4++[FS.pf zwm]
def z8y (x:ty4_):Option ty0_:=(zqe x).eval
noncomputable def zpe:FS Tryz.prog:=mFS gm5 [] 69 z8z z8x zqe fun x=>by kernel_rfl
def zd7b:List VP1:=[.one (.s),.one (.i .u32),.one (.i .u32)]
def zd6b:SP:=⟨1,[(0,.tup [.agg [.i .i64,.i .i64,.s],.one (.i .i64)])],[]⟩
abbrev ty5_:Type:=((List UInt8)×(Int×(Int×Unit)))
abbrev ty6_:Type:=(Int×(Int×((List UInt8)×(Int×Unit))))
def ztt:ty5_->Tr ty6_ :=
 fun (a0,a1,a2,_) =>.ite (decide ((↑(a0.length):Int)<8)) (.ret (0,(0,([],(3,()))))) (.opt ((zcm (a0,(4,())))) (fun r0 =>.ite (decide ((↑(a0.length):Int)<r0.1)) (.ret (0,(0,([],(3,()))))) (.ite (decide (r0.1<8)) (.ret (0,(0,([],(4,()))))) (.ite (decide (65515<r0.1)) (.ret (0,(0,([],(4,()))))) (.opt ((zcm (a0,(6,())))) (fun r1 =>.ite (!decide (r1.1=0)) (.opt ((ze1 (a1,(a2,(17,(r0.1,())))))) (fun r2 =>.grd (decide ((0:Int)<=(0:Int)/\0<=r0.1/\r0.1<=(↑(a0.length):Int))) (
 .grd (decide (List.length r2.1+List.length (List.drop (0:Nat) (List.take (Int.toNat r0.1) a0))<=(9223372036854775807:Nat))) (.opt ((zc5 (r2.1++List.drop (0:Nat) (List.take (Int.toNat r0.1) a0),()))) (fun r3 =>.ite (!r3.1) (.ret (0,(0,([],(5,()))))) (.opt ((zcm (a0,(0,())))) (fun r4 =>.opt ((zcm (a0,(2,())))) (fun r5 =>.grd (decide ((0:Int)<=(8:Int)/\8<=r0.1/\r0.1<=(↑(a0.length):Int))) (.ret (r4.1,(r5.1,(List.drop (8:Nat) (List.take (Int.toNat r0.1) a0),(0,()))))))))))))) (.opt ((zcm (a0,(0,())))) (fun r2 =>.opt ((zcm (a0,(2,())))) (fun r3 =>
 .grd (decide ((0:Int)<=(8:Int)/\8<=r0.1/\r0.1<=(↑(a0.length):Int))) (.ret (r2.1,(r3.1,(List.drop (8:Nat) (List.take (Int.toNat r0.1) a0),(0,()))))))))))))))
noncomputable def gm6:List (PF Go.Proofs.Tryz.prog):=gm5++[FS.pf zpe]
def zkc (x:ty5_):Option ty6_:=(ztt x).eval
noncomputable def zwl:FS Tryz.prog:=mFS gm6 [] 45 zd7b zd6b ztt fun x=>by kernel_rfl
open Go Go.RowKit Go.Proofs.YthkhikdglmaiaaaGreatDoor.Abs
open Go.IntKind renaming wrap -> wW
def z3q:List VP1:=[.one (.s),.one (.i .i64)]
def z3p:SP:=⟨1,[(0,.v (.one (.i .i64)))],[]⟩
def zil:ty0_->Tr (Int×Unit) :=
 fun (a0,a1,_) =>.grd (decide (0<=a1/\a1<(↑(a0.length):Int))) (.grd (true) (.grd (decide (0<=wW .i64 (a1+1)/\wW .i64 (a1+1)<(↑(a0.length):Int))) (.ret (bits .or .i64 (wW .i64 (wW .i64 (↑(UInt8.toNat (List.getD a0 (Int.toNat a1) (0:UInt8))):Int)*(2:Int)^(8:Nat))) (wW .i64 (↑(UInt8.toNat (List.getD a0 (Int.toNat (wW .i64 (a1+1))) (0:UInt8))):Int)),()))))
noncomputable def gm7:List (PF Go.Proofs.Tryz.prog):=gm6++[FS.pf zwl]
def zbp (x:ty0_):Option (Int×Unit):=(zil x).eval
noncomputable def zky:FS Tryz.prog:=mFS gm7 [] 60 z3q z3p zil fun x=>by kernel_rfl
def z3s:List VP1:=[.one (.s),.one (.i .i64)]
def z3r:SP:=⟨1,[(0,.v (.one (.i .u32)))],[]⟩
def znx:ty0_->Tr (Int×Unit) :=
 fun (a0,a1,_) =>.opt ((zbp (a0,(a1,())))) (fun r0 =>.grd (true) (.opt ((zbp (a0,(wW .i64 (a1+2),())))) (fun r1 =>.ret (bits .or .u32 (wW .u32 (wW .u32 r0.1*(2:Int)^(16:Nat))) (wW .u32 r1.1),()))))
noncomputable def gm8:List (PF Go.Proofs.Tryz.prog):=gm7++[FS.pf zky]
def zmh (x:ty0_):Option (Int×Unit):=(znx x).eval
noncomputable def zkz:FS Tryz.prog:=mFS gm8 [] 61 z3s z3r znx fun x=>by kernel_rfl
def zhlb:List VP1:=[.one (.i .i64)]
def zhkb:SP:=⟨1,[(0,.v (.one (.b)))],[]⟩
def zo0:(Int×Unit)->Tr (Bool×Unit) :=
 fun (a0,_) =>.ite (decide (0<=a0)) (.ret (decide (a0<=255),())) (.ret (false,()))
noncomputable def gm9:List (PF Go.Proofs.Tryz.prog):=gm8++[FS.pf zkz]
def zgh (x:(Int×Unit)):Option (Bool×Unit):=(zo0 x).eval
noncomputable def z8b:FS Tryz.prog:=mFS gm9 [] 110 zhlb zhkb zo0 fun x=>by kernel_rfl
def z0w:List VP1:=[.agg [.i .i64,.i .i64,.b,.b,.i .i64,.i .i64,.i .i64,.i .u32,.i .u32,.s,.s]]
def z0v:SP:=⟨1,[(0,.v (.one (.i .i64)))],[]⟩
abbrev ty7_:Type:=(Int×(Int×(Bool×(Bool×(Int×(Int×(Int×(Int×(Int×((List UInt8)×((List UInt8)×Unit)))))))))))
def zgu:ty7_->Tr (Int×Unit) :=
 fun (a0,a1,a2,a3,a4,a5,a6,a7,a8,a9,a10,_) =>.opt ((zgh (a0,()))) (fun r0 =>.ite (!r0.1) (.ret (1,())) (.opt ((zgh (a5,()))) (fun r1 =>.ite (!r1.1) (.ret (1,())) (.opt ((zgh (a6,()))) (fun r2 =>.ite (!r2.1) (.ret (1,())) (.ite (decide (a1<0)) (.ret (1,())) (.ite (decide (65535<a1)) (.ret (1,())) (.ite (decide (a4<0)) (.ret (1,())) (.ite (decide (8191<a4)) (.ret (1,())) (.ite (decide (40<(↑(a9.length):Int))) (.ret (1,())) (.grd (true) (.ite (!decide (Int.tmod (↑(a9.length):Int) (4:Int)=(0:Int))) (.ret (1,())) (.ite (a2) (.ite (a3) (.ret (4,())) (
 .ite (!decide (a4=0)) (.ret (4,())) (.ite (decide (wW .i64 ((65515:Int)-(↑(a9.length):Int))<(↑(a10.length):Int))) (.ret (2,())) (.ret (0,()))))) (.ite (decide (wW .i64 ((65515:Int)-(↑(a9.length):Int))<(↑(a10.length):Int))) (.ret (2,())) (.ret (0,()))))))))))))))))
noncomputable def gm10:List (PF Go.Proofs.Tryz.prog):=gm9++[FS.pf z8b]
def zgg (x:ty7_):Option (Int×Unit):=(zgu x).eval
noncomputable def zhm:FS Tryz.prog:=mFS gm10 [] 62 z0w z0v zgu fun x=>by kernel_rfl
def zcob:List VP1:=[.one (.i .i64)]
def zcnb:SP:=⟨1,[(0,.v (.one (.s)))],[]⟩
def zmg:(Int×Unit)->Tr ((List UInt8)×Unit) :=
 fun (a0,_) =>.grd (true) (.grd (decide (0<=wW .u8 (Int.fdiv a0 ((2:Int)^(8:Nat)))/\wW .u8 (Int.fdiv a0 ((2:Int)^(8:Nat)))<256)) (.grd (decide (0<=wW .u8 a0/\wW .u8 a0<256)) (.ret ([UInt8.ofNat (Int.toNat (wW .u8 (Int.fdiv a0 ((2:Int)^(8:Nat))))),UInt8.ofNat (Int.toNat (wW .u8 a0))],()))))
noncomputable def gm11:List (PF Go.Proofs.Tryz.prog):=gm10++[FS.pf zhm]
def zaw (x:(Int×Unit)):Option ((List UInt8)×Unit):=(zmg x).eval
noncomputable def zv2:FS Tryz.prog:=mFS gm11 [] 79 zcob zcnb zmg fun x=>by kernel_rfl
def zctb:List VP1:=[.one (.i .u32)]
def zcsb:SP:=⟨1,[(0,.v (.one (.s)))],[]⟩
def zs6:(Int×Unit)->Tr ((List UInt8)×Unit) :=
 fun (a0,_) =>.grd (true) (.grd (true) (.grd (true) (.grd (decide (0<=wW .u8 (Int.fdiv a0 ((2:Int)^(24:Nat)))/\wW .u8 (Int.fdiv a0 ((2:Int)^(24:Nat)))<256)) (.grd (decide (0<=wW .u8 (Int.fdiv a0 ((2:Int)^(16:Nat)))/\wW .u8 (Int.fdiv a0 ((2:Int)^(16:Nat)))<256)) (.grd (decide (0<=wW .u8 (Int.fdiv a0 ((2:Int)^(8:Nat)))/\wW .u8 (Int.fdiv a0 ((2:Int)^(8:Nat)))<256)) (.grd (decide (0<=wW .u8 a0/\wW .u8 a0<256)) (
 .ret ([UInt8.ofNat (Int.toNat (wW .u8 (Int.fdiv a0 ((2:Int)^(24:Nat))))),UInt8.ofNat (Int.toNat (wW .u8 (Int.fdiv a0 ((2:Int)^(16:Nat))))),UInt8.ofNat (Int.toNat (wW .u8 (Int.fdiv a0 ((2:Int)^(8:Nat))))),UInt8.ofNat (Int.toNat (wW .u8 a0))],()))))))))
noncomputable def gm12:List (PF Go.Proofs.Tryz.prog):=gm11++[FS.pf zv2]
def zek (x:(Int×Unit)):Option ((List UInt8)×Unit):=(zs6 x).eval
noncomputable def zv4:FS Tryz.prog:=mFS gm12 [] 80 zctb zcsb zs6 fun x=>by kernel_rfl
def z78:List VP1:=[.agg [.i .i64,.i .i64,.b,.b,.i .i64,.i .i64,.i .i64,.i .u32,.i .u32,.s,.s]]
def z76:SP:=⟨1,[(0,.tup [.one (.s),.one (.i .i64)])],[]⟩
def zp8:ty7_->Tr ty0_ :=
 fun (a0,a1,a2,a3,a4,a5,a6,a7,a8,a9,a10,_) =>.opt ((zgg (a0,(a1,(a2,(a3,(a4,(a5,(a6,(a7,(a8,(a9,(a10,()))))))))))))) (fun r0 =>.ite (!decide (r0.1=0)) (.ret ([],(r0.1,()))) (.ite (a2) (.ite (a3) (.grd (true) (.grd (decide (0<=wW .u8 (bits .or .i64 (64:Int) (wW .i64 (Int.tdiv (wW .i64 ((20:Int)+(↑(a9.length):Int))) (4:Int))))/\wW .u8 (bits .or .i64 (64:Int) (wW .i64 (Int.tdiv (wW .i64 ((20:Int)+(↑(a9.length):Int))) (4:Int))))<256)) (.grd (decide (0<=wW .u8 a0/\wW .u8 a0<256)) (
 .opt ((zaw (wW .i64 (wW .i64 ((20:Int)+(↑(a9.length):Int))+(↑(a10.length):Int)),()))) (fun r1 =>.grd (decide (List.length [UInt8.ofNat (Int.toNat (wW .u8 (bits .or .i64 (64:Int) (wW .i64 (Int.tdiv (wW .i64 ((20:Int)+(↑(a9.length):Int))) (4:Int)))))),UInt8.ofNat (Int.toNat (wW .u8 a0))]+List.length r1.1<=(9223372036854775807:Nat))) (.opt ((zaw (a1,()))) (fun r2 =>
 .grd (decide (List.length ([UInt8.ofNat (Int.toNat (wW .u8 (bits .or .i64 (64:Int) (wW .i64 (Int.tdiv (wW .i64 ((20:Int)+(↑(a9.length):Int))) (4:Int)))))),UInt8.ofNat (Int.toNat (wW .u8 a0))]++r1.1)+List.length r2.1<=(9223372036854775807:Nat))) (.opt ((zaw (bits .or .i64 (bits .or .i64 a4 16384) 8192,()))) (fun r3 =>
 .grd (decide (List.length ([UInt8.ofNat (Int.toNat (wW .u8 (bits .or .i64 (64:Int) (wW .i64 (Int.tdiv (wW .i64 ((20:Int)+(↑(a9.length):Int))) (4:Int)))))),UInt8.ofNat (Int.toNat (wW .u8 a0))]++r1.1++r2.1)+List.length r3.1<=(9223372036854775807:Nat))) (.grd (decide (0<=wW .u8 a5/\wW .u8 a5<256)) (.grd (decide (0<=wW .u8 a6/\wW .u8 a6<256)) (
 .grd (decide (List.length ([UInt8.ofNat (Int.toNat (wW .u8 (bits .or .i64 (64:Int) (wW .i64 (Int.tdiv (wW .i64 ((20:Int)+(↑(a9.length):Int))) (4:Int)))))),UInt8.ofNat (Int.toNat (wW .u8 a0))]++r1.1++r2.1++r3.1)+List.length [UInt8.ofNat (Int.toNat (wW .u8 a5)),UInt8.ofNat (Int.toNat (wW .u8 a6))]<=(9223372036854775807:Nat))) (.opt ((zek (a7,()))) (fun r4 =>.opt ((zek (a8,()))) (fun r5 =>.grd (decide (List.length r4.1+List.length r5.1<=(9223372036854775807:Nat))) (.grd (decide (List.length (r4.1++r5.1)+a9.length<=(9223372036854775807:Nat))) (
 .grd (decide (List.length ([UInt8.ofNat (Int.toNat (wW .u8 (bits .or .i64 (64:Int) (wW .i64 (Int.tdiv (wW .i64 ((20:Int)+(↑(a9.length):Int))) (4:Int)))))),UInt8.ofNat (Int.toNat (wW .u8 a0))]++r1.1++r2.1++r3.1++[UInt8.ofNat (Int.toNat (wW .u8 a5)),UInt8.ofNat (Int.toNat (wW .u8 a6))])+List.length (r4.1++r5.1++a9)<=(9223372036854775807:Nat))) (
 .opt ((zkr ([UInt8.ofNat (Int.toNat (wW .u8 (bits .or .i64 (64:Int) (wW .i64 (Int.tdiv (wW .i64 ((20:Int)+(↑(a9.length):Int))) (4:Int)))))),UInt8.ofNat (Int.toNat (wW .u8 a0))]++r1.1++r2.1++r3.1++[UInt8.ofNat (Int.toNat (wW .u8 a5)),UInt8.ofNat (Int.toNat (wW .u8 a6))]++(r4.1++r5.1++a9),()))) (fun r6 =>.opt ((zaw (wW .i64 r6.1,()))) (fun r7 =>
 .grd (decide (List.length ([UInt8.ofNat (Int.toNat (wW .u8 (bits .or .i64 (64:Int) (wW .i64 (Int.tdiv (wW .i64 ((20:Int)+(↑(a9.length):Int))) (4:Int)))))),UInt8.ofNat (Int.toNat (wW .u8 a0))]++r1.1++r2.1++r3.1++[UInt8.ofNat (Int.toNat (wW .u8 a5)),UInt8.ofNat (Int.toNat (wW .u8 a6))])+List.length r7.1<=(9223372036854775807:Nat))) (
 .grd (decide (List.length ([UInt8.ofNat (Int.toNat (wW .u8 (bits .or .i64 (64:Int) (wW .i64 (Int.tdiv (wW .i64 ((20:Int)+(↑(a9.length):Int))) (4:Int)))))),UInt8.ofNat (Int.toNat (wW .u8 a0))]++r1.1++r2.1++r3.1++[UInt8.ofNat (Int.toNat (wW .u8 a5)),UInt8.ofNat (Int.toNat (wW .u8 a6))]++r7.1)+List.length (r4.1++r5.1++a9)<=(9223372036854775807:Nat))) (
 .grd (decide (List.length ([UInt8.ofNat (Int.toNat (wW .u8 (bits .or .i64 (64:Int) (wW .i64 (Int.tdiv (wW .i64 ((20:Int)+(↑(a9.length):Int))) (4:Int)))))),UInt8.ofNat (Int.toNat (wW .u8 a0))]++r1.1++r2.1++r3.1++[UInt8.ofNat (Int.toNat (wW .u8 a5)),UInt8.ofNat (Int.toNat (wW .u8 a6))]++r7.1++(r4.1++r5.1++a9))+a10.length<=(9223372036854775807:Nat))) (
 .ret ([UInt8.ofNat (Int.toNat (wW .u8 (bits .or .i64 (64:Int) (wW .i64 (Int.tdiv (wW .i64 ((20:Int)+(↑(a9.length):Int))) (4:Int)))))),UInt8.ofNat (Int.toNat (wW .u8 a0))]++r1.1++r2.1++r3.1++[UInt8.ofNat (Int.toNat (wW .u8 a5)),UInt8.ofNat (Int.toNat (wW .u8 a6))]++r7.1++(r4.1++r5.1++a9)++a10,(0,()))))))))))))))))))))))))) (.grd (true) (
 .grd (decide (0<=wW .u8 (bits .or .i64 (64:Int) (wW .i64 (Int.tdiv (wW .i64 ((20:Int)+(↑(a9.length):Int))) (4:Int))))/\wW .u8 (bits .or .i64 (64:Int) (wW .i64 (Int.tdiv (wW .i64 ((20:Int)+(↑(a9.length):Int))) (4:Int))))<256)) (.grd (decide (0<=wW .u8 a0/\wW .u8 a0<256)) (.opt ((zaw (wW .i64 (wW .i64 ((20:Int)+(↑(a9.length):Int))+(↑(a10.length):Int)),()))) (fun r1 =>
 .grd (decide (List.length [UInt8.ofNat (Int.toNat (wW .u8 (bits .or .i64 (64:Int) (wW .i64 (Int.tdiv (wW .i64 ((20:Int)+(↑(a9.length):Int))) (4:Int)))))),UInt8.ofNat (Int.toNat (wW .u8 a0))]+List.length r1.1<=(9223372036854775807:Nat))) (.opt ((zaw (a1,()))) (fun r2 =>.grd (decide (List.length ([UInt8.ofNat (Int.toNat (wW .u8 (bits .or .i64 (64:Int) (wW .i64 (Int.tdiv (wW .i64 ((20:Int)+(↑(a9.length):Int))) (4:Int)))))),UInt8.ofNat (Int.toNat (wW .u8 a0))]++r1.1)+List.length r2.1<=(9223372036854775807:Nat))) (
 .opt ((zaw (bits .or .i64 a4 16384,()))) (fun r3 =>.grd (decide (List.length ([UInt8.ofNat (Int.toNat (wW .u8 (bits .or .i64 (64:Int) (wW .i64 (Int.tdiv (wW .i64 ((20:Int)+(↑(a9.length):Int))) (4:Int)))))),UInt8.ofNat (Int.toNat (wW .u8 a0))]++r1.1++r2.1)+List.length r3.1<=(9223372036854775807:Nat))) (.grd (decide (0<=wW .u8 a5/\wW .u8 a5<256)) (.grd (decide (0<=wW .u8 a6/\wW .u8 a6<256)) (
 .grd (decide (List.length ([UInt8.ofNat (Int.toNat (wW .u8 (bits .or .i64 (64:Int) (wW .i64 (Int.tdiv (wW .i64 ((20:Int)+(↑(a9.length):Int))) (4:Int)))))),UInt8.ofNat (Int.toNat (wW .u8 a0))]++r1.1++r2.1++r3.1)+List.length [UInt8.ofNat (Int.toNat (wW .u8 a5)),UInt8.ofNat (Int.toNat (wW .u8 a6))]<=(9223372036854775807:Nat))) (.opt ((zek (a7,()))) (fun r4 =>.opt ((zek (a8,()))) (fun r5 =>.grd (decide (List.length r4.1+List.length r5.1<=(9223372036854775807:Nat))) (.grd (decide (List.length (r4.1++r5.1)+a9.length<=(9223372036854775807:Nat))) (
 .grd (decide (List.length ([UInt8.ofNat (Int.toNat (wW .u8 (bits .or .i64 (64:Int) (wW .i64 (Int.tdiv (wW .i64 ((20:Int)+(↑(a9.length):Int))) (4:Int)))))),UInt8.ofNat (Int.toNat (wW .u8 a0))]++r1.1++r2.1++r3.1++[UInt8.ofNat (Int.toNat (wW .u8 a5)),UInt8.ofNat (Int.toNat (wW .u8 a6))])+List.length (r4.1++r5.1++a9)<=(9223372036854775807:Nat))) (
 .opt ((zkr ([UInt8.ofNat (Int.toNat (wW .u8 (bits .or .i64 (64:Int) (wW .i64 (Int.tdiv (wW .i64 ((20:Int)+(↑(a9.length):Int))) (4:Int)))))),UInt8.ofNat (Int.toNat (wW .u8 a0))]++r1.1++r2.1++r3.1++[UInt8.ofNat (Int.toNat (wW .u8 a5)),UInt8.ofNat (Int.toNat (wW .u8 a6))]++(r4.1++r5.1++a9),()))) (fun r6 =>.opt ((zaw (wW .i64 r6.1,()))) (fun r7 =>
 .grd (decide (List.length ([UInt8.ofNat (Int.toNat (wW .u8 (bits .or .i64 (64:Int) (wW .i64 (Int.tdiv (wW .i64 ((20:Int)+(↑(a9.length):Int))) (4:Int)))))),UInt8.ofNat (Int.toNat (wW .u8 a0))]++r1.1++r2.1++r3.1++[UInt8.ofNat (Int.toNat (wW .u8 a5)),UInt8.ofNat (Int.toNat (wW .u8 a6))])+List.length r7.1<=(9223372036854775807:Nat))) (
 .grd (decide (List.length ([UInt8.ofNat (Int.toNat (wW .u8 (bits .or .i64 (64:Int) (wW .i64 (Int.tdiv (wW .i64 ((20:Int)+(↑(a9.length):Int))) (4:Int)))))),UInt8.ofNat (Int.toNat (wW .u8 a0))]++r1.1++r2.1++r3.1++[UInt8.ofNat (Int.toNat (wW .u8 a5)),UInt8.ofNat (Int.toNat (wW .u8 a6))]++r7.1)+List.length (r4.1++r5.1++a9)<=(9223372036854775807:Nat))) (
 .grd (decide (List.length ([UInt8.ofNat (Int.toNat (wW .u8 (bits .or .i64 (64:Int) (wW .i64 (Int.tdiv (wW .i64 ((20:Int)+(↑(a9.length):Int))) (4:Int)))))),UInt8.ofNat (Int.toNat (wW .u8 a0))]++r1.1++r2.1++r3.1++[UInt8.ofNat (Int.toNat (wW .u8 a5)),UInt8.ofNat (Int.toNat (wW .u8 a6))]++r7.1++(r4.1++r5.1++a9))+a10.length<=(9223372036854775807:Nat))) (
 .ret ([UInt8.ofNat (Int.toNat (wW .u8 (bits .or .i64 (64:Int) (wW .i64 (Int.tdiv (wW .i64 ((20:Int)+(↑(a9.length):Int))) (4:Int)))))),UInt8.ofNat (Int.toNat (wW .u8 a0))]++r1.1++r2.1++r3.1++[UInt8.ofNat (Int.toNat (wW .u8 a5)),UInt8.ofNat (Int.toNat (wW .u8 a6))]++r7.1++(r4.1++r5.1++a9)++a10,(0,())))))))))))))))))))))))))) (.ite (a3) (.grd (true) (
 .grd (decide (0<=wW .u8 (bits .or .i64 (64:Int) (wW .i64 (Int.tdiv (wW .i64 ((20:Int)+(↑(a9.length):Int))) (4:Int))))/\wW .u8 (bits .or .i64 (64:Int) (wW .i64 (Int.tdiv (wW .i64 ((20:Int)+(↑(a9.length):Int))) (4:Int))))<256)) (.grd (decide (0<=wW .u8 a0/\wW .u8 a0<256)) (.opt ((zaw (wW .i64 (wW .i64 ((20:Int)+(↑(a9.length):Int))+(↑(a10.length):Int)),()))) (fun r1 =>
 .grd (decide (List.length [UInt8.ofNat (Int.toNat (wW .u8 (bits .or .i64 (64:Int) (wW .i64 (Int.tdiv (wW .i64 ((20:Int)+(↑(a9.length):Int))) (4:Int)))))),UInt8.ofNat (Int.toNat (wW .u8 a0))]+List.length r1.1<=(9223372036854775807:Nat))) (.opt ((zaw (a1,()))) (fun r2 =>.grd (decide (List.length ([UInt8.ofNat (Int.toNat (wW .u8 (bits .or .i64 (64:Int) (wW .i64 (Int.tdiv (wW .i64 ((20:Int)+(↑(a9.length):Int))) (4:Int)))))),UInt8.ofNat (Int.toNat (wW .u8 a0))]++r1.1)+List.length r2.1<=(9223372036854775807:Nat))) (
 .opt ((zaw (bits .or .i64 a4 8192,()))) (fun r3 =>.grd (decide (List.length ([UInt8.ofNat (Int.toNat (wW .u8 (bits .or .i64 (64:Int) (wW .i64 (Int.tdiv (wW .i64 ((20:Int)+(↑(a9.length):Int))) (4:Int)))))),UInt8.ofNat (Int.toNat (wW .u8 a0))]++r1.1++r2.1)+List.length r3.1<=(9223372036854775807:Nat))) (.grd (decide (0<=wW .u8 a5/\wW .u8 a5<256)) (.grd (decide (0<=wW .u8 a6/\wW .u8 a6<256)) (
 .grd (decide (List.length ([UInt8.ofNat (Int.toNat (wW .u8 (bits .or .i64 (64:Int) (wW .i64 (Int.tdiv (wW .i64 ((20:Int)+(↑(a9.length):Int))) (4:Int)))))),UInt8.ofNat (Int.toNat (wW .u8 a0))]++r1.1++r2.1++r3.1)+List.length [UInt8.ofNat (Int.toNat (wW .u8 a5)),UInt8.ofNat (Int.toNat (wW .u8 a6))]<=(9223372036854775807:Nat))) (.opt ((zek (a7,()))) (fun r4 =>.opt ((zek (a8,()))) (fun r5 =>.grd (decide (List.length r4.1+List.length r5.1<=(9223372036854775807:Nat))) (.grd (decide (List.length (r4.1++r5.1)+a9.length<=(9223372036854775807:Nat))) (
 .grd (decide (List.length ([UInt8.ofNat (Int.toNat (wW .u8 (bits .or .i64 (64:Int) (wW .i64 (Int.tdiv (wW .i64 ((20:Int)+(↑(a9.length):Int))) (4:Int)))))),UInt8.ofNat (Int.toNat (wW .u8 a0))]++r1.1++r2.1++r3.1++[UInt8.ofNat (Int.toNat (wW .u8 a5)),UInt8.ofNat (Int.toNat (wW .u8 a6))])+List.length (r4.1++r5.1++a9)<=(9223372036854775807:Nat))) (
 .opt ((zkr ([UInt8.ofNat (Int.toNat (wW .u8 (bits .or .i64 (64:Int) (wW .i64 (Int.tdiv (wW .i64 ((20:Int)+(↑(a9.length):Int))) (4:Int)))))),UInt8.ofNat (Int.toNat (wW .u8 a0))]++r1.1++r2.1++r3.1++[UInt8.ofNat (Int.toNat (wW .u8 a5)),UInt8.ofNat (Int.toNat (wW .u8 a6))]++(r4.1++r5.1++a9),()))) (fun r6 =>.opt ((zaw (wW .i64 r6.1,()))) (fun r7 =>
 .grd (decide (List.length ([UInt8.ofNat (Int.toNat (wW .u8 (bits .or .i64 (64:Int) (wW .i64 (Int.tdiv (wW .i64 ((20:Int)+(↑(a9.length):Int))) (4:Int)))))),UInt8.ofNat (Int.toNat (wW .u8 a0))]++r1.1++r2.1++r3.1++[UInt8.ofNat (Int.toNat (wW .u8 a5)),UInt8.ofNat (Int.toNat (wW .u8 a6))])+List.length r7.1<=(9223372036854775807:Nat))) (
 .grd (decide (List.length ([UInt8.ofNat (Int.toNat (wW .u8 (bits .or .i64 (64:Int) (wW .i64 (Int.tdiv (wW .i64 ((20:Int)+(↑(a9.length):Int))) (4:Int)))))),UInt8.ofNat (Int.toNat (wW .u8 a0))]++r1.1++r2.1++r3.1++[UInt8.ofNat (Int.toNat (wW .u8 a5)),UInt8.ofNat (Int.toNat (wW .u8 a6))]++r7.1)+List.length (r4.1++r5.1++a9)<=(9223372036854775807:Nat))) (
 .grd (decide (List.length ([UInt8.ofNat (Int.toNat (wW .u8 (bits .or .i64 (64:Int) (wW .i64 (Int.tdiv (wW .i64 ((20:Int)+(↑(a9.length):Int))) (4:Int)))))),UInt8.ofNat (Int.toNat (wW .u8 a0))]++r1.1++r2.1++r3.1++[UInt8.ofNat (Int.toNat (wW .u8 a5)),UInt8.ofNat (Int.toNat (wW .u8 a6))]++r7.1++(r4.1++r5.1++a9))+a10.length<=(9223372036854775807:Nat))) (
 .ret ([UInt8.ofNat (Int.toNat (wW .u8 (bits .or .i64 (64:Int) (wW .i64 (Int.tdiv (wW .i64 ((20:Int)+(↑(a9.length):Int))) (4:Int)))))),UInt8.ofNat (Int.toNat (wW .u8 a0))]++r1.1++r2.1++r3.1++[UInt8.ofNat (Int.toNat (wW .u8 a5)),UInt8.ofNat (Int.toNat (wW .u8 a6))]++r7.1++(r4.1++r5.1++a9)++a10,(0,()))))))))))))))))))))))))) (.grd (true) (
 .grd (decide (0<=wW .u8 (bits .or .i64 (64:Int) (wW .i64 (Int.tdiv (wW .i64 ((20:Int)+(↑(a9.length):Int))) (4:Int))))/\wW .u8 (bits .or .i64 (64:Int) (wW .i64 (Int.tdiv (wW .i64 ((20:Int)+(↑(a9.length):Int))) (4:Int))))<256)) (.grd (decide (0<=wW .u8 a0/\wW .u8 a0<256)) (.opt ((zaw (wW .i64 (wW .i64 ((20:Int)+(↑(a9.length):Int))+(↑(a10.length):Int)),()))) (fun r1 =>
 .grd (decide (List.length [UInt8.ofNat (Int.toNat (wW .u8 (bits .or .i64 (64:Int) (wW .i64 (Int.tdiv (wW .i64 ((20:Int)+(↑(a9.length):Int))) (4:Int)))))),UInt8.ofNat (Int.toNat (wW .u8 a0))]+List.length r1.1<=(9223372036854775807:Nat))) (.opt ((zaw (a1,()))) (fun r2 =>.grd (decide (List.length ([UInt8.ofNat (Int.toNat (wW .u8 (bits .or .i64 (64:Int) (wW .i64 (Int.tdiv (wW .i64 ((20:Int)+(↑(a9.length):Int))) (4:Int)))))),UInt8.ofNat (Int.toNat (wW .u8 a0))]++r1.1)+List.length r2.1<=(9223372036854775807:Nat))) (.opt ((zaw (a4,()))) (fun r3 =>
 .grd (decide (List.length ([UInt8.ofNat (Int.toNat (wW .u8 (bits .or .i64 (64:Int) (wW .i64 (Int.tdiv (wW .i64 ((20:Int)+(↑(a9.length):Int))) (4:Int)))))),UInt8.ofNat (Int.toNat (wW .u8 a0))]++r1.1++r2.1)+List.length r3.1<=(9223372036854775807:Nat))) (.grd (decide (0<=wW .u8 a5/\wW .u8 a5<256)) (.grd (decide (0<=wW .u8 a6/\wW .u8 a6<256)) (
 .grd (decide (List.length ([UInt8.ofNat (Int.toNat (wW .u8 (bits .or .i64 (64:Int) (wW .i64 (Int.tdiv (wW .i64 ((20:Int)+(↑(a9.length):Int))) (4:Int)))))),UInt8.ofNat (Int.toNat (wW .u8 a0))]++r1.1++r2.1++r3.1)+List.length [UInt8.ofNat (Int.toNat (wW .u8 a5)),UInt8.ofNat (Int.toNat (wW .u8 a6))]<=(9223372036854775807:Nat))) (.opt ((zek (a7,()))) (fun r4 =>.opt ((zek (a8,()))) (fun r5 =>.grd (decide (List.length r4.1+List.length r5.1<=(9223372036854775807:Nat))) (.grd (decide (List.length (r4.1++r5.1)+a9.length<=(9223372036854775807:Nat))) (
 .grd (decide (List.length ([UInt8.ofNat (Int.toNat (wW .u8 (bits .or .i64 (64:Int) (wW .i64 (Int.tdiv (wW .i64 ((20:Int)+(↑(a9.length):Int))) (4:Int)))))),UInt8.ofNat (Int.toNat (wW .u8 a0))]++r1.1++r2.1++r3.1++[UInt8.ofNat (Int.toNat (wW .u8 a5)),UInt8.ofNat (Int.toNat (wW .u8 a6))])+List.length (r4.1++r5.1++a9)<=(9223372036854775807:Nat))) (
 .opt ((zkr ([UInt8.ofNat (Int.toNat (wW .u8 (bits .or .i64 (64:Int) (wW .i64 (Int.tdiv (wW .i64 ((20:Int)+(↑(a9.length):Int))) (4:Int)))))),UInt8.ofNat (Int.toNat (wW .u8 a0))]++r1.1++r2.1++r3.1++[UInt8.ofNat (Int.toNat (wW .u8 a5)),UInt8.ofNat (Int.toNat (wW .u8 a6))]++(r4.1++r5.1++a9),()))) (fun r6 =>.opt ((zaw (wW .i64 r6.1,()))) (fun r7 =>
 .grd (decide (List.length ([UInt8.ofNat (Int.toNat (wW .u8 (bits .or .i64 (64:Int) (wW .i64 (Int.tdiv (wW .i64 ((20:Int)+(↑(a9.length):Int))) (4:Int)))))),UInt8.ofNat (Int.toNat (wW .u8 a0))]++r1.1++r2.1++r3.1++[UInt8.ofNat (Int.toNat (wW .u8 a5)),UInt8.ofNat (Int.toNat (wW .u8 a6))])+List.length r7.1<=(9223372036854775807:Nat))) (
 .grd (decide (List.length ([UInt8.ofNat (Int.toNat (wW .u8 (bits .or .i64 (64:Int) (wW .i64 (Int.tdiv (wW .i64 ((20:Int)+(↑(a9.length):Int))) (4:Int)))))),UInt8.ofNat (Int.toNat (wW .u8 a0))]++r1.1++r2.1++r3.1++[UInt8.ofNat (Int.toNat (wW .u8 a5)),UInt8.ofNat (Int.toNat (wW .u8 a6))]++r7.1)+List.length (r4.1++r5.1++a9)<=(9223372036854775807:Nat))) (
 .grd (decide (List.length ([UInt8.ofNat (Int.toNat (wW .u8 (bits .or .i64 (64:Int) (wW .i64 (Int.tdiv (wW .i64 ((20:Int)+(↑(a9.length):Int))) (4:Int)))))),UInt8.ofNat (Int.toNat (wW .u8 a0))]++r1.1++r2.1++r3.1++[UInt8.ofNat (Int.toNat (wW .u8 a5)),UInt8.ofNat (Int.toNat (wW .u8 a6))]++r7.1++(r4.1++r5.1++a9))+a10.length<=(9223372036854775807:Nat))) (
 .ret ([UInt8.ofNat (Int.toNat (wW .u8 (bits .or .i64 (64:Int) (wW .i64 (Int.tdiv (wW .i64 ((20:Int)+(↑(a9.length):Int))) (4:Int)))))),UInt8.ofNat (Int.toNat (wW .u8 a0))]++r1.1++r2.1++r3.1++[UInt8.ofNat (Int.toNat (wW .u8 a5)),UInt8.ofNat (Int.toNat (wW .u8 a6))]++r7.1++(r4.1++r5.1++a9)++a10,(0,()))))))))))))))))))))))))))))
noncomputable def gm13:List (PF Go.Proofs.Tryz.prog):=gm12++[FS.pf zv4]
def z77 (x:ty7_):Option ty0_:=(zp8 x).eval
noncomputable def zoz:FS Tryz.prog:=mFS gm13 [] 37 z78 z76 zp8 fun x=>by kernel_rfl
def zcrb:List VP1:=[.one (.s)]
def zcqb:SP:=⟨1,[(0,.tup [.agg [.i .i64,.i .i64,.b,.b,.i .i64,.i .i64,.i .i64,.i .u32,.i .u32,.s,.s],.one (.i .i64)])],[]⟩
abbrev ty8_:Type:=(Int×(Int×(Bool×(Bool×(Int×(Int×(Int×(Int×(Int×((List UInt8)×((List UInt8)×(Int×Unit))))))))))))
def zim:((List UInt8)×Unit)->Tr ty8_ :=
 fun (a0,_) =>.ite (decide ((↑(a0.length):Int)<20)) (.ret (0,(0,(false,(false,(0,(0,(0,(0,(0,([],([],(3,()))))))))))))) (.grd (decide ((0:Int)<=(0:Int)/\0<(↑(a0.length):Int))) (.opt ((zbp (a0,(2,())))) (fun r0 =>.ite (decide ((↑(a0.length):Int)<wW .i64 (wW .i64 (bits .and .u8 (↑(UInt8.toNat (List.getD a0 (0:Nat) (0:UInt8))):Int) (15:Int))*(4:Int)))) (.ret (0,(0,(false,(false,(0,(0,(0,(0,(0,([],([],(3,()))))))))))))) (.ite (decide ((↑(a0.length):Int)<r0.1)) (
 .ret (0,(0,(false,(false,(0,(0,(0,(0,(0,([],([],(3,()))))))))))))) (.opt ((zbp (a0,(6,())))) (fun r1 =>.grd (decide ((0:Int)<=(0:Int)/\0<(↑(a0.length):Int))) (.grd (true) (.ite (!decide (Int.fdiv (↑(UInt8.toNat (List.getD a0 (0:Nat) (0:UInt8))):Int) ((2:Int)^(4:Nat))=4)) (.ret (0,(0,(false,(false,(0,(0,(0,(0,(0,([],([],(4,()))))))))))))) (.ite (decide (wW .i64 (wW .i64 (bits .and .u8 (↑(UInt8.toNat (List.getD a0 (0:Nat) (0:UInt8))):Int) (15:Int))*(4:Int))<20)) (
 .ret (0,(0,(false,(false,(0,(0,(0,(0,(0,([],([],(4,()))))))))))))) (.ite (decide (r0.1<wW .i64 (wW .i64 (bits .and .u8 (↑(UInt8.toNat (List.getD a0 (0:Nat) (0:UInt8))):Int) (15:Int))*(4:Int)))) (.ret (0,(0,(false,(false,(0,(0,(0,(0,(0,([],([],(4,()))))))))))))) (.grd (true) (.ite (decide (Int.fdiv r1.1 ((2:Int)^(15:Nat))=1)) (.ret (0,(0,(false,(false,(0,(0,(0,(0,(0,([],([],(4,()))))))))))))) (.grd (decide ((0:Int)<=(1:Int)/\1<(↑(a0.length):Int))) (.opt ((zbp (a0,(4,())))) (fun r2 =>.grd (true) (.grd (true) (
 .grd (decide ((0:Int)<=(8:Int)/\8<(↑(a0.length):Int))) (.grd (decide ((0:Int)<=(9:Int)/\9<(↑(a0.length):Int))) (.opt ((zmh (a0,(12,())))) (fun r3 =>.opt ((zmh (a0,(16,())))) (fun r4 =>.grd (decide ((0:Int)<=(20:Int)/\20<=wW .i64 (wW .i64 (bits .and .u8 (↑(UInt8.toNat (List.getD a0 (0:Nat) (0:UInt8))):Int) (15:Int))*(4:Int))/\wW .i64 (wW .i64 (bits .and .u8 (↑(UInt8.toNat (List.getD a0 (0:Nat) (0:UInt8))):Int) (15:Int))*(4:Int))<=(↑(a0.length):Int))) (
 .grd (decide (0<=wW .i64 (wW .i64 (bits .and .u8 (↑(UInt8.toNat (List.getD a0 (0:Nat) (0:UInt8))):Int) (15:Int))*(4:Int))/\wW .i64 (wW .i64 (bits .and .u8 (↑(UInt8.toNat (List.getD a0 (0:Nat) (0:UInt8))):Int) (15:Int))*(4:Int))<=r0.1/\r0.1<=(↑(a0.length):Int))) (
 .opt ((zgg (wW .i64 (↑(UInt8.toNat (List.getD a0 (1:Nat) (0:UInt8))):Int),(r2.1,(decide (bits .and .i64 (Int.fdiv r1.1 ((2:Int)^(14:Nat))) (1:Int)=(1:Int)),(decide (bits .and .i64 (Int.fdiv r1.1 ((2:Int)^(13:Nat))) (1:Int)=(1:Int)),(bits .and .i64 r1.1 8191,(wW .i64 (↑(UInt8.toNat (List.getD a0 (8:Nat) (0:UInt8))):Int),(wW .i64 (↑(UInt8.toNat (List.getD a0 (9:Nat) (0:UInt8))):Int),(r3.1,(r4.1,(List.drop (20:Nat) (List.take (Int.toNat (wW .i64 (wW .i64 (bits .and .u8 (↑(UInt8.toNat (List.getD a0 (0:Nat) (0:UInt8))):Int) (15:Int))*(4:Int)))) a0),(List.drop (Int.toNat (wW .i64 (wW .i64 (bits .and .u8 (↑(UInt8.toNat (List.getD a0 (0:Nat) (0:UInt8))):Int) (15:Int))*(4:Int)))) (List.take (Int.toNat r0.1) a0),()))))))))))))) (fun r5 =>
 .ite (!decide (r5.1=0)) (.ret (0,(0,(false,(false,(0,(0,(0,(0,(0,([],([],(4,()))))))))))))) (.grd (decide ((0:Int)<=(0:Int)/\0<=wW .i64 (wW .i64 (bits .and .u8 (↑(UInt8.toNat (List.getD a0 (0:Nat) (0:UInt8))):Int) (15:Int))*(4:Int))/\wW .i64 (wW .i64 (bits .and .u8 (↑(UInt8.toNat (List.getD a0 (0:Nat) (0:UInt8))):Int) (15:Int))*(4:Int))<=(↑(a0.length):Int))) (
 .opt ((zc5 (List.drop (0:Nat) (List.take (Int.toNat (wW .i64 (wW .i64 (bits .and .u8 (↑(UInt8.toNat (List.getD a0 (0:Nat) (0:UInt8))):Int) (15:Int))*(4:Int)))) a0),()))) (fun r6 =>.ite (!r6.1) (.ret (0,(0,(false,(false,(0,(0,(0,(0,(0,([],([],(5,()))))))))))))) (
 .ret (wW .i64 (↑(UInt8.toNat (List.getD a0 (1:Nat) (0:UInt8))):Int),(r2.1,(decide (bits .and .i64 (Int.fdiv r1.1 ((2:Int)^(14:Nat))) (1:Int)=(1:Int)),(decide (bits .and .i64 (Int.fdiv r1.1 ((2:Int)^(13:Nat))) (1:Int)=(1:Int)),(bits .and .i64 r1.1 8191,(wW .i64 (↑(UInt8.toNat (List.getD a0 (8:Nat) (0:UInt8))):Int),(wW .i64 (↑(UInt8.toNat (List.getD a0 (9:Nat) (0:UInt8))):Int),(r3.1,(r4.1,(List.drop (20:Nat) (List.take (Int.toNat (wW .i64 (wW .i64 (bits .and .u8 (↑(UInt8.toNat (List.getD a0 (0:Nat) (0:UInt8))):Int) (15:Int))*(4:Int)))) a0),(List.drop (Int.toNat (wW .i64 (wW .i64 (bits .and .u8 (↑(UInt8.toNat (List.getD a0 (0:Nat) (0:UInt8))):Int) (15:Int))*(4:Int)))) (List.take (Int.toNat r0.1) a0),(0,()))))))))))))))))))))))))))))))))))))))))
noncomputable def gm14:List (PF Go.Proofs.Tryz.prog):=gm13++[FS.pf zoz]
def zfu (x:((List UInt8)×Unit)):Option ty8_:=(zim x).eval
noncomputable def zv3:FS Tryz.prog:=mFS gm14 [] 30 zcrb zcqb zim fun x=>by kernel_rfl
def zhjb:List VP1:=[.one (.s)]
def zhib:SP:=⟨1,[(0,.tup [.one (.s),.one (.i .i64)])],[]⟩
abbrev y5 {a0 a1 a2 a3 a4 b c:Type} (x:a0×a1×a2×a3×a4×b×c):b:=x.2.2.2.2.2.1
abbrev y6 {a0 a1 a2 a3 a4 a5 b c:Type} (x:a0×a1×a2×a3×a4×a5×b×c):b:=x.2.2.2.2.2.2.1
abbrev y11 {a0 a1 a2 a3 a4 a5 a6 a7 a8 a9 a10 b c:Type} (x:a0×a1×a2×a3×a4×a5×a6×a7×a8×a9×a10×b×c):b:=x.2.2.2.2.2.2.2.2.2.2.2.1
def zk0:((List UInt8)×Unit)->Tr ty0_ :=
 fun (a0,_) =>.opt ((zfu (a0,()))) (fun r0 =>.ite (!decide ((y11 r0)=0)) (.ret ([],(y11 r0,()))) (.ite (decide ((y5 r0)<2)) (.ret ([],(7,()))) (.opt ((zbp (a0,(8,())))) (fun r1 =>.grd (true) (.opt ((zbp (a0,(10,())))) (fun r2 =>.opt ((zg4 (wW .u16 r2.1,(wW .u16 r1.1,(wW .u16 (bits .or .i64 (wW .i64 (wW .i64 ((y5 r0)-1)*(2:Int)^(8:Nat))) (y6 r0)),()))))) (fun r3 =>.grd (decide ((0:Int)<=(0:Int)/\(0:Int)<=(8:Int)/\8<=(↑(a0.length):Int))) (
 .opt ((zaw (wW .i64 (wW .u16 (bits .or .i64 (wW .i64 (wW .i64 ((y5 r0)-1)*(2:Int)^(8:Nat))) (y6 r0))),()))) (fun r4 =>.grd (decide (List.length (List.drop (0:Nat) (List.take (8:Nat) a0))+List.length r4.1<=(9223372036854775807:Nat))) (.opt ((zaw (wW .i64 r3.1,()))) (fun r5 =>.grd (decide (List.length (List.drop (0:Nat) (List.take (8:Nat) a0)++r4.1)+List.length r5.1<=(9223372036854775807:Nat))) (.opt ((zbp (a0,(2,())))) (fun r6 =>.grd (decide ((0:Int)<=(12:Int)/\12<=r6.1/\r6.1<=(↑(a0.length):Int))) (
 .grd (decide (List.length (List.drop (0:Nat) (List.take (8:Nat) a0)++r4.1++r5.1)+List.length (List.drop (12:Nat) (List.take (Int.toNat r6.1) a0))<=(9223372036854775807:Nat))) (.ret (List.drop (0:Nat) (List.take (8:Nat) a0)++r4.1++r5.1++List.drop (12:Nat) (List.take (Int.toNat r6.1) a0),(0,())))))))))))))))))
noncomputable def gm15:List (PF Go.Proofs.Tryz.prog):=gm14++[FS.pf zv3]
def zin (x:((List UInt8)×Unit)):Option ty0_:=(zk0 x).eval
noncomputable def z8a:FS Tryz.prog:=mFS gm15 [] 87 zhjb zhib zk0 fun x=>by kernel_rfl
open Go Go.RowKit Go.Proofs.YthkhikdglmaiaaaGreatDoor.Abs
open Go.IntKind renaming wrap -> wW
def zajb:List VP1:=[.one (.i .i64)]
def zaib:SP:=⟨1,[(0,.v (.one (.s)))],[]⟩
def zrn:(Int×Unit)->Tr ((List UInt8)×Unit) :=
 fun (a0,_) =>.grd (true) (.grd (decide (0<=wW .u8 (Int.fdiv a0 ((2:Int)^(8:Nat)))/\wW .u8 (Int.fdiv a0 ((2:Int)^(8:Nat)))<256)) (.grd (decide (0<=wW .u8 a0/\wW .u8 a0<256)) (.ret ([UInt8.ofNat (Int.toNat (wW .u8 (Int.fdiv a0 ((2:Int)^(8:Nat))))),UInt8.ofNat (Int.toNat (wW .u8 a0))],()))))
def ze6 (x:(Int×Unit)):Option ((List UInt8)×Unit):=(zrn x).eval
noncomputable def zro:FS Tryz.prog:=mFS gm7 [] 108 zajb zaib zrn fun x=>by kernel_rfl
def zapb:List VP1:=[.one (.i .u32)]
def zaob:SP:=⟨1,[(0,.v (.one (.s)))],[]⟩
def zrp:(Int×Unit)->Tr ((List UInt8)×Unit) :=
 fun (a0,_) =>.grd (true) (.opt ((ze6 (wW .i64 (Int.fdiv a0 ((2:Int)^(16:Nat))),()))) (fun r0 =>.opt ((ze6 (wW .i64 a0,()))) (fun r1 =>.grd (decide (List.length r0.1+List.length r1.1<=(9223372036854775807:Nat))) (.ret (r0.1++r1.1,())))))
noncomputable def gm16:List (PF Go.Proofs.Tryz.prog):=gm7++[FS.pf zro]
def zy9 (x:(Int×Unit)):Option ((List UInt8)×Unit):=(zrp x).eval
noncomputable def zrr:FS Tryz.prog:=mFS gm16 [] 109 zapb zaob zrp fun x=>by kernel_rfl
def z2a:List VP1:=[.one (.s),.one (.i .i64)]
def z19:SP:=⟨1,[(0,.v (.one (.i .i64)))],[]⟩
def zh2:ty0_->Tr (Int×Unit) :=
 fun (a0,a1,_) =>.grd (decide (0<=a1/\a1<(↑(a0.length):Int))) (.grd (true) (.grd (decide (0<=wW .i64 (a1+1)/\wW .i64 (a1+1)<(↑(a0.length):Int))) (.ret (bits .or .i64 (wW .i64 (wW .i64 (↑(UInt8.toNat (List.getD a0 (Int.toNat a1) (0:UInt8))):Int)*(2:Int)^(8:Nat))) (wW .i64 (↑(UInt8.toNat (List.getD a0 (Int.toNat (wW .i64 (a1+1))) (0:UInt8))):Int)),()))))
noncomputable def gm17:List (PF Go.Proofs.Tryz.prog):=gm16++[FS.pf zrr]
def zcf (x:ty0_):Option (Int×Unit):=(zh2 x).eval
noncomputable def zh3:FS Tryz.prog:=mFS gm17 [] 66 z2a z19 zh2 fun x=>by kernel_rfl
def z2c:List VP1:=[.one (.s),.one (.i .i64)]
def z2b:SP:=⟨1,[(0,.v (.one (.i .u32)))],[]⟩
def zm4:ty0_->Tr (Int×Unit) :=
 fun (a0,a1,_) =>.opt ((zcf (a0,(a1,())))) (fun r0 =>.grd (true) (.opt ((zcf (a0,(wW .i64 (a1+2),())))) (fun r1 =>.ret (bits .or .u32 (wW .u32 (wW .u32 r0.1*(2:Int)^(16:Nat))) (wW .u32 r1.1),()))))
noncomputable def gm18:List (PF Go.Proofs.Tryz.prog):=gm17++[FS.pf zh3]
def zl3 (x:ty0_):Option (Int×Unit):=(zm4 x).eval
noncomputable def zh4:FS Tryz.prog:=mFS gm18 [] 67 z2c z2b zm4 fun x=>by kernel_rfl
def zt9:LS:=⟨2,[],⟨19,[(8,.v (.one (.i .i64))),(0,.v (.one (.st 0 false))),(1,.v (.one (.clo 151 []))),(7,.v (.one (.i .i64)))],[]⟩,[⟨none,[],⟨19,[(4,.v (.one (.i .i64)))],[]⟩⟩,⟨some 0,[],⟨19,[],[]⟩⟩],[]⟩
abbrev ty9_:Type:=(Int×((List Int)×(Int×Unit)))
def zoo:ty9_->Tr (ty9_⊕((Int×Unit)⊕Unit)) :=
 fun (a0,a1,a2,_) =>.ite (decide (a0<a2)) (.grd (decide (0<=a0)) (.opt (a1[Int.toNat a0]?) (fun r0 =>.ite (decide (r0<0)) (.ite (true) (.ret (Sum.inr (Sum.inl (a0,())))) (.ret (Sum.inl (wW .i64 (a0+1),(a1,(a2,())))))) (.ite (decide (65535<r0)) (.ret (Sum.inr (Sum.inl (a0,())))) (.ret (Sum.inl (wW .i64 (a0+1),(a1,(a2,()))))))))) (.ret (Sum.inr (Sum.inr ())))
def zop:=lpT 1790002 zoo
def z6z:List VP1:=[.one (.st 0 false)]
def z6x:SP:=⟨1,[(0,.v (.one (.b)))],[]⟩
def zpv:((List Int)×Unit)->Tr (Bool×Unit) :=
 fun (a0,_) =>.opt ((zop (0,(a0,((↑(a0.length):Int),()))))) (fun r0 =>.sum (r0) (fun r1 =>.ret (!decide (0<=r1.1),())) (fun r1 =>.ret (true,())))
noncomputable def gm19:List (PF Go.Proofs.Tryz.prog):=gm18++[FS.pf zh4]
def z6y (x:((List Int)×Unit)):Option (Bool×Unit):=(zpv x).eval
noncomputable def zlz:FS Tryz.prog:=mFS gm19 [(179,zt9)] 106 z6z z6x zpv fun x=>by kernel_rfl
def zqm:LS:=⟨3,[(4,4)],⟨60,[(9,.v (.one (.i .i64))),(4,.v (.one (.own 4))),(7,.v (.one (.st 4 false))),(8,.v (.one (.i .i64)))],[(4,.row 5 2 true true)]⟩,[⟨none,[],⟨60,[(2,.v (.one (.s))),(3,.v (.one (.b)))],[]⟩⟩,⟨some 0,[(4,4)],⟨60,[(4,.v (.one (.own 4)))],[(4,.row 5 2 true true)]⟩⟩],[(4,5,2)]⟩
abbrev gd {α:Type} (n:Nat) (t:Tr α):Tr α:=.grd (decide (n=n)) t
abbrev znyb:Type:=(Int×((List TOption)×(Int×((List UInt8)×Unit))))
abbrev z94:Type:=((List UInt8)×(Bool×Unit))
def zl1:znyb->Tr (znyb⊕(z94⊕((List UInt8)×Unit))) :=
 fun (a0,a1,a2,a3,_) =>.ite (decide (a0<a2)) (.grd (decide (0<=a0)) (.opt (a1[Int.toNat a0]?) (fun r0 =>.ite (decide (r0.kind<1)) (.ret (Sum.inr (Sum.inl ([],(false,()))))) (.ite (decide (255<r0.kind)) (.ret (Sum.inr (Sum.inl ([],(false,()))))) (.ite (decide (38<(↑(List.length r0.data):Int))) (.ret (Sum.inr (Sum.inl ([],(false,()))))) (.ite (decide (r0.kind=1)) (.ite (!decide (r0.data=[])) (.ret (Sum.inr (Sum.inl ([],(false,()))))) (.grd (decide (0<=wW .u8 r0.kind/\wW .u8 r0.kind<256)) (
 .grd (decide ((a3.length+List.length [UInt8.ofNat (Int.toNat (wW .u8 r0.kind))])*(1:Nat)<=(140737488355328:Nat)/\a3.length+List.length [UInt8.ofNat (Int.toNat (wW .u8 r0.kind))]<=(9223372036854775807:Nat))) (.ite (decide (1<r0.kind)) (.grd (decide (0<=wW .u8 (wW .i64 ((↑(List.length r0.data):Int)+2))/\wW .u8 (wW .i64 ((↑(List.length r0.data):Int)+2))<256)) (
 .grd (decide ((List.length (a3++[UInt8.ofNat (Int.toNat (wW .u8 r0.kind))])+List.length [UInt8.ofNat (Int.toNat (wW .u8 (wW .i64 ((↑(List.length r0.data):Int)+2))))])*(1:Nat)<=(140737488355328:Nat)/\List.length (a3++[UInt8.ofNat (Int.toNat (wW .u8 r0.kind))])+List.length [UInt8.ofNat (Int.toNat (wW .u8 (wW .i64 ((↑(List.length r0.data):Int)+2))))]<=(9223372036854775807:Nat))) (
 .grd (decide ((List.length (a3++[UInt8.ofNat (Int.toNat (wW .u8 r0.kind))]++[UInt8.ofNat (Int.toNat (wW .u8 (wW .i64 ((↑(List.length r0.data):Int)+2))))])+List.length r0.data)*(1:Nat)<=(140737488355328:Nat)/\List.length (a3++[UInt8.ofNat (Int.toNat (wW .u8 r0.kind))]++[UInt8.ofNat (Int.toNat (wW .u8 (wW .i64 ((↑(List.length r0.data):Int)+2))))])+List.length r0.data<=(9223372036854775807:Nat))) (
 .grd (decide (List.length (a3++[UInt8.ofNat (Int.toNat (wW .u8 r0.kind))]++[UInt8.ofNat (Int.toNat (wW .u8 (wW .i64 ((↑(List.length r0.data):Int)+2))))]++r0.data)=List.length (a3++[UInt8.ofNat (Int.toNat (wW .u8 r0.kind))]++[UInt8.ofNat (Int.toNat (wW .u8 (wW .i64 ((↑(List.length r0.data):Int)+2))))]++r0.data))) (.ret (Sum.inl (wW .i64 (a0+1),(a1,(a2,(a3++[UInt8.ofNat (Int.toNat (wW .u8 r0.kind))]++[UInt8.ofNat (Int.toNat (wW .u8 (wW .i64 ((↑(List.length r0.data):Int)+2))))]++r0.data,())))))))))) (
 .grd (decide (List.length (a3++[UInt8.ofNat (Int.toNat (wW .u8 r0.kind))])=List.length (a3++[UInt8.ofNat (Int.toNat (wW .u8 r0.kind))]))) (.ret (Sum.inl (wW .i64 (a0+1),(a1,(a2,(a3++[UInt8.ofNat (Int.toNat (wW .u8 r0.kind))],()))))))))))) (.grd (decide (0<=wW .u8 r0.kind/\wW .u8 r0.kind<256)) (.grd (decide ((a3.length+List.length [UInt8.ofNat (Int.toNat (wW .u8 r0.kind))])*(1:Nat)<=(140737488355328:Nat)/\a3.length+List.length [UInt8.ofNat (Int.toNat (wW .u8 r0.kind))]<=(9223372036854775807:Nat))) (.ite (decide (1<r0.kind)) (
 .grd (decide (0<=wW .u8 (wW .i64 ((↑(List.length r0.data):Int)+2))/\wW .u8 (wW .i64 ((↑(List.length r0.data):Int)+2))<256)) (.grd (decide ((List.length (a3++[UInt8.ofNat (Int.toNat (wW .u8 r0.kind))])+List.length [UInt8.ofNat (Int.toNat (wW .u8 (wW .i64 ((↑(List.length r0.data):Int)+2))))])*(1:Nat)<=(140737488355328:Nat)/\List.length (a3++[UInt8.ofNat (Int.toNat (wW .u8 r0.kind))])+List.length [UInt8.ofNat (Int.toNat (wW .u8 (wW .i64 ((↑(List.length r0.data):Int)+2))))]<=(9223372036854775807:Nat))) (
 .grd (decide ((List.length (a3++[UInt8.ofNat (Int.toNat (wW .u8 r0.kind))]++[UInt8.ofNat (Int.toNat (wW .u8 (wW .i64 ((↑(List.length r0.data):Int)+2))))])+List.length r0.data)*(1:Nat)<=(140737488355328:Nat)/\List.length (a3++[UInt8.ofNat (Int.toNat (wW .u8 r0.kind))]++[UInt8.ofNat (Int.toNat (wW .u8 (wW .i64 ((↑(List.length r0.data):Int)+2))))])+List.length r0.data<=(9223372036854775807:Nat))) (
 .grd (decide (List.length (a3++[UInt8.ofNat (Int.toNat (wW .u8 r0.kind))]++[UInt8.ofNat (Int.toNat (wW .u8 (wW .i64 ((↑(List.length r0.data):Int)+2))))]++r0.data)=List.length (a3++[UInt8.ofNat (Int.toNat (wW .u8 r0.kind))]++[UInt8.ofNat (Int.toNat (wW .u8 (wW .i64 ((↑(List.length r0.data):Int)+2))))]++r0.data))) (.ret (Sum.inl (wW .i64 (a0+1),(a1,(a2,(a3++[UInt8.ofNat (Int.toNat (wW .u8 r0.kind))]++[UInt8.ofNat (Int.toNat (wW .u8 (wW .i64 ((↑(List.length r0.data):Int)+2))))]++r0.data,())))))))))) (
 .grd (decide (List.length (a3++[UInt8.ofNat (Int.toNat (wW .u8 r0.kind))])=List.length (a3++[UInt8.ofNat (Int.toNat (wW .u8 r0.kind))]))) (.ret (Sum.inl (wW .i64 (a0+1),(a1,(a2,(a3++[UInt8.ofNat (Int.toNat (wW .u8 r0.kind))],())))))))))))))))) (gd a3.length (.ret (Sum.inr (Sum.inr (a3,())))))
def zl2:=lpT 1070003 zl1
def zy8:List VP1:=[.one (.st 4 false)]
def zy6:SP:=⟨1,[(0,.tup [.one (.s),.one (.b)])],[]⟩
def zlc:((List TOption)×Unit)->Tr z94 :=
 fun (a0,_) =>.grd (true) (.opt ((zl2 (0,(a0,((↑(a0.length):Int),([],())))))) (fun r0 =>.sum (r0) (fun r1 =>.ret (r1.1,(r1.2.1,()))) (fun r1 =>.ret (r1.1,(true,())))))
noncomputable def gm20:List (PF Go.Proofs.Tryz.prog):=gm19++[FS.pf zlz]
def zy7 (x:((List TOption)×Unit)):Option z94:=(zlc x).eval
noncomputable def ze7:FS Tryz.prog:=mFS gm20 [(107,zqm)] 107 zy8 zy6 zlc fun x=>by kernel_rfl
def zw7:LS:=⟨8,[(3,3)],⟨117,[(8,.v (.one (.s))),(3,.v (.one (.ptr 3 0))),(2,.v (.one (.i .u32))),(1,.v (.one (.i .u32)))],[(3,.cells [.i .i64,.i .i64,.i .u32,.i .u32,.i .i64,.i .i64,.i .i64,.st 4 false,.s])]⟩,[⟨some 0,[(3,3)],⟨117,[(3,.v (.one (.ptr 3 0))),(2,.v (.one (.i .u32))),(1,.v (.one (.i .u32))),(8,.v (.one (.s)))],[(3,.cells [.i .i64,.i .i64,.i .u32,.i .u32,.i .i64,.i .i64,.i .i64,.st 4 false,.s])]⟩⟩],[]⟩
abbrev znxb:Type:=((List UInt8)×(Int×(Int×(Int×(Int×(Int×(Int×(Int×(Int×(Int×((List TOption)×((List UInt8)×Unit))))))))))))
abbrev zpnb:Type:=(Int×(Int×((List UInt8)×(Int×(Int×(Int×(Int×(Int×(Int×(Int×((List TOption)×((List UInt8)×Unit))))))))))))
def zqj:znxb->Tr (znxb⊕zpnb) :=
 fun (a0,a1,a2,a3,a4,a5,a6,a7,a8,a9,a10,a11,_) =>.grd (true) (.ite (!decide (Int.tmod (↑(a0.length):Int) (4:Int)=(0:Int))) (.grd (decide (a0.length+List.length [(0:UInt8)]<=(9223372036854775807:Nat))) (.ret (Sum.inl (a0++[(0:UInt8)],(a1,(a2,(a3,(a4,(a5,(a6,(a7,(a8,(a9,(a10,(a11,()))))))))))))))) (.ret (Sum.inr (a1,(a2,(a0,(a3,(a4,(a5,(a6,(a7,(a8,(a9,(a10,(a11,())))))))))))))))
def zqk:=lpT 590008 zqj
def z6w:List VP1:=[.agg [.i .i64,.i .i64,.i .u32,.i .u32,.i .i64,.i .i64,.i .i64,.st 4 false,.s],.one (.i .u32),.one (.i .u32)]
def z6v:SP:=⟨1,[(0,.tup [.one (.s),.one (.i .i64)])],[]⟩
abbrev y3 {a0 a1 a2 b c:Type} (x:a0×a1×a2×b×c):b:=x.2.2.2.1
abbrev y4 {a0 a1 a2 a3 b c:Type} (x:a0×a1×a2×a3×b×c):b:=x.2.2.2.2.1
abbrev y7 {a0 a1 a2 a3 a4 a5 a6 b c:Type} (x:a0×a1×a2×a3×a4×a5×a6×b×c):b:=x.2.2.2.2.2.2.2.1
abbrev y8 {a0 a1 a2 a3 a4 a5 a6 a7 b c:Type} (x:a0×a1×a2×a3×a4×a5×a6×a7×b×c):b:=x.2.2.2.2.2.2.2.2.1
abbrev y9 {a0 a1 a2 a3 a4 a5 a6 a7 a8 b c:Type} (x:a0×a1×a2×a3×a4×a5×a6×a7×a8×b×c):b:=x.2.2.2.2.2.2.2.2.2.1
abbrev znwb:Type:=(Int×(Int×(Int×(Int×(Int×(Int×(Int×((List TOption)×((List UInt8)×(Int×(Int×Unit)))))))))))
def zpu:znwb->Tr ty0_ :=
 fun (a0,a1,a2,a3,a4,a5,a6,a7,a8,a9,a10,_) =>.opt ((z6y ([a0,a1,a5,a6],()))) (fun r0 =>.ite (!r0.1) (.ret ([],(1,()))) (.ite (decide (a4<0)) (.ret ([],(1,()))) (.ite (decide (255<a4)) (.ret ([],(1,()))) (.opt ((zy7 (a7,()))) (fun r1 =>.ite (!r1.2.1) (.ret ([],(4,()))) (.ite (decide (40<(↑(List.length r1.1):Int))) (.ret ([],(2,()))) (.ite (decide (65455<(↑(a8.length):Int))) (.ret ([],(2,()))) (.opt ((zqk (r1.1,(a10,(a9,(a0,(a1,(a2,(a3,(a4,(a5,(a6,(a7,(a8,())))))))))))))) (fun r2 =>.opt ((ze6 (y3 r2,()))) (fun r3 =>
 .opt ((ze6 (y4 r2,()))) (fun r4 =>.grd (decide (List.length r3.1+List.length r4.1<=(9223372036854775807:Nat))) (.opt ((zy9 (y5 r2,()))) (fun r5 =>.grd (decide (List.length (r3.1++r4.1)+List.length r5.1<=(9223372036854775807:Nat))) (.opt ((zy9 (y6 r2,()))) (fun r6 =>.grd (decide (List.length (r3.1++r4.1++r5.1)+List.length r6.1<=(9223372036854775807:Nat))) (.grd (decide (0<=wW .u8 (wW .i64 (wW .i64 ((20:Int)+(↑(List.length r2.2.2.1):Int))*(4:Int)))/\wW .u8 (wW .i64 (wW .i64 ((20:Int)+(↑(List.length r2.2.2.1):Int))*(4:Int)))<256)) (
 .grd (decide (0<=wW .u8 (y7 r2)/\wW .u8 (y7 r2)<256)) (.grd (decide (List.length (r3.1++r4.1++r5.1++r6.1)+List.length [UInt8.ofNat (Int.toNat (wW .u8 (wW .i64 (wW .i64 ((20:Int)+(↑(List.length r2.2.2.1):Int))*(4:Int))))),UInt8.ofNat (Int.toNat (wW .u8 (y7 r2)))]<=(9223372036854775807:Nat))) (.opt ((ze6 (y8 r2,()))) (fun r7 =>
 .grd (decide (List.length (r3.1++r4.1++r5.1++r6.1++[UInt8.ofNat (Int.toNat (wW .u8 (wW .i64 (wW .i64 ((20:Int)+(↑(List.length r2.2.2.1):Int))*(4:Int))))),UInt8.ofNat (Int.toNat (wW .u8 (y7 r2)))])+List.length r7.1<=(9223372036854775807:Nat))) (.opt ((ze6 (y9 r2,()))) (fun r8 =>.grd (decide (List.length r8.1+List.length r2.2.2.1<=(9223372036854775807:Nat))) (.grd (decide (List.length (r8.1++r2.2.2.1)+(y11 r2).length<=(9223372036854775807:Nat))) (
 .opt ((ze1 (r2.2.1,(r2.1,(6,(wW .i64 (wW .i64 ((20:Int)+(↑(List.length r2.2.2.1):Int))+(↑((y11 r2).length):Int)),())))))) (fun r9 =>.grd (decide (List.length r9.1+List.length (r3.1++r4.1++r5.1++r6.1++[UInt8.ofNat (Int.toNat (wW .u8 (wW .i64 (wW .i64 ((20:Int)+(↑(List.length r2.2.2.1):Int))*(4:Int))))),UInt8.ofNat (Int.toNat (wW .u8 (y7 r2)))]++r7.1)<=(9223372036854775807:Nat))) (
 .grd (decide (List.length (r9.1++(r3.1++r4.1++r5.1++r6.1++[UInt8.ofNat (Int.toNat (wW .u8 (wW .i64 (wW .i64 ((20:Int)+(↑(List.length r2.2.2.1):Int))*(4:Int))))),UInt8.ofNat (Int.toNat (wW .u8 (y7 r2)))]++r7.1))+List.length (r8.1++r2.2.2.1++(y11 r2))<=(9223372036854775807:Nat))) (.opt ((zkr (r9.1++(r3.1++r4.1++r5.1++r6.1++[UInt8.ofNat (Int.toNat (wW .u8 (wW .i64 (wW .i64 ((20:Int)+(↑(List.length r2.2.2.1):Int))*(4:Int))))),UInt8.ofNat (Int.toNat (wW .u8 (y7 r2)))]++r7.1)++(r8.1++r2.2.2.1++(y11 r2)),()))) (fun r10 =>
 .opt ((ze6 (wW .i64 r10.1,()))) (fun r11 =>.grd (decide (List.length (r3.1++r4.1++r5.1++r6.1++[UInt8.ofNat (Int.toNat (wW .u8 (wW .i64 (wW .i64 ((20:Int)+(↑(List.length r2.2.2.1):Int))*(4:Int))))),UInt8.ofNat (Int.toNat (wW .u8 (y7 r2)))]++r7.1)+List.length r11.1<=(9223372036854775807:Nat))) (
 .grd (decide (List.length (r3.1++r4.1++r5.1++r6.1++[UInt8.ofNat (Int.toNat (wW .u8 (wW .i64 (wW .i64 ((20:Int)+(↑(List.length r2.2.2.1):Int))*(4:Int))))),UInt8.ofNat (Int.toNat (wW .u8 (y7 r2)))]++r7.1++r11.1)+List.length (r8.1++r2.2.2.1++(y11 r2))<=(9223372036854775807:Nat))) (.ret (r3.1++r4.1++r5.1++r6.1++[UInt8.ofNat (Int.toNat (wW .u8 (wW .i64 (wW .i64 ((20:Int)+(↑(List.length r2.2.2.1):Int))*(4:Int))))),UInt8.ofNat (Int.toNat (wW .u8 (y7 r2)))]++r7.1++r11.1++(r8.1++r2.2.2.1++(y11 r2)),(0,())))))))))))))))))))))))))))))))))
noncomputable def gm21:List (PF Go.Proofs.Tryz.prog):=gm20++[FS.pf ze7]
def zl5b (x:znwb):Option ty0_:=(zpu x).eval
noncomputable def zly:FS Tryz.prog:=mFS gm21 [(59,zw7)] 59 z6w z6v zpu fun x=>by kernel_rfl
def zua:LS:=⟨10,[(4,4)],⟨66,[(57,.v (.one (.i .i64))),(0,.v (.one (.s))),(4,.v (.one (.own 4))),(56,.v (.one (.i .i64)))],[(4,.row 130 4 true true)]⟩,[⟨none,[],⟨66,[(2,.v (.one (.nil))),(3,.v (.one (.b)))],[]⟩⟩,⟨some 2,[(4,4)],⟨66,[(4,.v (.one (.own 4)))],[(4,.row 130 4 true true)]⟩⟩],[]⟩
abbrev znvb:Type:=(Int×((List UInt8)×(Int×((List TOption)×Unit))))
def zba:znvb->Tr (znvb⊕((Bool×Unit)⊕((List TOption)×Unit))) :=
 fun (a0,a1,a2,a3,_) =>.ite (decide (a0<a2)) (.grd (decide (0<=a0/\a0<(↑(a1.length):Int))) (.ite (!decide ((↑(UInt8.toNat (List.getD a1 (Int.toNat a0) (0:UInt8))):Int)=0)) (.ret (Sum.inr (Sum.inl (false,())))) (gd a3.length (.ret (Sum.inl (wW .i64 (a0+1),(a1,(a2,(a3,()))))))))) (gd a3.length (.ret (Sum.inr (Sum.inr (a3,())))))
def zoq:=lpT 640010 zba
def zw8:LS:=⟨2,[(4,4)],⟨66,[(0,.v (.one (.s))),(4,.v (.one (.own 4)))],[(4,.row 130 4 true true)]⟩,[⟨none,[],⟨66,[(2,.v (.one (.nil))),(3,.v (.one (.b)))],[]⟩⟩,⟨some 0,[(4,4)],⟨66,[(0,.v (.one (.s))),(4,.v (.one (.own 4)))],[(4,.row 130 4 true true)]⟩⟩],[(4,130,4)]⟩
abbrev zjqb:Type:=((List UInt8)×((List TOption)×Unit))
def zal:zjqb->Tr (zjqb⊕((Bool×Unit)⊕zjqb)) :=
 fun (a0,a1,_) =>.ite (!decide (a0=[])) (.grd (decide ((0:Int)<=(0:Int)/\0<(↑(a0.length):Int))) (.ite (!decide ((↑(UInt8.toNat (List.getD a0 (0:Nat) (0:UInt8))):Int)=0)) (.grd (decide ((0:Int)<=(0:Int)/\0<(↑(a0.length):Int))) (.ite (decide ((↑(UInt8.toNat (List.getD a0 (0:Nat) (0:UInt8))):Int)=1)) (.grd (decide ((a1.length+List.length [TOption.mk (1:Int) []])*(24:Nat)<=(140737488355328:Nat)/\a1.length+List.length [TOption.mk (1:Int) []]<=(9223372036854775807:Nat))) (
 .grd (decide ((0:Int)<=(1:Int)/\1<=(↑(a0.length):Int)/\(↑(a0.length):Int)<=(↑(a0.length):Int))) (.grd (decide (List.length (a1++[TOption.mk (1:Int) []])=List.length (a1++[TOption.mk (1:Int) []]))) (.ret (Sum.inl (List.drop (1:Nat) (List.take (Int.toNat (↑(a0.length):Int)) a0),(a1++[TOption.mk (1:Int) []],()))))))) (.ite (decide ((↑(a0.length):Int)<2)) (.ret (Sum.inr (Sum.inl (false,())))) (.grd (decide ((0:Int)<=(1:Int)/\1<(↑(a0.length):Int))) (.ite (decide ((↑(UInt8.toNat (List.getD a0 (1:Nat) (0:UInt8))):Int)<2)) (
 .ret (Sum.inr (Sum.inl (false,())))) (.grd (decide ((0:Int)<=(1:Int)/\1<(↑(a0.length):Int))) (.ite (decide ((↑(a0.length):Int)<wW .i64 (↑(UInt8.toNat (List.getD a0 (1:Nat) (0:UInt8))):Int))) (.ret (Sum.inr (Sum.inl (false,())))) (.grd (decide ((0:Int)<=(1:Int)/\1<(↑(a0.length):Int))) (.grd (decide ((0:Int)<=(0:Int)/\0<(↑(a0.length):Int))) (
 .grd (decide ((0:Int)<=(2:Int)/\2<=wW .i64 (↑(UInt8.toNat (List.getD a0 (1:Nat) (0:UInt8))):Int)/\wW .i64 (↑(UInt8.toNat (List.getD a0 (1:Nat) (0:UInt8))):Int)<=(↑(a0.length):Int))) (
 .grd (decide ((a1.length+List.length [TOption.mk (wW .i64 (↑(UInt8.toNat (List.getD a0 (0:Nat) (0:UInt8))):Int)) (List.drop (2:Nat) (List.take (Int.toNat (wW .i64 (↑(UInt8.toNat (List.getD a0 (1:Nat) (0:UInt8))):Int))) a0))])*(24:Nat)<=(140737488355328:Nat)/\a1.length+List.length [TOption.mk (wW .i64 (↑(UInt8.toNat (List.getD a0 (0:Nat) (0:UInt8))):Int)) (List.drop (2:Nat) (List.take (Int.toNat (wW .i64 (↑(UInt8.toNat (List.getD a0 (1:Nat) (0:UInt8))):Int))) a0))]<=(9223372036854775807:Nat))) (
 .grd (decide (0<=wW .i64 (↑(UInt8.toNat (List.getD a0 (1:Nat) (0:UInt8))):Int)/\wW .i64 (↑(UInt8.toNat (List.getD a0 (1:Nat) (0:UInt8))):Int)<=(↑(a0.length):Int)/\(↑(a0.length):Int)<=(↑(a0.length):Int))) (
 .grd (decide (List.length (a1++[TOption.mk (wW .i64 (↑(UInt8.toNat (List.getD a0 (0:Nat) (0:UInt8))):Int)) (List.drop (2:Nat) (List.take (Int.toNat (wW .i64 (↑(UInt8.toNat (List.getD a0 (1:Nat) (0:UInt8))):Int))) a0))])=List.length (a1++[TOption.mk (wW .i64 (↑(UInt8.toNat (List.getD a0 (0:Nat) (0:UInt8))):Int)) (List.drop (2:Nat) (List.take (Int.toNat (wW .i64 (↑(UInt8.toNat (List.getD a0 (1:Nat) (0:UInt8))):Int))) a0))]))) (
 .ret (Sum.inl (List.drop (Int.toNat (wW .i64 (↑(UInt8.toNat (List.getD a0 (1:Nat) (0:UInt8))):Int))) (List.take (Int.toNat (↑(a0.length):Int)) a0),(a1++[TOption.mk (wW .i64 (↑(UInt8.toNat (List.getD a0 (0:Nat) (0:UInt8))):Int)) (List.drop (2:Nat) (List.take (Int.toNat (wW .i64 (↑(UInt8.toNat (List.getD a0 (1:Nat) (0:UInt8))):Int))) a0))],()))))))))))))))))) (gd a1.length (.ret (Sum.inr (Sum.inr (a0,(a1,())))))))) (gd a1.length (.ret (Sum.inr (Sum.inr (a0,(a1,()))))))
def zql:=lpT 640002 zal
def z62:List VP1:=[.one (.s)]
def z60:SP:=⟨1,[(0,.tup [.one (.st 4 true),.one (.b)])],[]⟩
abbrev zw1:Type:=((List TOption)×(Bool×Unit))
def zpw:((List UInt8)×Unit)->Tr zw1 :=
 fun (a0,_) =>.grd (true) (.opt ((zql (a0,([],())))) (fun r0 =>.sum (r0) (fun r1 =>.ret ([],(r1.1,()))) (fun r1 =>.grd (decide (List.length r1.2.fst=List.length r1.2.1)) (.opt ((zoq (0,(r1.1,((↑(List.length r1.1):Int),(r1.2.1,())))))) (fun r2 =>.sum (r2) (fun r3 =>.ret ([],(r3.1,()))) (fun r3 =>.ret (r3.1,(true,()))))))))
noncomputable def gm22:List (PF Go.Proofs.Tryz.prog):=gm21++[FS.pf zly]
def zcq (x:((List UInt8)×Unit)):Option zw1:=(zpw x).eval
noncomputable def zl0:FS Tryz.prog:=mFS gm22 [(64,zua),(64,zw8)] 64 z62 z60 zpw fun x=>by kernel_rfl
def zamb:List VP1:=[.one (.s),.one (.i .u32),.one (.i .u32)]
def zakb:SP:=⟨1,[(0,.tup [.agg [.i .i64,.i .i64,.i .u32,.i .u32,.i .i64,.i .i64,.i .i64,.st 4 true,.s],.one (.i .i64)])],[]⟩
abbrev zgfb:Type:=(Int×(Int×(Int×(Int×(Int×(Int×(Int×((List TOption)×((List UInt8)×(Int×Unit))))))))))
def zcg:ty5_->Tr zgfb :=
 fun (a0,a1,a2,_) =>.ite (decide ((↑(a0.length):Int)<20)) (.ret (0,(0,(0,(0,(0,(0,(0,([],([],(3,()))))))))))) (.grd (decide ((0:Int)<=(12:Int)/\12<(↑(a0.length):Int))) (.grd (true) (.ite (decide ((↑(a0.length):Int)<wW .i64 (wW .i64 (Int.tdiv (wW .i64 (↑(UInt8.toNat (List.getD a0 (12:Nat) (0:UInt8))):Int)) (16:Int))*(4:Int)))) (.ret (0,(0,(0,(0,(0,(0,(0,([],([],(3,()))))))))))) (.ite (decide (wW .i64 (wW .i64 (Int.tdiv (wW .i64 (↑(UInt8.toNat (List.getD a0 (12:Nat) (0:UInt8))):Int)) (16:Int))*(4:Int))<20)) (
 .ret (0,(0,(0,(0,(0,(0,(0,([],([],(4,()))))))))))) (.grd (decide ((0:Int)<=(12:Int)/\12<(↑(a0.length):Int))) (.grd (true) (.ite (!decide (Int.tmod (↑(UInt8.toNat (List.getD a0 (12:Nat) (0:UInt8))):Int) (16:Int)=(0:Int))) (.ret (0,(0,(0,(0,(0,(0,(0,([],([],(4,()))))))))))) (.ite (decide (65455<wW .i64 ((↑(a0.length):Int)-wW .i64 (wW .i64 (Int.tdiv (wW .i64 (↑(UInt8.toNat (List.getD a0 (12:Nat) (0:UInt8))):Int)) (16:Int))*(4:Int))))) (.ret (0,(0,(0,(0,(0,(0,(0,([],([],(2,()))))))))))) (
 .grd (decide ((0:Int)<=(20:Int)/\20<=wW .i64 (wW .i64 (Int.tdiv (wW .i64 (↑(UInt8.toNat (List.getD a0 (12:Nat) (0:UInt8))):Int)) (16:Int))*(4:Int))/\wW .i64 (wW .i64 (Int.tdiv (wW .i64 (↑(UInt8.toNat (List.getD a0 (12:Nat) (0:UInt8))):Int)) (16:Int))*(4:Int))<=(↑(a0.length):Int))) (.opt ((zcq (List.drop (20:Nat) (List.take (Int.toNat (wW .i64 (wW .i64 (Int.tdiv (wW .i64 (↑(UInt8.toNat (List.getD a0 (12:Nat) (0:UInt8))):Int)) (16:Int))*(4:Int)))) a0),()))) (fun r0 =>.ite (!r0.2.1) (
 .ret (0,(0,(0,(0,(0,(0,(0,([],([],(4,()))))))))))) (.opt ((ze1 (a1,(a2,(6,((↑(a0.length):Int),())))))) (fun r1 =>.grd (decide (List.length r1.1+a0.length<=(9223372036854775807:Nat))) (.opt ((zc5 (r1.1++a0,()))) (fun r2 =>.ite (!r2.1) (.ret (0,(0,(0,(0,(0,(0,(0,([],([],(5,()))))))))))) (.opt ((zcf (a0,(0,())))) (fun r3 =>.opt ((zcf (a0,(2,())))) (fun r4 =>.opt ((zl3 (a0,(4,())))) (fun r5 =>.opt ((zl3 (a0,(8,())))) (fun r6 =>.grd (decide ((0:Int)<=(13:Int)/\13<(↑(a0.length):Int))) (.opt ((zcf (a0,(14,())))) (fun r7 =>
 .opt ((zcf (a0,(18,())))) (fun r8 =>.grd (decide (0<=wW .i64 (wW .i64 (Int.tdiv (wW .i64 (↑(UInt8.toNat (List.getD a0 (12:Nat) (0:UInt8))):Int)) (16:Int))*(4:Int))/\wW .i64 (wW .i64 (Int.tdiv (wW .i64 (↑(UInt8.toNat (List.getD a0 (12:Nat) (0:UInt8))):Int)) (16:Int))*(4:Int))<=(↑(a0.length):Int)/\(↑(a0.length):Int)<=(↑(a0.length):Int))) (
 .ret (r3.1,(r4.1,(r5.1,(r6.1,(wW .i64 (↑(UInt8.toNat (List.getD a0 (13:Nat) (0:UInt8))):Int),(r7.1,(r8.1,(r0.1,(List.drop (Int.toNat (wW .i64 (wW .i64 (Int.tdiv (wW .i64 (↑(UInt8.toNat (List.getD a0 (12:Nat) (0:UInt8))):Int)) (16:Int))*(4:Int)))) (List.take (Int.toNat (↑(a0.length):Int)) a0),(0,()))))))))))))))))))))))))))))))))))
noncomputable def gm23:List (PF Go.Proofs.Tryz.prog):=gm22++[FS.pf zl0]
def za8 (x:ty5_):Option zgfb:=(zcg x).eval
noncomputable def zve:FS Tryz.prog:=mFS gm23 [] 31 zamb zakb zcg fun x=>by kernel_rfl
open Go Go.RowKit Go.Proofs.YthkhikdglmaiaaaGreatDoor.Abs
open Go.IntKind renaming wrap -> wW
def zayb:List VP1:=[.one (.s)]
def zaxb:SP:=⟨1,[(0,.tup [.agg [.i .u32,.i .u32,.i .i64,.i .i64,.i .i64],.one (.i .i64)])],[]⟩
abbrev y10 {a0 a1 a2 a3 a4 a5 a6 a7 a8 a9 b c:Type} (x:a0×a1×a2×a3×a4×a5×a6×a7×a8×a9×b×c):b:=x.2.2.2.2.2.2.2.2.2.2.1
abbrev z14:Type:=(Int×(Int×(Int×(Int×(Int×(Int×Unit))))))
def zrv:((List UInt8)×Unit)->Tr z14 :=
 fun (a0,_) =>.opt ((zfu (a0,()))) (fun r0 =>.ite (!decide ((y11 r0)=0)) (.ret (0,(0,(0,(0,(0,(y11 r0,()))))))) (.ite (!decide ((y6 r0)=6)) (.ite (!decide ((y6 r0)=17)) (.ret (0,(0,(0,(0,(0,(7,()))))))) (.ite (y3 r0) (.ret (0,(0,(0,(0,(0,(9,()))))))) (.ite (!decide ((y4 r0)=0)) (.ret (0,(0,(0,(0,(0,(9,()))))))) (.ite (decide ((y6 r0)=6)) (.opt ((za8 (y10 r0,(y7 r0,(y8 r0,()))))) (fun r1 =>.ite (!decide ((y9 r1)=0)) (.ret (0,(0,(0,(0,(0,(y9 r1,()))))))) (.ret (y7 r0,(y8 r0,(y6 r0,(r1.1,(r1.2.1,(0,()))))))))) (
 .opt ((zkc (y10 r0,(y7 r0,(y8 r0,()))))) (fun r1 =>.ite (!decide ((y3 r1)=0)) (.ret (0,(0,(0,(0,(0,(y3 r1,()))))))) (.ret (y7 r0,(y8 r0,(y6 r0,(r1.1,(r1.2.1,(0,()))))))))))))) (.ite (y3 r0) (.ret (0,(0,(0,(0,(0,(9,()))))))) (.ite (!decide ((y4 r0)=0)) (.ret (0,(0,(0,(0,(0,(9,()))))))) (.ite (decide ((y6 r0)=6)) (.opt ((za8 (y10 r0,(y7 r0,(y8 r0,()))))) (fun r1 =>.ite (!decide ((y9 r1)=0)) (.ret (0,(0,(0,(0,(0,(y9 r1,()))))))) (.ret (y7 r0,(y8 r0,(y6 r0,(r1.1,(r1.2.1,(0,()))))))))) (.opt ((zkc (y10 r0,(y7 r0,(y8 r0,()))))) (fun r1 =>
 .ite (!decide ((y3 r1)=0)) (.ret (0,(0,(0,(0,(0,(y3 r1,()))))))) (.ret (y7 r0,(y8 r0,(y6 r0,(r1.1,(r1.2.1,(0,()))))))))))))))
noncomputable def gm24:List (PF Go.Proofs.Tryz.prog):=gm15++[FS.pf z8a,FS.pf zro,FS.pf zrr,FS.pf zh3,FS.pf zh4,FS.pf zlz,FS.pf ze7,FS.pf zly,FS.pf zl0,FS.pf zve]
def zjj (x:((List UInt8)×Unit)):Option z14:=(zrv x).eval
noncomputable def zvi:FS Tryz.prog:=mFS gm24 [] 10 zayb zaxb zrv fun x=>by kernel_rfl
def zaub:List VP1:=[.one (.st 2 false),.one (.i .i64)]
def zatb:SP:=⟨1,[(0,.v (.one (.i .u16)))],[]⟩
def zl4:ty0_->Tr (Int×Unit) :=
 fun (a0,a1,_) =>.grd (decide (0<=a1)) (.opt (a0[Int.toNat a1]?) (fun r0 =>.grd (true) (.grd (decide (0<=wW .i64 (a1+1))) (.opt (a0[Int.toNat (wW .i64 (a1+1))]?) (fun r1 =>.ret (bits .or .u16 (wW .u16 (wW .u16 (↑(UInt8.toNat r0):Int)*(2:Int)^(8:Nat))) (wW .u16 (↑(UInt8.toNat r1):Int)),()))))))
noncomputable def gm25:List (PF Go.Proofs.Tryz.prog):=gm24++[FS.pf zvi]
def zbj (x:ty0_):Option (Int×Unit):=(zl4 x).eval
noncomputable def zvg:FS Tryz.prog:=mFS gm25 [] 124 zaub zatb zl4 fun x=>by kernel_rfl
def zgjb:SP:=⟨18,[(0,.v (.one (.pre 1500100 1))),(1,.v (.one (.i .i64))),(2,.v (.one (.i .u16)))],[(1500100,.row 5 2 false true)]⟩
def zgib:SP:=⟨1,[(0,.tup [])],[(1500100,.row 5 2 false true)]⟩
abbrev znub:Type:=(Int×(Int×((List UInt8)×Unit)))
def zos:(Nat×znub)->Tr ((List UInt8)×Unit) :=
 fun (a0,a1,a2,a3,_) =>.grd (true) (.grd (decide (0<=a1/\a1<(↑a0:Int))) (.opt (a3[(0:Nat)+Int.toNat a1]?) (fun r0 =>.grd (decide (0<=wW .u8 (Int.fdiv a2 ((2:Int)^(8:Nat)))/\wW .u8 (Int.fdiv a2 ((2:Int)^(8:Nat)))<256)) (.grd (decide (0<=wW .i64 (a1+1)/\wW .i64 (a1+1)<(↑a0:Int))) (.opt ((List.set a3 ((0:Nat)+Int.toNat a1) (UInt8.ofNat (Int.toNat (wW .u8 (Int.fdiv a2 ((2:Int)^(8:Nat)))))))[(0:Nat)+Int.toNat (wW .i64 (a1+1))]?) (fun r1 =>.grd (decide (0<=wW .u8 a2/\wW .u8 a2<256)) (
 .ret (List.set (List.set a3 ((0:Nat)+Int.toNat a1) (UInt8.ofNat (Int.toNat (wW .u8 (Int.fdiv a2 ((2:Int)^(8:Nat))))))) ((0:Nat)+Int.toNat (wW .i64 (a1+1))) (UInt8.ofNat (Int.toNat (wW .u8 a2))),()))))))))
noncomputable def gm26:List (PF Go.Proofs.Tryz.prog):=gm25++[FS.pf zvg]
def zd1 (x:(Nat×znub)):Option ((List UInt8)×Unit):=(zos x).eval
noncomputable def z63:GS Tryz.prog:=mGS gm26 [] 126 [2,0,0] zgjb zgib zos fun x=>by kernel_rfl
def zrw:LS:=⟨3,[(1500100,1500100)],⟨34,[(20,.v (.one (.i .i64))),(2,.v (.one (.i .u16))),(8,.v (.one (.i .u16))),(0,.v (.one (.pre 1500100 1))),(18,.v (.one (.st 0 false))),(19,.v (.one (.i .i64)))],[(1500100,.row 5 2 false true)]⟩,[⟨some 0,[(1500100,1500100)],⟨34,[],[(1500100,.row 5 2 false true)]⟩⟩],[]⟩
abbrev zntb:Type:=(Int×(Int×(Int×(Nat×((List Int)×(Int×((List UInt8)×Unit)))))))
def zbk:zntb->Tr (zntb⊕((List UInt8)×Unit)) :=
 fun (a0,a1,a2,a3,a4,a5,a6,_) =>.ite (decide (a0<a5)) (.grd (decide (0<=a0)) (.opt (a4[Int.toNat a0]?) (fun r0 =>.opt ((zbj (List.take a3 a6,(r0,())))) (fun r1 =>.opt ((zg4 (r1.1,(a2,(a1,()))))) (fun r2 =>.opt ((zd1 (a3,(r0,(r2.1,(a6,())))))) (fun r3 =>.ret (Sum.inl (wW .i64 (a0+1),(a1,(a2,(a3,(a4,(a5,(r3.1,())))))))))))))) (.ret (Sum.inr (a6,())))
def zf5:=lpT 1250003 zbk
def z2f:SP:=⟨34,[(0,.v (.one (.pre 1500100 1))),(1,.v (.one (.i .i64))),(2,.v (.one (.i .u16))),(3,.v (.one (.st 0 false)))],[(1500100,.row 5 2 false true)]⟩
def z2e:SP:=⟨1,[(0,.tup [])],[(1500100,.row 5 2 false true)]⟩
abbrev znsb:Type:=(Int×(Int×((List Int)×((List UInt8)×Unit))))
def zh5:(Nat×znsb)->Tr ((List UInt8)×Unit) :=
 fun (a0,a1,a2,a3,a4,_) =>.opt ((zbj (List.take a0 a4,(a1,())))) (fun r0 =>.opt ((zd1 (a0,(a1,(a2,(a4,())))))) (fun r1 =>.opt ((zf5 (0,(a2,(r0.1,(a0,(a3,((↑(a3.length):Int),(r1.1,()))))))))) (fun r2 =>.ret (r2.1,()))))
noncomputable def gm27:List (PF Go.Proofs.Tryz.prog):=gm26++[GS.pf z63]
def zai (x:(Nat×znsb)):Option ((List UInt8)×Unit):=(zh5 x).eval
noncomputable def zkq:GS Tryz.prog:=mGS gm27 [(125,zrw)] 125 [2,0,0,0] z2f z2e zh5 fun x=>by kernel_rfl
def zzj:List VP1:=[.one (.s),.one (.i .u32),.one (.i .i64),.one (.i .i64),.one (.i .i64)]
def zzi:SP:=⟨1,[(0,.tup [.one (.s),.one (.i .i64)])],[]⟩
abbrev znrb:Type:=((List UInt8)×(Int×(Int×(Int×(Int×Unit)))))
def zgm:znrb->Tr ty0_ :=
 fun (a0,a1,a2,a3,a4,_) =>.opt ((zjj (a0,()))) (fun r0 =>.ite (!decide ((y5 r0)=0)) (.ret ([],(y5 r0,()))) (.ite (decide (a2<0)) (.ret ([],(1,()))) (.ite (decide (65535<a2)) (.ret ([],(1,()))) (.grd (decide (a0.length<=(9223372036854775807:Nat))) (.opt ((zbj (a0,(2,())))) (fun r1 =>.grd (decide (0<=r1.1/\r1.1<=(↑(a0.length):Int))) (.grd (decide ((0:Int)<=(0:Int)/\0<(↑(Int.toNat r1.1):Int))) (.opt (a0[(0:Nat)+(0:Nat)]?) (fun r2 =>.ite (decide (r0.2.2.1=17)) (.ite (decide (r0.2.2.1=17)) (
 .opt ((zbj (List.take (Int.toNat r1.1) a0,(wW .i64 (wW .i64 (wW .i64 (bits .and .u8 (↑(UInt8.toNat r2):Int) (15:Int))*(4:Int))+6),())))) (fun r3 =>.ite (decide (r3.1=0)) (.grd (true) (.grd (true) (.opt ((zai (Int.toNat r1.1,(a3,(wW .u16 (Int.fdiv a1 ((2:Int)^(16:Nat))),(List.take (1:Nat) [10,wW .i64 (wW .i64 (wW .i64 (bits .and .u8 (↑(UInt8.toNat r2):Int) (15:Int))*(4:Int))+6)],(a0,()))))))) (fun r4 =>
 .opt ((zai (Int.toNat r1.1,(wW .i64 (a3+2),(wW .u16 a1,(List.take (1:Nat) [10,wW .i64 (wW .i64 (wW .i64 (bits .and .u8 (↑(UInt8.toNat r2):Int) (15:Int))*(4:Int))+6)],(r4.1,()))))))) (fun r5 =>.grd (decide ((0:Int)<=(1:Int)/\1<=(↑(1:Nat):Int)/\(↑(1:Nat):Int)<=(↑(List.length [10,wW .i64 (wW .i64 (wW .i64 (bits .and .u8 (↑(UInt8.toNat r2):Int) (15:Int))*(4:Int))+6)]):Int))) (
 .opt ((zai (Int.toNat r1.1,(wW .i64 (wW .i64 (wW .i64 (bits .and .u8 (↑(UInt8.toNat r2):Int) (15:Int))*(4:Int))+a4),(wW .u16 a2,(List.take (0:Nat) (List.drop (1:Nat) [10,wW .i64 (wW .i64 (wW .i64 (bits .and .u8 (↑(UInt8.toNat r2):Int) (15:Int))*(4:Int))+6)]),(r5.1,()))))))) (fun r6 =>.ite (decide (r0.2.2.1=17)) (.ite (!decide (r3.1=0)) (.opt ((zbj (List.take (Int.toNat r1.1) r6.1,(wW .i64 (wW .i64 (wW .i64 (bits .and .u8 (↑(UInt8.toNat r2):Int) (15:Int))*(4:Int))+6),())))) (fun r7 =>.ite (decide (r7.1=0)) (
 .opt ((zd1 (Int.toNat r1.1,(wW .i64 (wW .i64 (wW .i64 (bits .and .u8 (↑(UInt8.toNat r2):Int) (15:Int))*(4:Int))+6),(65535,(r6.1,())))))) (fun r8 =>.ret (List.take (Int.toNat r1.1) r8.1,(0,())))) (.ret (List.take (Int.toNat r1.1) r6.1,(0,()))))) (.ret (List.take (Int.toNat r1.1) r6.1,(0,())))) (.ret (List.take (Int.toNat r1.1) r6.1,(0,())))))))))) (.grd (true) (.opt ((zai (Int.toNat r1.1,(a3,(wW .u16 (Int.fdiv a1 ((2:Int)^(16:Nat))),([10,wW .i64 (wW .i64 (wW .i64 (bits .and .u8 (↑(UInt8.toNat r2):Int) (15:Int))*(4:Int))+6)],(a0,()))))))) (fun r4 =>
 .opt ((zai (Int.toNat r1.1,(wW .i64 (a3+2),(wW .u16 a1,([10,wW .i64 (wW .i64 (wW .i64 (bits .and .u8 (↑(UInt8.toNat r2):Int) (15:Int))*(4:Int))+6)],(r4.1,()))))))) (fun r5 =>.grd (true) (.opt ((zai (Int.toNat r1.1,(wW .i64 (wW .i64 (wW .i64 (bits .and .u8 (↑(UInt8.toNat r2):Int) (15:Int))*(4:Int))+a4),(wW .u16 a2,(List.take (1:Nat) (List.drop (1:Nat) [10,wW .i64 (wW .i64 (wW .i64 (bits .and .u8 (↑(UInt8.toNat r2):Int) (15:Int))*(4:Int))+6)]),(r5.1,()))))))) (fun r6 =>.ite (decide (r0.2.2.1=17)) (.ite (!decide (r3.1=0)) (
 .opt ((zbj (List.take (Int.toNat r1.1) r6.1,(wW .i64 (wW .i64 (wW .i64 (bits .and .u8 (↑(UInt8.toNat r2):Int) (15:Int))*(4:Int))+6),())))) (fun r7 =>.ite (decide (r7.1=0)) (.opt ((zd1 (Int.toNat r1.1,(wW .i64 (wW .i64 (wW .i64 (bits .and .u8 (↑(UInt8.toNat r2):Int) (15:Int))*(4:Int))+6),(65535,(r6.1,())))))) (fun r8 =>.ret (List.take (Int.toNat r1.1) r8.1,(0,())))) (.ret (List.take (Int.toNat r1.1) r6.1,(0,()))))) (.ret (List.take (Int.toNat r1.1) r6.1,(0,())))) (.ret (List.take (Int.toNat r1.1) r6.1,(0,()))))))))))) (.grd (true) (
 .opt ((zai (Int.toNat r1.1,(a3,(wW .u16 (Int.fdiv a1 ((2:Int)^(16:Nat))),([10,wW .i64 (wW .i64 (wW .i64 (bits .and .u8 (↑(UInt8.toNat r2):Int) (15:Int))*(4:Int))+6)],(a0,()))))))) (fun r3 =>.opt ((zai (Int.toNat r1.1,(wW .i64 (a3+2),(wW .u16 a1,([10,wW .i64 (wW .i64 (wW .i64 (bits .and .u8 (↑(UInt8.toNat r2):Int) (15:Int))*(4:Int))+6)],(r3.1,()))))))) (fun r4 =>.grd (true) (
 .opt ((zai (Int.toNat r1.1,(wW .i64 (wW .i64 (wW .i64 (bits .and .u8 (↑(UInt8.toNat r2):Int) (15:Int))*(4:Int))+a4),(wW .u16 a2,(List.take (1:Nat) (List.drop (1:Nat) [10,wW .i64 (wW .i64 (wW .i64 (bits .and .u8 (↑(UInt8.toNat r2):Int) (15:Int))*(4:Int))+6)]),(r4.1,()))))))) (fun r5 =>.ite (decide (r0.2.2.1=17)) (.ite (true) (.opt ((zbj (List.take (Int.toNat r1.1) r5.1,(wW .i64 (wW .i64 (wW .i64 (bits .and .u8 (↑(UInt8.toNat r2):Int) (15:Int))*(4:Int))+6),())))) (fun r6 =>.ite (decide (r6.1=0)) (
 .opt ((zd1 (Int.toNat r1.1,(wW .i64 (wW .i64 (wW .i64 (bits .and .u8 (↑(UInt8.toNat r2):Int) (15:Int))*(4:Int))+6),(65535,(r5.1,())))))) (fun r7 =>.ret (List.take (Int.toNat r1.1) r7.1,(0,())))) (.ret (List.take (Int.toNat r1.1) r5.1,(0,()))))) (.ret (List.take (Int.toNat r1.1) r5.1,(0,())))) (.ret (List.take (Int.toNat r1.1) r5.1,(0,())))))))))) (.ite (decide (r0.2.2.1=17)) (.opt ((zbj (List.take (Int.toNat r1.1) a0,(wW .i64 (wW .i64 (wW .i64 (bits .and .u8 (↑(UInt8.toNat r2):Int) (15:Int))*(4:Int))+16),())))) (fun r3 =>.ite (decide (r3.1=0)) (
 .grd (true) (.grd (true) (.opt ((zai (Int.toNat r1.1,(a3,(wW .u16 (Int.fdiv a1 ((2:Int)^(16:Nat))),(List.take (1:Nat) [10,wW .i64 (wW .i64 (wW .i64 (bits .and .u8 (↑(UInt8.toNat r2):Int) (15:Int))*(4:Int))+16)],(a0,()))))))) (fun r4 =>.opt ((zai (Int.toNat r1.1,(wW .i64 (a3+2),(wW .u16 a1,(List.take (1:Nat) [10,wW .i64 (wW .i64 (wW .i64 (bits .and .u8 (↑(UInt8.toNat r2):Int) (15:Int))*(4:Int))+16)],(r4.1,()))))))) (fun r5 =>
 .grd (decide ((0:Int)<=(1:Int)/\1<=(↑(1:Nat):Int)/\(↑(1:Nat):Int)<=(↑(List.length [10,wW .i64 (wW .i64 (wW .i64 (bits .and .u8 (↑(UInt8.toNat r2):Int) (15:Int))*(4:Int))+16)]):Int))) (.opt ((zai (Int.toNat r1.1,(wW .i64 (wW .i64 (wW .i64 (bits .and .u8 (↑(UInt8.toNat r2):Int) (15:Int))*(4:Int))+a4),(wW .u16 a2,(List.take (0:Nat) (List.drop (1:Nat) [10,wW .i64 (wW .i64 (wW .i64 (bits .and .u8 (↑(UInt8.toNat r2):Int) (15:Int))*(4:Int))+16)]),(r5.1,()))))))) (fun r6 =>.ite (decide (r0.2.2.1=17)) (.ite (!decide (r3.1=0)) (
 .opt ((zbj (List.take (Int.toNat r1.1) r6.1,(wW .i64 (wW .i64 (wW .i64 (bits .and .u8 (↑(UInt8.toNat r2):Int) (15:Int))*(4:Int))+16),())))) (fun r7 =>.ite (decide (r7.1=0)) (.opt ((zd1 (Int.toNat r1.1,(wW .i64 (wW .i64 (wW .i64 (bits .and .u8 (↑(UInt8.toNat r2):Int) (15:Int))*(4:Int))+16),(65535,(r6.1,())))))) (fun r8 =>.ret (List.take (Int.toNat r1.1) r8.1,(0,())))) (.ret (List.take (Int.toNat r1.1) r6.1,(0,()))))) (.ret (List.take (Int.toNat r1.1) r6.1,(0,())))) (.ret (List.take (Int.toNat r1.1) r6.1,(0,())))))))))) (.grd (true) (
 .opt ((zai (Int.toNat r1.1,(a3,(wW .u16 (Int.fdiv a1 ((2:Int)^(16:Nat))),([10,wW .i64 (wW .i64 (wW .i64 (bits .and .u8 (↑(UInt8.toNat r2):Int) (15:Int))*(4:Int))+16)],(a0,()))))))) (fun r4 =>.opt ((zai (Int.toNat r1.1,(wW .i64 (a3+2),(wW .u16 a1,([10,wW .i64 (wW .i64 (wW .i64 (bits .and .u8 (↑(UInt8.toNat r2):Int) (15:Int))*(4:Int))+16)],(r4.1,()))))))) (fun r5 =>.grd (true) (
 .opt ((zai (Int.toNat r1.1,(wW .i64 (wW .i64 (wW .i64 (bits .and .u8 (↑(UInt8.toNat r2):Int) (15:Int))*(4:Int))+a4),(wW .u16 a2,(List.take (1:Nat) (List.drop (1:Nat) [10,wW .i64 (wW .i64 (wW .i64 (bits .and .u8 (↑(UInt8.toNat r2):Int) (15:Int))*(4:Int))+16)]),(r5.1,()))))))) (fun r6 =>.ite (decide (r0.2.2.1=17)) (.ite (!decide (r3.1=0)) (.opt ((zbj (List.take (Int.toNat r1.1) r6.1,(wW .i64 (wW .i64 (wW .i64 (bits .and .u8 (↑(UInt8.toNat r2):Int) (15:Int))*(4:Int))+16),())))) (fun r7 =>.ite (decide (r7.1=0)) (
 .opt ((zd1 (Int.toNat r1.1,(wW .i64 (wW .i64 (wW .i64 (bits .and .u8 (↑(UInt8.toNat r2):Int) (15:Int))*(4:Int))+16),(65535,(r6.1,())))))) (fun r8 =>.ret (List.take (Int.toNat r1.1) r8.1,(0,())))) (.ret (List.take (Int.toNat r1.1) r6.1,(0,()))))) (.ret (List.take (Int.toNat r1.1) r6.1,(0,())))) (.ret (List.take (Int.toNat r1.1) r6.1,(0,()))))))))))) (.grd (true) (
 .opt ((zai (Int.toNat r1.1,(a3,(wW .u16 (Int.fdiv a1 ((2:Int)^(16:Nat))),([10,wW .i64 (wW .i64 (wW .i64 (bits .and .u8 (↑(UInt8.toNat r2):Int) (15:Int))*(4:Int))+16)],(a0,()))))))) (fun r3 =>.opt ((zai (Int.toNat r1.1,(wW .i64 (a3+2),(wW .u16 a1,([10,wW .i64 (wW .i64 (wW .i64 (bits .and .u8 (↑(UInt8.toNat r2):Int) (15:Int))*(4:Int))+16)],(r3.1,()))))))) (fun r4 =>.grd (true) (
 .opt ((zai (Int.toNat r1.1,(wW .i64 (wW .i64 (wW .i64 (bits .and .u8 (↑(UInt8.toNat r2):Int) (15:Int))*(4:Int))+a4),(wW .u16 a2,(List.take (1:Nat) (List.drop (1:Nat) [10,wW .i64 (wW .i64 (wW .i64 (bits .and .u8 (↑(UInt8.toNat r2):Int) (15:Int))*(4:Int))+16)]),(r4.1,()))))))) (fun r5 =>.ite (decide (r0.2.2.1=17)) (.ite (true) (.opt ((zbj (List.take (Int.toNat r1.1) r5.1,(wW .i64 (wW .i64 (wW .i64 (bits .and .u8 (↑(UInt8.toNat r2):Int) (15:Int))*(4:Int))+16),())))) (fun r6 =>.ite (decide (r6.1=0)) (
 .opt ((zd1 (Int.toNat r1.1,(wW .i64 (wW .i64 (wW .i64 (bits .and .u8 (↑(UInt8.toNat r2):Int) (15:Int))*(4:Int))+16),(65535,(r5.1,())))))) (fun r7 =>.ret (List.take (Int.toNat r1.1) r7.1,(0,())))) (.ret (List.take (Int.toNat r1.1) r5.1,(0,()))))) (.ret (List.take (Int.toNat r1.1) r5.1,(0,())))) (.ret (List.take (Int.toNat r1.1) r5.1,(0,())))))))))))))))))))
noncomputable def gm28:List (PF Go.Proofs.Tryz.prog):=gm27++[GS.pf zkq]
def zf4 (x:znrb):Option ty0_:=(zgm x).eval
noncomputable def zg1:FS Tryz.prog:=mFS gm28 [] 82 zzj zzi zgm fun x=>by kernel_rfl
def zawb:List VP1:=[.one (.s),.one (.i .u32),.one (.i .i64)]
def zavb:SP:=⟨1,[(0,.tup [.one (.s),.one (.i .i64)])],[]⟩
def zru:ty5_->Tr ty0_ :=
 fun (a0,a1,a2,_) =>.opt ((zf4 (a0,(a1,(a2,(12,(0,()))))))) (fun r0 =>.ret (r0.1,(r0.2.1,())))
noncomputable def gm29:List (PF Go.Proofs.Tryz.prog):=gm28++[FS.pf zg1]
def ze9 (x:ty5_):Option ty0_:=(zru x).eval
noncomputable def zvh:FS Tryz.prog:=mFS gm29 [] 38 zawb zavb zru fun x=>by kernel_rfl
def zjub:List VP1:=[.one (.s),.one (.i .u32),.one (.i .i64)]
def zjtb:SP:=⟨1,[(0,.tup [.one (.s),.one (.i .i64)])],[]⟩
def zzh:ty5_->Tr ty0_ :=
 fun (a0,a1,a2,_) =>.opt ((zf4 (a0,(a1,(a2,(16,(2,()))))))) (fun r0 =>.ret (r0.1,(r0.2.1,())))
noncomputable def gm30:List (PF Go.Proofs.Tryz.prog):=gm29++[FS.pf zvh]
def z2d (x:ty5_):Option ty0_:=(zzh x).eval
noncomputable def swTo:FS Tryz.prog:=mFS gm30 [] 142 zjub zjtb zzh fun x=>by kernel_rfl
open Go Go.RowKit Go.Proofs.YthkhikdglmaiaaaGreatDoor.Abs
open Go.IntKind renaming wrap -> wW
theorem zerb (xs:List (τ 16)):(zdq Go.Proofs.Tryz.prog cod 14 [.one (.nn (.st 16 xs))]).eval=(zdm 64 16 48 xs).eval:=by kernel_rfl
theorem zeqb:(zdq Go.Proofs.Tryz.prog cod 14 [.one .nil]).eval=some (.one .nil,[]):=by kernel_rfl
def zi7:PF Go.Proofs.Tryz.prog:=zmp Go.Proofs.Tryz.prog cod 14 64 16 48 zerb zeqb
def z83:SP:=⟨33,[(0,.v (.one (.own 1000100))),(1,.v (.one (.i .i64))),(2,.v (.one (.i .i64)))],[(1000100,.row 64 16 true true)]⟩
def z82:SP:=⟨1,[(0,.v (.one (.own 1000100)))],[(1000100,.row 64 16 true true)]⟩
abbrev znqb:Type:=(Int×(Int×((List TTalk)×Unit)))
def zke:znqb->Tr ((List TTalk)×Unit) :=
 fun (a0,a1,a2,_) =>.grd (decide (0<=a0/\a0<=a1/\a1<=(↑(a2.length):Int)/\(↑(a2.length):Int)<=(↑(a2.length):Int))) (.ite (decide (a0=a1)) (gd a2.length (.ret (a2,()))) (.grd (decide (0<=a0/\a0<=(↑(a2.length):Int))) (.grd (decide (0<=a1/\a1<=(↑(a2.length):Int)/\(↑(a2.length):Int)<=(↑(a2.length):Int))) (.grd (decide (Int.toNat a1+Int.toNat ((↑(a2.length):Int)-a1)<=a2.length)) (.grd (decide (Int.toNat a0+List.length (List.take (Int.toNat ((↑(a2.length):Int)-a1)) (List.drop (Int.toNat a1) a2))<=a2.length)) (
 .grd (decide (0<=(↑(Int.toNat a0+List.length (List.take (Int.toNat ((↑(a2.length):Int)-a1)) (List.drop (Int.toNat a1) a2))):Int)/\(↑(Int.toNat a0+List.length (List.take (Int.toNat ((↑(a2.length):Int)-a1)) (List.drop (Int.toNat a1) a2))):Int)<=(↑(a2.length):Int)/\(↑(a2.length):Int)<=(↑(List.length (List.take (Int.toNat a0) a2++List.take (Int.toNat ((↑(a2.length):Int)-a1)) (List.drop (Int.toNat a1) a2)++List.drop (Int.toNat a0+List.length (List.take (Int.toNat ((↑(a2.length):Int)-a1)) (List.drop (Int.toNat a1) a2))) a2)):Int))) (
 .grd (decide (Int.toNat (↑(Int.toNat a0+List.length (List.take (Int.toNat ((↑(a2.length):Int)-a1)) (List.drop (Int.toNat a1) a2))):Int)+Int.toNat ((↑(a2.length):Int)-(↑(Int.toNat a0+List.length (List.take (Int.toNat ((↑(a2.length):Int)-a1)) (List.drop (Int.toNat a1) a2))):Int))<=List.length (List.take (Int.toNat a0) a2++List.take (Int.toNat ((↑(a2.length):Int)-a1)) (List.drop (Int.toNat a1) a2)++List.drop (Int.toNat a0+List.length (List.take (Int.toNat ((↑(a2.length):Int)-a1)) (List.drop (Int.toNat a1) a2))) a2))) (
 .grd (decide (Int.toNat a0+List.length (List.take (Int.toNat ((↑(a2.length):Int)-a1)) (List.drop (Int.toNat a1) a2))=List.length (List.take (Int.toNat a0+List.length (List.take (Int.toNat ((↑(a2.length):Int)-a1)) (List.drop (Int.toNat a1) a2))) (List.take (Int.toNat (↑(Int.toNat a0+List.length (List.take (Int.toNat ((↑(a2.length):Int)-a1)) (List.drop (Int.toNat a1) a2))):Int)) (List.take (Int.toNat a0) a2++List.take (Int.toNat ((↑(a2.length):Int)-a1)) (List.drop (Int.toNat a1) a2)++List.drop (Int.toNat a0+List.length (List.take (Int.toNat ((↑(a2.length):Int)-a1)) (List.drop (Int.toNat a1) a2))) a2)++List.replicate (Int.toNat ((↑(a2.length):Int)-(↑(Int.toNat a0+List.length (List.take (Int.toNat ((↑(a2.length):Int)-a1)) (List.drop (Int.toNat a1) a2))):Int))) (TTalk.mk (0:Int) (0:Int) (0:Int) (0:Int) (0:Int) (0:Int) (0:Int))++List.drop (Int.toNat (↑(Int.toNat a0+List.length (List.take (Int.toNat ((↑(a2.length):Int)-a1)) (List.drop (Int.toNat a1) a2))):Int)+List.length (List.replicate (Int.toNat ((↑(a2.length):Int)-(↑(Int.toNat a0+List.length (List.take (Int.toNat ((↑(a2.length):Int)-a1)) (List.drop (Int.toNat a1) a2))):Int))) (TTalk.mk (0:Int) (0:Int) (0:Int) (0:Int) (0:Int) (0:Int) (0:Int)))) (List.take (Int.toNat a0) a2++List.take (Int.toNat ((↑(a2.length):Int)-a1)) (List.drop (Int.toNat a1) a2)++List.drop (Int.toNat a0+List.length (List.take (Int.toNat ((↑(a2.length):Int)-a1)) (List.drop (Int.toNat a1) a2))) a2))))) (
 .ret (List.take (Int.toNat a0+List.length (List.take (Int.toNat ((↑(a2.length):Int)-a1)) (List.drop (Int.toNat a1) a2))) (List.take (Int.toNat (↑(Int.toNat a0+List.length (List.take (Int.toNat ((↑(a2.length):Int)-a1)) (List.drop (Int.toNat a1) a2))):Int)) (List.take (Int.toNat a0) a2++List.take (Int.toNat ((↑(a2.length):Int)-a1)) (List.drop (Int.toNat a1) a2)++List.drop (Int.toNat a0+List.length (List.take (Int.toNat ((↑(a2.length):Int)-a1)) (List.drop (Int.toNat a1) a2))) a2)++List.replicate (Int.toNat ((↑(a2.length):Int)-(↑(Int.toNat a0+List.length (List.take (Int.toNat ((↑(a2.length):Int)-a1)) (List.drop (Int.toNat a1) a2))):Int))) (TTalk.mk (0:Int) (0:Int) (0:Int) (0:Int) (0:Int) (0:Int) (0:Int))++List.drop (Int.toNat (↑(Int.toNat a0+List.length (List.take (Int.toNat ((↑(a2.length):Int)-a1)) (List.drop (Int.toNat a1) a2))):Int)+List.length (List.replicate (Int.toNat ((↑(a2.length):Int)-(↑(Int.toNat a0+List.length (List.take (Int.toNat ((↑(a2.length):Int)-a1)) (List.drop (Int.toNat a1) a2))):Int))) (TTalk.mk (0:Int) (0:Int) (0:Int) (0:Int) (0:Int) (0:Int) (0:Int)))) (List.take (Int.toNat a0) a2++List.take (Int.toNat ((↑(a2.length):Int)-a1)) (List.drop (Int.toNat a1) a2)++List.drop (Int.toNat a0+List.length (List.take (Int.toNat ((↑(a2.length):Int)-a1)) (List.drop (Int.toNat a1) a2))) a2)),()))))))))))
def zb7 (x:znqb):Option ((List TTalk)×Unit):=(zke x).eval
noncomputable def zfx:GS Tryz.prog:=mGS [zi7] [] 188 [1,0,0] z83 z82 zke fun x=>by kernel_rfl
def z16:List VP1:=[.agg [.i .u32,.i .u32,.i .i64,.i .i64]]
def z15:SP:=⟨1,[(0,.v (.agg [.i .u32,.i .u32,.i .i64,.i .i64]))],[]⟩
def zmy:ty3_->Tr ty3_ :=
 fun (a0,a1,a2,a3,_) =>.ret (a1,(a0,(a3,(a2,()))))
def zlt (x:ty3_):Option ty3_:=(zmy x).eval
noncomputable def zd0:FS Tryz.prog:=mFS [zi7,GS.pf zfx] [] 160 z16 z15 zmy fun x=>by kernel_rfl
def z98:List VP1:=[.one (.i .i64)]
def z97:SP:=⟨1,[(0,.v (.one (.b)))],[]⟩
def zlv:(Int×Unit)->Tr (Bool×Unit) :=
 fun (a0,_) =>.ite (decide (0<=a0)) (.ret (decide (a0<=65535),())) (.ret (false,()))
def zmz (x:(Int×Unit)):Option (Bool×Unit):=(zlv x).eval
noncomputable def zm0:FS Tryz.prog:=mFS [zi7,GS.pf zfx,FS.pf zd0] [] 182 z98 z97 zlv fun x=>by kernel_rfl
def z96:List VP1:=[.agg [.i .u32,.i .u32,.i .i64,.i .i64]]
def z95:SP:=⟨1,[(0,.v (.one (.b)))],[]⟩
def zlu:ty3_->Tr (Bool×Unit) :=
 fun (a0,a1,a2,a3,_) =>.opt ((zmz (a2,()))) (fun r0 =>.ite (r0.1) (.opt ((zmz (a3,()))) (fun r1 =>.ite (r1.1) (.opt ((zlt (a0,(a1,(a2,(a3,())))))) (fun r2 =>.ret (!(decide (a0=r2.1)&&(decide (a1=r2.2.1)&&(decide (a2=r2.2.2.1)&&(decide (a3=(y3 r2))&&true)))),()))) (.ret (false,())))) (.ret (false,())))
def zjc (x:ty3_):Option (Bool×Unit):=(zlu x).eval
noncomputable def zpp:FS Tryz.prog:=mFS [zi7,GS.pf zfx,FS.pf zd0,FS.pf zm0] [] 157 z96 z95 zlu fun x=>by kernel_rfl
def zaeb:List VP1:=[.agg [.i .u32,.i .u32,.i .i64,.i .i64,.i .i64,.i .i64,.i .i64]]
def zadb:SP:=⟨1,[(0,.v (.one (.b)))],[]⟩
abbrev zgeb:Type:=(Int×(Int×(Int×(Int×(Int×(Int×(Int×Unit)))))))
def zlw:zgeb->Tr (Bool×Unit) :=
 fun (a0,a1,a2,a3,a4,a5,a6,_) =>.opt ((zjc (a0,(a1,(a2,(a3,())))))) (fun r0 =>.ite (!r0.1) (.ret (false,())) (.ite (decide (a6<0)) (.ret (false,())) (.ite (decide (1099511627776<a6)) (.ret (false,())) (.ite (decide (a4=1)) (.ret (decide (a5=0),())) (.ite (decide (a4=2)) (.ret (decide (a5=0),())) (.ite (decide (a4=3)) (.ite (decide (0<=a5)) (.ret (decide (a5<=2),())) (.ret (false,()))) (.ite (decide (a4=4)) (.ret (decide (a5=3),())) (.ret (false,())))))))))
noncomputable def gm31:List (PF Go.Proofs.Tryz.prog):=[zi7,GS.pf zfx,FS.pf zd0,FS.pf zm0,FS.pf zpp]
def zrl (x:zgeb):Option (Bool×Unit):=(zlw x).eval
noncomputable def zps:FS Tryz.prog:=mFS gm31 [] 127 zaeb zadb zlw fun x=>by kernel_rfl
def zt8:LS:=⟨2,[(1000200,1000200)],⟨19,[(8,.v (.one (.i .i64))),(0,.v (.one (.st 16 false))),(1,.v (.one (.clp 159 [(1000200,0)]))),(7,.v (.one (.i .i64)))],[(1000200,.cells [.i .u32,.i .u32,.i .i64,.i .i64])]⟩,[⟨none,[(1000200,1000200)],⟨19,[(4,.v (.one (.i .i64)))],[(1000200,.cells [.i .u32,.i .u32,.i .i64,.i .i64])]⟩⟩,⟨some 0,[(1000200,1000200)],⟨19,[],[(1000200,.cells [.i .u32,.i .u32,.i .i64,.i .i64])]⟩⟩],[]⟩
abbrev znpb:Type:=(Int×((List TTalk)×(Int×(Int×(Int×(Int×(Int×Unit)))))))
abbrev zgdb:Type:=(Int×(Int×(Int×(Int×(Int×Unit)))))
def zbr:znpb->Tr (znpb⊕(zgdb⊕ty3_)) :=
 fun (a0,a1,a2,a3,a4,a5,a6,_) =>.ite (decide (a0<a2)) (.grd (decide (0<=a0)) (.opt (a1[Int.toNat a0]?) (fun r0 =>.ite (decide (r0.from'=a3)&&(decide (r0.to=a4)&&(decide (r0.fromPort=a5)&&(decide (r0.toPort=a6)&&true)))) (.ite (true) (.ret (Sum.inr (Sum.inl (a0,(a3,(a4,(a5,(a6,())))))))) (.ret (Sum.inl (wW .i64 (a0+1),(a1,(a2,(a3,(a4,(a5,(a6,())))))))))) (.opt ((zlt (a3,(a4,(a5,(a6,())))))) (fun r1 =>.ite (decide (r0.from'=r1.1)&&(decide (r0.to=r1.2.1)&&(decide (r0.fromPort=r1.2.2.1)&&(decide (r0.toPort=(y3 r1))&&true)))) (
 .ret (Sum.inr (Sum.inl (a0,(a3,(a4,(a5,(a6,())))))))) (.ret (Sum.inl (wW .i64 (a0+1),(a1,(a2,(a3,(a4,(a5,(a6,())))))))))))))) (.ret (Sum.inr (Sum.inr (a3,(a4,(a5,(a6,())))))))
def zgy:=lpT 1580002 zbr
def z6s:List VP1:=[.one (.st 16 false),.agg [.i .u32,.i .u32,.i .i64,.i .i64]]
def z6r:SP:=⟨1,[(0,.v (.one (.i .i64)))],[]⟩
abbrev znob:Type:=((List TTalk)×(Int×(Int×(Int×(Int×Unit)))))
def zjd:znob->Tr (Int×Unit) :=
 fun (a0,a1,a2,a3,a4,_) =>.opt ((zgy (0,(a0,((↑(a0.length):Int),(a1,(a2,(a3,(a4,()))))))))) (fun r0 =>.sum (r0) (fun r1 =>.ret (r1.1,())) (fun r1 =>.ret ((-1:Int),())))
noncomputable def gm32:List (PF Go.Proofs.Tryz.prog):=gm31++[FS.pf zps]
def zcp (x:znob):Option (Int×Unit):=(zjd x).eval
noncomputable def zje:FS Tryz.prog:=mFS gm32 [(158,zt8)] 128 z6s z6r zjd fun x=>by kernel_rfl
def zw5:LS:=⟨4,[],⟨42,[(10,.v (.one (.i .i64))),(0,.v (.one (.st 16 false))),(8,.v (.one (.st 16 false))),(9,.v (.one (.i .i64)))],[]⟩,[⟨none,[],⟨42,[(2,.v (.one (.i .i64)))],[]⟩⟩,⟨some 0,[],⟨42,[],[]⟩⟩],[]⟩
abbrev z6q:Type:=(Int×((List TTalk)×((List TTalk)×(Int×Unit))))
def zbg:z6q->Tr (z6q⊕((Int×Unit)⊕Unit)) :=
 fun (a0,a1,a2,a3,_) =>.ite (decide (a0<a3)) (.grd (decide (0<=a0)) (.opt (a2[Int.toNat a0]?) (fun r0 =>.opt ((zrl (r0.from',(r0.to,(r0.fromPort,(r0.toPort,(r0.state,(r0.over,(r0.at',()))))))))) (fun r1 =>.ite (!r1.1) (.ret (Sum.inr (Sum.inl (4,())))) (.ite (decide (0<a0)) (.grd (decide (0<=wW .i64 (a0-1))) (.opt (a1[Int.toNat (wW .i64 (a0-1))]?) (fun r2 =>.ite (decide (r0.at'<r2.at')) (.ret (Sum.inr (Sum.inl (4,())))) (.opt ((zcp (a1,(r0.from',(r0.to,(r0.fromPort,(r0.toPort,()))))))) (fun r3 =>.ite (!decide (r3.1=a0)) (.ret (Sum.inr (Sum.inl (4,())))) (
 .ret (Sum.inl (wW .i64 (a0+1),(a1,(a2,(a3,()))))))))))) (.opt ((zcp (a1,(r0.from',(r0.to,(r0.fromPort,(r0.toPort,()))))))) (fun r2 =>.ite (!decide (r2.1=a0)) (.ret (Sum.inr (Sum.inl (4,())))) (.ret (Sum.inl (wW .i64 (a0+1),(a1,(a2,(a3,()))))))))))))) (.ret (Sum.inr (Sum.inr ())))
def zem:=lpT 830004 zbg
def z6u:List VP1:=[.one (.st 16 false)]
def z6t:SP:=⟨1,[(0,.v (.one (.i .i64)))],[]⟩
def zjf:((List TTalk)×Unit)->Tr (Int×Unit) :=
 fun (a0,_) =>.ite (decide (64<(↑(a0.length):Int))) (.ret (2,())) (.opt ((zem (0,(a0,(a0,((↑(a0.length):Int),())))))) (fun r0 =>.sum (r0) (fun r1 =>.ret (r1.1,())) (fun r1 =>.ret (0,()))))
noncomputable def gm33:List (PF Go.Proofs.Tryz.prog):=gm32++[FS.pf zje]
def zgz (x:((List TTalk)×Unit)):Option (Int×Unit):=(zjf x).eval
noncomputable def zjg:FS Tryz.prog:=mFS gm33 [(83,zw5)] 83 z6u z6t zjf fun x=>by kernel_rfl
def zghb:List VP1:=[.agg [.i .u32,.i .u32,.i .i64,.i .i64,.i .i64,.i .i64,.i .i64],.one (.i .i64)]
def zggb:SP:=⟨1,[(0,.v (.one (.b)))],[]⟩
abbrev znnb:Type:=(Int×(Int×(Int×(Int×(Int×(Int×(Int×(Int×Unit))))))))
def zon:znnb->Tr (Bool×Unit) :=
 fun (a0,a1,a2,a3,a4,a5,a6,a7,_) =>.ite (decide (a4=3)) (.ret (decide (3000<wW .i64 (a7-a6)),())) (.ite (decide (a4=4)) (.ret (decide (60<wW .i64 (a7-a6)),())) (.ret (decide (30<wW .i64 (a7-a6)),())))
noncomputable def gm34:List (PF Go.Proofs.Tryz.prog):=gm33++[FS.pf zjg]
def zm2 (x:znnb):Option (Bool×Unit):=(zon x).eval
noncomputable def zy3:FS Tryz.prog:=mFS gm34 [] 183 zghb zggb zon fun x=>by kernel_rfl
def zyd:LS:=⟨5,[(1000100,1000100),(1000200,1000200)],⟨42,[(6,.v (.one (.i .i64))),(5,.v (.one (.i .i64))),(0,.v (.one (.own 1000100))),(1,.v (.one (.clp 186 [(1000200,0)])))],[(1000100,.row 64 16 true true),(1000200,.cells [.i .i64])]⟩,[⟨some 0,[(1000100,1000100),(1000200,1000200)],⟨42,[(5,.v (.one (.i .i64))),(0,.v (.one (.own 1000100)))],[(1000100,.row 64 16 true true),(1000200,.cells [.i .i64])]⟩⟩],[]⟩
abbrev znmb:Type:=(Int×(Int×((List TTalk)×(Int×Unit))))
abbrev zpmb:Type:=(Int×((List TTalk)×(Int×Unit)))
def zbh:znmb->Tr (znmb⊕zpmb) :=
 fun (a0,a1,a2,a3,_) =>.ite (decide (a0<(↑(a2.length):Int))) (.grd (decide (0<=a0/\a0<(↑(a2.length):Int))) (.opt (a2[Int.toNat a0]?) (fun r0 =>.opt ((zm2 (r0.from',(r0.to,(r0.fromPort,(r0.toPort,(r0.state,(r0.over,(r0.at',(a3,())))))))))) (fun r1 =>.ite (!r1.1) (.grd (decide (0<=a1/\a1<(↑(a2.length):Int))) (.opt (a2[Int.toNat a1]?) (fun r2 =>.grd (decide (a2.length=List.length (List.set a2 (Int.toNat a1) (TTalk.mk r0.from' r0.to r0.fromPort r0.toPort r0.state r0.over r0.at')))) (
 .ret (Sum.inl (wW .i64 (a0+1),(wW .i64 (a1+1),(List.set a2 (Int.toNat a1) (TTalk.mk r0.from' r0.to r0.fromPort r0.toPort r0.state r0.over r0.at'),(a3,()))))))))) (gd a2.length (.ret (Sum.inl (wW .i64 (a0+1),(a1,(a2,(a3,()))))))))))) (gd a2.length (.ret (Sum.inr (a1,(a2,(a3,()))))))
def zer:=lpT 1850005 zbh
def zye:LS:=⟨2,[(1000200,1000200)],⟨19,[(8,.v (.one (.i .i64))),(0,.v (.one (.st 16 false))),(1,.v (.one (.clp 186 [(1000200,0)]))),(7,.v (.one (.i .i64)))],[(1000200,.cells [.i .i64])]⟩,[⟨none,[(1000200,1000200)],⟨19,[(4,.v (.one (.i .i64)))],[(1000200,.cells [.i .i64])]⟩⟩,⟨some 0,[(1000200,1000200)],⟨19,[],[(1000200,.cells [.i .i64])]⟩⟩],[]⟩
abbrev znlb:Type:=(Int×((List TTalk)×(Int×(Int×Unit))))
def zb3:znlb->Tr (znlb⊕((Int×(Int×Unit))⊕(Int×Unit))) :=
 fun (a0,a1,a2,a3,_) =>.ite (decide (a0<a2)) (.grd (decide (0<=a0)) (.opt (a1[Int.toNat a0]?) (fun r0 =>.opt ((zm2 (r0.from',(r0.to,(r0.fromPort,(r0.toPort,(r0.state,(r0.over,(r0.at',(a3,())))))))))) (fun r1 =>.ite (r1.1) (.ret (Sum.inr (Sum.inl (a0,(a3,()))))) (.ret (Sum.inl (wW .i64 (a0+1),(a1,(a2,(a3,())))))))))) (.ret (Sum.inr (Sum.inr (a3,()))))
def zi5:=lpT 1580002 zb3
def zedb:SP:=⟨42,[(0,.v (.one (.own 1000100))),(1,.v (.one (.clp 186 [(1000200,0)])))],[(1000200,.cells [.i .i64]),(1000100,.row 64 16 true true)]⟩
def zecb:SP:=⟨1,[(0,.v (.one (.own 1000100)))],[(1000200,.cells [.i .i64]),(1000100,.row 64 16 true true)]⟩
abbrev zgcb:Type:=(Int×((List TTalk)×Unit))
def zmn:zgcb->Tr zgcb :=
 fun (a0,a1,_) =>.opt ((zi5 (0,(a1,((↑(a1.length):Int),(a0,())))))) (fun r0 =>.sum (r0) (fun r1 =>.ite (decide (r1.1=(-1:Int))) (gd a1.length (.ret (r1.2.1,(a1,())))) (gd a1.length (.opt ((zer (wW .i64 (r1.1+1),(r1.1,(a1,(r1.2.1,())))))) (fun r2 =>.grd (decide (0<=r2.1/\r2.1<=(↑(List.length r2.2.fst):Int)/\(↑(List.length r2.2.fst):Int)<=(↑(List.length r2.2.fst):Int))) (.grd (decide (Int.toNat r2.1+Int.toNat ((↑(List.length r2.2.fst):Int)-r2.1)<=List.length r2.2.1)) (.grd (decide (0<=r2.1/\r2.1<=(↑(List.length r2.2.fst):Int))) (
 .grd (decide (Int.toNat r2.1=List.length (List.take (Int.toNat r2.1) (List.take (Int.toNat r2.1) r2.2.1++List.replicate (Int.toNat ((↑(List.length r2.2.fst):Int)-r2.1)) (TTalk.mk (0:Int) (0:Int) (0:Int) (0:Int) (0:Int) (0:Int) (0:Int))++List.drop (Int.toNat r2.1+List.length (List.replicate (Int.toNat ((↑(List.length r2.2.fst):Int)-r2.1)) (TTalk.mk (0:Int) (0:Int) (0:Int) (0:Int) (0:Int) (0:Int) (0:Int)))) r2.2.1)))) (
 .ret (r2.2.2.1,(List.take (Int.toNat r2.1) (List.take (Int.toNat r2.1) r2.2.1++List.replicate (Int.toNat ((↑(List.length r2.2.fst):Int)-r2.1)) (TTalk.mk (0:Int) (0:Int) (0:Int) (0:Int) (0:Int) (0:Int) (0:Int))++List.drop (Int.toNat r2.1+List.length (List.replicate (Int.toNat ((↑(List.length r2.2.fst):Int)-r2.1)) (TTalk.mk (0:Int) (0:Int) (0:Int) (0:Int) (0:Int) (0:Int) (0:Int)))) r2.2.1),())))))))))) (fun r1 =>.ite (true) (gd a1.length (.ret (r1.1,(a1,())))) (gd a1.length (.opt ((zer (0,((-1:Int),(a1,(r1.1,())))))) (fun r2 =>
 .grd (decide (0<=r2.1/\r2.1<=(↑(List.length r2.2.fst):Int)/\(↑(List.length r2.2.fst):Int)<=(↑(List.length r2.2.fst):Int))) (.grd (decide (Int.toNat r2.1+Int.toNat ((↑(List.length r2.2.fst):Int)-r2.1)<=List.length r2.2.1)) (.grd (decide (0<=r2.1/\r2.1<=(↑(List.length r2.2.fst):Int))) (
 .grd (decide (Int.toNat r2.1=List.length (List.take (Int.toNat r2.1) (List.take (Int.toNat r2.1) r2.2.1++List.replicate (Int.toNat ((↑(List.length r2.2.fst):Int)-r2.1)) (TTalk.mk (0:Int) (0:Int) (0:Int) (0:Int) (0:Int) (0:Int) (0:Int))++List.drop (Int.toNat r2.1+List.length (List.replicate (Int.toNat ((↑(List.length r2.2.fst):Int)-r2.1)) (TTalk.mk (0:Int) (0:Int) (0:Int) (0:Int) (0:Int) (0:Int) (0:Int)))) r2.2.1)))) (
 .ret (r2.2.2.1,(List.take (Int.toNat r2.1) (List.take (Int.toNat r2.1) r2.2.1++List.replicate (Int.toNat ((↑(List.length r2.2.fst):Int)-r2.1)) (TTalk.mk (0:Int) (0:Int) (0:Int) (0:Int) (0:Int) (0:Int) (0:Int))++List.drop (Int.toNat r2.1+List.length (List.replicate (Int.toNat ((↑(List.length r2.2.fst):Int)-r2.1)) (TTalk.mk (0:Int) (0:Int) (0:Int) (0:Int) (0:Int) (0:Int) (0:Int)))) r2.2.1),())))))))))))
noncomputable def gm35:List (PF Go.Proofs.Tryz.prog):=gm34++[FS.pf zy3]
def zkd (x:zgcb):Option zgcb:=(zmn x).eval
noncomputable def zqf:GS Tryz.prog:=mGS gm35 [(185,zyd),(158,zye)] 185 [1,0] zedb zecb zmn fun x=>by kernel_rfl
def zaab:SP:=⟨52,[(0,.v (.one (.ptr 1000000 0))),(1,.v (.agg [.b,.b,.b,.b,.b]))],[(1000000,.cells [.i .u32,.i .u32,.i .i64,.i .i64,.i .i64,.i .i64,.i .i64])]⟩
def z99:SP:=⟨1,[(0,.v (.one (.b)))],[(1000000,.cells [.i .u32,.i .u32,.i .i64,.i .i64,.i .i64,.i .i64,.i .i64])]⟩
abbrev zgbb:Type:=(Bool×(Bool×(Bool×(Bool×(Bool×(Int×(Int×(Int×(Int×(Int×(Int×(Int×Unit))))))))))))
abbrev zgab:Type:=(Bool×(Int×(Int×(Int×(Int×(Int×(Int×(Int×Unit))))))))
def zrk:zgbb->Tr zgab :=
 fun (a0,a1,a2,a3,a4,a5,a6,a7,a8,a9,a10,a11,_) =>.ite (!a1) (.ret (false,(a5,(a6,(a7,(a8,(a9,(a10,(a11,()))))))))) (.ite (a0) (.ret (false,(a5,(a6,(a7,(a8,(a9,(a10,(a11,()))))))))) (.ite (a2) (.ite (a4) (.ite (decide (bits BinOp.or IntKind.i64 a10 (1:Int)=(3:Int))) (.ret (true,(a5,(a6,(a7,(a8,(4,(bits BinOp.or IntKind.i64 a10 1,(a11,()))))))))) (.ret (true,(a5,(a6,(a7,(a8,(if false=true then if 3<a9 then (3:Int) else a9 else if (3:Int)>a9 then (3:Int) else a9,(bits BinOp.or IntKind.i64 a10 1,(a11,())))))))))) (.ite (a2) (
 .ite (decide (bits BinOp.or IntKind.i64 a10 (2:Int)=(3:Int))) (.ret (true,(a5,(a6,(a7,(a8,(4,(bits BinOp.or IntKind.i64 a10 2,(a11,()))))))))) (.ret (true,(a5,(a6,(a7,(a8,(if false=true then if 3<a9 then (3:Int) else a9 else if (3:Int)>a9 then (3:Int) else a9,(bits BinOp.or IntKind.i64 a10 2,(a11,())))))))))) (.ite (decide (a10=3)) (.ret (true,(a5,(a6,(a7,(a8,(4,(a10,(a11,()))))))))) (.ret (true,(a5,(a6,(a7,(a8,(if false=true then if 3<a9 then (3:Int) else a9 else if (3:Int)>a9 then (3:Int) else a9,(a10,(a11,())))))))))))) (
 .ite (a2) (.ite (decide (bits BinOp.or IntKind.i64 a10 (2:Int)=(3:Int))) (.ret (true,(a5,(a6,(a7,(a8,(4,(bits BinOp.or IntKind.i64 a10 2,(a11,()))))))))) (.ret (true,(a5,(a6,(a7,(a8,(if false=true then if 3<a9 then (3:Int) else a9 else if (3:Int)>a9 then (3:Int) else a9,(bits BinOp.or IntKind.i64 a10 2,(a11,())))))))))) (.ite (decide (a10=3)) (.ret (true,(a5,(a6,(a7,(a8,(4,(a10,(a11,()))))))))) (
 .ret (true,(a5,(a6,(a7,(a8,(if false=true then if 3<a9 then (3:Int) else a9 else if (3:Int)>a9 then (3:Int) else a9,(a10,(a11,())))))))))))))
noncomputable def gm36:List (PF Go.Proofs.Tryz.prog):=gm35++[GS.pf zqf]
def zea (x:zgbb):Option zgab:=(zrk x).eval
noncomputable def zpq:GS Tryz.prog:=mGS gm36 [] 194 [0,0] zaab z99 zrk fun x=>by kernel_rfl
def zk8:LS:=⟨100002,[],⟨0,[],[]⟩,[⟨some 9998,[(1000000,1000000),(3,3)],⟨79,[(0,.v (.one (.ptr 1000000 0))),(3,.v (.one (.ptr 3 0))),(6,.v (.one (.b))),(5,.v (.one (.b)))],[(1000000,.cells [.i .u32,.i .u32,.i .i64,.i .i64,.i .i64,.i .i64,.i .i64]),(3,.cells [.b,.b,.b,.b,.b])]⟩⟩],[]⟩
def zk9:LS:=⟨100001,[],⟨0,[],[]⟩,[⟨some 9998,[(1000000,1000000),(3,3)],⟨79,[(0,.v (.one (.ptr 1000000 0))),(3,.v (.one (.ptr 3 0))),(5,.v (.one (.b)))],[(1000000,.cells [.i .u32,.i .u32,.i .i64,.i .i64,.i .i64,.i .i64,.i .i64]),(3,.cells [.b,.b,.b,.b,.b])]⟩⟩],[]⟩
def z18:SP:=⟨79,[(0,.v (.one (.ptr 1000000 0))),(1,.v (.agg [.b,.b,.b,.b,.b]))],[(1000000,.cells [.i .u32,.i .u32,.i .i64,.i .i64,.i .i64,.i .i64,.i .i64])]⟩
def z17:SP:=⟨1,[(0,.v (.one (.b)))],[(1000000,.cells [.i .u32,.i .u32,.i .i64,.i .i64,.i .i64,.i .i64,.i .i64])]⟩
abbrev y12 {a0 a1 a2 a3 a4 a5 a6 a7 a8 a9 a10 a11 b c:Type} (x:a0×a1×a2×a3×a4×a5×a6×a7×a8×a9×a10×a11×b×c):b:=x.2.2.2.2.2.2.2.2.2.2.2.2.1
abbrev y13 {a0 a1 a2 a3 a4 a5 a6 a7 a8 a9 a10 a11 a12 b c:Type} (x:a0×a1×a2×a3×a4×a5×a6×a7×a8×a9×a10×a11×a12×b×c):b:=x.2.2.2.2.2.2.2.2.2.2.2.2.2.1
abbrev zplb:Type:=(Bool×(Int×(Int×(Int×(Int×(Int×(Int×(Int×(Bool×(Bool×(Bool×(Bool×(Bool×Unit)))))))))))))
abbrev zpkb:Type:=(Bool×(Bool×(Int×(Int×(Int×(Int×(Int×(Int×(Int×(Bool×(Bool×(Bool×(Bool×(Bool×Unit))))))))))))))
def zm1:zgbb->Tr zgab :=
 fun (a0,a1,a2,a3,a4,a5,a6,a7,a8,a9,a10,a11,_) =>.opt (Tr.eval (α:=zplb) (.ite (a4) (.ite (a0) (.ite (!a1) (.ret (!a2,(a5,(a6,(a7,(a8,(a9,(a10,(a11,(a0,(a1,(a2,(a3,(a4,())))))))))))))) (.ret (false,(a5,(a6,(a7,(a8,(a9,(a10,(a11,(a0,(a1,(a2,(a3,(a4,()))))))))))))))) (.ret (false,(a5,(a6,(a7,(a8,(a9,(a10,(a11,(a0,(a1,(a2,(a3,(a4,()))))))))))))))) (.ret (false,(a5,(a6,(a7,(a8,(a9,(a10,(a11,(a0,(a1,(a2,(a3,(a4,())))))))))))))))) (fun r0 =>.opt (Tr.eval (α:=zpkb) (.ite (!(y12 r0)) (.ite (y8 r0) (.ite (y9 r0) (
 .ret (!(y10 r0),(r0.1,(r0.2.1,(r0.2.2.1,(y3 r0,(y4 r0,(y5 r0,(y6 r0,(y7 r0,(y8 r0,(y9 r0,(y10 r0,(y11 r0,(y12 r0,()))))))))))))))) (.ret (false,(r0.1,(r0.2.1,(r0.2.2.1,(y3 r0,(y4 r0,(y5 r0,(y6 r0,(y7 r0,(y8 r0,(y9 r0,(y10 r0,(y11 r0,(y12 r0,())))))))))))))))) (.ret (false,(r0.1,(r0.2.1,(r0.2.2.1,(y3 r0,(y4 r0,(y5 r0,(y6 r0,(y7 r0,(y8 r0,(y9 r0,(y10 r0,(y11 r0,(y12 r0,())))))))))))))))) (.ret (false,(r0.1,(r0.2.1,(r0.2.2.1,(y3 r0,(y4 r0,(y5 r0,(y6 r0,(y7 r0,(y8 r0,(y9 r0,(y10 r0,(y11 r0,(y12 r0,()))))))))))))))))) (fun r1 =>
 .ite (decide ((y6 r1)<=2)) (.ite (r1.2.1) (.ret (true,(r1.2.2.1,(y3 r1,(y4 r1,(y5 r1,(y6 r1,(y7 r1,(y8 r1,()))))))))) (.ite (decide ((y6 r1)<=2)) (.ite (r1.1) (.ret (true,(r1.2.2.1,(y3 r1,(y4 r1,(y5 r1,(2,(y7 r1,(y8 r1,()))))))))) (.ite (decide ((y6 r1)=1)) (.ret (false,(r1.2.2.1,(y3 r1,(y4 r1,(y5 r1,(y6 r1,(y7 r1,(y8 r1,()))))))))) (.ite (decide ((y6 r1)=2)) (.ite (!(y13 r1)) (.ret (false,(r1.2.2.1,(y3 r1,(y4 r1,(y5 r1,(y6 r1,(y7 r1,(y8 r1,()))))))))) (
 .opt ((zea (y9 r1,(y10 r1,(y11 r1,(y12 r1,(y13 r1,(r1.2.2.1,(y3 r1,(y4 r1,(y5 r1,(y6 r1,(y7 r1,(y8 r1,())))))))))))))) (fun r2 =>.ret (r2.1,(r2.2.1,(r2.2.2.1,(y3 r2,(y4 r2,(y5 r2,(y6 r2,(y7 r2,()))))))))))) (.opt ((zea (y9 r1,(y10 r1,(y11 r1,(y12 r1,(y13 r1,(r1.2.2.1,(y3 r1,(y4 r1,(y5 r1,(y6 r1,(y7 r1,(y8 r1,())))))))))))))) (fun r2 =>.ret (r2.1,(r2.2.1,(r2.2.2.1,(y3 r2,(y4 r2,(y5 r2,(y6 r2,(y7 r2,()))))))))))))) (.ite (decide ((y6 r1)=1)) (.ret (false,(r1.2.2.1,(y3 r1,(y4 r1,(y5 r1,(y6 r1,(y7 r1,(y8 r1,()))))))))) (
 .ite (decide ((y6 r1)=2)) (.ite (!(y13 r1)) (.ret (false,(r1.2.2.1,(y3 r1,(y4 r1,(y5 r1,(y6 r1,(y7 r1,(y8 r1,()))))))))) (.opt ((zea (y9 r1,(y10 r1,(y11 r1,(y12 r1,(y13 r1,(r1.2.2.1,(y3 r1,(y4 r1,(y5 r1,(y6 r1,(y7 r1,(y8 r1,())))))))))))))) (fun r2 =>.ret (r2.1,(r2.2.1,(r2.2.2.1,(y3 r2,(y4 r2,(y5 r2,(y6 r2,(y7 r2,()))))))))))) (.opt ((zea (y9 r1,(y10 r1,(y11 r1,(y12 r1,(y13 r1,(r1.2.2.1,(y3 r1,(y4 r1,(y5 r1,(y6 r1,(y7 r1,(y8 r1,())))))))))))))) (fun r2 =>.ret (r2.1,(r2.2.1,(r2.2.2.1,(y3 r2,(y4 r2,(y5 r2,(y6 r2,(y7 r2,())))))))))))))) (
 .ite (decide ((y6 r1)<=2)) (.ite (r1.1) (.ret (true,(r1.2.2.1,(y3 r1,(y4 r1,(y5 r1,(2,(y7 r1,(y8 r1,()))))))))) (.ite (decide ((y6 r1)=1)) (.ret (false,(r1.2.2.1,(y3 r1,(y4 r1,(y5 r1,(y6 r1,(y7 r1,(y8 r1,()))))))))) (.ite (decide ((y6 r1)=2)) (.ite (!(y13 r1)) (.ret (false,(r1.2.2.1,(y3 r1,(y4 r1,(y5 r1,(y6 r1,(y7 r1,(y8 r1,()))))))))) (.opt ((zea (y9 r1,(y10 r1,(y11 r1,(y12 r1,(y13 r1,(r1.2.2.1,(y3 r1,(y4 r1,(y5 r1,(y6 r1,(y7 r1,(y8 r1,())))))))))))))) (fun r2 =>.ret (r2.1,(r2.2.1,(r2.2.2.1,(y3 r2,(y4 r2,(y5 r2,(y6 r2,(y7 r2,()))))))))))) (
 .opt ((zea (y9 r1,(y10 r1,(y11 r1,(y12 r1,(y13 r1,(r1.2.2.1,(y3 r1,(y4 r1,(y5 r1,(y6 r1,(y7 r1,(y8 r1,())))))))))))))) (fun r2 =>.ret (r2.1,(r2.2.1,(r2.2.2.1,(y3 r2,(y4 r2,(y5 r2,(y6 r2,(y7 r2,()))))))))))))) (.ite (decide ((y6 r1)=1)) (.ret (false,(r1.2.2.1,(y3 r1,(y4 r1,(y5 r1,(y6 r1,(y7 r1,(y8 r1,()))))))))) (.ite (decide ((y6 r1)=2)) (.ite (!(y13 r1)) (.ret (false,(r1.2.2.1,(y3 r1,(y4 r1,(y5 r1,(y6 r1,(y7 r1,(y8 r1,()))))))))) (
 .opt ((zea (y9 r1,(y10 r1,(y11 r1,(y12 r1,(y13 r1,(r1.2.2.1,(y3 r1,(y4 r1,(y5 r1,(y6 r1,(y7 r1,(y8 r1,())))))))))))))) (fun r2 =>.ret (r2.1,(r2.2.1,(r2.2.2.1,(y3 r2,(y4 r2,(y5 r2,(y6 r2,(y7 r2,()))))))))))) (.opt ((zea (y9 r1,(y10 r1,(y11 r1,(y12 r1,(y13 r1,(r1.2.2.1,(y3 r1,(y4 r1,(y5 r1,(y6 r1,(y7 r1,(y8 r1,())))))))))))))) (fun r2 =>.ret (r2.1,(r2.2.1,(r2.2.2.1,(y3 r2,(y4 r2,(y5 r2,(y6 r2,(y7 r2,())))))))))))))))
noncomputable def gm37:List (PF Go.Proofs.Tryz.prog):=gm36++[GS.pf zpq]
def zh0 (x:zgbb):Option zgab:=(zm1 x).eval
noncomputable def zf3:GS Tryz.prog:=mGS gm37 [(187,zk8),(187,zk9)] 187 [0,0] z18 z17 zm1 fun x=>by kernel_rfl
def zacb:List VP1:=[.one (.st 16 false),.agg [.i .u32,.i .u32,.i .i64,.i .i64],.one (.i .i64),.one (.i .i64)]
def zabb:SP:=⟨1,[(0,.tup [.one (.st 16 true),.one (.b),.one (.i .i64)])],[]⟩
abbrev znkb:Type:=((List TTalk)×(Int×(Int×(Int×(Int×(Int×(Int×Unit)))))))
abbrev znjb:Type:=((List TTalk)×(Bool×(Int×Unit)))
def zh1:znkb->Tr znjb :=
 fun (a0,a1,a2,a3,a4,a5,a6,_) =>.grd (decide (((0:Nat)+a0.length)*(48:Nat)<=(140737488355328:Nat)/\(0:Nat)+a0.length<=(9223372036854775807:Nat))) (.opt ((zgz (a0,()))) (fun r0 =>.ite (!decide (r0.1=0)) (.ret (a0,(false,(r0.1,())))) (.ite (decide (0<(↑(a0.length):Int))) (.grd (decide (0<=wW .i64 ((↑(a0.length):Int)-1)/\wW .i64 ((↑(a0.length):Int)-1)<(↑(a0.length):Int))) (.opt (a0[Int.toNat (wW .i64 ((↑(a0.length):Int)-1))]?) (fun r1 =>.opt ((zjc (a1,(a2,(a3,(a4,())))))) (fun r2 =>.ite (!r2.1) (.ret (a0,(false,(1,())))) (
 .ite (decide (a5<0)) (.ret (a0,(false,(1,())))) (.ite (decide (255<a5)) (.ret (a0,(false,(1,())))) (.ite (decide (a6<r1.at')) (.ret (a0,(false,(1,())))) (.ite (decide (1099511627776<a6)) (.ret (a0,(false,(1,())))) (.grd (decide (((0:Nat)+a0.length)*(48:Nat)<=(140737488355328:Nat)/\(0:Nat)+a0.length<=(9223372036854775807:Nat))) (gd a0.length (.opt ((zkd (a6,(a0,())))) (fun r3 =>.opt ((zcp (r3.2.1,(a1,(a2,(a3,(a4,()))))))) (fun r4 =>.ite (decide (r4.1<0)) (
 .ite (!((!decide (bits .and .i64 a5 2=(0:Int)))==true&&((!decide (bits .and .i64 a5 16=(0:Int)))==false&&((!decide (bits .and .i64 a5 1=(0:Int)))==false&&((!decide (bits .and .i64 a5 4=(0:Int)))==false&&true))))) (.ret (r3.2.1,(false,(0,())))) (.ite (decide ((↑(List.length r3.2.fst):Int)=64)) (.ret (a0,(false,(6,())))) (
 .grd (decide ((List.length r3.2.1+List.length [TTalk.mk a1 a2 a3 a4 (1:Int) (0:Int) r3.1])*(48:Nat)<=(140737488355328:Nat)/\List.length r3.2.1+List.length [TTalk.mk a1 a2 a3 a4 (1:Int) (0:Int) r3.1]<=(9223372036854775807:Nat))) (.ret (r3.2.1++[TTalk.mk a1 a2 a3 a4 (1:Int) (0:Int) r3.1],(true,(0,()))))))) (.grd (decide (0<=r4.1/\r4.1<(↑(List.length r3.2.fst):Int))) (.opt (r3.2.1[Int.toNat r4.1]?) (fun r5 =>.ite (!!decide (bits .and .i64 a5 4=(0:Int))) (
 .opt ((zh0 (!decide (bits .and .i64 a5 2=(0:Int)),(!decide (bits .and .i64 a5 16=(0:Int)),(!decide (bits .and .i64 a5 1=(0:Int)),(!decide (bits .and .i64 a5 4=(0:Int)),(decide (r5.from'=a1)&&(decide (r5.to=a2)&&(decide (r5.fromPort=a3)&&(decide (r5.toPort=a4)&&true))),(r5.from',(r5.to,(r5.fromPort,(r5.toPort,(r5.state,(r5.over,(r5.at',())))))))))))))) (fun r6 =>.ite (!r6.1) (.ret (r3.2.1,(false,(0,())))) (.grd (decide (List.length r3.2.fst=List.length r3.2.1)) (.opt ((zb7 (r4.1,(wW .i64 (r4.1+1),(r3.2.1,()))))) (fun r7 =>
 .ite (!decide (bits .and .i64 a5 4=(0:Int))) (.ret (r7.1,(true,(0,())))) (.grd (decide ((List.length r7.1+List.length [TTalk.mk r6.2.1 r6.2.2.1 (y3 r6) (y4 r6) (y5 r6) (y6 r6) r3.1])*(48:Nat)<=(140737488355328:Nat)/\List.length r7.1+List.length [TTalk.mk r6.2.1 r6.2.2.1 (y3 r6) (y4 r6) (y5 r6) (y6 r6) r3.1]<=(9223372036854775807:Nat))) (.ret (r7.1++[TTalk.mk r6.2.1 r6.2.2.1 (y3 r6) (y4 r6) (y5 r6) (y6 r6) r3.1],(true,(0,())))))))))) (.grd (decide (List.length r3.2.fst=List.length r3.2.1)) (.opt ((zb7 (r4.1,(wW .i64 (r4.1+1),(r3.2.1,()))))) (fun r6 =>
 .ite (!decide (bits .and .i64 a5 4=(0:Int))) (.ret (r6.1,(true,(0,())))) (.grd (decide ((List.length r6.1+List.length [TTalk.mk r5.from' r5.to r5.fromPort r5.toPort r5.state r5.over r3.1])*(48:Nat)<=(140737488355328:Nat)/\List.length r6.1+List.length [TTalk.mk r5.from' r5.to r5.fromPort r5.toPort r5.state r5.over r3.1]<=(9223372036854775807:Nat))) (.ret (r6.1++[TTalk.mk r5.from' r5.to r5.fromPort r5.toPort r5.state r5.over r3.1],(true,(0,())))))))))))))))))))))))) (.opt ((zjc (a1,(a2,(a3,(a4,())))))) (fun r1 =>.ite (!r1.1) (.ret (a0,(false,(1,())))) (
 .ite (decide (a5<0)) (.ret (a0,(false,(1,())))) (.ite (decide (255<a5)) (.ret (a0,(false,(1,())))) (.ite (decide (a6<0)) (.ret (a0,(false,(1,())))) (.ite (decide (1099511627776<a6)) (.ret (a0,(false,(1,())))) (.grd (decide (((0:Nat)+a0.length)*(48:Nat)<=(140737488355328:Nat)/\(0:Nat)+a0.length<=(9223372036854775807:Nat))) (gd a0.length (.opt ((zkd (a6,(a0,())))) (fun r2 =>.opt ((zcp (r2.2.1,(a1,(a2,(a3,(a4,()))))))) (fun r3 =>.ite (decide (r3.1<0)) (
 .ite (!((!decide (bits .and .i64 a5 2=(0:Int)))==true&&((!decide (bits .and .i64 a5 16=(0:Int)))==false&&((!decide (bits .and .i64 a5 1=(0:Int)))==false&&((!decide (bits .and .i64 a5 4=(0:Int)))==false&&true))))) (.ret (r2.2.1,(false,(0,())))) (.ite (decide ((↑(List.length r2.2.fst):Int)=64)) (.ret (a0,(false,(6,())))) (
 .grd (decide ((List.length r2.2.1+List.length [TTalk.mk a1 a2 a3 a4 (1:Int) (0:Int) r2.1])*(48:Nat)<=(140737488355328:Nat)/\List.length r2.2.1+List.length [TTalk.mk a1 a2 a3 a4 (1:Int) (0:Int) r2.1]<=(9223372036854775807:Nat))) (.ret (r2.2.1++[TTalk.mk a1 a2 a3 a4 (1:Int) (0:Int) r2.1],(true,(0,()))))))) (.grd (decide (0<=r3.1/\r3.1<(↑(List.length r2.2.fst):Int))) (.opt (r2.2.1[Int.toNat r3.1]?) (fun r4 =>.ite (!!decide (bits .and .i64 a5 4=(0:Int))) (
 .opt ((zh0 (!decide (bits .and .i64 a5 2=(0:Int)),(!decide (bits .and .i64 a5 16=(0:Int)),(!decide (bits .and .i64 a5 1=(0:Int)),(!decide (bits .and .i64 a5 4=(0:Int)),(decide (r4.from'=a1)&&(decide (r4.to=a2)&&(decide (r4.fromPort=a3)&&(decide (r4.toPort=a4)&&true))),(r4.from',(r4.to,(r4.fromPort,(r4.toPort,(r4.state,(r4.over,(r4.at',())))))))))))))) (fun r5 =>.ite (!r5.1) (.ret (r2.2.1,(false,(0,())))) (.grd (decide (List.length r2.2.fst=List.length r2.2.1)) (.opt ((zb7 (r3.1,(wW .i64 (r3.1+1),(r2.2.1,()))))) (fun r6 =>
 .ite (!decide (bits .and .i64 a5 4=(0:Int))) (.ret (r6.1,(true,(0,())))) (.grd (decide ((List.length r6.1+List.length [TTalk.mk r5.2.1 r5.2.2.1 (y3 r5) (y4 r5) (y5 r5) (y6 r5) r2.1])*(48:Nat)<=(140737488355328:Nat)/\List.length r6.1+List.length [TTalk.mk r5.2.1 r5.2.2.1 (y3 r5) (y4 r5) (y5 r5) (y6 r5) r2.1]<=(9223372036854775807:Nat))) (.ret (r6.1++[TTalk.mk r5.2.1 r5.2.2.1 (y3 r5) (y4 r5) (y5 r5) (y6 r5) r2.1],(true,(0,())))))))))) (.grd (decide (List.length r2.2.fst=List.length r2.2.1)) (.opt ((zb7 (r3.1,(wW .i64 (r3.1+1),(r2.2.1,()))))) (fun r5 =>
 .ite (!decide (bits .and .i64 a5 4=(0:Int))) (.ret (r5.1,(true,(0,())))) (.grd (decide ((List.length r5.1+List.length [TTalk.mk r4.from' r4.to r4.fromPort r4.toPort r4.state r4.over r2.1])*(48:Nat)<=(140737488355328:Nat)/\List.length r5.1+List.length [TTalk.mk r4.from' r4.to r4.fromPort r4.toPort r4.state r4.over r2.1]<=(9223372036854775807:Nat))) (.ret (r5.1++[TTalk.mk r4.from' r4.to r4.fromPort r4.toPort r4.state r4.over r2.1],(true,(0,())))))))))))))))))))))))))
noncomputable def gm38:List (PF Go.Proofs.Tryz.prog):=gm37++[GS.pf zf3]
def zeb (x:znkb):Option znjb:=(zh1 x).eval
noncomputable def zpr:FS Tryz.prog:=mFS gm38 [] 169 zacb zabb zh1 fun x=>by kernel_rfl
def zagb:List VP1:=[.one (.st 16 false),.agg [.i .u32,.i .u32,.i .i64,.i .i64],.one (.i .i64)]
def zafb:SP:=⟨1,[(0,.tup [.agg [.i .u32,.i .u32,.i .i64,.i .i64,.i .i64,.i .i64,.i .i64],.one (.b),.one (.i .i64)])],[]⟩
abbrev znib:Type:=((List TTalk)×(Int×(Int×(Int×(Int×(Int×Unit))))))
abbrev znhb:Type:=(Int×(Int×(Int×(Int×(Int×(Int×(Int×(Bool×(Int×Unit)))))))))
def zlx:znib->Tr znhb :=
 fun (a0,a1,a2,a3,a4,a5,_) =>.opt ((zgz (a0,()))) (fun r0 =>.ite (!decide (r0.1=0)) (.ret (0,(0,(0,(0,(0,(0,(0,(false,(r0.1,())))))))))) (.ite (decide (a5<0)) (.ret (0,(0,(0,(0,(0,(0,(0,(false,(1,())))))))))) (.ite (decide (1099511627776<a5)) (.ret (0,(0,(0,(0,(0,(0,(0,(false,(1,())))))))))) (.opt ((zcp (a0,(a1,(a2,(a3,(a4,()))))))) (fun r1 =>.ite (decide (r1.1<0)) (.ret (0,(0,(0,(0,(0,(0,(0,(false,(0,())))))))))) (.grd (decide (0<=r1.1)) (.opt (a0[Int.toNat r1.1]?) (fun r2 =>
 .opt ((zm2 (r2.from',(r2.to,(r2.fromPort,(r2.toPort,(r2.state,(r2.over,(r2.at',(a5,())))))))))) (fun r3 =>.ite (r3.1) (.ret (0,(0,(0,(0,(0,(0,(0,(false,(0,())))))))))) (.grd (decide (0<=r1.1)) (.opt (a0[Int.toNat r1.1]?) (fun r4 =>.ret (r4.from',(r4.to,(r4.fromPort,(r4.toPort,(r4.state,(r4.over,(r4.at',(true,(0,())))))))))))))))))))))
noncomputable def gm39:List (PF Go.Proofs.Tryz.prog):=gm38++[FS.pf zpr]
def zrm (x:znib):Option znhb:=(zlx x).eval
noncomputable def zpt:FS Tryz.prog:=mFS gm39 [] 164 zagb zafb zlx fun x=>by kernel_rfl
open Go Go.RowKit Go.Proofs.YthkhikdglmaiaaaGreatDoor.Abs
open Go.IntKind renaming wrap -> wW
def z9b:List VP1:=[.agg [.i .i64,.i .i64,.i .i64,.i .i64]]
def z9a:SP:=⟨1,[(0,.v (.one (.i .i64)))],[]⟩
def zkj:ty3_->Tr (Int×Unit) :=
 fun (a0,a1,a2,a3,_) =>.ite (decide (a0<0)) (.ret (1,())) (.ite (decide (1000000<a0)) (.ret (1,())) (.ite (decide (a1<1)) (.ret (1,())) (.ite (decide (1000000000<a1)) (.ret (1,())) (.ite (decide (a2<0)) (.ret (4,())) (.ite (decide (a1<a2)) (.ret (4,())) (.ite (decide (a3<0)) (.ret (4,())) (.ite (decide (1099511627776<a3)) (.ret (4,())) (.ret (0,())))))))))
def zk7 (x:ty3_):Option (Int×Unit):=(zkj x).eval
noncomputable def zkk:FS Tryz.prog:=mFS [] [] 85 z9b z9a zkj fun x=>by kernel_rfl
def zisb:List VP1:=[.agg [.i .i64,.i .i64,.i .i64,.i .i64],.one (.i .i64)]
def zirb:SP:=⟨1,[(0,.v (.one (.i .i64)))],[]⟩
def zpj:zgdb->Tr (Int×Unit) :=
 fun (a0,a1,a2,a3,a4,_) =>
 .ret (if true=true then if wW .i64 (a2+wW .i64 (a0*if true=true then if 1000000000<wW .i64 (a4-a3) then (1000000000:Int) else wW .i64 (a4-a3) else if (1000000000:Int)>wW .i64 (a4-a3) then (1000000000:Int) else wW .i64 (a4-a3)))<a1 then wW .i64 (a2+wW .i64 (a0*if true=true then if 1000000000<wW .i64 (a4-a3) then (1000000000:Int) else wW .i64 (a4-a3) else if (1000000000:Int)>wW .i64 (a4-a3) then (1000000000:Int) else wW .i64 (a4-a3))) else a1 else if wW .i64 (a2+wW .i64 (a0*if true=true then if 1000000000<wW .i64 (a4-a3) then (1000000000:Int) else wW .i64 (a4-a3) else if (1000000000:Int)>wW .i64 (a4-a3) then (1000000000:Int) else wW .i64 (a4-a3)))>a1 then wW .i64 (a2+wW .i64 (a0*if true=true then if 1000000000<wW .i64 (a4-a3) then (1000000000:Int) else wW .i64 (a4-a3) else if (1000000000:Int)>wW .i64 (a4-a3) then (1000000000:Int) else wW .i64 (a4-a3))) else a1,())
def zyn (x:zgdb):Option (Int×Unit):=(zpj x).eval
noncomputable def z4f:FS Tryz.prog:=mFS [FS.pf zkk] [] 163 zisb zirb zpj fun x=>by kernel_rfl
def ze7b:List VP1:=[.agg [.i .i64,.i .i64,.i .i64,.i .i64],.one (.i .i64),.one (.i .i64)]
def ze6b:SP:=⟨1,[(0,.tup [.agg [.i .i64,.i .i64,.i .i64,.i .i64],.one (.b),.one (.i .i64)])],[]⟩
abbrev zngb:Type:=(Int×(Int×(Int×(Int×(Bool×(Int×Unit))))))
def zmq:z14->Tr zngb :=
 fun (a0,a1,a2,a3,a4,a5,_) =>.opt ((zk7 (a0,(a1,(a2,(a3,())))))) (fun r0 =>.ite (!decide (r0.1=0)) (.ret (0,(0,(0,(0,(false,(r0.1,()))))))) (.ite (decide (a4<a3)) (.ret (0,(0,(0,(0,(false,(1,()))))))) (.ite (decide (1099511627776<a4)) (.ret (0,(0,(0,(0,(false,(1,()))))))) (.ite (decide (a5<0)) (.ret (0,(0,(0,(0,(false,(1,()))))))) (.ite (decide (1000000000<a5)) (.ret (0,(0,(0,(0,(false,(1,()))))))) (.opt ((zyn (a0,(a1,(a2,(a3,(a4,()))))))) (fun r1 =>.ite (decide (r1.1<a5)) (.ret (a0,(a1,(r1.1,(a4,(false,(0,()))))))) (
 .ret (a0,(a1,(wW .i64 (r1.1-a5),(a4,(true,(0,()))))))))))))))
def zhr (x:z14):Option zngb:=(zmq x).eval
noncomputable def zwr:FS Tryz.prog:=mFS [FS.pf zkk,FS.pf z4f] [] 136 ze7b ze6b zmq fun x=>by kernel_rfl
open Go Go.RowKit Go.Proofs.YthkhikdglmaiaaaGreatDoor.Abs
open Go.IntKind renaming wrap -> wW
theorem zetb (xs:List (τ 10)):(zdq Go.Proofs.Tryz.prog cod 12 [.one (.nn (.st 10 xs))]).eval=(zdm 54 10 80 xs).eval:=by kernel_rfl
theorem zesb:(zdq Go.Proofs.Tryz.prog cod 12 [.one .nil]).eval=some (.one .nil,[]):=by kernel_rfl
def zkg:PF Go.Proofs.Tryz.prog:=zmp Go.Proofs.Tryz.prog cod 12 54 10 80 zetb zesb
def zgpb:List VP1:=[.agg [.i .u32,.i .i64]]
def zgob:SP:=⟨1,[(0,.v (.one (.b)))],[]⟩
def zou:(Int×(Int×Unit))->Tr (Bool×Unit) :=
 fun (a0,a1,_) =>.ite (decide (0<=a1)) (.ite (decide (a1<=32)) (.grd (decide (0<=a1)) (.ret (decide (wW .u32 (a0*(2:Int)^min (Int.toNat a1) (32:Nat))=0),()))) (.ret (false,()))) (.ret (false,()))
def zqx (x:(Int×(Int×Unit))):Option (Bool×Unit):=(zou x).eval
noncomputable def zuc:FS Tryz.prog:=mFS [zkg] [] 178 zgpb zgob zou fun x=>by kernel_rfl
def zgrb:List VP1:=[.agg [.i .u32,.i .i64],.one (.i .u32)]
def zgqb:SP:=⟨1,[(0,.v (.one (.b)))],[]⟩
def zow:ty2_->Tr (Bool×Unit) :=
 fun (a0,a1,a2,_) =>.grd (decide (0<=wW .i64 ((32:Int)-a1))) (.ret (decide (Int.fdiv (wW .u64 (bits .xor .u32 a2 a0)) ((2:Int)^min (Int.toNat (wW .i64 ((32:Int)-a1))) (64:Nat))=0),()))
def zqy (x:ty2_):Option (Bool×Unit):=(zow x).eval
noncomputable def zxf:FS Tryz.prog:=mFS [zkg,FS.pf zuc] [] 184 zgrb zgqb zow fun x=>by kernel_rfl
def z2n:List VP1:=[.one (.i .i64),.one (.i .i64)]
def z2m:SP:=⟨1,[(0,.v (.one (.b)))],[]⟩
def zib:(Int×(Int×Unit))->Tr (Bool×Unit) :=
 fun (a0,a1,_) =>.ite (decide (0<=a0)) (.ite (decide (a0<=a1)) (.ret (decide (a1<=65535),())) (.ret (false,()))) (.ret (false,()))
def zdr (x:(Int×(Int×Unit))):Option (Bool×Unit):=(zib x).eval
noncomputable def zf7:FS Tryz.prog:=mFS [zkg,FS.pf zuc,FS.pf zxf] [] 165 z2n z2m zib fun x=>by kernel_rfl
def z7b:List VP1:=[.agg [.i .u32,.i .i64,.i .u32,.i .i64,.i .i64,.i .i64,.i .i64,.i .i64,.i .i64,.b]]
def z69:SP:=⟨1,[(0,.v (.one (.b)))],[]⟩
abbrev zf9b:Type:=(Int×(Int×(Int×(Int×(Int×(Int×(Int×(Int×(Int×(Bool×Unit))))))))))
def zjl:zf9b->Tr (Bool×Unit) :=
 fun (a0,a1,a2,a3,a4,a5,a6,a7,a8,a9,_) =>.opt ((zqx (a0,(a1,())))) (fun r0 =>.ite (r0.1) (.opt ((zqx (a2,(a3,())))) (fun r1 =>.ite (r1.1) (.ite (decide (0<=a4)) (.ite (decide (a4<=255)) (.opt ((zdr (a5,(a6,())))) (fun r2 =>.ite (r2.1) (.opt ((zdr (a7,(a8,())))) (fun r3 =>.ret (r3.1,()))) (.ret (false,())))) (.ret (false,()))) (.ret (false,()))) (.ret (false,())))) (.ret (false,())))
def zot (x:zf9b):Option (Bool×Unit):=(zjl x).eval
noncomputable def zl7:FS Tryz.prog:=mFS [zkg,FS.pf zuc,FS.pf zxf,FS.pf zf7] [] 149 z7b z69 zjl fun x=>by kernel_rfl
def zud:LS:=⟨4,[],⟨18,[(10,.v (.one (.i .i64))),(8,.v (.one (.st 10 false))),(9,.v (.one (.i .i64)))],[]⟩,[⟨none,[],⟨18,[(2,.v (.one (.i .i64)))],[]⟩⟩,⟨some 0,[],⟨18,[],[]⟩⟩],[]⟩
abbrev zf8b:Type:=(Int×((List TRule)×(Int×Unit)))
def zbs:zf8b->Tr (zf8b⊕((Int×Unit)⊕Unit)) :=
 fun (a0,a1,a2,_) =>.ite (decide (a0<a2)) (.grd (decide (0<=a0)) (.opt (a1[Int.toNat a0]?) (fun r0 =>.opt ((zot (r0.fromAddr,(r0.fromLong,(r0.toAddr,(r0.toLong,(r0.proto,(r0.fromLow,(r0.fromHigh,(r0.toLow,(r0.toHigh,(r0.pass,())))))))))))) (fun r1 =>.ite (!r1.1) (.ret (Sum.inr (Sum.inl (4,())))) (.ret (Sum.inl (wW .i64 (a0+1),(a1,(a2,()))))))))) (.ret (Sum.inr (Sum.inr ())))
def zg6:=lpT 1050004 zbs
def z7f:List VP1:=[.one (.st 10 false)]
def z7e:SP:=⟨1,[(0,.v (.one (.i .i64)))],[]⟩
def zjn:((List TRule)×Unit)->Tr (Int×Unit) :=
 fun (a0,_) =>.ite (decide (64<(↑(a0.length):Int))) (.ret (2,())) (.opt ((zg6 (0,(a0,((↑(a0.length):Int),()))))) (fun r0 =>.sum (r0) (fun r1 =>.ret (r1.1,())) (fun r1 =>.ret (0,()))))
noncomputable def gm40:List (PF Go.Proofs.Tryz.prog):=[zkg,FS.pf zuc,FS.pf zxf,FS.pf zf7,FS.pf zl7]
def zks (x:((List TRule)×Unit)):Option (Int×Unit):=(zjn x).eval
noncomputable def zl9:FS Tryz.prog:=mFS gm40 [(105,zud)] 105 z7f z7e zjn fun x=>by kernel_rfl
def z7d:List VP1:=[.agg [.i .u32,.i .i64,.i .u32,.i .i64,.i .i64,.i .i64,.i .i64,.i .i64,.i .i64,.b],.agg [.i .u32,.i .u32,.i .i64,.i .i64,.i .i64]]
def z7c:SP:=⟨1,[(0,.v (.one (.b)))],[]⟩
abbrev znfb:Type:=(Int×(Int×(Int×(Int×(Int×(Int×(Int×(Int×(Int×(Bool×(Int×(Int×(Int×(Int×(Int×Unit)))))))))))))))
def zjm:znfb->Tr (Bool×Unit) :=
 fun (a0,a1,a2,a3,a4,a5,a6,a7,a8,a9,a10,a11,a12,a13,a14,_) =>.opt ((zqy (a0,(a1,(a10,()))))) (fun r0 =>.ite (r0.1) (.opt ((zqy (a2,(a3,(a11,()))))) (fun r1 =>.ite (r1.1) (.ite (decide (a4=0)) (.ite (decide (a5<=a13)) (.ite (decide (a13<=a6)) (.ite (decide (a7<=a14)) (.ret (decide (a14<=a8),())) (.ret (false,()))) (.ret (false,()))) (.ret (false,()))) (.ite (decide (a4=a12)) (.ite (decide (a5<=a13)) (.ite (decide (a13<=a6)) (.ite (decide (a7<=a14)) (.ret (decide (a14<=a8),())) (.ret (false,()))) (.ret (false,()))) (.ret (false,()))) (
 .ret (false,())))) (.ret (false,())))) (.ret (false,())))
noncomputable def gm41:List (PF Go.Proofs.Tryz.prog):=gm40++[FS.pf zl9]
def zov (x:znfb):Option (Bool×Unit):=(zjm x).eval
noncomputable def zl8:FS Tryz.prog:=mFS gm41 [] 168 z7d z7c zjm fun x=>by kernel_rfl
def zr1:LS:=⟨2,[(1000200,1000200)],⟨19,[(8,.v (.one (.i .i64))),(0,.v (.one (.st 10 false))),(1,.v (.one (.clp 167 [(1000200,0)]))),(7,.v (.one (.i .i64)))],[(1000200,.cells [.i .u32,.i .u32,.i .i64,.i .i64,.i .i64])]⟩,[⟨none,[(1000200,1000200)],⟨19,[(4,.v (.one (.i .i64)))],[(1000200,.cells [.i .u32,.i .u32,.i .i64,.i .i64,.i .i64])]⟩⟩,⟨some 0,[(1000200,1000200)],⟨19,[],[(1000200,.cells [.i .u32,.i .u32,.i .i64,.i .i64,.i .i64])]⟩⟩],[]⟩
abbrev zneb:Type:=(Int×((List TRule)×(Int×(Int×(Int×(Int×(Int×(Int×Unit))))))))
def zbl:zneb->Tr (zneb⊕(z14⊕zgdb)) :=
 fun (a0,a1,a2,a3,a4,a5,a6,a7,_) =>.ite (decide (a0<a2)) (.grd (decide (0<=a0)) (.opt (a1[Int.toNat a0]?) (fun r0 =>.opt ((zov (r0.fromAddr,(r0.fromLong,(r0.toAddr,(r0.toLong,(r0.proto,(r0.fromLow,(r0.fromHigh,(r0.toLow,(r0.toHigh,(r0.pass,(a3,(a4,(a5,(a6,(a7,()))))))))))))))))) (fun r1 =>.ite (r1.1) (.ret (Sum.inr (Sum.inl (a0,(a3,(a4,(a5,(a6,(a7,()))))))))) (.ret (Sum.inl (wW .i64 (a0+1),(a1,(a2,(a3,(a4,(a5,(a6,(a7,())))))))))))))) (.ret (Sum.inr (Sum.inr (a3,(a4,(a5,(a6,(a7,()))))))))
def zf6:=lpT 1660002 zbl
def z2l:List VP1:=[.one (.st 10 false),.agg [.i .u32,.i .u32,.i .i64,.i .i64,.i .i64],.one (.b)]
def z2k:SP:=⟨1,[(0,.tup [.one (.b),.one (.i .i64),.one (.i .i64)])],[]⟩
abbrev zndb:Type:=((List TRule)×(Int×(Int×(Int×(Int×(Int×(Bool×Unit)))))))
abbrev zncb:Type:=(Bool×(Int×(Int×Unit)))
def zh9:zndb->Tr zncb :=
 fun (a0,a1,a2,a3,a4,a5,a6,_) =>.opt ((zks (a0,()))) (fun r0 =>.ite (!decide (r0.1=0)) (.ret (false,(0,(r0.1,())))) (.ite (decide (a3<0)) (.ret (false,(0,(1,())))) (.ite (decide (255<a3)) (.ret (false,(0,(1,())))) (.opt ((zdr (a4,(a4,())))) (fun r1 =>.ite (!r1.1) (.ret (false,(0,(1,())))) (.opt ((zdr (a5,(a5,())))) (fun r2 =>.ite (!r2.1) (.ret (false,(0,(1,())))) (.opt ((zf6 (0,(a0,((↑(a0.length):Int),(a1,(a2,(a3,(a4,(a5,())))))))))) (fun r3 =>.sum (r3) (fun r4 =>.ite (decide (r4.1<0)) (.ret (a6,(r4.1,(0,())))) (.grd (decide (0<=r4.1)) (
 .opt (a0[Int.toNat r4.1]?) (fun r5 =>.ret (r5.pass,(r4.1,(0,()))))))) (fun r4 =>.ite (true) (.ret (a6,((-1:Int),(0,())))) (.grd (false) (.opt (a0[(0:Nat)]?) (fun r5 =>.ret (r5.pass,((-1:Int),(0,()))))))))))))))))
noncomputable def gm42:List (PF Go.Proofs.Tryz.prog):=gm41++[FS.pf zl8]
def zfd (x:zndb):Option zncb:=(zh9 x).eval
noncomputable def zia:FS Tryz.prog:=mFS gm42 [(166,zr1)] 138 z2l z2k zh9 fun x=>by kernel_rfl
open Go Go.RowKit Go.Proofs.YthkhikdglmaiaaaGreatDoor.Abs
theorem z9j {P:Program} {f:FuncId} {ys:List V} {r:V} (hn:ys.length<=900)
  (h:∀ (w:World) (U:Nat->Prop) (β:Nat->Option Abs.Place) (us:Array Value),us.size=ys.length->(∀ t,RepV w β U w.heap.size (us.getD t undef) ((Abs.look t (zby 0 ys)).getD (.one .bad)))->Glob U w ->
   ∃ v,RepV w β U w.heap.size v r/\Calls P f us w fun e w'=>e=.returned v/\w'=w):ACall P f ys [] fun r' m''=>r'=r/\m''=[]:=by
 intro w U0 X β0 us hs
 obtain ⟨v,hv,hc⟩:=h w U0 β0 us hs.n hs.env hs.glob
 refine hc.mono ?_
 rintro e w' ⟨rfl,rfl⟩
 refine ⟨v,r,[],rfl,⟨rfl,rfl⟩,β0,U0,{ hs with n:=rfl,small:=by simp,defers:=rfl,env:=fun t=>?_ }⟩
 show RepV w' β0 U0 w'.heap.size (#[v].getD t undef) ((Abs.look t [(0,r)]).getD (.one .bad))
 cases t with
 | zero=>exact hv
 | succ t=>simp [Abs.look]; exact .bad _
end Go.Proofs.YthkhikdglmaiaaaGreatDoor.X
namespace Go.Proofs
theorem YthkhikdglmaiaaaGreatDoor.X.tz_key (x a:Nat) (hx:x<18446744073709551616) (hlow:x &&& (18446744073709551616-x)=a) :
   IntKind.u64.wrap (bits BinOp.and IntKind.u64 (x:Int) (IntKind.u64.wrap (-(x:Int)))*285870213051353865) / 288230376151711744=((a*285870213051353865%18446744073709551616 / 288230376151711744:Nat):Int):=by
 by_cases h0:x=0
 . subst h0
   simp only [Nat.zero_and] at hlow
   subst hlow
   decide
 . have e1:IntKind.u64.wrap (-(x:Int))=((18446744073709551616-x:Nat):Int):=by rw [IntKind.wrap_u64]; omega
   rw [e1,bits_and_u64_nat x _ hx (by omega),hlow,IntKind.wrap_u64]
   omega
set_option maxHeartbeats 1000000 in
set_option maxRecDepth 100000 in
theorem YthkhikdglmaiaaaGreatDoor.X.tz_core (x k idx : Nat) (w : World) (hx0 : ((x : Int) == 0) = false)
  (key : IntKind.u64.wrap (bits BinOp.and IntKind.u64 (x : Int) (IntKind.u64.wrap (-(x : Int))) * 285870213051353865) / 288230376151711744 = (idx : Int))
  (hi : idx < 64) (hk : k < 64) (hcell : w.cell? ⟨1, idx, none⟩ = some (.int .u8 k)) :
  Calls Tryz.prog 189 #[.int .u64 x] w fun e w' => e = .returned (.int .i64 k) /\ w' = w := by
 go_enter Tryz.func189, Tryz.ntmps189
 go_wp2_with (simp only [key])
 go_ret
 exact ⟨rfl, rfl⟩
set_option maxRecDepth 100000 in
theorem YthkhikdglmaiaaaGreatDoor.X.tz_zero (w : World) :
  Calls Tryz.prog 189 #[.int .u64 0] w fun e w' => e = .returned (.int .i64 64) /\ w' = w := by
 go_enter Tryz.func189, Tryz.ntmps189
 go_wp2
 go_ret
 exact ⟨rfl, rfl⟩
end Go.Proofs
namespace Go.Proofs.YthkhikdglmaiaaaGreatDoor.X
open Go Go.RowKit Go.Proofs.YthkhikdglmaiaaaGreatDoor.Abs
set_option linter.unusedVariables false
theorem zc3b {U:Nat->Prop} {w:World} (h:Glob U w) (j:Nat) (hj:j<64):w.cell? ⟨1,j,none⟩=some (.int .u8 (Lib.deBruijn64tab.getD j 0:Nat)):=by
 obtain ⟨_,x,y,hx⟩:=h.1 (1,_) (List.mem_cons_self)
 unfold World.cell?
 simp only
 rw [show w.heap[1]?=_ from hx]
 have hl:j<Lib.deBruijn64tab.length:=hj
 show ((Lib.deBruijn64tab.map fun z:Nat=>Value.int .u8 (z:Int)).toArray)[j]?=_
 rw [List.getElem?_toArray,List.getElem?_map,List.getD_eq_getElem?_getD,List.getElem?_eq_getElem hl]
 rfl
theorem zf2b {U:Nat->Prop} {w:World} (hg:Glob U w) (x:Nat) (hx:x<18446744073709551616) :
   Calls Tryz.prog 189 #[.int .u64 x] w fun e w'=>e=.returned (.int .i64 (Lib.ctz 64 x:Nat))/\w'=w:=by
 by_cases hx0:x=0
 . subst hx0
   exact tz_zero w
 . obtain ⟨hlow,hk⟩:=Lib.lowest_bit 64 x hx0 hx
   obtain ⟨hi,htab⟩:=Lib.deBruijn64_at _ hk
   have hcell:=zc3b hg _ hi
   rw [htab] at hcell
   exact tz_core x _ _ w (by simp <;> omega) (tz_key x _ hx hlow) hi hk hcell
def ctzI (n:Int):Int:=(Lib.ctz 64 n.toNat:Nat)
def tzTr (ys:List V) (m:Mem):Option (Tr (V×Mem)) :=
 match ys,m with
 | [.one (.d (.i .u64 n))],[]=>some (.grd (decide (0<=n/\n<=18446744073709551615)) (.ret (vi .i64 (ctzI n),[])))
 | _,_=>none
def tz64:PF Tryz.prog where
 f:=189
 own:=[]
 tr:=tzTr
 ok:=by
  intro ys m T r m' h hT
  unfold tzTr at h
  split at h
  . rename_i n
    cases h
    have hT':(Tr.grd (decide (0<=n/\n<=18446744073709551615)) (.ret (vi .i64 (ctzI n),([]:Mem)))).eval=some (r,m'):=hT
    by_cases hn:0<=n/\n<=18446744073709551615
    case neg=>rw [decide_eq_false hn] at hT'; cases hT'
    rw [decide_eq_true hn] at hT'
    cases hT'
    refine ⟨_,[],zgk _,trivial,z9j (by simp) fun w U β us hsz henv hg=>⟨.int .i64 (ctzI n),.one _ _ (.i .i64 _),?_⟩⟩
    have h0:us.getD 0 undef=.int .u64 n:=(show RepV w β U w.heap.size (us.getD 0 undef) (vi .u64 n) from henv 0).int
    have e:us = #[.int .u64 n]:=by
     obtain ⟨us⟩:=us
     match us,hsz with
     | [a],_=>have ha:a=_:=h0; rw [ha]
    rw [e]
    obtain ⟨x,rfl⟩:=Int.eq_ofNat_of_zero_le hn.1
    exact zf2b hg x (by omega)
  . cases h
end Go.Proofs.YthkhikdglmaiaaaGreatDoor.X
namespace Go.Proofs.YthkhikdglmaiaaaGreatDoor.X
open Go Go.RowKit Go.Proofs.YthkhikdglmaiaaaGreatDoor.Abs
open Go.IntKind renaming wrap -> wW
set_option maxRecDepth 100000
set_option linter.unusedVariables false
def zxv:List VP1:=[.agg [.i .i64,.i .u64]]
def zxu:SP:=⟨1,[(0,.v (.one (.i .i64)))],[]⟩
def zfm:(Int×(Int×Unit))->Tr (Int×Unit) :=
 fun (a0,a1,_) =>.ite (decide (a0<64)) (.ret (1,())) (.ite (decide (65472<a0)) (.ret (1,())) (.grd (true) (.ite (!decide (Int.tmod a0 (64:Int)=(0:Int))) (.ret (1,())) (.ret (0,())))))
def zau (x:(Int×(Int×Unit))):Option (Int×Unit):=(zfm x).eval
noncomputable def zb5:FS Tryz.prog:=mFS [tz64] [] 104 zxv zxu zfm fun x=>by kernel_rfl
def z2z:List VP1:=[.agg [.i .i64,.i .u64],.one (.i .i64)]
def z2y:SP:=⟨1,[(0,.tup [.agg [.i .i64,.i .u64],.one (.i .i64),.one (.i .i64)])],[]⟩
abbrev ab0:Int:=(if IntKind.signed IntKind.u64=true then (-1:Int) else IntKind.max IntKind.u64)
abbrev xq0 (a1:Int):Int:=bits .xor .u64 ab0 a1
abbrev xq1 (a2:Int):Int:=(wW .u64 ((6148914691236517205:Int)*(2:Int)^min (Int.toNat (bits .and .i64 a2 1)) (64:Nat)))
abbrev xq2 (a1 a2:Int):Int:=bits .and .u64 (xq0 a1) (xq1 a2)
def znj:ty2_->Tr ty3_ :=
 fun (a0,a1,a2,_) =>.opt ((zau (a0,(a1,())))) (fun r0 =>.ite (!decide (r0.1=0)) (.ite (!decide (r0.1=0)) (.ret (0,(0,(0,(r0.1,()))))) (.ite (decide (wW .i64 (a2-a0)<0)) (.grd (decide (0<=bits .and .i64 a2 1)) (.ite (decide (xq2 a1 a2=0)) (.grd (decide (0<=xq0 a1/\xq0 a1<=18446744073709551615)) (.grd (decide (0<=ctzI (xq0 a1))) (.ret (a0,(bits .or .u64 a1 (wW .u64 ((1:Int)*(2:Int)^min (Int.toNat (ctzI (xq0 a1))) (64:Nat))),(wW .i64 (a0+ctzI (xq0 a1)),(0,()))))))) (.grd (decide (0<=xq2 a1 a2/\xq2 a1 a2<=18446744073709551615)) (
 .grd (decide (0<=ctzI (xq2 a1 a2))) (.ret (a0,(bits .or .u64 a1 (wW .u64 ((1:Int)*(2:Int)^min (Int.toNat (ctzI (xq2 a1 a2))) (64:Nat))),(wW .i64 (a0+ctzI (xq2 a1 a2)),(0,()))))))))) (.ite (decide (63<wW .i64 (a2-a0))) (.grd (decide (0<=bits .and .i64 a2 1)) (.ite (decide (xq2 a1 a2=0)) (.grd (decide (0<=xq0 a1/\xq0 a1<=18446744073709551615)) (.grd (decide (0<=ctzI (xq0 a1))) (.ret (a0,(bits .or .u64 a1 (wW .u64 ((1:Int)*(2:Int)^min (Int.toNat (ctzI (xq0 a1))) (64:Nat))),(wW .i64 (a0+ctzI (xq0 a1)),(0,()))))))) (
 .grd (decide (0<=xq2 a1 a2/\xq2 a1 a2<=18446744073709551615)) (.grd (decide (0<=ctzI (xq2 a1 a2))) (.ret (a0,(bits .or .u64 a1 (wW .u64 ((1:Int)*(2:Int)^min (Int.toNat (ctzI (xq2 a1 a2))) (64:Nat))),(wW .i64 (a0+ctzI (xq2 a1 a2)),(0,()))))))))) (.grd (decide (0<=wW .i64 (a2-a0))) (.ite (decide (bits .and .u64 (Int.fdiv (xq0 a1) ((2:Int)^min (Int.toNat (wW .i64 (a2-a0))) (64:Nat))) (1:Int)=(0:Int))) (.grd (decide (0<=bits .and .i64 a2 1)) (.ite (decide (xq2 a1 a2=0)) (.grd (decide (0<=xq0 a1/\xq0 a1<=18446744073709551615)) (
 .grd (decide (0<=ctzI (xq0 a1))) (.ret (a0,(bits .or .u64 a1 (wW .u64 ((1:Int)*(2:Int)^min (Int.toNat (ctzI (xq0 a1))) (64:Nat))),(wW .i64 (a0+ctzI (xq0 a1)),(0,()))))))) (.grd (decide (0<=xq2 a1 a2/\xq2 a1 a2<=18446744073709551615)) (.grd (decide (0<=ctzI (xq2 a1 a2))) (.ret (a0,(bits .or .u64 a1 (wW .u64 ((1:Int)*(2:Int)^min (Int.toNat (ctzI (xq2 a1 a2))) (64:Nat))),(wW .i64 (a0+ctzI (xq2 a1 a2)),(0,()))))))))) (.grd (decide (0<=wW .i64 (a2-a0))) (
 .ret (a0,(bits .or .u64 a1 (wW .u64 ((1:Int)*(2:Int)^min (Int.toNat (wW .i64 (a2-a0))) (64:Nat))),(wW .i64 (a0+wW .i64 (a2-a0)),(0,()))))))))))) (.ite (decide (a2<0)) (.ite (true) (.ret (0,(0,(0,(1,()))))) (.ite (decide (wW .i64 (a2-a0)<0)) (.grd (decide (0<=bits .and .i64 a2 1)) (.ite (decide (xq2 a1 a2=0)) (.grd (decide (0<=xq0 a1/\xq0 a1<=18446744073709551615)) (.grd (decide (0<=ctzI (xq0 a1))) (
 .ret (a0,(bits .or .u64 a1 (wW .u64 ((1:Int)*(2:Int)^min (Int.toNat (ctzI (xq0 a1))) (64:Nat))),(wW .i64 (a0+ctzI (xq0 a1)),(0,()))))))) (.grd (decide (0<=xq2 a1 a2/\xq2 a1 a2<=18446744073709551615)) (.grd (decide (0<=ctzI (xq2 a1 a2))) (.ret (a0,(bits .or .u64 a1 (wW .u64 ((1:Int)*(2:Int)^min (Int.toNat (ctzI (xq2 a1 a2))) (64:Nat))),(wW .i64 (a0+ctzI (xq2 a1 a2)),(0,()))))))))) (.ite (decide (63<wW .i64 (a2-a0))) (.grd (decide (0<=bits .and .i64 a2 1)) (.ite (decide (xq2 a1 a2=0)) (
 .grd (decide (0<=xq0 a1/\xq0 a1<=18446744073709551615)) (.grd (decide (0<=ctzI (xq0 a1))) (.ret (a0,(bits .or .u64 a1 (wW .u64 ((1:Int)*(2:Int)^min (Int.toNat (ctzI (xq0 a1))) (64:Nat))),(wW .i64 (a0+ctzI (xq0 a1)),(0,()))))))) (.grd (decide (0<=xq2 a1 a2/\xq2 a1 a2<=18446744073709551615)) (.grd (decide (0<=ctzI (xq2 a1 a2))) (.ret (a0,(bits .or .u64 a1 (wW .u64 ((1:Int)*(2:Int)^min (Int.toNat (ctzI (xq2 a1 a2))) (64:Nat))),(wW .i64 (a0+ctzI (xq2 a1 a2)),(0,()))))))))) (.grd (decide (0<=wW .i64 (a2-a0))) (
 .ite (decide (bits .and .u64 (Int.fdiv (xq0 a1) ((2:Int)^min (Int.toNat (wW .i64 (a2-a0))) (64:Nat))) (1:Int)=(0:Int))) (.grd (decide (0<=bits .and .i64 a2 1)) (.ite (decide (xq2 a1 a2=0)) (.grd (decide (0<=xq0 a1/\xq0 a1<=18446744073709551615)) (.grd (decide (0<=ctzI (xq0 a1))) (.ret (a0,(bits .or .u64 a1 (wW .u64 ((1:Int)*(2:Int)^min (Int.toNat (ctzI (xq0 a1))) (64:Nat))),(wW .i64 (a0+ctzI (xq0 a1)),(0,()))))))) (.grd (decide (0<=xq2 a1 a2/\xq2 a1 a2<=18446744073709551615)) (.grd (decide (0<=ctzI (xq2 a1 a2))) (
 .ret (a0,(bits .or .u64 a1 (wW .u64 ((1:Int)*(2:Int)^min (Int.toNat (ctzI (xq2 a1 a2))) (64:Nat))),(wW .i64 (a0+ctzI (xq2 a1 a2)),(0,()))))))))) (.grd (decide (0<=wW .i64 (a2-a0))) (.ret (a0,(bits .or .u64 a1 (wW .u64 ((1:Int)*(2:Int)^min (Int.toNat (wW .i64 (a2-a0))) (64:Nat))),(wW .i64 (a0+wW .i64 (a2-a0)),(0,()))))))))))) (.ite (decide (65535<a2)) (.ite (true) (.ret (0,(0,(0,(1,()))))) (.ite (decide (wW .i64 (a2-a0)<0)) (.grd (decide (0<=bits .and .i64 a2 1)) (.ite (decide (xq2 a1 a2=0)) (
 .grd (decide (0<=xq0 a1/\xq0 a1<=18446744073709551615)) (.grd (decide (0<=ctzI (xq0 a1))) (.ret (a0,(bits .or .u64 a1 (wW .u64 ((1:Int)*(2:Int)^min (Int.toNat (ctzI (xq0 a1))) (64:Nat))),(wW .i64 (a0+ctzI (xq0 a1)),(0,()))))))) (.grd (decide (0<=xq2 a1 a2/\xq2 a1 a2<=18446744073709551615)) (.grd (decide (0<=ctzI (xq2 a1 a2))) (.ret (a0,(bits .or .u64 a1 (wW .u64 ((1:Int)*(2:Int)^min (Int.toNat (ctzI (xq2 a1 a2))) (64:Nat))),(wW .i64 (a0+ctzI (xq2 a1 a2)),(0,()))))))))) (.ite (decide (63<wW .i64 (a2-a0))) (
 .grd (decide (0<=bits .and .i64 a2 1)) (.ite (decide (xq2 a1 a2=0)) (.grd (decide (0<=xq0 a1/\xq0 a1<=18446744073709551615)) (.grd (decide (0<=ctzI (xq0 a1))) (.ret (a0,(bits .or .u64 a1 (wW .u64 ((1:Int)*(2:Int)^min (Int.toNat (ctzI (xq0 a1))) (64:Nat))),(wW .i64 (a0+ctzI (xq0 a1)),(0,()))))))) (.grd (decide (0<=xq2 a1 a2/\xq2 a1 a2<=18446744073709551615)) (.grd (decide (0<=ctzI (xq2 a1 a2))) (.ret (a0,(bits .or .u64 a1 (wW .u64 ((1:Int)*(2:Int)^min (Int.toNat (ctzI (xq2 a1 a2))) (64:Nat))),(wW .i64 (a0+ctzI (xq2 a1 a2)),(0,()))))))))) (
 .grd (decide (0<=wW .i64 (a2-a0))) (.ite (decide (bits .and .u64 (Int.fdiv (xq0 a1) ((2:Int)^min (Int.toNat (wW .i64 (a2-a0))) (64:Nat))) (1:Int)=(0:Int))) (.grd (decide (0<=bits .and .i64 a2 1)) (.ite (decide (xq2 a1 a2=0)) (.grd (decide (0<=xq0 a1/\xq0 a1<=18446744073709551615)) (.grd (decide (0<=ctzI (xq0 a1))) (.ret (a0,(bits .or .u64 a1 (wW .u64 ((1:Int)*(2:Int)^min (Int.toNat (ctzI (xq0 a1))) (64:Nat))),(wW .i64 (a0+ctzI (xq0 a1)),(0,()))))))) (.grd (decide (0<=xq2 a1 a2/\xq2 a1 a2<=18446744073709551615)) (
 .grd (decide (0<=ctzI (xq2 a1 a2))) (.ret (a0,(bits .or .u64 a1 (wW .u64 ((1:Int)*(2:Int)^min (Int.toNat (ctzI (xq2 a1 a2))) (64:Nat))),(wW .i64 (a0+ctzI (xq2 a1 a2)),(0,()))))))))) (.grd (decide (0<=wW .i64 (a2-a0))) (.ret (a0,(bits .or .u64 a1 (wW .u64 ((1:Int)*(2:Int)^min (Int.toNat (wW .i64 (a2-a0))) (64:Nat))),(wW .i64 (a0+wW .i64 (a2-a0)),(0,()))))))))))) (.ite (decide (a1=18446744073709551615)) (.ite (true) (.ret (0,(0,(0,(6,()))))) (.ite (decide (wW .i64 (a2-a0)<0)) (.grd (decide (0<=bits .and .i64 a2 1)) (
 .ite (decide (xq2 a1 a2=0)) (.grd (decide (0<=xq0 a1/\xq0 a1<=18446744073709551615)) (.grd (decide (0<=ctzI (xq0 a1))) (.ret (a0,(bits .or .u64 a1 (wW .u64 ((1:Int)*(2:Int)^min (Int.toNat (ctzI (xq0 a1))) (64:Nat))),(wW .i64 (a0+ctzI (xq0 a1)),(0,()))))))) (.grd (decide (0<=xq2 a1 a2/\xq2 a1 a2<=18446744073709551615)) (.grd (decide (0<=ctzI (xq2 a1 a2))) (.ret (a0,(bits .or .u64 a1 (wW .u64 ((1:Int)*(2:Int)^min (Int.toNat (ctzI (xq2 a1 a2))) (64:Nat))),(wW .i64 (a0+ctzI (xq2 a1 a2)),(0,()))))))))) (.ite (decide (63<wW .i64 (a2-a0))) (
 .grd (decide (0<=bits .and .i64 a2 1)) (.ite (decide (xq2 a1 a2=0)) (.grd (decide (0<=xq0 a1/\xq0 a1<=18446744073709551615)) (.grd (decide (0<=ctzI (xq0 a1))) (.ret (a0,(bits .or .u64 a1 (wW .u64 ((1:Int)*(2:Int)^min (Int.toNat (ctzI (xq0 a1))) (64:Nat))),(wW .i64 (a0+ctzI (xq0 a1)),(0,()))))))) (.grd (decide (0<=xq2 a1 a2/\xq2 a1 a2<=18446744073709551615)) (.grd (decide (0<=ctzI (xq2 a1 a2))) (.ret (a0,(bits .or .u64 a1 (wW .u64 ((1:Int)*(2:Int)^min (Int.toNat (ctzI (xq2 a1 a2))) (64:Nat))),(wW .i64 (a0+ctzI (xq2 a1 a2)),(0,()))))))))) (
 .grd (decide (0<=wW .i64 (a2-a0))) (.ite (decide (bits .and .u64 (Int.fdiv (xq0 a1) ((2:Int)^min (Int.toNat (wW .i64 (a2-a0))) (64:Nat))) (1:Int)=(0:Int))) (.grd (decide (0<=bits .and .i64 a2 1)) (.ite (decide (xq2 a1 a2=0)) (.grd (decide (0<=xq0 a1/\xq0 a1<=18446744073709551615)) (.grd (decide (0<=ctzI (xq0 a1))) (.ret (a0,(bits .or .u64 a1 (wW .u64 ((1:Int)*(2:Int)^min (Int.toNat (ctzI (xq0 a1))) (64:Nat))),(wW .i64 (a0+ctzI (xq0 a1)),(0,()))))))) (.grd (decide (0<=xq2 a1 a2/\xq2 a1 a2<=18446744073709551615)) (
 .grd (decide (0<=ctzI (xq2 a1 a2))) (.ret (a0,(bits .or .u64 a1 (wW .u64 ((1:Int)*(2:Int)^min (Int.toNat (ctzI (xq2 a1 a2))) (64:Nat))),(wW .i64 (a0+ctzI (xq2 a1 a2)),(0,()))))))))) (.grd (decide (0<=wW .i64 (a2-a0))) (.ret (a0,(bits .or .u64 a1 (wW .u64 ((1:Int)*(2:Int)^min (Int.toNat (wW .i64 (a2-a0))) (64:Nat))),(wW .i64 (a0+wW .i64 (a2-a0)),(0,()))))))))))) (.ite (!decide (r0.1=0)) (.ret (0,(0,(0,(r0.1,()))))) (.ite (decide (wW .i64 (a2-a0)<0)) (.grd (decide (0<=bits .and .i64 a2 1)) (.ite (decide (xq2 a1 a2=0)) (
 .grd (decide (0<=xq0 a1/\xq0 a1<=18446744073709551615)) (.grd (decide (0<=ctzI (xq0 a1))) (.ret (a0,(bits .or .u64 a1 (wW .u64 ((1:Int)*(2:Int)^min (Int.toNat (ctzI (xq0 a1))) (64:Nat))),(wW .i64 (a0+ctzI (xq0 a1)),(0,()))))))) (.grd (decide (0<=xq2 a1 a2/\xq2 a1 a2<=18446744073709551615)) (.grd (decide (0<=ctzI (xq2 a1 a2))) (.ret (a0,(bits .or .u64 a1 (wW .u64 ((1:Int)*(2:Int)^min (Int.toNat (ctzI (xq2 a1 a2))) (64:Nat))),(wW .i64 (a0+ctzI (xq2 a1 a2)),(0,()))))))))) (.ite (decide (63<wW .i64 (a2-a0))) (
 .grd (decide (0<=bits .and .i64 a2 1)) (.ite (decide (xq2 a1 a2=0)) (.grd (decide (0<=xq0 a1/\xq0 a1<=18446744073709551615)) (.grd (decide (0<=ctzI (xq0 a1))) (.ret (a0,(bits .or .u64 a1 (wW .u64 ((1:Int)*(2:Int)^min (Int.toNat (ctzI (xq0 a1))) (64:Nat))),(wW .i64 (a0+ctzI (xq0 a1)),(0,()))))))) (.grd (decide (0<=xq2 a1 a2/\xq2 a1 a2<=18446744073709551615)) (.grd (decide (0<=ctzI (xq2 a1 a2))) (.ret (a0,(bits .or .u64 a1 (wW .u64 ((1:Int)*(2:Int)^min (Int.toNat (ctzI (xq2 a1 a2))) (64:Nat))),(wW .i64 (a0+ctzI (xq2 a1 a2)),(0,()))))))))) (
 .grd (decide (0<=wW .i64 (a2-a0))) (.ite (decide (bits .and .u64 (Int.fdiv (xq0 a1) ((2:Int)^min (Int.toNat (wW .i64 (a2-a0))) (64:Nat))) (1:Int)=(0:Int))) (.grd (decide (0<=bits .and .i64 a2 1)) (.ite (decide (xq2 a1 a2=0)) (.grd (decide (0<=xq0 a1/\xq0 a1<=18446744073709551615)) (.grd (decide (0<=ctzI (xq0 a1))) (.ret (a0,(bits .or .u64 a1 (wW .u64 ((1:Int)*(2:Int)^min (Int.toNat (ctzI (xq0 a1))) (64:Nat))),(wW .i64 (a0+ctzI (xq0 a1)),(0,()))))))) (.grd (decide (0<=xq2 a1 a2/\xq2 a1 a2<=18446744073709551615)) (
 .grd (decide (0<=ctzI (xq2 a1 a2))) (.ret (a0,(bits .or .u64 a1 (wW .u64 ((1:Int)*(2:Int)^min (Int.toNat (ctzI (xq2 a1 a2))) (64:Nat))),(wW .i64 (a0+ctzI (xq2 a1 a2)),(0,()))))))))) (.grd (decide (0<=wW .i64 (a2-a0))) (.ret (a0,(bits .or .u64 a1 (wW .u64 ((1:Int)*(2:Int)^min (Int.toNat (wW .i64 (a2-a0))) (64:Nat))),(wW .i64 (a0+wW .i64 (a2-a0)),(0,())))))))))))))))
def zar (x:ty2_):Option ty3_:=(znj x).eval
noncomputable def zes:FS Tryz.prog:=mFS [tz64,FS.pf zb5] [] 172 z2z z2y znj fun x=>by kernel_rfl
def z21:List VP1:=[.agg [.i .i64,.i .u64],.one (.i .i64)]
def z20:SP:=⟨1,[(0,.tup [.agg [.i .i64,.i .u64],.one (.i .i64)])],[]⟩
def zcw:ty2_->Tr ty2_ :=
 fun (a0,a1,a2,_) =>.opt ((zau (a0,(a1,())))) (fun r0 =>.ite (!decide (r0.1=0)) (.ret (0,(0,(r0.1,())))) (.ite (decide (a2<a0)) (.ret (0,(0,(7,())))) (.ite (decide (wW .i64 (a0+63)<a2)) (.ret (0,(0,(7,())))) (.grd (decide (0<=wW .i64 (a2-a0))) (.ite (decide (bits .and .u64 (Int.fdiv a1 ((2:Int)^min (Int.toNat (wW .i64 (a2-a0))) (64:Nat))) (1:Int)=(0:Int))) (.ret (0,(0,(7,())))) (.grd (decide (0<=wW .i64 (a2-a0))) (.ret (a0,(bits .xor .u64 a1 (wW .u64 ((1:Int)*(2:Int)^min (Int.toNat (wW .i64 (a2-a0))) (64:Nat))),(0,()))))))))))
def zci (x:ty2_):Option ty2_:=(zcw x).eval
noncomputable def zf8:FS Tryz.prog:=mFS [tz64,FS.pf zb5,FS.pf zes] [] 131 z21 z20 zcw fun x=>by kernel_rfl
open Go Go.RowKit Go.Proofs.YthkhikdglmaiaaaGreatDoor.Abs
open Go.IntKind renaming wrap -> wW
def z1o:List VP1:=[.agg [.i .u32,.i .i64,.i .i64,.i .i64,.i .i64,.i .i64,.st 10 false,.b]]
def z1n:SP:=⟨1,[(0,.v (.one (.i .i64)))],[]⟩
abbrev z6p:Type:=(Int×(Int×(Int×(Int×(Int×(Int×((List TRule)×(Bool×Unit))))))))
def zgw:z6p->Tr (Int×Unit) :=
 fun (a0,a1,a2,a3,a4,a5,a6,a7,_) =>.opt ((zau (a1,(0,())))) (fun r0 =>.ite (!decide (r0.1=0)) (.ret (1,())) (.opt ((zau (a2,(0,())))) (fun r1 =>.ite (!decide (r1.1=0)) (.ret (1,())) (.ite (decide (a3<1)) (.ret (1,())) (.ite (decide (1000000<a3)) (.ret (1,())) (.ite (decide (a4<0)) (.ret (1,())) (.ite (decide (1000000<a4)) (.ret (1,())) (.ite (decide (a5<1)) (.ret (1,())) (.ite (decide (1000000000<a5)) (.ret (1,())) (.opt ((zks (a6,()))) (fun r2 =>.ret (r2.1,()))))))))))))
noncomputable def gm43:List (PF Go.Proofs.Tryz.prog):=gm42++[FS.pf zia,tz64,FS.pf zb5,FS.pf zes,FS.pf zf8]
def zgj (x:z6p):Option (Int×Unit):=(zgw x).eval
noncomputable def zhp:FS Tryz.prog:=mFS gm43 [] 58 z1o z1n zgw fun x=>by kernel_rfl
open Go Go.RowKit Go.Proofs.YthkhikdglmaiaaaGreatDoor.Abs
open Go.IntKind renaming wrap -> wW
theorem zinb (xs:List (τ 17)):(zdq Go.Proofs.Tryz.prog cod 15 [.one (.nn (.st 17 xs))]).eval=(zdm 67 17 40 xs).eval:=by kernel_rfl
theorem zimb:(zdq Go.Proofs.Tryz.prog cod 15 [.one .nil]).eval=some (.one .nil,[]):=by kernel_rfl
def z4e:PF Go.Proofs.Tryz.prog:=zmp Go.Proofs.Tryz.prog cod 15 67 17 40 zinb zimb
def zefb:SP:=⟨33,[(0,.v (.one (.own 1000100))),(1,.v (.one (.i .i64))),(2,.v (.one (.i .i64)))],[(1000100,.row 67 17 true true)]⟩
def zeeb:SP:=⟨1,[(0,.v (.one (.own 1000100)))],[(1000100,.row 67 17 true true)]⟩
abbrev znbb:Type:=(Int×(Int×((List TMap)×Unit)))
def zis:znbb->Tr ((List TMap)×Unit) :=
 fun (a0,a1,a2,_) =>.grd (decide (0<=a0/\a0<=a1/\a1<=(↑(a2.length):Int)/\(↑(a2.length):Int)<=(↑(a2.length):Int))) (.ite (decide (a0=a1)) (gd a2.length (.ret (a2,()))) (.grd (decide (0<=a0/\a0<=(↑(a2.length):Int))) (.grd (decide (0<=a1/\a1<=(↑(a2.length):Int)/\(↑(a2.length):Int)<=(↑(a2.length):Int))) (.grd (decide (Int.toNat a1+Int.toNat ((↑(a2.length):Int)-a1)<=a2.length)) (.grd (decide (Int.toNat a0+List.length (List.take (Int.toNat ((↑(a2.length):Int)-a1)) (List.drop (Int.toNat a1) a2))<=a2.length)) (
 .grd (decide (0<=(↑(Int.toNat a0+List.length (List.take (Int.toNat ((↑(a2.length):Int)-a1)) (List.drop (Int.toNat a1) a2))):Int)/\(↑(Int.toNat a0+List.length (List.take (Int.toNat ((↑(a2.length):Int)-a1)) (List.drop (Int.toNat a1) a2))):Int)<=(↑(a2.length):Int)/\(↑(a2.length):Int)<=(↑(List.length (List.take (Int.toNat a0) a2++List.take (Int.toNat ((↑(a2.length):Int)-a1)) (List.drop (Int.toNat a1) a2)++List.drop (Int.toNat a0+List.length (List.take (Int.toNat ((↑(a2.length):Int)-a1)) (List.drop (Int.toNat a1) a2))) a2)):Int))) (
 .grd (decide (Int.toNat (↑(Int.toNat a0+List.length (List.take (Int.toNat ((↑(a2.length):Int)-a1)) (List.drop (Int.toNat a1) a2))):Int)+Int.toNat ((↑(a2.length):Int)-(↑(Int.toNat a0+List.length (List.take (Int.toNat ((↑(a2.length):Int)-a1)) (List.drop (Int.toNat a1) a2))):Int))<=List.length (List.take (Int.toNat a0) a2++List.take (Int.toNat ((↑(a2.length):Int)-a1)) (List.drop (Int.toNat a1) a2)++List.drop (Int.toNat a0+List.length (List.take (Int.toNat ((↑(a2.length):Int)-a1)) (List.drop (Int.toNat a1) a2))) a2))) (
 .grd (decide (Int.toNat a0+List.length (List.take (Int.toNat ((↑(a2.length):Int)-a1)) (List.drop (Int.toNat a1) a2))=List.length (List.take (Int.toNat a0+List.length (List.take (Int.toNat ((↑(a2.length):Int)-a1)) (List.drop (Int.toNat a1) a2))) (List.take (Int.toNat (↑(Int.toNat a0+List.length (List.take (Int.toNat ((↑(a2.length):Int)-a1)) (List.drop (Int.toNat a1) a2))):Int)) (List.take (Int.toNat a0) a2++List.take (Int.toNat ((↑(a2.length):Int)-a1)) (List.drop (Int.toNat a1) a2)++List.drop (Int.toNat a0+List.length (List.take (Int.toNat ((↑(a2.length):Int)-a1)) (List.drop (Int.toNat a1) a2))) a2)++List.replicate (Int.toNat ((↑(a2.length):Int)-(↑(Int.toNat a0+List.length (List.take (Int.toNat ((↑(a2.length):Int)-a1)) (List.drop (Int.toNat a1) a2))):Int))) (TMap.mk (0:Int) (0:Int) (0:Int) (0:Int) (0:Int))++List.drop (Int.toNat (↑(Int.toNat a0+List.length (List.take (Int.toNat ((↑(a2.length):Int)-a1)) (List.drop (Int.toNat a1) a2))):Int)+List.length (List.replicate (Int.toNat ((↑(a2.length):Int)-(↑(Int.toNat a0+List.length (List.take (Int.toNat ((↑(a2.length):Int)-a1)) (List.drop (Int.toNat a1) a2))):Int))) (TMap.mk (0:Int) (0:Int) (0:Int) (0:Int) (0:Int)))) (List.take (Int.toNat a0) a2++List.take (Int.toNat ((↑(a2.length):Int)-a1)) (List.drop (Int.toNat a1) a2)++List.drop (Int.toNat a0+List.length (List.take (Int.toNat ((↑(a2.length):Int)-a1)) (List.drop (Int.toNat a1) a2))) a2))))) (
 .ret (List.take (Int.toNat a0+List.length (List.take (Int.toNat ((↑(a2.length):Int)-a1)) (List.drop (Int.toNat a1) a2))) (List.take (Int.toNat (↑(Int.toNat a0+List.length (List.take (Int.toNat ((↑(a2.length):Int)-a1)) (List.drop (Int.toNat a1) a2))):Int)) (List.take (Int.toNat a0) a2++List.take (Int.toNat ((↑(a2.length):Int)-a1)) (List.drop (Int.toNat a1) a2)++List.drop (Int.toNat a0+List.length (List.take (Int.toNat ((↑(a2.length):Int)-a1)) (List.drop (Int.toNat a1) a2))) a2)++List.replicate (Int.toNat ((↑(a2.length):Int)-(↑(Int.toNat a0+List.length (List.take (Int.toNat ((↑(a2.length):Int)-a1)) (List.drop (Int.toNat a1) a2))):Int))) (TMap.mk (0:Int) (0:Int) (0:Int) (0:Int) (0:Int))++List.drop (Int.toNat (↑(Int.toNat a0+List.length (List.take (Int.toNat ((↑(a2.length):Int)-a1)) (List.drop (Int.toNat a1) a2))):Int)+List.length (List.replicate (Int.toNat ((↑(a2.length):Int)-(↑(Int.toNat a0+List.length (List.take (Int.toNat ((↑(a2.length):Int)-a1)) (List.drop (Int.toNat a1) a2))):Int))) (TMap.mk (0:Int) (0:Int) (0:Int) (0:Int) (0:Int)))) (List.take (Int.toNat a0) a2++List.take (Int.toNat ((↑(a2.length):Int)-a1)) (List.drop (Int.toNat a1) a2)++List.drop (Int.toNat a0+List.length (List.take (Int.toNat ((↑(a2.length):Int)-a1)) (List.drop (Int.toNat a1) a2))) a2)),()))))))))))
noncomputable def gm44:List (PF Go.Proofs.Tryz.prog):=[tz64,FS.pf zb5,FS.pf zes,FS.pf zf8,z4e]
def zdl (x:znbb):Option ((List TMap)×Unit):=(zis x).eval
noncomputable def ztw:GS Tryz.prog:=mGS gm44 [] 171 [1,0,0] zefb zeeb zis fun x=>by kernel_rfl
def z32:LS:=⟨4,[],⟨26,[(13,.v (.one (.i .i64))),(1,.v (.one (.st 17 false))),(0,.v (.one (.st 17 false))),(12,.v (.one (.i .i64)))],[]⟩,[⟨none,[],⟨26,[(4,.v (.one (.b)))],[]⟩⟩,⟨some 0,[],⟨26,[],[]⟩⟩],[]⟩
abbrev znab:Type:=(Int×((List TMap)×((List TMap)×(Int×Unit))))
def zlp:znab->Tr (znab⊕((Bool×Unit)⊕Unit)) :=
 fun (a0,a1,a2,a3,_) =>.ite (decide (a0<a3)) (.grd (decide (0<=a0)) (.opt (a2[Int.toNat a0]?) (fun r0 =>.grd (decide (0<=a0)) (.opt (a1[Int.toNat a0]?) (fun r1 =>.ite (!(decide (r0.proto=r1.proto)&&(decide (r0.addr=r1.addr)&&(decide (r0.port=r1.port)&&(decide (r0.out=r1.out)&&(decide (r0.at'=r1.at')&&true)))))) (.ret (Sum.inr (Sum.inl (false,())))) (.ret (Sum.inl (wW .i64 (a0+1),(a1,(a2,(a3,()))))))))))) (.ret (Sum.inr (Sum.inr ())))
def zlq:=lpT 200004 zlp
def zhxb:List VP1:=[.one (.st 17 false),.one (.st 17 false)]
def zhwb:SP:=⟨1,[(0,.v (.one (.b)))],[]⟩
abbrev zm9b:Type:=((List TMap)×((List TMap)×Unit))
def zwb:zm9b->Tr (Bool×Unit) :=
 fun (a0,a1,_) =>.ite (!decide ((↑(a0.length):Int)=(↑(a1.length):Int))) (.ret (false,())) (.opt ((zlq (0,(a1,(a0,((↑(a0.length):Int),())))))) (fun r0 =>.sum (r0) (fun r1 =>.ret (r1.1,())) (fun r1 =>.ret (true,()))))
noncomputable def gm45:List (PF Go.Proofs.Tryz.prog):=gm44++[GS.pf ztw]
def z5v (x:zm9b):Option (Bool×Unit):=(zwb x).eval
noncomputable def z33:FS Tryz.prog:=mFS gm45 [(20,z32)] 20 zhxb zhwb zwb fun x=>by kernel_rfl
def zqo:LS:=⟨2,[(1000200,1000200),(1000201,1000201),(1000202,1000202)],⟨19,[(8,.v (.one (.i .i64))),(0,.v (.one (.st 17 false))),(1,.v (.one (.clp 162 [(1000200,0),(1000201,0),(1000202,0)]))),(7,.v (.one (.i .i64)))],[(1000200,.cells [.i .i64]),(1000201,.cells [.i .u32]),(1000202,.cells [.i .i64])]⟩,[⟨none,[(1000200,1000200),(1000201,1000201),(1000202,1000202)],⟨19,[(4,.v (.one (.i .i64)))],[(1000200,.cells [.i .i64]),(1000201,.cells [.i .u32]),(1000202,.cells [.i .i64])]⟩⟩,⟨some 0,[(1000200,1000200),(1000201,1000201),(1000202,1000202)],⟨19,[],[(1000200,.cells [.i .i64]),(1000201,.cells [.i .u32]),(1000202,.cells [.i .i64])]⟩⟩],[]⟩
abbrev zm8b:Type:=(Int×((List TMap)×(Int×(Int×(Int×(Int×Unit))))))
def zbd:zm8b->Tr (zm8b⊕(ty3_⊕ty2_)) :=
 fun (a0,a1,a2,a3,a4,a5,_) =>.ite (decide (a0<a2)) (.grd (decide (0<=a0)) (.opt (a1[Int.toNat a0]?) (fun r0 =>.ite (decide (r0.proto=a3)) (.ite (decide (r0.addr=a4)) (.ite (decide (r0.port=a5)) (.ret (Sum.inr (Sum.inl (a0,(a3,(a4,(a5,()))))))) (.ret (Sum.inl (wW .i64 (a0+1),(a1,(a2,(a3,(a4,(a5,()))))))))) (.ite (false) (.ret (Sum.inr (Sum.inl (a0,(a3,(a4,(a5,()))))))) (.ret (Sum.inl (wW .i64 (a0+1),(a1,(a2,(a3,(a4,(a5,())))))))))) (.ite (false) (.ret (Sum.inr (Sum.inl (a0,(a3,(a4,(a5,()))))))) (
 .ret (Sum.inl (wW .i64 (a0+1),(a1,(a2,(a3,(a4,(a5,())))))))))))) (.ret (Sum.inr (Sum.inr (a3,(a4,(a5,()))))))
def zfo:=lpT 1610002 zbd
def z0f:List VP1:=[.agg [.i .i64,.i .i64,.i .u64,.i .i64,.i .u64,.st 17 false],.one (.i .i64),.one (.i .u32),.one (.i .i64)]
def z0e:SP:=⟨1,[(0,.v (.one (.i .i64)))],[]⟩
abbrev zf7b:Type:=(Int×(Int×(Int×(Int×(Int×((List TMap)×(Int×(Int×(Int×Unit)))))))))
def zlk:zf7b->Tr (Int×Unit) :=
 fun (a0,a1,a2,a3,a4,a5,a6,a7,a8,_) =>.opt ((zfo (0,(a5,((↑(a5.length):Int),(a6,(a7,(a8,())))))))) (fun r0 =>.sum (r0) (fun r1 =>.ret (r1.1,())) (fun r1 =>.ret ((-1:Int),())))
noncomputable def gm46:List (PF Go.Proofs.Tryz.prog):=gm45++[FS.pf z33]
def zbo (x:zf7b):Option (Int×Unit):=(zlk x).eval
noncomputable def zfp:FS Tryz.prog:=mFS gm46 [(161,zqo)] 130 z0f z0e zlk fun x=>by kernel_rfl
def zur:LS:=⟨9,[(1,1),(4,4)],⟨103,[(33,.v (.one (.i .i64))),(1,.v (.one (.ptr 1 0))),(5,.v (.one (.i .i64))),(4,.v (.one (.ptr 4 0))),(31,.v (.one (.st 17 false))),(32,.v (.one (.i .i64)))],[(1,.cells [.i .i64,.i .i64,.i .u64,.i .i64,.i .u64,.st 17 false]),(4,.cells [.i .i64,.i .i64,.i .u64,.i .i64,.i .u64,.st 17 false])]⟩,[⟨none,[],⟨103,[(2,.v (.one (.i .i64)))],[]⟩⟩,⟨some 0,[(4,4)],⟨103,[(4,.v (.one (.ptr 4 0)))],[(4,.cells [.i .i64,.i .i64,.i .u64,.i .i64,.i .u64,.st 17 false])]⟩⟩],[]⟩
abbrev zm7b:Type:=(Int×(Int×((List TMap)×(Int×(Int×(Int×(Int×(Int×(Int×((List TMap)×(Int×(Int×(Int×(Int×(Int×((List TMap)×Unit))))))))))))))))
abbrev zy1:Type:=(Int×(Int×(Int×(Int×(Int×((List TMap)×Unit))))))
def zap:zm7b->Tr (zm7b⊕((Int×Unit)⊕zy1)) :=
 fun (a0,a1,a2,a3,a4,a5,a6,a7,a8,a9,a10,a11,a12,a13,a14,a15,_) =>.ite (decide (a0<a3)) (.grd (decide (0<=a0)) (.opt (a2[Int.toNat a0]?) (fun r0 =>.ite (decide (r0.proto=17)) (.ite (false) (.ret (Sum.inr (Sum.inl (4,())))) (.ite (decide (r0.port<0)) (.ret (Sum.inr (Sum.inl (4,())))) (.ite (decide (65535<r0.port)) (.ret (Sum.inr (Sum.inl (4,())))) (.ite (decide (r0.at'<a1)) (.ret (Sum.inr (Sum.inl (4,())))) (.ite (decide (1099511627776<r0.at')) (.ret (Sum.inr (Sum.inl (4,())))) (
 .opt ((zbo (a4,(a5,(a6,(a7,(a8,(a9,(r0.proto,(r0.addr,(r0.port,()))))))))))) (fun r1 =>.ite (!decide (r1.1=a0)) (.ret (Sum.inr (Sum.inl (4,())))) (.opt ((zci (a11,(a12,(r0.out,()))))) (fun r2 =>.ite (!decide (r2.2.2.1=0)) (.ret (Sum.inr (Sum.inl (4,())))) (.ret (Sum.inl (wW .i64 (a0+1),(r0.at',(a2,(a3,(a4,(a5,(a6,(a7,(a8,(a9,(a10,(r2.1,(r2.2.1,(a13,(a14,(a15,()))))))))))))))))))))))))))) (.ite (decide (r0.proto=6)) (.ite (false) (.ret (Sum.inr (Sum.inl (4,())))) (.ite (decide (r0.port<0)) (.ret (Sum.inr (Sum.inl (4,())))) (
 .ite (decide (65535<r0.port)) (.ret (Sum.inr (Sum.inl (4,())))) (.ite (decide (r0.at'<a1)) (.ret (Sum.inr (Sum.inl (4,())))) (.ite (decide (1099511627776<r0.at')) (.ret (Sum.inr (Sum.inl (4,())))) (.opt ((zbo (a4,(a5,(a6,(a7,(a8,(a9,(r0.proto,(r0.addr,(r0.port,()))))))))))) (fun r1 =>.ite (!decide (r1.1=a0)) (.ret (Sum.inr (Sum.inl (4,())))) (.opt ((zci (a13,(a14,(r0.out,()))))) (fun r2 =>.ite (!decide (r2.2.2.1=0)) (.ret (Sum.inr (Sum.inl (4,())))) (
 .ret (Sum.inl (wW .i64 (a0+1),(r0.at',(a2,(a3,(a4,(a5,(a6,(a7,(a8,(a9,(a10,(a11,(a12,(r2.1,(r2.2.1,(a15,()))))))))))))))))))))))))))) (.ite (true) (.ret (Sum.inr (Sum.inl (4,())))) (.ite (decide (r0.port<0)) (.ret (Sum.inr (Sum.inl (4,())))) (.ite (decide (65535<r0.port)) (.ret (Sum.inr (Sum.inl (4,())))) (.ite (decide (r0.at'<a1)) (.ret (Sum.inr (Sum.inl (4,())))) (.ite (decide (1099511627776<r0.at')) (.ret (Sum.inr (Sum.inl (4,())))) (.opt ((zbo (a4,(a5,(a6,(a7,(a8,(a9,(r0.proto,(r0.addr,(r0.port,()))))))))))) (fun r1 =>.ite (!decide (r1.1=a0)) (
 .ret (Sum.inr (Sum.inl (4,())))) (
 .fail 3)))))))))))) (.ret (Sum.inr (Sum.inr (a10,(a11,(a12,(a13,(a14,(a15,())))))))))
def zhh:=lpT 840009 zap
def z3f:List VP1:=[.agg [.i .i64,.i .i64,.i .u64,.i .i64,.i .u64,.st 17 false]]
def z3d:SP:=⟨1,[(0,.v (.one (.i .i64)))],[]⟩
def zns:zy1->Tr (Int×Unit) :=
 fun (a0,a1,a2,a3,a4,a5,_) =>.ite (decide (a0<1)) (.ret (1,())) (.ite (decide (1000000<a0)) (.ret (1,())) (.opt ((zau (a1,(a2,())))) (fun r0 =>.opt ((zau (a3,(a4,())))) (fun r1 =>.ite (!decide ((if false=true then if r1.1<r0.1 then r1.1 else r0.1 else if r1.1>r0.1 then r1.1 else r0.1)=0)) (.ret (if false=true then if r1.1<r0.1 then r1.1 else r0.1 else if r1.1>r0.1 then r1.1 else r0.1,())) (.opt ((zhh (0,(0,(a5,((↑(a5.length):Int),(a0,(a1,(a2,(a3,(a4,(a5,(a0,(a1,(a2,(a3,(a4,(a5,())))))))))))))))))) (fun r2 =>.sum (r2) (fun r3 =>
 .ret (r3.1,())) (fun r3 =>.ite (!decide (r3.2.2.1=0)) (.ret (4,())) (.ite (!decide ((y4 r3)=0)) (.ret (4,())) (.ret (0,()))))))))))
noncomputable def gm47:List (PF Go.Proofs.Tryz.prog):=gm46++[FS.pf zfp]
def zc6 (x:zy1):Option (Int×Unit):=(zns x).eval
noncomputable def zii:FS Tryz.prog:=mFS gm47 [(84,zur)] 84 z3f z3d zns fun x=>by kernel_rfl
open Go Go.RowKit Go.Proofs.YthkhikdglmaiaaaGreatDoor.Abs
open Go.IntKind renaming wrap -> wW
def zih:PF Go.Proofs.Tryz.prog:=⟨129,[1,0],fun _ _=>none,fun _ _ _ _ _ h _=>by cases h⟩
def zqp:LS:=⟨1,[(1000000,1000000),(1000100,1000100)],⟨68,[(4,.v (.one (.i .i64))),(0,.v (.one (.ptr 1000000 0))),(1,.v (.one (.i .i64)))],[(1000000,.cells [.i .i64,.i .i64,.i .u64,.i .i64,.i .u64,.own 1000100]),(1000100,.row 67 17 true true)]⟩,[⟨some 0,[(1000000,1000000),(1000100,1000100)],⟨68,[(4,.v (.one (.i .i64))),(0,.v (.one (.ptr 1000000 0)))],[(1000000,.cells [.i .i64,.i .i64,.i .u64,.i .i64,.i .u64,.own 1000100]),(1000100,.row 67 17 true true)]⟩⟩],[]⟩
abbrev zm6b:Type:=(Int×(Int×(Int×(Int×(Int×(Int×(Int×((List TMap)×Unit))))))))
abbrev zjpb:Type:=(Int×(Int×(Int×(Int×(Int×(Int×((List TMap)×Unit)))))))
def zfq:zm6b->Tr (zm6b⊕zjpb) :=
 fun (a0,a1,a2,a3,a4,a5,a6,a7,_) =>.ite (decide (a0<(↑(a7.length):Int))) (.grd (decide (0<=a0/\a0<(↑(a7.length):Int))) (.opt (a7[Int.toNat a0]?) (fun r0 =>.ite (decide (a2<wW .i64 (a1-r0.at'))) (.grd (decide (0<=a0/\a0<(↑(a7.length):Int))) (.opt (a7[Int.toNat a0]?) (fun r1 =>.ite (decide (r1.proto=17)) (.grd (decide (0<=a0/\a0<(↑(a7.length):Int))) (.opt (a7[Int.toNat a0]?) (fun r2 =>.opt ((zci (a3,(a4,(r2.out,()))))) (fun r3 =>gd a7.length (.ret (Sum.inl (wW .i64 (a0+1),(a1,(a2,(r3.1,(r3.2.1,(a5,(a6,(a7,())))))))))))))) (
 .ite (decide (r1.proto=6)) (.grd (decide (0<=a0/\a0<(↑(a7.length):Int))) (.opt (a7[Int.toNat a0]?) (fun r2 =>.opt ((zci (a5,(a6,(r2.out,()))))) (fun r3 =>gd a7.length (.ret (Sum.inl (wW .i64 (a0+1),(a1,(a2,(a3,(a4,(r3.1,(r3.2.1,(a7,())))))))))))))) (
 .fail 3))))) (gd a7.length (.ret (Sum.inr (a0,(a2,(a3,(a4,(a5,(a6,(a7,()))))))))))))) (gd a7.length (.ret (Sum.inr (a0,(a2,(a3,(a4,(a5,(a6,(a7,()))))))))))
def zfr:=lpT 1700001 zfq
def z0k:SP:=⟨68,[(0,.v (.one (.ptr 1000000 0))),(1,.v (.one (.i .i64)))],[(1000000,.cells [.i .i64,.i .i64,.i .u64,.i .i64,.i .u64,.own 1000100]),(1000100,.row 67 17 true true)]⟩
def z0j:SP:=⟨1,[(0,.tup [])],[(1000000,.cells [.i .i64,.i .i64,.i .u64,.i .i64,.i .u64,.own 1000100]),(1000100,.row 67 17 true true)]⟩
def zll:zjpb->Tr zy1 :=
 fun (a0,a1,a2,a3,a4,a5,a6,_) =>gd a6.length (.opt ((zfr (0,(a0,(a1,(a2,(a3,(a4,(a5,(a6,())))))))))) (fun r0 =>gd (y6 r0).length (.opt ((zdl (0,(r0.1,(y6 r0,()))))) (fun r1 =>.grd (decide (List.length r1.fst=List.length r1.1)) (.ret (r0.2.1,(r0.2.2.1,(y3 r0,(y4 r0,(y5 r0,(r1.1,())))))))))))
noncomputable def gm48:List (PF Go.Proofs.Tryz.prog):=gm47++[FS.pf zii,zih]
def zc7 (x:zjpb):Option zy1:=(zll x).eval
noncomputable def zfs:GS Tryz.prog:=mGS gm48 [(170,zqp)] 170 [1,0] z0k z0j zll fun x=>by kernel_rfl
def zb2b:List VP1:=[.agg [.i .i64,.i .i64,.i .u64,.i .i64,.i .u64,.st 17 false],.one (.i .i64),.one (.i .u32),.one (.i .i64),.one (.i .i64)]
def zb1b:SP:=⟨1,[(0,.tup [.agg [.i .i64,.i .i64,.i .u64,.i .i64,.i .u64,.st 17 true],.one (.i .i64),.one (.i .i64)])],[]⟩
abbrev zm5b:Type:=(Int×(Int×(Int×(Int×(Int×((List TMap)×(Int×(Int×(Int×(Int×Unit))))))))))
abbrev zm4b:Type:=(Int×(Int×(Int×(Int×(Int×((List TMap)×(Int×(Int×Unit))))))))
def zsu:zm5b->Tr zm4b :=
 fun (a0,a1,a2,a3,a4,a5,a6,a7,a8,a9,_) =>.grd (decide (((0:Nat)+a5.length)*(40:Nat)<=(140737488355328:Nat)/\(0:Nat)+a5.length<=(9223372036854775807:Nat))) (.opt ((zc6 (a0,(a1,(a2,(a3,(a4,(a5,())))))))) (fun r0 =>.ite (!decide (r0.1=0)) (.ret (a0,(a1,(a2,(a3,(a4,(a5,(0,(r0.1,()))))))))) (.ite (decide (0<(↑(a5.length):Int))) (.grd (decide (0<=wW .i64 ((↑(a5.length):Int)-1)/\wW .i64 ((↑(a5.length):Int)-1)<(↑(a5.length):Int))) (.opt (a5[Int.toNat (wW .i64 ((↑(a5.length):Int)-1))]?) (fun r1 =>.ite (!decide (a6=6)) (
 .ite (!decide (a6=17)) (.ret (a0,(a1,(a2,(a3,(a4,(a5,(0,(7,()))))))))) (.ite (decide (a8<0)) (.ret (a0,(a1,(a2,(a3,(a4,(a5,(0,(1,()))))))))) (.ite (decide (65535<a8)) (.ret (a0,(a1,(a2,(a3,(a4,(a5,(0,(1,()))))))))) (.ite (decide (a9<r1.at')) (.ret (a0,(a1,(a2,(a3,(a4,(a5,(0,(1,()))))))))) (.ite (decide (1099511627776<a9)) (.ret (a0,(a1,(a2,(a3,(a4,(a5,(0,(1,()))))))))) (.grd (decide (((0:Nat)+a5.length)*(40:Nat)<=(140737488355328:Nat)/\(0:Nat)+a5.length<=(9223372036854775807:Nat))) (gd a5.length (
 .opt ((zc7 (a9,(a0,(a1,(a2,(a3,(a4,(a5,()))))))))) (fun r2 =>.opt ((zbo (r2.1,(r2.2.1,(r2.2.2.1,(y3 r2,(y4 r2,(y5 r2,(a6,(a7,(a8,()))))))))))) (fun r3 =>.ite (decide (0<=r3.1)) (.grd (decide (0<=r3.1/\r3.1<(↑((y5 r2).length):Int))) (.opt ((y5 r2)[Int.toNat r3.1]?) (fun r4 =>gd (y5 r2).length (.opt ((zdl (r3.1,(wW .i64 (r3.1+1),(y5 r2,()))))) (fun r5 =>
 .grd (decide ((List.length r5.1+List.length [TMap.mk a6 a7 a8 r4.out a9])*(40:Nat)<=(140737488355328:Nat)/\List.length r5.1+List.length [TMap.mk a6 a7 a8 r4.out a9]<=(9223372036854775807:Nat))) (.ret (r2.1,(r2.2.1,(r2.2.2.1,(y3 r2,(y4 r2,(r5.1++[TMap.mk a6 a7 a8 r4.out a9],(r4.out,(0,())))))))))))))) (.ite (decide (a6=17)) (.opt ((zar (r2.2.1,(r2.2.2.1,(a8,()))))) (fun r4 =>.ite (!decide ((y3 r4)=0)) (.ret (a0,(a1,(a2,(a3,(a4,(a5,(0,(y3 r4,()))))))))) (
 .grd (decide (((y5 r2).length+List.length [TMap.mk a6 a7 a8 r4.2.2.1 a9])*(40:Nat)<=(140737488355328:Nat)/\(y5 r2).length+List.length [TMap.mk a6 a7 a8 r4.2.2.1 a9]<=(9223372036854775807:Nat))) (.ret (r2.1,(r4.1,(r4.2.1,(y3 r2,(y4 r2,((y5 r2)++[TMap.mk a6 a7 a8 r4.2.2.1 a9],(r4.2.2.1,(0,())))))))))))) (.ite (decide (a6=6)) (.opt ((zar (y3 r2,(y4 r2,(a8,()))))) (fun r4 =>.ite (!decide ((y3 r4)=0)) (.ret (a0,(a1,(a2,(a3,(a4,(a5,(0,(y3 r4,()))))))))) (
 .grd (decide (((y5 r2).length+List.length [TMap.mk a6 a7 a8 r4.2.2.1 a9])*(40:Nat)<=(140737488355328:Nat)/\(y5 r2).length+List.length [TMap.mk a6 a7 a8 r4.2.2.1 a9]<=(9223372036854775807:Nat))) (.ret (r2.1,(r2.2.1,(r2.2.2.1,(r4.1,(r4.2.1,((y5 r2)++[TMap.mk a6 a7 a8 r4.2.2.1 a9],(r4.2.2.1,(0,())))))))))))) (
 .fail 3))))))))))))) (.ite (decide (a8<0)) (.ret (a0,(a1,(a2,(a3,(a4,(a5,(0,(1,()))))))))) (.ite (decide (65535<a8)) (.ret (a0,(a1,(a2,(a3,(a4,(a5,(0,(1,()))))))))) (.ite (decide (a9<r1.at')) (.ret (a0,(a1,(a2,(a3,(a4,(a5,(0,(1,()))))))))) (.ite (decide (1099511627776<a9)) (.ret (a0,(a1,(a2,(a3,(a4,(a5,(0,(1,()))))))))) (.grd (decide (((0:Nat)+a5.length)*(40:Nat)<=(140737488355328:Nat)/\(0:Nat)+a5.length<=(9223372036854775807:Nat))) (gd a5.length (.opt ((zc7 (a9,(a0,(a1,(a2,(a3,(a4,(a5,()))))))))) (fun r2 =>
 .opt ((zbo (r2.1,(r2.2.1,(r2.2.2.1,(y3 r2,(y4 r2,(y5 r2,(a6,(a7,(a8,()))))))))))) (fun r3 =>.ite (decide (0<=r3.1)) (.grd (decide (0<=r3.1/\r3.1<(↑((y5 r2).length):Int))) (.opt ((y5 r2)[Int.toNat r3.1]?) (fun r4 =>gd (y5 r2).length (.opt ((zdl (r3.1,(wW .i64 (r3.1+1),(y5 r2,()))))) (fun r5 =>.grd (decide ((List.length r5.1+List.length [TMap.mk a6 a7 a8 r4.out a9])*(40:Nat)<=(140737488355328:Nat)/\List.length r5.1+List.length [TMap.mk a6 a7 a8 r4.out a9]<=(9223372036854775807:Nat))) (
 .ret (r2.1,(r2.2.1,(r2.2.2.1,(y3 r2,(y4 r2,(r5.1++[TMap.mk a6 a7 a8 r4.out a9],(r4.out,(0,())))))))))))))) (.ite (decide (a6=17)) (.opt ((zar (r2.2.1,(r2.2.2.1,(a8,()))))) (fun r4 =>.ite (!decide ((y3 r4)=0)) (.ret (a0,(a1,(a2,(a3,(a4,(a5,(0,(y3 r4,()))))))))) (.grd (decide (((y5 r2).length+List.length [TMap.mk a6 a7 a8 r4.2.2.1 a9])*(40:Nat)<=(140737488355328:Nat)/\(y5 r2).length+List.length [TMap.mk a6 a7 a8 r4.2.2.1 a9]<=(9223372036854775807:Nat))) (
 .ret (r2.1,(r4.1,(r4.2.1,(y3 r2,(y4 r2,((y5 r2)++[TMap.mk a6 a7 a8 r4.2.2.1 a9],(r4.2.2.1,(0,())))))))))))) (.ite (decide (a6=6)) (.opt ((zar (y3 r2,(y4 r2,(a8,()))))) (fun r4 =>.ite (!decide ((y3 r4)=0)) (.ret (a0,(a1,(a2,(a3,(a4,(a5,(0,(y3 r4,()))))))))) (.grd (decide (((y5 r2).length+List.length [TMap.mk a6 a7 a8 r4.2.2.1 a9])*(40:Nat)<=(140737488355328:Nat)/\(y5 r2).length+List.length [TMap.mk a6 a7 a8 r4.2.2.1 a9]<=(9223372036854775807:Nat))) (
 .ret (r2.1,(r2.2.1,(r2.2.2.1,(r4.1,(r4.2.1,((y5 r2)++[TMap.mk a6 a7 a8 r4.2.2.1 a9],(r4.2.2.1,(0,())))))))))))) (
 .fail 3))))))))))))))) (.ite (!decide (a6=6)) (.ite (!decide (a6=17)) (.ret (a0,(a1,(a2,(a3,(a4,(a5,(0,(7,()))))))))) (.ite (decide (a8<0)) (.ret (a0,(a1,(a2,(a3,(a4,(a5,(0,(1,()))))))))) (.ite (decide (65535<a8)) (.ret (a0,(a1,(a2,(a3,(a4,(a5,(0,(1,()))))))))) (.ite (decide (a9<0)) (.ret (a0,(a1,(a2,(a3,(a4,(a5,(0,(1,()))))))))) (.ite (decide (1099511627776<a9)) (.ret (a0,(a1,(a2,(a3,(a4,(a5,(0,(1,()))))))))) (
 .grd (decide (((0:Nat)+a5.length)*(40:Nat)<=(140737488355328:Nat)/\(0:Nat)+a5.length<=(9223372036854775807:Nat))) (gd a5.length (.opt ((zc7 (a9,(a0,(a1,(a2,(a3,(a4,(a5,()))))))))) (fun r1 =>.opt ((zbo (r1.1,(r1.2.1,(r1.2.2.1,(y3 r1,(y4 r1,(y5 r1,(a6,(a7,(a8,()))))))))))) (fun r2 =>.ite (decide (0<=r2.1)) (.grd (decide (0<=r2.1/\r2.1<(↑((y5 r1).length):Int))) (.opt ((y5 r1)[Int.toNat r2.1]?) (fun r3 =>gd (y5 r1).length (.opt ((zdl (r2.1,(wW .i64 (r2.1+1),(y5 r1,()))))) (fun r4 =>
 .grd (decide ((List.length r4.1+List.length [TMap.mk a6 a7 a8 r3.out a9])*(40:Nat)<=(140737488355328:Nat)/\List.length r4.1+List.length [TMap.mk a6 a7 a8 r3.out a9]<=(9223372036854775807:Nat))) (.ret (r1.1,(r1.2.1,(r1.2.2.1,(y3 r1,(y4 r1,(r4.1++[TMap.mk a6 a7 a8 r3.out a9],(r3.out,(0,())))))))))))))) (.ite (decide (a6=17)) (.opt ((zar (r1.2.1,(r1.2.2.1,(a8,()))))) (fun r3 =>.ite (!decide ((y3 r3)=0)) (.ret (a0,(a1,(a2,(a3,(a4,(a5,(0,(y3 r3,()))))))))) (
 .grd (decide (((y5 r1).length+List.length [TMap.mk a6 a7 a8 r3.2.2.1 a9])*(40:Nat)<=(140737488355328:Nat)/\(y5 r1).length+List.length [TMap.mk a6 a7 a8 r3.2.2.1 a9]<=(9223372036854775807:Nat))) (.ret (r1.1,(r3.1,(r3.2.1,(y3 r1,(y4 r1,((y5 r1)++[TMap.mk a6 a7 a8 r3.2.2.1 a9],(r3.2.2.1,(0,())))))))))))) (.ite (decide (a6=6)) (.opt ((zar (y3 r1,(y4 r1,(a8,()))))) (fun r3 =>.ite (!decide ((y3 r3)=0)) (.ret (a0,(a1,(a2,(a3,(a4,(a5,(0,(y3 r3,()))))))))) (
 .grd (decide (((y5 r1).length+List.length [TMap.mk a6 a7 a8 r3.2.2.1 a9])*(40:Nat)<=(140737488355328:Nat)/\(y5 r1).length+List.length [TMap.mk a6 a7 a8 r3.2.2.1 a9]<=(9223372036854775807:Nat))) (.ret (r1.1,(r1.2.1,(r1.2.2.1,(r3.1,(r3.2.1,((y5 r1)++[TMap.mk a6 a7 a8 r3.2.2.1 a9],(r3.2.2.1,(0,())))))))))))) (
 .fail 3))))))))))))) (.ite (decide (a8<0)) (.ret (a0,(a1,(a2,(a3,(a4,(a5,(0,(1,()))))))))) (.ite (decide (65535<a8)) (.ret (a0,(a1,(a2,(a3,(a4,(a5,(0,(1,()))))))))) (.ite (decide (a9<0)) (.ret (a0,(a1,(a2,(a3,(a4,(a5,(0,(1,()))))))))) (.ite (decide (1099511627776<a9)) (.ret (a0,(a1,(a2,(a3,(a4,(a5,(0,(1,()))))))))) (.grd (decide (((0:Nat)+a5.length)*(40:Nat)<=(140737488355328:Nat)/\(0:Nat)+a5.length<=(9223372036854775807:Nat))) (gd a5.length (.opt ((zc7 (a9,(a0,(a1,(a2,(a3,(a4,(a5,()))))))))) (fun r1 =>
 .opt ((zbo (r1.1,(r1.2.1,(r1.2.2.1,(y3 r1,(y4 r1,(y5 r1,(a6,(a7,(a8,()))))))))))) (fun r2 =>.ite (decide (0<=r2.1)) (.grd (decide (0<=r2.1/\r2.1<(↑((y5 r1).length):Int))) (.opt ((y5 r1)[Int.toNat r2.1]?) (fun r3 =>gd (y5 r1).length (.opt ((zdl (r2.1,(wW .i64 (r2.1+1),(y5 r1,()))))) (fun r4 =>.grd (decide ((List.length r4.1+List.length [TMap.mk a6 a7 a8 r3.out a9])*(40:Nat)<=(140737488355328:Nat)/\List.length r4.1+List.length [TMap.mk a6 a7 a8 r3.out a9]<=(9223372036854775807:Nat))) (
 .ret (r1.1,(r1.2.1,(r1.2.2.1,(y3 r1,(y4 r1,(r4.1++[TMap.mk a6 a7 a8 r3.out a9],(r3.out,(0,())))))))))))))) (.ite (decide (a6=17)) (.opt ((zar (r1.2.1,(r1.2.2.1,(a8,()))))) (fun r3 =>.ite (!decide ((y3 r3)=0)) (.ret (a0,(a1,(a2,(a3,(a4,(a5,(0,(y3 r3,()))))))))) (.grd (decide (((y5 r1).length+List.length [TMap.mk a6 a7 a8 r3.2.2.1 a9])*(40:Nat)<=(140737488355328:Nat)/\(y5 r1).length+List.length [TMap.mk a6 a7 a8 r3.2.2.1 a9]<=(9223372036854775807:Nat))) (
 .ret (r1.1,(r3.1,(r3.2.1,(y3 r1,(y4 r1,((y5 r1)++[TMap.mk a6 a7 a8 r3.2.2.1 a9],(r3.2.2.1,(0,())))))))))))) (.ite (decide (a6=6)) (.opt ((zar (y3 r1,(y4 r1,(a8,()))))) (fun r3 =>.ite (!decide ((y3 r3)=0)) (.ret (a0,(a1,(a2,(a3,(a4,(a5,(0,(y3 r3,()))))))))) (.grd (decide (((y5 r1).length+List.length [TMap.mk a6 a7 a8 r3.2.2.1 a9])*(40:Nat)<=(140737488355328:Nat)/\(y5 r1).length+List.length [TMap.mk a6 a7 a8 r3.2.2.1 a9]<=(9223372036854775807:Nat))) (
 .ret (r1.1,(r1.2.1,(r1.2.2.1,(r3.1,(r3.2.1,((y5 r1)++[TMap.mk a6 a7 a8 r3.2.2.1 a9],(r3.2.2.1,(0,())))))))))))) (
 .fail 3))))))))))))))))
noncomputable def gm49:List (PF Go.Proofs.Tryz.prog):=gm48++[GS.pf zfs]
def zb1 (x:zm5b):Option zm4b:=(zsu x).eval
noncomputable def zsv:FS Tryz.prog:=mFS gm49 [] 140 zb2b zb1b zsu fun x=>by kernel_rfl
def z0i:LS:=⟨9,[(4,4)],⟨62,[(34,.v (.one (.i .i64))),(4,.v (.one (.ptr 4 0))),(3,.v (.one (.i .i64))),(2,.v (.one (.i .i64))),(1,.v (.one (.i .i64))),(32,.v (.one (.st 17 false))),(33,.v (.one (.i .i64)))],[(4,.cells [.i .i64,.i .i64,.i .u64,.i .i64,.i .u64,.st 17 false])]⟩,[⟨none,[],⟨62,[(8,.v (.one (.i .u32))),(9,.v (.one (.i .i64))),(10,.v (.one (.i .i64)))],[]⟩⟩,⟨some 0,[],⟨62,[],[]⟩⟩],[]⟩
abbrev zm3b:Type:=(Int×(Int×(Int×(Int×((List TMap)×(Int×(Int×(Int×(Int×(Int×(Int×((List TMap)×Unit))))))))))))
def zcj:zm3b->Tr (zm3b⊕(ty2_⊕Unit)) :=
 fun (a0,a1,a2,a3,a4,a5,a6,a7,a8,a9,a10,a11,_) =>.ite (decide (a0<a5)) (.grd (decide (0<=a0)) (.opt (a4[Int.toNat a0]?) (fun r0 =>.ite (decide (r0.proto=a3)) (.ite (decide (r0.out=a2)) (.ite (decide (wW .i64 (a1-r0.at')<=a6)) (.ret (Sum.inr (Sum.inl (r0.addr,(r0.port,(0,())))))) (.ret (Sum.inl (wW .i64 (a0+1),(a1,(a2,(a3,(a4,(a5,(a6,(a7,(a8,(a9,(a10,(a11,()))))))))))))))) (.ret (Sum.inl (wW .i64 (a0+1),(a1,(a2,(a3,(a4,(a5,(a6,(a7,(a8,(a9,(a10,(a11,()))))))))))))))) (
 .ret (Sum.inl (wW .i64 (a0+1),(a1,(a2,(a3,(a4,(a5,(a6,(a7,(a8,(a9,(a10,(a11,()))))))))))))))))) (.ret (Sum.inr (Sum.inr ())))
def zdi:=lpT 1410009 zcj
def zg8b:List VP1:=[.agg [.i .i64,.i .i64,.i .u64,.i .i64,.i .u64,.st 17 false],.one (.i .i64),.one (.i .i64),.one (.i .i64)]
def zg7b:SP:=⟨1,[(0,.tup [.one (.i .u32),.one (.i .i64),.one (.i .i64)])],[]⟩
def zvw:zf7b->Tr ty2_ :=
 fun (a0,a1,a2,a3,a4,a5,a6,a7,a8,_) =>.opt ((zc6 (a0,(a1,(a2,(a3,(a4,(a5,())))))))) (fun r0 =>.ite (!decide (r0.1=0)) (.ret (0,(0,(r0.1,())))) (.ite (!decide (a6=6)) (.ite (!decide (a6=17)) (.ret (0,(0,(7,())))) (.ite (decide (a8<0)) (.ret (0,(0,(1,())))) (.ite (decide (1099511627776<a8)) (.ret (0,(0,(1,())))) (.opt ((zdi (0,(a8,(a7,(a6,(a5,((↑(a5.length):Int),(a0,(a1,(a2,(a3,(a4,(a5,())))))))))))))) (fun r1 =>.sum (r1) (fun r2 =>.ret (r2.1,(r2.2.1,(r2.2.2.1,())))) (fun r2 =>.ret (0,(0,(7,()))))))))) (.ite (decide (a8<0)) (
 .ret (0,(0,(1,())))) (.ite (decide (1099511627776<a8)) (.ret (0,(0,(1,())))) (.opt ((zdi (0,(a8,(a7,(a6,(a5,((↑(a5.length):Int),(a0,(a1,(a2,(a3,(a4,(a5,())))))))))))))) (fun r1 =>.sum (r1) (fun r2 =>.ret (r2.1,(r2.2.1,(r2.2.2.1,())))) (fun r2 =>.ret (0,(0,(7,()))))))))))
noncomputable def gm50:List (PF Go.Proofs.Tryz.prog):=gm49++[FS.pf zsv]
def z42 (x:zf7b):Option ty2_:=(zvw x).eval
noncomputable def z3c:FS Tryz.prog:=mFS gm50 [(141,z0i)] 141 zg8b zg7b zvw fun x=>by kernel_rfl
end Go.Proofs.YthkhikdglmaiaaaGreatDoor.X
