/- Texts towards the law HouseRight, put together (part 5): an abstract walk and its proof, functions of the program as trees, and plain laws. Conditions: none. -/
import Derived.KernelRfl
import Derived.Test.YthkhikdglmaiaaaGreatDoorK4
set_option linter.unnecessarySimpa false
set_option linter.unusedSimpArgs false
set_option linter.unusedVariables false
set_option maxRecDepth 100000
namespace Go.Proofs.YthkhikdglmaiaaaGreatDoor.X
open Go Go.RowKit Go.Proofs.YthkhikdglmaiaaaGreatDoor.Abs Go.Proofs.YthkhikdglmaiaaaGreatDoor.Bits
set_option linter.unusedVariables false
set_option linter.unusedSimpArgs false
theorem btw (n lo hi:Int):zab (n,(lo,(hi,())))=some (decide (lo<=n)&&decide (n<=hi),()):=by
 show (zcv _).eval=_
 unfold zcv
 cases h:decide (lo<=n) with
 | true=>exact ev_t h rfl
 | false=>exact ev_f h rfl
theorem zyo {n lo hi:Int} (h:lo<=n/\n<=hi):zab (n,(lo,(hi,())))=some (true,()):=by rw [btw,decide_eq_true h.1,decide_eq_true h.2]; rfl
theorem zd5 {b:Int} (t:Int) (h:zb4 b):zdh (b,(t,()))=some ((0:Int),()):=by
 have e:Int.tmod b 64=b%64:=Int.tmod_eq_emod_of_nonneg (by have:=h.1; omega)
 exact zaa (zyo ⟨h.1,h.2.1⟩) (ev_f rfl (ev_g rfl (ev_f (by rw [e,decide_eq_true h.2.2]; rfl) rfl)))
def ks (p:Nat->Bool) (b:Int) (n:Nat):List Int:=((List.range n).filter p).map fun k:Nat=>b+(k:Int)
theorem zcgb (p:Nat->Bool) (b:Int) (n:Nat):ks p b (n+1)=if p n=true then ks p b n++[b+(n:Int)] else ks p b n:=by
 unfold ks
 rw [List.range_succ,List.filter_append,List.map_append]
 by_cases h:p n=true
 . rw [if_pos h,List.filter_cons_of_pos h]; rfl
 . rw [if_neg h,List.filter_cons_of_neg h]; simp
theorem zs3 (p:Nat->Bool) (b:Int) (n:Nat):(ks p b n).length<=n:=by
 unfold ks
 rw [List.length_map]
 exact Nat.le_trans (List.length_filter_le _ _) (by simp)
theorem z5c (p:Nat->Bool) (b:Int) (n:Nat) (o:Int):o∈ks p b n ↔ ∃ k:Nat,k<n/\p k=true/\o=b+(k:Int):=by
 unfold ks
 simp only [List.mem_map,List.mem_filter,List.mem_range]
 constructor
 . rintro ⟨k,⟨h1,h2⟩,h3⟩; exact ⟨k,h1,h2,h3.symm⟩
 . rintro ⟨k,h1,h2,h3⟩; exact ⟨k,⟨h1,h2⟩,h3.symm⟩
theorem zhgb (p:Nat->Bool) (b:Int) (n:Nat):(ks p b n).Nodup:=by
 unfold ks
 exact List.pairwise_map.2 (((List.nodup_range (n:=n)).filter _).imp fun h e=>h (by omega))
theorem grd8 (Y:List Int) (m:Int) (h:Y.length<=64):decide ((List.length Y+List.length [m])*(8:Nat)<=(140737488355328:Nat)/\List.length Y+List.length [m]<=(9223372036854775807:Nat))=true:=by
 apply decide_eq_true
 simp only [List.length_singleton]
 omega
theorem zdbb (b:Int) (t:Nat) (hb:zb4 b) (ht:t<2^64):zqb (b,((t:Int),()))=some (ks (fun k=>!t.testBit k) b 64,()):=by
 have hb1:=hb.1
 have hb2:=hb.2.1
 have key:∃ r,zfw ((0:Int),((t:Int),(b,((t:Int),([],())))))=some r/\r=(ks (fun k=>!t.testBit k) b 64,()):=by
  refine zkw (f:=fun x=>(zfv x).eval)
    (fun x=>∃ i:Nat,i<=64/\x=((i:Int),(((t / 2^i:Nat):Int),(b,((t:Int),(ks (fun k=>!t.testBit k) b i,())))))) _
    (fun x=>(64-x.1).toNat) ?_ _ _ ⟨0,by omega,by simp [ks]⟩ (by show (64-(0:Int)).toNat < _; decide)
  rintro _ ⟨i,hi,rfl⟩
  by_cases hi2:i<64
  . right
    have e1:IntKind.wrap IntKind.i64 ((i:Int)+(1:Int))=((i+1:Nat):Int):=wi _ (by omega)
    have e2:IntKind.wrap IntKind.i64 (b+(i:Int))=b+(i:Int):=wi _ (by omega)
    have e3:Int.tmod ((t / 2^i:Nat):Int) 2=((t / 2^i%2:Nat):Int):=by rw [Int.tmod_eq_emod_of_nonneg (Int.natCast_nonneg _)]; norm_cast
    have e4:IntKind.wrap IntKind.u64 (Int.tdiv ((t / 2^i:Nat):Int) 2)=((t / 2^(i+1):Nat):Int):=by
      rw [Int.tdiv_eq_ediv_of_nonneg (Int.natCast_nonneg _),show (((t / 2^i:Nat):Int) / 2)=((t / 2^i / 2:Nat):Int) by norm_cast,Nat.div_div_eq_div_mul,<- Nat.pow_succ]
      exact w64 _ (Nat.lt_of_le_of_lt (Nat.div_le_self _ _) ht)
    have hlen:=zs3 (fun k=>!t.testBit k) b i
    have hs:=zcgb (fun k=>!t.testBit k) b i
    have hbit:t.testBit i=decide (t / 2^i%2=1):=Nat.testBit_eq_decide_div_mod_eq
    have g0:decide ((i:Int)<64)=true:=decide_eq_true (by omega)
    by_cases h0:t / 2^i%2=0
    . have hf:(!t.testBit i)=true:=by rw [hbit,decide_eq_false (by omega)]; rfl
      rw [if_pos hf] at hs
      refine ⟨(((i+1:Nat):Int),(((t / 2^(i+1):Nat):Int),(b,((t:Int),(ks (fun k=>!t.testBit k) b (i+1),()))))),?_,⟨i+1,by omega,rfl⟩,by show (64-((i+1:Nat):Int)).toNat<(64-(i:Int)).toNat; omega⟩
      refine ev_t g0 (ev_g rfl (ev_t (by rw [e3,h0]; rfl) (ev_g (grd8 _ _ (by omega)) (ev_g rfl (ev_g (decide_eq_true rfl) (ev_r ?_))))))
      rw [e1,e2,e4,hs]
    . have hf:¬ (!t.testBit i)=true:=by rw [hbit,decide_eq_true (by omega)]; simp
      rw [if_neg hf] at hs
      refine ⟨(((i+1:Nat):Int),(((t / 2^(i+1):Nat):Int),(b,((t:Int),(ks (fun k=>!t.testBit k) b (i+1),()))))),?_,⟨i+1,by omega,rfl⟩,by show (64-((i+1:Nat):Int)).toNat<(64-(i:Int)).toNat; omega⟩
      refine ev_t g0 (ev_g rfl (ev_f (by rw [e3]; exact decide_eq_false (by omega)) (ev_g rfl (ev_g (decide_eq_true rfl) (ev_r ?_)))))
      rw [e1,e4,hs]
  . left
    have:i=64:=by omega
    subst this
    exact ⟨_,ev_f rfl (ev_g (decide_eq_true rfl) rfl),rfl⟩
 obtain ⟨r,h1,rfl⟩:=key
 exact ev_g rfl (zaa h1 rfl)
theorem zhmb (l:List Int) (v:Int) (hl:l.length<BigN):zs8 (l,(v,()))=some ((match hit (fun x=>decide (v=x)) l with | some r=>(r.1:Int) | none=>-1),()):=by
 unfold BigN at hl
 have lp:=za1 (tag:=1770002) (f:=fun x=>(zca x).eval) (l:=l) (fun i=>((i:Int),(l,(v,((l.length:Int),())))))
  (fun x=>decide (v=x)) (fun r=>match r with | some r=>Sum.inl ((r.1:Int),()) | none=>Sum.inr ())
  (fun i x hx=>by
   have hi:=(List.getElem?_eq_some_iff.1 hx).1
   have e1:IntKind.wrap IntKind.i64 ((i:Int)+(1:Int))=((i+1:Nat):Int):=wi _ (by omega)
   show (zca _).eval=_
   refine ev_t (by simp <;> omega) (ev_g (by simp) (zaa (show l[Int.toNat (i:Int)]?=some x by simpa using hx) ?_))
   cases h1:decide (v=x) with
   | false=>exact ev_f rfl (ev_r (by rw [e1]))
   | true=>exact ev_t rfl (ev_r rfl))
  (by show (zca _).eval=_; exact ev_f (by simp) (ev_r rfl)) 18446744073709551616 (by omega)
 refine zaa (show zgi ((0:Int),(l,(v,((l.length:Int),()))))=_ from lp) ?_
 cases hit (fun x=>decide (v=x)) l <;> rfl
theorem z4b (l:List Int) (v:Int) (hl:l.length<BigN):zd8 (l,(v,()))=some (decide (v∈l),()):=by
 refine zaa (zhmb l v hl) (ev_r ?_)
 cases h:hit (fun x=>decide (v=x)) l with
 | none =>
  have hn:=zcb.1 h
  rw [decide_eq_false (show ¬ v∈l from fun hm=>by have:=hn v hm; simp at this)]
  rfl
 | some z =>
  obtain ⟨i,x⟩:=z
  obtain ⟨h1,h2⟩:=zdp h
  have hx:v=x:=of_decide_eq_true h2
  rw [decide_eq_true (show v∈l by rw [hx]; exact List.mem_of_getElem? h1)]
  show (decide ((0:Int)<=(i:Int)),())=_
  rw [decide_eq_true (by omega)]
theorem z4u (b:Int) (t:Nat) (hb:zb4 b) (ht:t<2^64):zmd (b,((t:Int),()))=some (ks (fun k=>t.testBit k) b 64,()):=by
 have hb1:=hb.1
 have hb2:=hb.2.1
 have key:∃ r,zga ((0:Int),(b,((t:Int),([],()))))=some r/\r=(ks (fun k=>t.testBit k) b 64,()):=by
  refine zkw (f:=fun x=>(zf9 x).eval)
    (fun x=>∃ i:Nat,i<=64/\x=((i:Int),(b,((t:Int),(ks (fun k=>t.testBit k) b i,()))))) _
    (fun x=>(64-x.1).toNat) ?_ _ _ ⟨0,by omega,by simp [ks]⟩ (by show (64-(0:Int)).toNat < _; decide)
  rintro _ ⟨i,hi,rfl⟩
  by_cases hi2:i<64
  . right
    have e1:IntKind.wrap IntKind.i64 ((i:Int)+(1:Int))=((i+1:Nat):Int):=wi _ (by omega)
    have e2:IntKind.wrap IntKind.i64 (b+(i:Int))=b+(i:Int):=wi _ (by omega)
    have hlen:=zs3 (fun k=>t.testBit k) b i
    have hs:=zcgb (fun k=>t.testBit k) b i
    have hc:=z4b (ks (fun k=>!t.testBit k) b 64) (b+(i:Int)) (by have:=zs3 (fun k=>!t.testBit k) b 64; unfold BigN; omega)
    have hd:decide (b+(i:Int)∈ks (fun k=>!t.testBit k) b 64) = !t.testBit i:=by
     rw [Bool.eq_iff_iff,decide_eq_true_eq,z5c]
     constructor
     . rintro ⟨k,k1,k2,k3⟩
       have:k=i:=by omega
       subst this; exact k2
     . intro h; exact ⟨i,hi2,h,rfl⟩
    rw [hd] at hc
    have g0:decide ((i:Int)<64)=true:=decide_eq_true (by omega)
    cases hbit:t.testBit i with
    | true =>
     rw [if_pos hbit] at hs
     rw [hbit] at hc
     refine ⟨(((i+1:Nat):Int),(b,((t:Int),(ks (fun k=>t.testBit k) b (i+1),())))),?_,⟨i+1,by omega,rfl⟩,by show (64-((i+1:Nat):Int)).toNat<(64-(i:Int)).toNat; omega⟩
     refine ev_t g0 (zaa (zdbb b t hb ht) (zaa (b:=(false,())) (by show zd8 (_,(IntKind.wrap IntKind.i64 (b+(i:Int)),()))=_; rw [e2]; exact hc) (ev_t rfl (ev_g (grd8 _ _ (by omega)) (ev_g (decide_eq_true rfl) (ev_r ?_))))))
     rw [e1,e2,hs]
    | false =>
     rw [if_neg (by rw [hbit]; simp)] at hs
     rw [hbit] at hc
     refine ⟨(((i+1:Nat):Int),(b,((t:Int),(ks (fun k=>t.testBit k) b (i+1),())))),?_,⟨i+1,by omega,rfl⟩,by show (64-((i+1:Nat):Int)).toNat<(64-(i:Int)).toNat; omega⟩
     refine ev_t g0 (zaa (zdbb b t hb ht) (zaa (b:=(true,())) (by show zd8 (_,(IntKind.wrap IntKind.i64 (b+(i:Int)),()))=_; rw [e2]; exact hc) (ev_f rfl (ev_g (decide_eq_true rfl) (ev_r ?_)))))
     rw [e1,hs]
  . left
    have:i=64:=by omega
    subst this
    exact ⟨_,ev_f rfl (ev_g (decide_eq_true rfl) rfl),rfl⟩
 obtain ⟨r,h1,rfl⟩:=key
 exact ev_g rfl (zaa h1 rfl)
theorem zyg {b:Int} {t:Nat} {os:List Int} (hc:Cov b t os):os.length=(ks (fun k=>t.testBit k) b 64).length:=by
 refine List.Perm.length_eq ((List.perm_ext_iff_of_nodup hc.1 (zhgb _ _ _)).2 fun o=>?_)
 rw [hc.2 o,z5c]
def ent (l:List TMap):List (TMap×Int):=l.map fun m=>(⟨m.proto,0,0,m.out,0⟩,1)
theorem zorb (a b:τ 17):zdc 17 a b=true↔a=b:=by
 show decide (keyL 17 a=keyL 17 b)=true↔a=b
 rw [decide_eq_true_eq]
 obtain ⟨a1,a2,a3,a4,a5⟩:=a
 obtain ⟨b1,b2,b3,b4,b5⟩:=b
 constructor
 . intro h
   simp only [keyL,List.cons.injEq,and_true] at h
   obtain ⟨rfl,rfl,rfl,rfl,rfl⟩:=h
   rfl
 . intro h; rw [h]
theorem zbpb (k:TMap) (v:Int):∀ es:List (TMap×Int),(∀ e∈es,e.1≠k)->mPut 17 k v es=(es++[(k,v)]:List (TMap×Int))
 | [],_=>rfl
 | e :: r,h=>by
  have h1:¬ zdc 17 k e.1=true:=fun hq=>h e List.mem_cons_self ((zorb _ _).1 hq).symm
  have:=zb8b 17 k v e r
  rw [if_neg h1,zbpb k v r fun x hx=>h x (List.mem_cons_of_mem _ hx)] at this
  exact this
theorem zc4b (k:TMap):∀ es:List (TMap×Int),(∀ e∈es,e.2=1)->(∃ e∈es,e.1=k)->mGet 17 k es=some 1
 | [],_,h=>by obtain ⟨_,h,_⟩:=h; cases h
 | e :: r,h1,h2=>by
  have:=zcab 17 k e r
  by_cases hq:zdc 17 k e.1=true
  . rw [if_pos hq,h1 e List.mem_cons_self] at this
    exact this
  . rw [if_neg hq] at this
    refine this.trans (zc4b k r (fun x hx=>h1 x (List.mem_cons_of_mem _ hx)) ?_)
    obtain ⟨x,hx,hk⟩:=h2
    rcases List.mem_cons.1 hx with rfl | hx
    . exact absurd ((zorb _ _).2 hk.symm) hq
    . exact ⟨x,hx,hk⟩
theorem zkwb {l:List TMap}:∀ e∈ent l,e.2=1:=by
 intro e he
 obtain ⟨m,_,rfl⟩:=List.mem_map.1 he
 rfl
theorem zdsb {l:List TMap} {m:TMap} (hm:m∈l):mGet 17 (⟨m.proto,0,0,m.out,0⟩:TMap) (ent l)=some 1 :=
 zc4b _ _ zkwb ⟨_,List.mem_map.2 ⟨m,hm,rfl⟩,rfl⟩
theorem znl {p o:Int} {l:List TMap}:o∈outs p l ↔ ∃ m∈l,m.proto=p/\m.out=o:=by
 unfold outs
 simp only [List.mem_map,List.mem_filter,decide_eq_true_eq]
 constructor
 . rintro ⟨m,⟨h1,h2⟩,h3⟩; exact ⟨m,h1,h2,h3⟩
 . rintro ⟨m,h1,h2,h3⟩; exact ⟨m,⟨h1,h2⟩,h3⟩
theorem NatOk.apart {life lb:Int} {L:Nat} {sb:Int} {S:Nat} {l:List TMap} (hN:NatOk life lb L sb S l):l.Pairwise (fun x y=>¬ (x.proto=y.proto/\x.out=y.out)):=by
 have one:∀ (p:Int) (l:List TMap),(outs p l).Nodup->l.Pairwise (fun x y=>x.proto=p->¬ (x.proto=y.proto/\x.out=y.out)):=by
  intro p l
  induction l with
  | nil=>intro _; exact List.Pairwise.nil
  | cons m r ih =>
    intro h
    rw [zbv] at h
    by_cases hp:m.proto=p
    . rw [if_pos hp] at h
      obtain ⟨h1,h2⟩:=List.nodup_cons.1 h
      refine List.pairwise_cons.2 ⟨fun y hy _ hs=>h1 ?_,ih h2⟩
      exact znl.2 ⟨y,hy,hs.1.symm.trans hp,hs.2.symm⟩
    . rw [if_neg hp] at h
      exact List.pairwise_cons.2 ⟨fun y hy hq=>absurd hq hp,ih h⟩
 have h17:=one 17 l hN.covL.1
 have h6:=one 6 l hN.covS.1
 have hok:=hN.ok
 clear hN
 induction l with
 | nil=>exact List.Pairwise.nil
 | cons m r ih =>
  obtain ⟨a1,a2⟩:=List.pairwise_cons.1 h17
  obtain ⟨b1,b2⟩:=List.pairwise_cons.1 h6
  refine List.pairwise_cons.2 ⟨fun y hy=>?_,ih a2 b2 fun x hx=>hok x (List.mem_cons_of_mem _ hx)⟩
  rcases (hok m List.mem_cons_self).1 with h | h
  . exact a1 y hy h
  . exact b1 y hy h
theorem zg5b (a1:List TMap) (a2:List TMap) (a3:Int) (a4:Int) (a6:Int) (a7:Int) (a8:Int) (a9:Int) (a10:Int) (a11:List (TMap×Int)) (a12:Int) (a13:Int) (a14:Int) (a15:Int) (a16:Int) (a17:List TMap) (hl:a1.length<BigN) (h:∀ x∈a1,x.at'<=a10/\¬ (x.proto=a6/\x.out=a9)/\¬ (x.proto=a6/\x.addr=a7/\x.port=a8)) :
  zb9 ((0:Int),(a1,(a2,(a3,(a4,((a1.length:Int),(a6,(a7,(a8,(a9,(a10,(a11,(a12,(a13,(a14,(a15,(a16,(a17,()))))))))))))))))))=some (.inr (a2,(a3,(a4,(a11,(a12,(a13,(a14,(a15,(a16,(a17,(a6,(a7,(a8,(a9,(a10,())))))))))))))))):=by
 unfold BigN at hl
 have lp:=za1 (tag:=560010) (f:=fun x=>(zgd x).eval) (l:=a1) (fun i=>((i:Int),(a1,(a2,(a3,(a4,((a1.length:Int),(a6,(a7,(a8,(a9,(a10,(a11,(a12,(a13,(a14,(a15,(a16,(a17,()))))))))))))))))))) (fun _=>false) (fun _=>.inr (a2,(a3,(a4,(a11,(a12,(a13,(a14,(a15,(a16,(a17,(a6,(a7,(a8,(a9,(a10,()))))))))))))))))
   (fun i x hx=>by
    have hi:=(List.getElem?_eq_some_iff.1 hx).1
    obtain ⟨q1,q2,q3⟩:=h x (List.mem_of_getElem? hx)
    have e1:IntKind.wrap IntKind.i64 ((i:Int)+(1:Int))=((i+1:Nat):Int):=wi _ (by omega)
    refine ev_t (decide_eq_true (by omega)) (ev_g (decide_eq_true (by omega)) (zaa (show a1[Int.toNat (i:Int)]?=some x by simpa using hx) (ev_f (decide_eq_false (by omega)) ?_)))
    refine zi2 (fun c1=>ev_f (decide_eq_false fun c2=>q2 ⟨of_decide_eq_true c1,c2⟩) (zi2 (fun c3=>ev_f (decide_eq_false fun c4=>q3 ⟨of_decide_eq_true c1,of_decide_eq_true c3,c4⟩) ?_) (fun _=>?_))) (fun _=>?_)
    . exact ev_r (by rw [e1])
    . exact ev_r (by rw [e1])
    . exact ev_r (by rw [e1]))
   (ev_f (decide_eq_false (by omega)) (ev_r rfl)) 18446744073709551616 (by omega)
 exact lp
theorem zg4b {life lb:Int} {L:Nat} {sb:Int} {S:Nat} {l:List TMap} (hN:NatOk life lb L sb S l) (hl:l.length<BigN) :
  zhg ((0:Int),(l,((l.length:Int),([],(life,(lb,((L:Int),(sb,((S:Int),(l,()))))))))))=some (.inr (ent l,(life,(lb,((L:Int),(sb,((S:Int),(l,())))))))):=by
 have hl0:=hl
 unfold BigN at hl
 have hap:=hN.apart
 have lf:=zcbb (tag:=560005) (f:=fun x=>(zhf x).eval) (l:=l) (S:=List (TMap×Int)) (fun i s=>((i:Int),(l,((l.length:Int),(s,(life,(lb,((L:Int),(sb,((S:Int),(l,()))))))))))) (fun i s=>s=ent (l.take i)) (fun s m=>s++[(⟨m.proto,0,0,m.out,0⟩,1)]) (fun s=>.inr (s,(life,(lb,((L:Int),(sb,((S:Int),(l,()))))))))
   (fun i m s hx hs=>by
    have hi:=(List.getElem?_eq_some_iff.1 hx).1
    have hmem:=List.mem_of_getElem? hx
    have hok:=hN.ok m hmem
    have e1:IntKind.wrap IntKind.i64 ((i:Int)+(1:Int))=((i+1:Nat):Int):=wi _ (by omega)
    have hsp:l=l.take i++m :: l.drop (i+1):=by
      have:l[i]=m:=by rw [List.getElem?_eq_getElem hi] at hx; exact Option.some.inj hx
      conv=>lhs; rw [<- List.take_append_drop i l,zts l i hi,this]
    have hso:=hN.sorted
    have hk:=hN.keys
    have ha:=hap
    rw [hsp] at hso hk ha
    have pso:=(List.pairwise_append.1 hso).2.2
    have pk:=(List.pairwise_append.1 hk).2.2
    have pa:=(List.pairwise_append.1 ha).2.2
    have htl:List.drop (0:Nat) (List.take (Int.toNat (i:Int)) l)=l.take i:=by rw [Int.toNat_natCast,List.drop_zero]
    have inner:=zg5b (l.take i) l (l.length:Int) (i:Int) m.proto m.addr m.port m.out m.at' s life lb (L:Int) sb (S:Int) l (by unfold BigN; simp; omega) (fun x hx=>⟨pso x hx m List.mem_cons_self,pa x hx m List.mem_cons_self,pk x hx m List.mem_cons_self⟩)
    have hnew:mPut 17 (⟨m.proto,0,0,m.out,0⟩:TMap) 1 s=(s++[(⟨m.proto,0,0,m.out,0⟩,1)]:List (TMap×Int)):=by
      refine zbpb _ _ _ fun e he hek=>?_
      rw [hs] at he
      obtain ⟨y,hy,rfl⟩:=List.mem_map.1 he
      injection hek with g1 _ _ g4 _
      exact pa y hy m List.mem_cons_self ⟨g1,g4⟩
    refine ⟨?_,by rw [hs]; unfold ent; rw [(List.take_append_getElem hi).symm,List.map_append]; rw [show l[i]=m by rw [List.getElem?_eq_getElem hi] at hx; exact Option.some.inj hx]; rfl⟩
    have fin:(Tr.opt (β:=(Bool×Unit)) ((zab (m.port,((0:Int),((65535:Int),()))))) (fun r1 =>
       .ite (!r1.1) (
        .ret (Sum.inr (Sum.inl ((4:Int),())))) (
        .opt (β:=(Bool×Unit)) ((zab (m.at',((0:Int),((1099511627776:Int),()))))) (fun r2 =>
        .ite (!r2.1) (
         .ret (Sum.inr (Sum.inl ((4:Int),())))) (
         .grd (decide ((0:Int)<=(0:Int)/\(0:Int)<=(i:Int)/\(i:Int)<=(↑(List.length l):Int))) (
         .opt (β:=((Int×Unit)⊕((List TMap)×(Int×(Int×((List (TMap×Int))×(Int×(Int×(Int×(Int×(Int×((List TMap)×(Int×(Int×(Int×(Int×(Int×Unit))))))))))))))))) ((zb9 ((0:Int),(List.drop (0:Nat) (List.take (Int.toNat (i:Int)) l),(l,((l.length:Int),((i:Int),((↑(List.length (List.drop (0:Nat) (List.take (Int.toNat (i:Int)) l))):Int),(m.proto,(m.addr,(m.port,(m.out,(m.at',(s,(life,(lb,((L:Int),(sb,((S:Int),(l,())))))))))))))))))))) (fun r3 =>
         .sum (β:=(Int×Unit)) (γ:=((List TMap)×(Int×(Int×((List (TMap×Int))×(Int×(Int×(Int×(Int×(Int×((List TMap)×(Int×(Int×(Int×(Int×(Int×Unit)))))))))))))))) (r3) (fun r4 =>
          .ret (Sum.inr (Sum.inl (r4.1,())))) (fun r4 =>
          .ret ((Sum.inl (IntKind.wrap IntKind.i64 (r4.2.2.1+(1:Int)),(r4.1,(r4.2.1,(mPut (17:Nat) (TMap.mk r4.2.2.2.2.2.2.2.2.2.2.1 (0:Int) (0:Int) r4.2.2.2.2.2.2.2.2.2.2.2.2.2.1 (0:Int)) (1:Int) r4.2.2.2.1,(r4.2.2.2.2.1,(r4.2.2.2.2.2.1,(r4.2.2.2.2.2.2.1,(r4.2.2.2.2.2.2.2.1,(r4.2.2.2.2.2.2.2.2.1,(r4.2.2.2.2.2.2.2.2.2.1,()))))))))))):(Int×((List TMap)×(Int×((List (TMap×Int))×(Int×(Int×(Int×(Int×(Int×((List TMap)×Unit))))))))))⊕((Int×Unit)⊕((List (TMap×Int))×(Int×(Int×(Int×(Int×(Int×((List TMap)×Unit))))))))))))))))).eval=some (.inl (((i+1:Nat):Int),(l,((l.length:Int),(s++[(⟨m.proto,0,0,m.out,0⟩,1)],(life,(lb,((L:Int),(sb,((S:Int),(l,()))))))))))):=by
      rw [htl]
      refine zaa (zyo ⟨hok.2.1,hok.2.2.1⟩) (ev_f rfl (zaa (zyo ⟨hok.2.2.2.1,hok.2.2.2.2⟩) (ev_f rfl (ev_g (decide_eq_true (by omega)) (zaa inner ?_)))))
      show (Tr.ret _).eval=_
      refine ev_r ?_
      rw [<- hnew,<- e1]
    refine ev_t (decide_eq_true (by omega)) (ev_g (decide_eq_true (by omega)) (zaa (show l[Int.toNat (i:Int)]?=some m by simpa using hx) ?_))
    rcases hok.1 with p | p
    . exact ev_f (by rw [decide_eq_true p]; rfl) fin
    . exact ev_t (by rw [decide_eq_false (by omega)]; rfl) (ev_f (by rw [decide_eq_true p]; rfl) fin))
   (fun s hs=>ev_f (decide_eq_false (by omega)) (ev_r rfl)) 18446744073709551616 [] rfl (by omega)
 obtain ⟨h1,h2⟩:=lf
 rw [h2,List.take_length] at h1
 exact h1
theorem zpvb (q q2:List Int) (es:List (TMap×Int)) (hl:q.length<BigN) (h:∀ o∈q,mGet 17 (⟨17,0,0,o,0⟩:TMap) es=some 1) :
  zgf ((0:Int),(q,(q2,((q.length:Int),(es,())))))=some (.inr (q2,(es,()))):=by
 unfold BigN at hl
 have lp:=za1 (tag:=560021) (f:=fun x=>(zgc x).eval) (l:=q) (fun i=>((i:Int),(q,(q2,((q.length:Int),(es,())))))) (fun _=>false) (fun _=>.inr (q2,(es,())))
   (fun i x hx=>by
    have hi:=(List.getElem?_eq_some_iff.1 hx).1
    have e1:IntKind.wrap IntKind.i64 ((i:Int)+(1:Int))=((i+1:Nat):Int):=wi _ (by omega)
    have hg:=h x (List.mem_of_getElem? hx)
    refine ev_t (decide_eq_true (by omega)) (ev_g (decide_eq_true (by omega)) (zaa (show q[Int.toNat (i:Int)]?=some x by simpa using hx) (ev_f ?_ (ev_r (by rw [e1])))))
    show (!decide (Option.getD (mGet (17:Nat) (TMap.mk (17:Int) (0:Int) (0:Int) x (0:Int)) es) (0:Int)=(1:Int)))=false
    rw [show mGet (17:Nat) (TMap.mk (17:Int) (0:Int) (0:Int) x (0:Int)) es=some 1 from hg]
    rfl)
   (ev_f (decide_eq_false (by omega)) (ev_r rfl)) 18446744073709551616 (by omega)
 exact lp
theorem zpub (q:List Int) (es:List (TMap×Int)) (hl:q.length<BigN) (h:∀ o∈q,mGet 17 (⟨6,0,0,o,0⟩:TMap) es=some 1) :
  zge ((0:Int),(q,((q.length:Int),(es,()))))=some (.inr ()):=by
 unfold BigN at hl
 have lp:=za1 (tag:=560027) (f:=fun x=>(zgb x).eval) (l:=q) (fun i=>((i:Int),(q,((q.length:Int),(es,()))))) (fun _=>false) (fun _=>.inr ())
   (fun i x hx=>by
    have hi:=(List.getElem?_eq_some_iff.1 hx).1
    have e1:IntKind.wrap IntKind.i64 ((i:Int)+(1:Int))=((i+1:Nat):Int):=wi _ (by omega)
    have hg:=h x (List.mem_of_getElem? hx)
    refine ev_t (decide_eq_true (by omega)) (ev_g (decide_eq_true (by omega)) (zaa (show q[Int.toNat (i:Int)]?=some x by simpa using hx) (ev_f ?_ (ev_r (by rw [e1])))))
    show (!decide (Option.getD (mGet (17:Nat) (TMap.mk (6:Int) (0:Int) (0:Int) x (0:Int)) es) (0:Int)=(1:Int)))=false
    rw [show mGet (17:Nat) (TMap.mk (6:Int) (0:Int) (0:Int) x (0:Int)) es=some 1 from hg]
    rfl)
   (ev_f (decide_eq_false (by omega)) (ev_r rfl)) 18446744073709551616 (by omega)
 exact lp
theorem z4y {l:List TMap} (h:∀ m∈l,okm m):l.length=(outs 17 l).length+(outs 6 l).length:=by
 induction l with
 | nil=>rfl
 | cons m r ih =>
  have:=ih fun x hx=>h x (List.mem_cons_of_mem _ hx)
  rw [zbv,zbv]
  rcases (h m List.mem_cons_self).1 with p | p
  . rw [if_pos p,if_neg (by omega)]; simp; omega
  . rw [if_neg (by omega),if_pos p]; simp; omega
theorem z0g {life lb:Int} {L:Nat} {sb:Int} {S:Nat} {l:List TMap} (hN:NatOk life lb L sb S l):zsq (life,(lb,((L:Int),(sb,((S:Int),(l,()))))))=some ((0:Int),()):=by
 have c1:=zyg hN.covL
 have c2:=zyg hN.covS
 have b1:=zs3 (fun k=>L.testBit k) lb 64
 have b2:=zs3 (fun k=>S.testBit k) sb 64
 have hlen:=z4y hN.ok
 have hl:l.length<BigN:=by unfold BigN; omega
 have hent:(ent l).length=l.length:=by simp [ent]
 refine zaa (zyo hN.life) (ev_f rfl (zaa (zd5 _ hN.bl) (ev_f rfl (zaa (zd5 _ hN.bs) (ev_f rfl (zaa (zg4b hN hl) ?_))))))
 refine zaa (z4u lb L hN.bl hN.ltL) (zaa (z4u sb S hN.bs hN.ltS) ?_)
 have ew:IntKind.wrap IntKind.i64 (((ks (fun k=>L.testBit k) lb 64).length:Int)+((ks (fun k=>S.testBit k) sb 64).length:Int))=((ks (fun k=>L.testBit k) lb 64).length:Int)+((ks (fun k=>S.testBit k) sb 64).length:Int):=wi _ (by omega)
 refine ev_f ?_ (ev_f ?_ ?_)
 . show (!decide (((ent l).length:Int)=IntKind.wrap IntKind.i64 (((ks (fun k=>L.testBit k) lb 64).length:Int)+((ks (fun k=>S.testBit k) sb 64).length:Int))))=false
   rw [ew,decide_eq_true (by rw [hent]; omega)]; rfl
 . show (!decide ((l.length:Int)=((ent l).length:Int)))=false
   rw [hent,decide_eq_true rfl]; rfl
 . have g1:∀ o∈ks (fun k=>L.testBit k) lb 64,mGet 17 (⟨17,0,0,o,0⟩:TMap) (ent l)=some 1:=fun o ho=>by
    have:=(hN.covL.2 o).2 ((z5c _ _ _ _).1 ho)
    obtain ⟨m,hm,hp,ho⟩:=znl.1 this
    have:=zdsb hm
    rw [hp,ho] at this; exact this
   have g2:∀ o∈ks (fun k=>S.testBit k) sb 64,mGet 17 (⟨6,0,0,o,0⟩:TMap) (ent l)=some 1:=fun o ho=>by
    have:=(hN.covS.2 o).2 ((z5c _ _ _ _).1 ho)
    obtain ⟨m,hm,hp,ho⟩:=znl.1 this
    have:=zdsb hm
    rw [hp,ho] at this; exact this
   exact zaa (zpvb (ks (fun k=>L.testBit k) lb 64) (ks (fun k=>S.testBit k) sb 64) (ent l) (by unfold BigN; omega) g1) (zaa (zpub (ks (fun k=>S.testBit k) sb 64) (ent l) (by unfold BigN; omega) g2) rfl)
theorem NatOk.len {life lb:Int} {L:Nat} {sb:Int} {S:Nat} {l:List TMap} (hN:NatOk life lb L sb S l):(outs 17 l).length<=64/\(outs 6 l).length<=64/\l.length<=128:=by
 have c1:=zyg hN.covL
 have c2:=zyg hN.covS
 have b1:=zs3 (fun k=>L.testBit k) lb 64
 have b2:=zs3 (fun k=>S.testBit k) sb 64
 have:=z4y hN.ok
 omega
def yg (life now:Int) (m:TMap):Bool:=decide (now-m.at'<=life)
def cy (p life now:Int) (l:List TMap):Nat:=(outs p (l.filter (yg life now))).length
structure J (life now:Int) (R k6 k17 L S:Nat) (l:List TMap):Prop where
 ok:NatOk life 1024 L 4096 S l
 at':∀ m∈l,m.at'<=now
 c6:cy 6 life now l=min k6 64
 c17:cy 17 life now l=min k17 64
 a6:∀ m∈l,now-m.at'<=life->m.proto=6->m.addr<1000*R+k6
 a17:∀ m∈l,now-m.at'<=life->m.proto=17->m.addr<1000*R+k17
theorem z0r {l:List TMap} {now:Int} (h0:0<=now) (h:∀ m∈l,m.at'<=now):zhk l<=now:=by
 unfold zhk
 cases hg:l.getLast? with
 | none=>exact h0
 | some m=>exact h m (List.mem_of_getLast? hg)
theorem J.next {life now:Int} {R R2 k6 k17 L S:Nat} {l:List TMap} (hJ:J life now R k6 k17 L S l):J life (now+(life+1)) R2 0 0 L S l:=by
 have hlife:=hJ.ok.life
 have old:∀ m∈l,¬ now+(life+1)-m.at'<=life:=fun m hm=>by have:=hJ.at' m hm; omega
 have hf:l.filter (yg life (now+(life+1)))=[]:=List.filter_eq_nil_iff.2 fun m hm=>by
   unfold yg; rw [decide_eq_true_eq]; exact old m hm
 refine ⟨hJ.ok,fun m hm=>by have:=hJ.at' m hm; omega,?_,?_,fun m hm h=>absurd h (old m hm),fun m hm h=>absurd h (old m hm)⟩
 . unfold cy; rw [hf]; rfl
 . unfold cy; rw [hf]; rfl
def netB (a l:Int):Bool:=decide ((0:Int)<=l)&&(decide (l<=(32:Int))&&decide (IntKind.wrap IntKind.u32 (a*(2:Int)^min (Int.toNat l) (32:Nat))=(0:Int)))
theorem zojb (a l:Int):zqx (a,(l,()))=some (netB a l,()):=by
 unfold zqx zou netB
 simp only [Tr.eval]
 cases h:decide ((0:Int)<=l) <;> simp only [cond_true,cond_false,Bool.true_and,Bool.false_and]
 cases h2:decide (l<=(32:Int)) <;> rfl
def hasB (a l x:Int):Bool:=decide (Int.fdiv (IntKind.wrap IntKind.u64 (bits BinOp.xor IntKind.u32 x a)) ((2:Int)^min (Int.toNat (IntKind.wrap IntKind.i64 ((32:Int)-l))) (64:Nat))=(0:Int))
theorem wrap_small (x:Int) (h:0<=x) (h2:x<=65536):IntKind.i64.wrap x=x:=by
 obtain ⟨n,rfl⟩:=Int.eq_ofNat_of_zero_le h
 exact zht .i64 n (by show n<2^64; omega) (fun _=>by show n<2^63; omega)
theorem zjdb (a l x:Int) (h:0<=l) (h2:l<=32):zqy (a,(l,(x,())))=some (hasB a l x,()):=by
 unfold zqy zow hasB
 simp only [Tr.eval]
 rw [show decide ((0:Int)<=IntKind.wrap IntKind.i64 ((32:Int)-l))=true by rw [wrap_small _ (by omega) (by omega)]; simp; omega]
 rfl
def bndB (a b:Int):Bool:=decide ((0:Int)<=a)&&(decide (a<=b)&&decide (b<=(65535:Int)))
theorem ze9b (a b:Int):zdr (a,(b,()))=some (bndB a b,()):=by
 simp only [zdr,zib,bndB,Tr.eval,zk6]
def zfe (r:TRule):Bool:=netB r.fromAddr r.fromLong&&(netB r.toAddr r.toLong&&(decide ((0:Int)<=r.proto)&&(decide (r.proto<=(255:Int))&&(bndB r.fromLow r.fromHigh&&bndB r.toLow r.toHigh))))
theorem z7a (r:TRule):zot (r.fromAddr,(r.fromLong,(r.toAddr,(r.toLong,(r.proto,(r.fromLow,(r.fromHigh,(r.toLow,(r.toHigh,(r.pass,()))))))))))=some (zfe r,()):=by
 simp only [zot,zjl,zfe,Tr.eval,zojb,ze9b,Option.bind_some,zk6]
theorem z7h {r:TRule} (h:zfe r=true):0<=r.fromLong/\r.fromLong<=32/\0<=r.toLong/\r.toLong<=32:=by
 simp only [zfe,netB,Bool.and_eq_true,decide_eq_true_eq] at h
 exact ⟨h.1.1,h.1.2.1,h.2.1.1,h.2.1.2.1⟩
def zp7 (f1 f2 f3 f4 f5:Int) (r:TRule):Bool:=hasB r.fromAddr r.fromLong f1&&(hasB r.toAddr r.toLong f2&&((decide (r.proto=(0:Int)) || decide (r.proto=f3))&&(decide (r.fromLow<=f4)&&(decide (f4<=r.fromHigh)&&(decide (r.toLow<=f5)&&decide (f5<=r.toHigh))))))
theorem zg9b (f1 f2 f3 f4 f5:Int) (r:TRule) (h:zfe r=true):zov (r.fromAddr,(r.fromLong,(r.toAddr,(r.toLong,(r.proto,(r.fromLow,(r.fromHigh,(r.toLow,(r.toHigh,(r.pass,(f1,(f2,(f3,(f4,(f5,())))))))))))))))=some (zp7 f1 f2 f3 f4 f5 r,()):=by
 obtain ⟨h1,h2,h3,h4⟩:=z7h h
 simp only [zov,zjm,zp7,Tr.eval,zjdb _ _ _ h1 h2,zjdb _ _ _ h3 h4,Option.bind_some,zk6,zlxb]
def zqn (l:List TRule):Int:=if 64<l.length then 2 else if l.all zfe then 0 else 4
theorem zg5 {l:List TRule}:zqn l=0↔l.length<=64 /\ ∀ r∈l,zfe r=true:=by
 unfold zqn
 split
 . simp; omega
 . split
   . rename_i h1 h2; simp only [List.all_eq_true] at h2; exact ⟨fun _=>⟨by omega,h2⟩,fun _=>rfl⟩
   . rename_i h1 h2; simp only [List.all_eq_true] at h2; exact ⟨fun h=>by omega,fun h=>(h2 h.2).elim⟩
theorem z50 (l:List TRule):zks (l,())=some (zqn l,()):=by
 unfold zks zjn
 by_cases hl:64<l.length
 . exact ev_t (by simp <;> omega) (ev_r (by unfold zqn; rw [if_pos hl]))
 . refine ev_f (by simp <;> omega) ?_
   have:=za1 (tag:=1050004) (f:=fun x=>(zbs x).eval) (l:=l) (fun i=>((i:Int),(l,((l.length:Int),())))) (fun r=>!zfe r)
    (fun o=>match o with | some _=>Sum.inl ((4:Int),()) | none=>Sum.inr ())
    (fun i x hx=>by
     have hi:=(List.getElem?_eq_some_iff.1 hx).1
     have e:(zbs ((i:Int),(l,((l.length:Int),())))).eval=match !zfe x with | true=>some (.inr (Sum.inl ((4:Int),()))) | false=>some (.inl (((i+1:Nat):Int),(l,((l.length:Int),())))):=by
      unfold zbs
      refine ev_t (by simp <;> omega) (ev_g (by simp) (zaa (show l[Int.toNat (i:Int)]?=some x by simpa using hx) (zaa (z7a x) ?_)))
      cases zfe x with
      | true=>exact ev_f rfl (ev_r (by rw [zax i (by omega)]))
      | false=>exact ev_t rfl (ev_r rfl)
     exact e.trans (by cases zfe x <;> rfl))
    (by show (zbs _).eval=_; exact ev_f (by simp) (ev_r rfl)) 18446744073709551616 (by omega)
   refine zaa (show zg6 ((0:Int),(l,((l.length:Int),())))=_ from this) ?_
   cases h:hit (fun r=>!zfe r) l with
   | none =>
    have:=zcb.1 h
    have e:zqn l=0:=zg5.2 ⟨by omega,fun r hr=>by simpa using this r hr⟩
    rw [e]; rfl
   | some q =>
    have h1:=(zdp (i:=q.1) (x:=q.2) h)
    have e:zqn l=4:=by
     unfold zqn
     rw [if_neg hl,if_neg]
     intro hall
     have:=List.all_eq_true.1 hall q.2 (List.mem_of_getElem? h1.1)
     simp [this] at h1
    rw [e]; rfl
def dec (l:List TRule) (m:TRule->Bool) (bad o:Bool):Bool×(Int×(Int×Unit)) :=
 if zqn l=0 then if bad then (false,(0,(1,()))) else match hit m l with | none=>(o,(-1,(0,()))) | some (i,r)=>(r.pass,((i:Int),(0,()))) else (false,(0,(zqn l,())))
def badB (f3 f4 f5:Int):Bool:=decide (f3<(0:Int)) || (decide ((255:Int)<f3) || (!bndB f4 f4 || !bndB f5 f5))
theorem zehb (l:List TRule) (f1 f2 f3 f4 f5:Int) (o:Bool):zfd (l,(f1,(f2,(f3,(f4,(f5,(o,())))))))=some (dec l (zp7 f1 f2 f3 f4 f5) (badB f3 f4 f5) o):=by
 unfold zfd zh9 dec
 refine zaa (z50 l) ?_
 by_cases hc:zqn l=0
 case neg =>
  rw [if_neg hc]
  exact ev_t (by simpa using hc) (ev_r rfl)
 rw [if_pos hc]
 refine ev_f (by simpa using hc) ?_
 unfold badB
 cases h1:decide (f3<(0:Int)) with
 | true=>exact ev_t rfl (ev_r rfl)
 | false =>
 refine ev_f rfl ?_
 cases h2:decide ((255:Int)<f3) with
 | true=>exact ev_t rfl (ev_r rfl)
 | false =>
 refine ev_f rfl (zaa (ze9b f4 f4) ?_)
 cases h3:bndB f4 f4 with
 | false=>exact ev_t rfl (ev_r rfl)
 | true =>
 refine ev_f rfl (zaa (ze9b f5 f5) ?_)
 cases h4:bndB f5 f5 with
 | false=>exact ev_t rfl (ev_r rfl)
 | true =>
 refine ev_f rfl ?_
 obtain ⟨hlen,hall⟩:=zg5.1 hc
 have:=za1 (tag:=1660002) (f:=fun x=>(zbl x).eval) (l:=l) (fun i=>((i:Int),(l,((l.length:Int),(f1,(f2,(f3,(f4,(f5,()))))))))) (zp7 f1 f2 f3 f4 f5)
   (fun q=>match q with | some q=>Sum.inl ((q.1:Int),(f1,(f2,(f3,(f4,(f5,())))))) | none=>Sum.inr (f1,(f2,(f3,(f4,(f5,()))))))
   (fun i x hx=>by
    have hi:=(List.getElem?_eq_some_iff.1 hx).1
    show (zbl ((i:Int),(l,((l.length:Int),(f1,(f2,(f3,(f4,(f5,()))))))))).eval=_
    unfold zbl
    refine ev_t (by simp <;> omega) (ev_g (by simp) (zaa (show l[Int.toNat (i:Int)]?=some x by simpa using hx) (zaa (zg9b f1 f2 f3 f4 f5 x (hall x (List.mem_of_getElem? hx))) ?_)))
    cases zp7 f1 f2 f3 f4 f5 x with
    | true=>exact ev_t rfl (ev_r rfl)
    | false=>exact ev_f rfl (ev_r (by rw [zax i (by omega)])))
   (by show (zbl _).eval=_; exact ev_f (by simp) (ev_r rfl)) 18446744073709551616 (by omega)
 refine zaa (show zf6 ((0:Int),(l,((l.length:Int),(f1,(f2,(f3,(f4,(f5,()))))))))=_ from this) ?_
 cases h:hit (zp7 f1 f2 f3 f4 f5) l with
 | none=>rfl
 | some q =>
  obtain ⟨i,r⟩:=q
  have hi:=zdp h
  show (Tr.ite (decide ((i:Int)<0)) _ _).eval=_
  exact ev_f (by simp) (ev_g (by simp) (zaa (show l[Int.toNat (i:Int)]?=some r by simpa using hi.1) (ev_r rfl)))
structure Bu where (rate most has at':Int)
def BOk (b:Bu):Prop:=0<=b.rate/\b.rate<=1000000/\1<=b.most/\b.most<=1000000000/\0<=b.has/\b.has<=b.most/\0<=b.at'/\b.at'<=1099511627776
theorem zws (b:Bu):∃ c:Int,zk7 (b.rate,(b.most,(b.has,(b.at',()))))=some (c,())/\(c=0↔BOk b):=by
 unfold zk7 zkj
 have no:∀ {c:Int},c≠0->¬ BOk b->(c=0↔BOk b):=fun h1 h2=>⟨fun h=>absurd h h1,fun h=>absurd h h2⟩
 by_cases h1:b.rate<0
 . exact ⟨1,ev_t (by simpa using h1) (ev_r rfl),no (by decide) fun h=>by have:=h.1; omega⟩
 by_cases h2:1000000<b.rate
 . exact ⟨1,ev_f (by simpa using h1) (ev_t (by simpa using h2) (ev_r rfl)),no (by decide) fun h=>by have:=h.2.1; omega⟩
 by_cases h3:b.most<1
 . exact ⟨1,ev_f (by simpa using h1) (ev_f (by simpa using h2) (ev_t (by simpa using h3) (ev_r rfl))),no (by decide) fun h=>by have:=h.2.2.1; omega⟩
 by_cases h4:1000000000<b.most
 . exact ⟨1,ev_f (by simpa using h1) (ev_f (by simpa using h2) (ev_f (by simpa using h3) (ev_t (by simpa using h4) (ev_r rfl)))),no (by decide) fun h=>by have:=h.2.2.2.1; omega⟩
 by_cases h5:b.has<0
 . exact ⟨4,ev_f (by simpa using h1) (ev_f (by simpa using h2) (ev_f (by simpa using h3) (ev_f (by simpa using h4) (ev_t (by simpa using h5) (ev_r rfl))))),no (by decide) fun h=>by have:=h.2.2.2.2.1; omega⟩
 by_cases h6:b.most<b.has
 . exact ⟨4,ev_f (by simpa using h1) (ev_f (by simpa using h2) (ev_f (by simpa using h3) (ev_f (by simpa using h4) (ev_f (by simpa using h5) (ev_t (by simpa using h6) (ev_r rfl)))))),no (by decide) fun h=>by have:=h.2.2.2.2.2.1; omega⟩
 by_cases h7:b.at'<0
 . exact ⟨4,ev_f (by simpa using h1) (ev_f (by simpa using h2) (ev_f (by simpa using h3) (ev_f (by simpa using h4) (ev_f (by simpa using h5) (ev_f (by simpa using h6) (ev_t (by simpa using h7) (ev_r rfl))))))),no (by decide) fun h=>by have:=h.2.2.2.2.2.2.1; omega⟩
 by_cases h8:1099511627776<b.at'
 . exact ⟨4,ev_f (by simpa using h1) (ev_f (by simpa using h2) (ev_f (by simpa using h3) (ev_f (by simpa using h4) (ev_f (by simpa using h5) (ev_f (by simpa using h6) (ev_f (by simpa using h7) (ev_t (by simpa using h8) (ev_r rfl)))))))),no (by decide) fun h=>by have:=h.2.2.2.2.2.2.2; omega⟩
 exact ⟨0,ev_f (by simpa using h1) (ev_f (by simpa using h2) (ev_f (by simpa using h3) (ev_f (by simpa using h4) (ev_f (by simpa using h5) (ev_f (by simpa using h6) (ev_f (by simpa using h7) (ev_f (by simpa using h8) (ev_r rfl)))))))),⟨fun _=>⟨by omega,by omega,by omega,by omega,by omega,by omega,by omega,by omega⟩,fun _=>rfl⟩⟩
theorem zms (x:Int) (h:-4611686018427387904<=x/\x<=4611686018427387904):IntKind.wrap IntKind.i64 x=x:=by
 simp [IntKind.wrap,IntKind.bits,IntKind.signed]
 split <;> omega

def tick (b:Bu) (now:Int):Int:=if 1000000000<now-b.at' then 1000000000 else now-b.at'
def lev (b:Bu) (now:Int):Int:=if b.has+b.rate*tick b now<b.most then b.has+b.rate*tick b now else b.most
theorem zopb {b:Bu} (hb:BOk b) {now:Int} (h0:b.at'<=now) (h1:now<=1099511627785):zyn (b.rate,(b.most,(b.has,(b.at',(now,())))))=some (lev b now,()):=by
 obtain ⟨r1,r2,m1,m2,s1,s2,t1,t2⟩:=hb
 have ht:0<=tick b now/\tick b now<=1000000000:=by unfold tick; split <;> omega
 have hp0:0<=b.rate*tick b now:=Int.mul_nonneg r1 ht.1
 have hp1:b.rate*tick b now<=1000000*1000000000:=Int.mul_le_mul r2 ht.2 ht.1 (by decide)
 unfold zyn zpj
 refine ev_r ?_
 have w1:IntKind.wrap IntKind.i64 (now-b.at')=now-b.at':=zms _ (by omega)
 have e1:(if (1000000000:Int)<now-b.at' then (1000000000:Int) else now-b.at')=tick b now:=rfl
 simp only [w1,if_true,e1]
 have w2:IntKind.wrap IntKind.i64 (b.rate*tick b now)=b.rate*tick b now:=zms _ (by omega)
 simp only [w2]
 have w3:IntKind.wrap IntKind.i64 (b.has+b.rate*tick b now)=b.has+b.rate*tick b now:=zms _ (by omega)
 simp only [w3]
 rfl
theorem z0o {b:Bu} (hb:BOk b) {now:Int} (h0:b.at'<=now):0<=lev b now/\lev b now<=b.most:=by
 obtain ⟨r1,r2,m1,m2,s1,s2,t1,t2⟩:=hb
 have ht:0<=tick b now:=by unfold tick; split <;> omega
 have hp0:0<=b.rate*tick b now:=Int.mul_nonneg r1 ht
 unfold lev
 split <;> omega
def tkOk (b:Bu) (now n:Int):Prop:=BOk b/\b.at'<=now/\now<=1099511627776/\0<=n/\n<=1000000000
def tkR (b:Bu) (now n:Int):Bu×Bool:=if lev b now<n then (⟨b.rate,b.most,lev b now,now⟩,false) else (⟨b.rate,b.most,lev b now-n,now⟩,true)
theorem zjsb {b:Bu} {now n:Int} (h:tkOk b now n):zhr (b.rate,(b.most,(b.has,(b.at',(now,(n,()))))))=some ((tkR b now n).1.rate,((tkR b now n).1.most,((tkR b now n).1.has,((tkR b now n).1.at',((tkR b now n).2,(0,())))))):=by
 obtain ⟨hb,h1,h2,h3,h4⟩:=h
 obtain ⟨c,hc,hc0⟩:=zws b
 have l1:=z0o hb h1
 have hm:=hb.2.2.2.1
 unfold zhr zmq tkR
 refine zaa hc (ev_f (by simp [hc0.2 hb]) (ev_f (by simp <;> omega) (ev_f (by simp <;> omega) (ev_f (by simp <;> omega) (ev_f (by simp <;> omega) (zaa (zopb hb h1 (by omega)) ?_))))))
 by_cases hn:lev b now<n
 . rw [if_pos hn]; exact ev_t (by simpa using hn) (ev_r rfl)
 . rw [if_neg hn]; exact ev_f (by simpa using hn) (ev_r (by rw [zms _ (by omega)]))
theorem zn3b {b:Bu} {now n:Int} (h:tkOk b now n):BOk (tkR b now n).1:=by
 obtain ⟨hb,h1,h2,h3,h4⟩:=h
 have l1:=z0o hb h1
 obtain ⟨r1,r2,m1,m2,s1,s2,t1,t2⟩:=hb
 unfold tkR
 split
 . exact ⟨r1,r2,m1,m2,l1.1,l1.2,by show 0<=now; omega,h2⟩
 . exact ⟨r1,r2,m1,m2,by show 0<=lev b now-n; omega,by show lev b now-n<=b.most; omega,by show 0<=now; omega,h2⟩
theorem z3x (n:Nat) (h:n<18446744073709551616):zg3 ((n:Int),())=some ((ear n:Int),()):=by
 unfold zg3 zjk zg2
 rw [Tr.eval,zhab (f:=fun x=>(zcr x).eval) (fun x:Int×Unit=>∃ m:Nat,x=((m:Int),())/\m<18446744073709551616) (fun x=>((ear x.1.toNat:Int),())) (fun x=>x.1.toNat) (fun a ha=>?_) _ _ ⟨n,rfl,h⟩ (by simpa using h)]
 . simp only [Option.bind_some,Tr.eval,Int.toNat_natCast]
   have:=zwh n
   rw [zi9,show (ear n:Int)%65536=ear n by omega]
 . obtain ⟨m,rfl,hm⟩:=ha
   simp only [Int.toNat_natCast]
   by_cases hbig:65535<m
   . right
     have hd:decide ((65535:Int)<(m:Int))=true:=by simp; omega
     refine ⟨(((m / 65536+m%65536:Nat):Int),()),?_,⟨_,rfl,by omega⟩,by simp; omega,by simp only [Int.toNat_natCast,zd0b]⟩
     simp only [zcr,Tr.eval,hd,cond_true]
     rw [zdhb,show (65535:Int)=((65535:Nat):Int) from rfl,zkl .u64 m 65535 (by show m<2^64; omega) (by decide) (fun h=>by cases h),zdd]
     have e1:m &&& 65535=m%65536:=Nat.and_two_pow_sub_one_eq_mod m 16
     rw [e1]
     have:((m:Int) / 65536+((m%65536:Nat):Int))%18446744073709551616=((m / 65536+m%65536:Nat):Int):=by omega
     rw [this]
   . left
     have hd:decide ((65535:Int)<(m:Int))=false:=by simp; omega
     simp only [zcr,Tr.eval,hd,cond_false]
     rw [zdzb m (by omega)]

abbrev Lim:Nat:=140737488355328
theorem ziwb (a b:UInt8) (r:List UInt8) (n:Nat) (h:n+65535<18446744073709551616):(zc2 (a :: b :: r,((n:Int),()))).eval=some (.inl (r,(((n+(a.toNat*256+b.toNat):Nat):Int),()))):=by
 have h1:=u8n a; have h2:=u8n b
 have hl:((List.length (a :: b :: r):Nat):Int)=r.length+2:=by simp; omega
 simp only [zc2,Tr.eval,hl]
 rw [show decide ((1:Int)<(r.length:Int)+2)=true by simp; omega,cond_true,show decide ((0:Int)<=0/\(0:Int)<(r.length:Int)+2)=true by simp; omega,cond_true,cond_true,
  show decide ((0:Int)<=1/\(1:Int)<(r.length:Int)+2)=true by simp; omega,cond_true,show decide ((0:Int)<=2/\(2:Int)<=(r.length:Int)+2/\(r.length:Int)+2<=(r.length:Int)+2)=true by simp; omega,cond_true]
 have e1:Int.toNat ((r.length:Int)+2)=(a :: b :: r).length:=by simp; omega
 have e2:List.getD (a :: b :: r) 0 0=a:=rfl
 have e3:List.getD (a :: b :: r) 1 0=b:=rfl
 rw [e1,List.take_length,e2,e3,zofb,zdd]
 have e4:((n:Int)+wv a b)%18446744073709551616=((n+(a.toNat*256+b.toNat):Nat):Int):=by unfold wv; omega
 rw [e4]; rfl
theorem z57:∀ (l:List UInt8) (n k:Nat),n+65535*l.length+65535<18446744073709551616->l.length<k -> ∃ (t:List UInt8) (m:Nat),zb2 1110002 (fun x=>(zc2 x).eval) k (l,((n:Int),()))=some (t,((m:Int),()))/\t.length<=1/\m+ws t=n+ws l/\m<=n+65535*l.length
 | a :: b :: r,n,k,h,hk=>by
  obtain ⟨k,rfl⟩:∃ k',k=k'+1:=⟨k-1,by simp at hk; omega⟩
  have h1:=u8n a; have h2:=u8n b
  simp only [List.length_cons] at h hk
  rw [za2 (ziwb a b r n (by omega))]
  obtain ⟨t,m,e,h3,h4,h5⟩:=z57 r (n+(a.toNat*256+b.toNat)) k (by omega) (by omega)
  refine ⟨t,m,e,h3,?_,?_⟩
  . simp only [ws]; omega
  . simp only [List.length_cons]; omega
 | [a],n,k,h,hk=>by
  obtain ⟨k,rfl⟩:∃ k',k=k'+1:=⟨k-1,by simp at hk; omega⟩
  exact ⟨[a],n,zam (by rfl),by simp,rfl,by omega⟩
 | [],n,k,h,hk=>by
  obtain ⟨k,rfl⟩:∃ k',k=k'+1:=⟨k-1,by simp at hk; omega⟩
  exact ⟨[],n,zam (by rfl),by simp,rfl,by omega⟩

theorem zpbb (n:Nat) (l:List UInt8) (hn:n<=65535) (hl:l.length<=Lim):zm7 ((n:Int),(l,()))=some ((ear (n+ws l):Int),()):=by
 obtain ⟨t,m,e,h3,h4,h5⟩:=z57 l n 18446744073709551616 (by unfold Lim at hl; omega) (by unfold Lim at hl; omega)
 have hw:IntKind.u64.wrap (n:Int)=n:=by rw [zdd]; omega
 have hm:m<18446744073709551616-16777216:=by unfold Lim at hl; omega
 simp only [zm7,zl6,ziw,hw,Tr.eval,e,Option.bind_some]
 match t,h3 with
 | [],_ =>
  simp only [decide_true,Bool.not_true,cond_false]
  rw [z3x m (by omega)]
  simp only [ws] at h4
  simp [Tr.eval,<- h4]
 | [a],_ =>
  have ha:=u8n a
  rw [show decide (([a]:List UInt8)=[])=false from rfl,Bool.not_false,cond_true,show decide ((0:Int)<=0/\(0:Int)<(([a]:List UInt8).length:Int))=true by simp,cond_true,cond_true]
  have e2:List.getD [a] 0 0=a:=rfl
  rw [e2,zdd,zdd,zdd]
  simp only [ws] at h4
  have e3:((m:Int)+((a.toNat:Int)%18446744073709551616*2^8)%18446744073709551616)%18446744073709551616=((n+ws l:Nat):Int):=by omega
  rw [e3,z3x _ (by omega)]
  simp [Tr.eval]

theorem zj9b (x:Int) (h:0<=x/\x<=65535):bits BinOp.xor IntKind.u16 (if IntKind.signed IntKind.u16=true then (-1:Int) else IntKind.max IntKind.u16) x=65535-x:=zj8b x h.1 h.2
theorem zq0 (l:List UInt8) (hl:l.length<=Lim):zc5 (l,())=some (decide (ws l≠0/\ws l%65535=0),()):=by
 unfold zc5 zh6
 have:=zpbb 0 l (by decide) hl
 rw [Tr.eval,show ((0:Int),(l,()))=(((0:Nat):Int),(l,())) from rfl,this]
 simp only [Option.bind_some,Tr.eval,Nat.zero_add]
 have e:((ear (ws l):Int)=65535)↔(ws l≠0/\ws l%65535=0):=by rw [<- zq4]; omega
 rw [decide_eq_decide.2 e]
theorem zjfb (c o n:Nat) (hc:c<=65535) (ho:o<=65535) (hn:n<=65535):zg4 ((c:Int),((o:Int),((n:Int),())))=some (65535-(ear (65535-c+(65535-o)+n):Int),()):=by
 simp only [zg4,zl5,Tr.eval]
 rw [zj9b c ⟨by omega,by omega⟩,zj9b o ⟨by omega,by omega⟩,zdd,zdd,zdd,zdd,zdd]
 have e:(((65535-(c:Int))%18446744073709551616+(65535-(o:Int))%18446744073709551616)%18446744073709551616+(n:Int)%18446744073709551616)%18446744073709551616=((65535-c+(65535-o)+n:Nat):Int):=by omega
 rw [e,z3x _ (by omega)]
 have:=zwh (65535-c+(65535-o)+n)
 simp only [Option.bind_some,Tr.eval]
 rw [zj9b _ ⟨by omega,by omega⟩]
theorem zc1 (x:Int) (h:-4611686018427387904<=x/\x<=4611686018427387904):IntKind.wrap IntKind.i64 x=x:=by
 simp [IntKind.wrap,IntKind.bits,IntKind.signed]
 split <;> omega
def bytB (x:Int):Bool:=decide ((0:Int)<=x)&&decide (x<=(255:Int))
theorem zof (x:Int):zgh (x,())=some (bytB x,()):=by
 simp only [zgh,zo0,bytB,Tr.eval,zk6]
theorem wr8 (x:Int):(0:Int)<=IntKind.wrap IntKind.u8 x/\IntKind.wrap IntKind.u8 x<256:=by rw [zu9]; omega
structure RefOk (p:TPacket):Prop where
 tos:0<=p.tos/\p.tos<=255
 life:0<=p.life/\p.life<=255
 proto:0<=p.proto/\p.proto<=255
 id:0<=p.id/\p.id<=65535
 start:0<=p.start/\p.start<=8191
 opt:p.options.length<=40
 four:p.options.length%4=0
 one:p.whole=true->p.more=false/\p.start=0
 data:p.options.length+p.data.length<=65515
theorem zvm (p:TPacket):∃ c:Int,zgg (p.tos,(p.id,(p.whole,(p.more,(p.start,(p.life,(p.proto,(p.from',(p.to,(p.options,(p.data,())))))))))))=some (c,())/\(c=0↔RefOk p):=by
 unfold zgg zgu
 have no:∀ {c:Int},c≠0->¬ RefOk p->(c=0↔RefOk p):=fun h1 h2=>⟨fun h=>absurd h h1,fun h=>absurd h h2⟩
 by_cases h1:0<=p.tos/\p.tos<=255
 case neg=>exact ⟨1,zaa (zof _) (ev_t (by simp [bytB]; omega) (ev_r rfl)),no (by decide) fun h=>h1 h.tos⟩
 by_cases h2:0<=p.life/\p.life<=255
 case neg=>exact ⟨1,zaa (zof _) (ev_f (by simp [bytB]; omega) (zaa (zof _) (ev_t (by simp [bytB]; omega) (ev_r rfl)))),no (by decide) fun h=>h2 h.life⟩
 by_cases h3:0<=p.proto/\p.proto<=255
 case neg=>exact ⟨1,zaa (zof _) (ev_f (by simp [bytB]; omega) (zaa (zof _) (ev_f (by simp [bytB]; omega) (zaa (zof _) (ev_t (by simp [bytB]; omega) (ev_r rfl)))))),no (by decide) fun h=>h3 h.proto⟩
 have pre:∀ {T:Tr (Int×Unit)} {r:Option (Int×Unit)},T.eval=r->(Tr.opt (zgh (p.tos,())) fun r0=>.ite (!r0.1) (.ret ((1:Int),())) (.opt (zgh (p.life,())) fun r1=>.ite (!r1.1) (.ret ((1:Int),())) (.opt (zgh (p.proto,())) fun r2=>.ite (!r2.1) (.ret ((1:Int),())) T))).eval=r:=fun h =>
   zaa (zof _) (ev_f (by simp [bytB]; omega) (zaa (zof _) (ev_f (by simp [bytB]; omega) (zaa (zof _) (ev_f (by simp [bytB]; omega) h)))))
 by_cases h4:p.id<0
 . exact ⟨1,pre (ev_t (by simpa using h4) (ev_r rfl)),no (by decide) fun h=>by have:=h.id; omega⟩
 by_cases h5:65535<p.id
 . exact ⟨1,pre (ev_f (by simpa using h4) (ev_t (by simpa using h5) (ev_r rfl))),no (by decide) fun h=>by have:=h.id; omega⟩
 by_cases h6:p.start<0
 . exact ⟨1,pre (ev_f (by simpa using h4) (ev_f (by simpa using h5) (ev_t (by simpa using h6) (ev_r rfl)))),no (by decide) fun h=>by have:=h.start; omega⟩
 by_cases h7:8191<p.start
 . exact ⟨1,pre (ev_f (by simpa using h4) (ev_f (by simpa using h5) (ev_f (by simpa using h6) (ev_t (by simpa using h7) (ev_r rfl))))),no (by decide) fun h=>by have:=h.start; omega⟩
 by_cases h8:40<p.options.length
 . exact ⟨1,pre (ev_f (by simpa using h4) (ev_f (by simpa using h5) (ev_f (by simpa using h6) (ev_f (by simpa using h7) (ev_t (by simp <;> omega) (ev_r rfl)))))),no (by decide) fun h=>by have:=h.opt; omega⟩
 have hm:Int.tmod (p.options.length:Int) 4=((p.options.length%4:Nat):Int):=by rw [Int.tmod_eq_emod_of_nonneg (by omega)]; omega
 have hw:IntKind.wrap IntKind.i64 ((65515:Int)-(p.options.length:Int))=65515-(p.options.length:Int):=zc1 _ (by omega)
 by_cases h9:p.options.length%4=0
 case neg=>exact ⟨1,pre (ev_f (by simpa using h4) (ev_f (by simpa using h5) (ev_f (by simpa using h6) (ev_f (by simpa using h7) (ev_f (by simp <;> omega) (ev_g rfl (ev_t (by rw [hm]; simp; omega) (ev_r rfl)))))))),no (by decide) fun h=>h9 h.four⟩
 have pre2:∀ {T:Tr (Int×Unit)} {r:Option (Int×Unit)},T.eval=r->_=r:=fun {T} {r} h=>pre (T:=.ite (decide (p.id<(0:Int))) (.ret ((1:Int),())) (.ite (decide ((65535:Int)<p.id)) (.ret ((1:Int),())) (.ite (decide (p.start<(0:Int))) (.ret ((1:Int),())) (.ite (decide ((8191:Int)<p.start)) (.ret ((1:Int),())) (.ite (decide ((40:Int)<(p.options.length:Int))) (.ret ((1:Int),())) (.grd true (.ite (!decide (Int.tmod (p.options.length:Int) (4:Int)=(0:Int))) (.ret ((1:Int),())) T)))))))
   (ev_f (by simpa using h4) (ev_f (by simpa using h5) (ev_f (by simpa using h6) (ev_f (by simpa using h7) (ev_f (by simp <;> omega) (ev_g rfl (ev_f (by rw [hm,h9]; rfl) h)))))))
 have tail:∀ {T:Tr (Int×Unit)},T=.ite (decide (IntKind.wrap IntKind.i64 ((65515:Int)-(p.options.length:Int))<(p.data.length:Int))) (.ret ((2:Int),())) (.ret ((0:Int),()))->(p.whole=true->p.more=false/\p.start=0) -> ∃ c:Int,T.eval=some (c,())/\(c=0↔RefOk p):=by
   rintro T rfl hone
   by_cases h10:p.options.length+p.data.length<=65515
   . exact ⟨0,ev_f (by rw [hw]; simp; omega) (ev_r rfl),⟨fun _=>⟨h1,h2,h3,by omega,by omega,by omega,h9,hone,h10⟩,fun _=>rfl⟩⟩
   . exact ⟨2,ev_t (by rw [hw]; simp; omega) (ev_r rfl),no (by decide) fun h=>h10 h.data⟩
 cases hwh:p.whole with
 | false =>
   obtain ⟨c,hc,hc0⟩:=tail rfl (fun h=>by rw [hwh] at h; cases h)
   exact ⟨c,pre2 (ev_f rfl hc),hc0⟩
 | true =>
   cases hmo:p.more with
   | true=>exact ⟨4,pre2 (ev_t rfl (ev_t rfl (ev_r rfl))),no (by decide) fun h=>by have:=(h.one hwh).1; rw [hmo] at this; cases this⟩
   | false =>
     by_cases hst:p.start=0
     . obtain ⟨c,hc,hc0⟩:=tail rfl (fun _=>⟨hmo,hst⟩)
       exact ⟨c,pre2 (ev_t rfl (ev_f rfl (ev_f (by simpa using hst) hc))),hc0⟩
     . exact ⟨4,pre2 (ev_t rfl (ev_f rfl (ev_t (by simpa using hst) (ev_r rfl)))),no (by decide) fun h=>hst (h.one hwh).2⟩
theorem za9 (l:List UInt8) (i:Nat) (h:i+1<l.length) (hl:l.length<=Lim):zbp (l,((i:Int),()))=some (wAt l i,()):=by
 have e1:IntKind.i64.wrap ((i:Int)+1)=((i+1:Nat):Int):=by
  rw [zc1 _ (by unfold Lim at hl; omega)]; omega
 simp only [zbp,zil,Tr.eval,e1,Int.toNat_natCast]
 rw [show decide (0<=(i:Int)/\(i:Int)<(l.length:Int))=true by simp; omega,cond_true,cond_true,show decide (0<=((i+1:Nat):Int)/\((i+1:Nat):Int)<(l.length:Int))=true by simp; omega,cond_true,zbwb]
 rfl
theorem zdu (l:List UInt8) (i:Nat) (h:i+3<l.length) (hl:l.length<=Lim):zmh (l,((i:Int),()))=some (lAt l i,()):=by
 have e1:IntKind.i64.wrap ((i:Int)+2)=((i+2:Nat):Int):=by
  rw [zc1 _ (by unfold Lim at hl; omega)]; omega
 have b1:=zac l i; have b2:=zac l (i+2)
 refine zaa (za9 l i (by omega) hl) (ev_g rfl ?_)
 rw [e1]
 refine zaa (za9 l (i+2) (by omega) hl) (ev_r ?_)
 have f1:IntKind.u32.wrap (wAt l i)=wAt l i:=by rw [zhv]; omega
 have f2:IntKind.u32.wrap (wAt l (i+2))=wAt l (i+2):=by rw [zhv]; omega
 have f3:IntKind.u32.wrap (wAt l i*2^16)=wAt l i*2^16:=by rw [zhv]; omega
 simp only [f1,f2,f3]
 rw [zbi .u32 16 (wAt l i) (wAt l (i+2)) (by omega) (by omega) (by omega) (by show _<(2:Int)^32; omega) (fun h=>by cases h)]
 unfold lAt; rfl
def hn (s:List UInt8):Nat:=(s.getD 0 0).toNat%16*4
def alln (s:List UInt8):Nat:=(wAt s 2).toNat
def pk (s:List UInt8):TPacket:=⟨((s.getD 1 0).toNat:Int),wAt s 4,decide (wAt s 6 / 16384%2=1),decide (wAt s 6 / 8192%2=1),wAt s 6%8192,((s.getD 8 0).toNat:Int),((s.getD 9 0).toNat:Int),lAt s 12,lAt s 16,(s.take (hn s)).drop 20,(s.take (alln s)).drop (hn s)⟩
structure IpOk (s:List UInt8):Prop where
 len:20<=s.length
 head:hn s<=s.length
 all:alln s<=s.length
 ver:(s.getD 0 0).toNat / 16=4
 h20:20<=hn s
 hall:hn s<=alln s
 flag:wAt s 6<32768
 ref:RefOk (pk s)
 sum0:ws (s.take (hn s))≠0
 sum:ws (s.take (hn s))%65535=0
theorem hnN (b:UInt8):IntKind.wrap IntKind.i64 (IntKind.wrap IntKind.i64 (bits BinOp.and IntKind.u8 (b.toNat:Int) (15:Int))*(4:Int))=((b.toNat%16*4:Nat):Int):=by
 have:=u8n b
 have h:=zdo .u8 4 (b.toNat:Int) (by omega) (by show (b.toNat:Int)<2^8; omega) (by decide) (fun h=>by cases h)
 have w1:IntKind.wrap IntKind.i64 ((b.toNat%16:Nat):Int)=((b.toNat%16:Nat):Int):=zc1 _ (by omega)
 have w2:IntKind.wrap IntKind.i64 (((b.toNat%16:Nat):Int)*4)=((b.toNat%16:Nat):Int)*4:=zc1 _ (by omega)
 rw [show ((15:Int))=2^4-1 from rfl,h,show (b.toNat:Int)%2^4=((b.toNat%16:Nat):Int) by omega,w1,w2]
 omega
theorem fd4 (b:UInt8):Int.fdiv (b.toNat:Int) ((2:Int)^(4:Nat))=((b.toNat / 16:Nat):Int):=by rw [zd7 _ (by decide)]; omega
theorem fd15 (x:Int):Int.fdiv x ((2:Int)^(15:Nat))=x / 32768:=zd7 _ (by decide)
theorem bit1 (x:Int) (h:0<=x/\x<=65535):bits BinOp.and IntKind.i64 x (1:Int)=x%2:=by
 have:=zdo .i64 1 x h.1 (by show x<2^64; omega) (by decide) (fun _=>by show x<2^63; omega)
 rw [show ((1:Int))=2^1-1 from rfl,this]; rfl
theorem zl1b (x:Int) (h:0<=x/\x<=65535):bits BinOp.and IntKind.i64 x (8191:Int)=x%8192:=by
 have:=zdo .i64 13 x h.1 (by show x<2^64; omega) (by decide) (fun _=>by show x<2^63; omega)
 rw [show ((8191:Int))=2^13-1 from rfl,this]; rfl
def p11 (p:TPacket) {R:Type} (r:R):=(p.tos,(p.id,(p.whole,(p.more,(p.start,(p.life,(p.proto,(p.from',(p.to,(p.options,(p.data,r)))))))))))
def zp:TPacket:=⟨0,0,false,false,0,0,0,0,0,[],[]⟩
theorem zym (b:UInt8):IntKind.wrap IntKind.i64 (b.toNat:Int)=b.toNat:=by have:=u8n b; exact zc1 _ (by omega)
theorem zj2 {s:List UInt8} (h:IpOk s) (hl:s.length<=Lim):zfu (s,())=some (p11 (pk s) ((0:Int),())):=by
 obtain ⟨h1,h2,h3,h4,h5,h6,h7,h8,h9,h10⟩:=h
 have b2:=zac s 2; have b6:=zac s 6
 have ha:(alln s:Int)=wAt s 2:=by unfold alln; omega
 obtain ⟨c,hc,hc0⟩:=zvm (pk s)
 have hcz:=hc0.2 h8
 subst hcz
 have hh:hn s<=60:=by have:=u8n (s.getD 0 0); unfold hn; omega
 have hr:=zq0 (s.take (hn s)) (by rw [List.length_take]; unfold Lim; omega)
 unfold zfu zim
 simp only [hnN,fd4,fd15]
 refine ev_f (by (first | (simp; done) | (simp; omega) | omega)) (ev_g (by (first | (simp; done) | (simp; omega) | omega)) (zaa (za9 s 2 (by omega) hl) (ev_f (show decide ((s.length:Int)<(hn s:Int))=false by (first | (simp; done) | (simp; omega) | omega)) (ev_f (show decide ((s.length:Int)<wAt s 2)=false by (first | (simp; done) | (simp; omega) | omega)) (zaa (za9 s 6 (by omega) hl) (ev_g (by (first | (simp; done) | (simp; omega) | omega)) (ev_g rfl (ev_f (by rw [h4]; rfl) (ev_f (show decide ((hn s:Int)<20)=false by (first | (simp; done) | (simp; omega) | omega)) (ev_f (show decide (wAt s 2<(hn s:Int))=false by (first | (simp; done) | (simp; omega) | omega)) (ev_g rfl (ev_f (by (first | (simp; done) | (simp; omega) | omega)) (ev_g (by (first | (simp; done) | (simp; omega) | omega)) (zaa (za9 s 4 (by omega) hl) (ev_g rfl (ev_g rfl (ev_g (by (first | (simp; done) | (simp; omega) | omega)) (ev_g (by (first | (simp; done) | (simp; omega) | omega)) (zaa (zdu s 12 (by omega) hl) (zaa (zdu s 16 (by omega) hl) (ev_g (show decide ((0:Int)<=20/\(20:Int)<=(hn s:Int)/\(hn s:Int)<=(s.length:Int))=true by (first | (simp; done) | (simp; omega) | omega)) (ev_g (show decide ((0:Int)<=(hn s:Int)/\(hn s:Int)<=wAt s 2/\wAt s 2<=(s.length:Int))=true by (first | (simp; done) | (simp; omega) | omega)) ?_))))))))))))))))))))))
 rw [zd7 (wAt s 6) (by decide),zd7 (wAt s 6) (by decide),bit1 _ ⟨by omega,by omega⟩,bit1 _ ⟨by omega,by omega⟩,zl1b _ b6,zym,zym,zym]
 refine zaa (show _=some ((0:Int),()) from hc) (ev_f rfl (ev_g (show decide ((0:Int)<=0/\(0:Int)<=(hn s:Int)/\(hn s:Int)<=(s.length:Int))=true by (first | (simp; done) | (simp; omega) | omega)) (zaa (b:=(true,())) ?_ (ev_f rfl (ev_r ?_)))))
 . show zc5 (List.drop 0 (List.take (Int.toNat (hn s:Int)) s),())=_
   rw [Int.toNat_natCast,List.drop_zero,hr,decide_eq_true ⟨h9,h10⟩]
 . rfl
theorem z79 {s:List UInt8} (h:¬ IpOk s) (hl:s.length<=Lim):∃ e:Int,(e≠0/\(e=3\/e=4\/e=5))/\zfu (s,())=some (p11 zp (e,())):=by
 have b2:=zac s 2; have b6:=zac s 6
 have ha:(alln s:Int)=wAt s 2:=by unfold alln; omega
 have hh:hn s<=60:=by have:=u8n (s.getD 0 0); unfold hn; omega
 unfold zfu zim
 simp only [hnN,fd4,fd15]
 by_cases h1:s.length<20
 . exact ⟨3,by decide,ev_t (by (first | (simp; done) | (simp; omega) | omega)) (ev_r rfl)⟩
 by_cases h2:s.length<hn s
 . exact ⟨3,by decide,ev_f (by (first | (simp; done) | (simp; omega) | omega)) (ev_g (by (first | (simp; done) | (simp; omega) | omega)) (zaa (za9 s 2 (by omega) hl) (ev_t (show decide ((s.length:Int)<(hn s:Int))=true by (first | (simp; done) | (simp; omega) | omega)) (ev_r rfl))))⟩
 by_cases h3:(s.length:Int)<wAt s 2
 . exact ⟨3,by decide,ev_f (by (first | (simp; done) | (simp; omega) | omega)) (ev_g (by (first | (simp; done) | (simp; omega) | omega)) (zaa (za9 s 2 (by omega) hl) (ev_f (show decide ((s.length:Int)<(hn s:Int))=false by (first | (simp; done) | (simp; omega) | omega)) (ev_t (by (first | (simp; done) | (simp; omega) | omega)) (ev_r rfl)))))⟩
 by_cases h4:(s.getD 0 0).toNat / 16=4
 case neg=>exact ⟨4,by decide,ev_f (by (first | (simp; done) | (simp; omega) | omega)) (ev_g (by (first | (simp; done) | (simp; omega) | omega)) (zaa (za9 s 2 (by omega) hl) (ev_f (show decide ((s.length:Int)<(hn s:Int))=false by (first | (simp; done) | (simp; omega) | omega)) (ev_f (by (first | (simp; done) | (simp; omega) | omega)) (zaa (za9 s 6 (by omega) hl) (ev_g (by (first | (simp; done) | (simp; omega) | omega)) (ev_g rfl (ev_t (by rw [decide_eq_false (by omega)]; rfl) (ev_r rfl)))))))))⟩
 by_cases h5:hn s<20
 . exact ⟨4,by decide,ev_f (by (first | (simp; done) | (simp; omega) | omega)) (ev_g (by (first | (simp; done) | (simp; omega) | omega)) (zaa (za9 s 2 (by omega) hl) (ev_f (show decide ((s.length:Int)<(hn s:Int))=false by (first | (simp; done) | (simp; omega) | omega)) (ev_f (by (first | (simp; done) | (simp; omega) | omega)) (zaa (za9 s 6 (by omega) hl) (ev_g (by (first | (simp; done) | (simp; omega) | omega)) (ev_g rfl (ev_f (by rw [h4]; rfl) (ev_t (show decide ((hn s:Int)<20)=true by (first | (simp; done) | (simp; omega) | omega)) (ev_r rfl))))))))))⟩
 by_cases h6:wAt s 2<(hn s:Int)
 . exact ⟨4,by decide,ev_f (by (first | (simp; done) | (simp; omega) | omega)) (ev_g (by (first | (simp; done) | (simp; omega) | omega)) (zaa (za9 s 2 (by omega) hl) (ev_f (show decide ((s.length:Int)<(hn s:Int))=false by (first | (simp; done) | (simp; omega) | omega)) (ev_f (by (first | (simp; done) | (simp; omega) | omega)) (zaa (za9 s 6 (by omega) hl) (ev_g (by (first | (simp; done) | (simp; omega) | omega)) (ev_g rfl (ev_f (by rw [h4]; rfl) (ev_f (show decide ((hn s:Int)<20)=false by (first | (simp; done) | (simp; omega) | omega)) (ev_t (show decide (wAt s 2<(hn s:Int))=true by (first | (simp; done) | (simp; omega) | omega)) (ev_r rfl)))))))))))⟩
 by_cases h7:wAt s 6<32768
 case neg=>exact ⟨4,by decide,ev_f (by (first | (simp; done) | (simp; omega) | omega)) (ev_g (by (first | (simp; done) | (simp; omega) | omega)) (zaa (za9 s 2 (by omega) hl) (ev_f (show decide ((s.length:Int)<(hn s:Int))=false by (first | (simp; done) | (simp; omega) | omega)) (ev_f (by (first | (simp; done) | (simp; omega) | omega)) (zaa (za9 s 6 (by omega) hl) (ev_g (by (first | (simp; done) | (simp; omega) | omega)) (ev_g rfl (ev_f (by rw [h4]; rfl) (ev_f (show decide ((hn s:Int)<20)=false by (first | (simp; done) | (simp; omega) | omega)) (ev_f (show decide (wAt s 2<(hn s:Int))=false by (first | (simp; done) | (simp; omega) | omega)) (ev_g rfl (ev_t (by (first | (simp; done) | (simp; omega) | omega)) (ev_r rfl)))))))))))))⟩
 obtain ⟨c,hc,hc0⟩:=zvm (pk s)
 by_cases h8:RefOk (pk s)
 case neg =>
   have hcz:¬ c=0:=fun e=>h8 (hc0.1 e)
   refine ⟨4,by decide,?_⟩
   refine ev_f (by (first | (simp; done) | (simp; omega) | omega)) (ev_g (by (first | (simp; done) | (simp; omega) | omega)) (zaa (za9 s 2 (by omega) hl) (ev_f (show decide ((s.length:Int)<(hn s:Int))=false by (first | (simp; done) | (simp; omega) | omega)) (ev_f (show decide ((s.length:Int)<wAt s 2)=false by (first | (simp; done) | (simp; omega) | omega)) (zaa (za9 s 6 (by omega) hl) (ev_g (by (first | (simp; done) | (simp; omega) | omega)) (ev_g rfl (ev_f (by rw [h4]; rfl) (ev_f (show decide ((hn s:Int)<20)=false by (first | (simp; done) | (simp; omega) | omega)) (ev_f (show decide (wAt s 2<(hn s:Int))=false by (first | (simp; done) | (simp; omega) | omega)) (ev_g rfl (ev_f (by (first | (simp; done) | (simp; omega) | omega)) (ev_g (by (first | (simp; done) | (simp; omega) | omega)) (zaa (za9 s 4 (by omega) hl) (ev_g rfl (ev_g rfl (ev_g (by (first | (simp; done) | (simp; omega) | omega)) (ev_g (by (first | (simp; done) | (simp; omega) | omega)) (zaa (zdu s 12 (by omega) hl) (zaa (zdu s 16 (by omega) hl) (ev_g (show decide ((0:Int)<=20/\(20:Int)<=(hn s:Int)/\(hn s:Int)<=(s.length:Int))=true by (first | (simp; done) | (simp; omega) | omega)) (ev_g (show decide ((0:Int)<=(hn s:Int)/\(hn s:Int)<=wAt s 2/\wAt s 2<=(s.length:Int))=true by (first | (simp; done) | (simp; omega) | omega)) ?_))))))))))))))))))))))
   rw [zd7 (wAt s 6) (by decide),zd7 (wAt s 6) (by decide),bit1 _ ⟨by omega,by omega⟩,bit1 _ ⟨by omega,by omega⟩,zl1b _ b6,zym,zym,zym]
   exact zaa (show _=some (c,()) from hc) (ev_t (by rw [decide_eq_false hcz]; rfl) (ev_r rfl))
 have hcz:=hc0.2 h8
 subst hcz
 refine ⟨5,by decide,?_⟩
 have hr:=zq0 (s.take (hn s)) (by rw [List.length_take]; unfold Lim; omega)
 have h9:¬ (ws (s.take (hn s))≠0/\ws (s.take (hn s))%65535=0):=fun e=>h ⟨by omega,by omega,by omega,h4,by omega,by omega,h7,h8,e.1,e.2⟩
 refine ev_f (by (first | (simp; done) | (simp; omega) | omega)) (ev_g (by (first | (simp; done) | (simp; omega) | omega)) (zaa (za9 s 2 (by omega) hl) (ev_f (show decide ((s.length:Int)<(hn s:Int))=false by (first | (simp; done) | (simp; omega) | omega)) (ev_f (show decide ((s.length:Int)<wAt s 2)=false by (first | (simp; done) | (simp; omega) | omega)) (zaa (za9 s 6 (by omega) hl) (ev_g (by (first | (simp; done) | (simp; omega) | omega)) (ev_g rfl (ev_f (by rw [h4]; rfl) (ev_f (show decide ((hn s:Int)<20)=false by (first | (simp; done) | (simp; omega) | omega)) (ev_f (show decide (wAt s 2<(hn s:Int))=false by (first | (simp; done) | (simp; omega) | omega)) (ev_g rfl (ev_f (by (first | (simp; done) | (simp; omega) | omega)) (ev_g (by (first | (simp; done) | (simp; omega) | omega)) (zaa (za9 s 4 (by omega) hl) (ev_g rfl (ev_g rfl (ev_g (by (first | (simp; done) | (simp; omega) | omega)) (ev_g (by (first | (simp; done) | (simp; omega) | omega)) (zaa (zdu s 12 (by omega) hl) (zaa (zdu s 16 (by omega) hl) (ev_g (show decide ((0:Int)<=20/\(20:Int)<=(hn s:Int)/\(hn s:Int)<=(s.length:Int))=true by (first | (simp; done) | (simp; omega) | omega)) (ev_g (show decide ((0:Int)<=(hn s:Int)/\(hn s:Int)<=wAt s 2/\wAt s 2<=(s.length:Int))=true by (first | (simp; done) | (simp; omega) | omega)) ?_))))))))))))))))))))))
 rw [zd7 (wAt s 6) (by decide),zd7 (wAt s 6) (by decide),bit1 _ ⟨by omega,by omega⟩,bit1 _ ⟨by omega,by omega⟩,zl1b _ b6,zym,zym,zym]
 refine zaa (show _=some ((0:Int),()) from hc) (ev_f rfl (ev_g (show decide ((0:Int)<=0/\(0:Int)<=(hn s:Int)/\(hn s:Int)<=(s.length:Int))=true by (first | (simp; done) | (simp; omega) | omega)) (zaa (b:=(false,())) ?_ (ev_t rfl (ev_r rfl)))))
 show zc5 (List.drop 0 (List.take (Int.toNat (hn s:Int)) s),())=_
 rw [Int.toNat_natCast,List.drop_zero,hr,decide_eq_false h9]
theorem m256 (x:Int):decide (0<=x%256/\x%256<256)=true:=by simp; omega
theorem z1i (x:Int):zcl (x,())=some (wd x,()):=by
 simp only [zcl,zml,Tr.eval,zu9,zktb,m256,cond_true,wd,byteOf]
abbrev U32 (x:Int):Prop:=0<=x/\x<=4294967295
theorem z1l (x:Int) (h:U32 x):zn6 (x,())=some (lg x,()):=by
 have e1:IntKind.i64.wrap (x / 65536)=x / 65536:=zag ⟨by unfold U32 at h; omega,by unfold U32 at h; omega⟩
 have e2:IntKind.i64.wrap x=x:=zag ⟨by unfold U32 at h; omega,by unfold U32 at h; omega⟩
 simp only [zn6,zmm,Tr.eval,zdhb,e1,e2,cond_true,z1i,Option.bind_some,zi0b]
 rfl
theorem zvc (l:List UInt8) (i:Nat) (h:i+1<l.length) (hl:l.length<=Lim):zcm (l,((i:Int),()))=some (wAt l i,()):=by
 have e1:IntKind.i64.wrap ((i:Int)+1)=((i+1:Nat):Int):=by
  rw [zag ⟨by unfold Lim at hl; omega,by unfold Lim at hl; omega⟩]; omega
 simp only [zcm,zir,Tr.eval,e1,Int.toNat_natCast]
 rw [show decide (0<=(i:Int)/\(i:Int)<(l.length:Int))=true by simp; omega,cond_true,cond_true,show decide (0<=((i+1:Nat):Int)/\((i+1:Nat):Int)<(l.length:Int))=true by simp; omega,cond_true,zbwb]
 rfl
def under (f t p n:Int):List UInt8:=lg f++lg t++wd p++wd n
@[simp] theorem zy0 (f t p n:Int):(under f t p n).length=12:=rfl
theorem zwk (f t p n:Int) (hf:U32 f) (ht:U32 t) (hp:0<=p/\p<=255):ze1 (f,(t,(p,(n,()))))=some (under f t p n,()):=by
 have e1:bits .and .i64 p 255=p:=by
  have:=zdo .i64 8 p hp.1 (by show p<2^64; omega) (by decide) (fun _=>by show p<2^63; omega)
  rw [show ((255:Int))=2^8-1 from rfl,this]; omega
 simp only [ze1,zkb,Tr.eval,z1l f hf,z1l t ht,e1,z1i,Option.bind_some,zoob,zi0b,List.length_append,Nat.reduceAdd,Nat.reduceLeDiff,decide_true,cond_true]
 rfl
def uw (f t p n:Int):Int:=f / 65536%65536+f%65536+(t / 65536%65536+t%65536)+p%65536+n%65536
theorem zmbb (x:Int):(ws (lg x):Int)=x / 65536%65536+x%65536:=by
 unfold lg; rw [z9w,zfwb]
theorem zqv (f t p n:Int) (k:List UInt8):(ws (under f t p n++k):Int)=uw f t p n+ws k:=by
 have h1:=zmr (under f t p n) k (by simp)
 have h2:=zmr (lg f++lg t++wd p) (wd n) (by simp)
 have h3:=zmr (lg f++lg t) (wd p) (by simp)
 have h4:=zmr (lg f) (lg t) (by simp)
 have:=zmbb f; have:=zmbb t; have:=zfwb p; have:=zfwb n
 unfold under uw at *
 omega
def lb (a b:Int) (d:List UInt8) (c:Int):List UInt8:=wd a++wd b++wd (8+d.length)++wd c++d
@[simp] theorem zp0b (a b:Int) (d:List UInt8) (c:Int):(lb a b d c).length=8+d.length:=by simp [lb]; omega
def lc (f t a b:Int) (d:List UInt8):Int :=
 let c:=65535-(ear (ws (under f t 17 (8+d.length)++(wd a++wd b++wd (8+d.length))++d)):Int)
 if c=0 then 65535 else c
def rd (s:List UInt8) (f t:Int):Int×Int×List UInt8×Int :=
 if s.length<8 then (0,0,[],3) else
 if (s.length:Int)<wAt s 4 then (0,0,[],3) else
 if wAt s 4<8 then (0,0,[],4) else
 if 65515<wAt s 4 then (0,0,[],4) else
 if wAt s 6≠0/\¬ (ws (under f t 17 (wAt s 4)++s.take (wAt s 4).toNat)≠0/\ws (under f t 17 (wAt s 4)++s.take (wAt s 4).toNat)%65535=0) then (0,0,[],5) else
 (wAt s 0,wAt s 2,(s.take (wAt s 4).toNat).drop 8,0)
theorem z1j (s:List UInt8) (f t:Int) (hs:s.length<=Lim) (hf:U32 f) (ht:U32 t):zkc (s,(f,(t,())))=some ((rd s f t).1,((rd s f t).2.1,((rd s f t).2.2.1,((rd s f t).2.2.2,())))):=by
 unfold rd
 by_cases h8:s.length<8
 . rw [if_pos h8]; exact ev_t (by simp <;> omega) rfl
 rw [if_neg h8]
 have w4:=zvc s 4 (by omega) hs
 have b4:=zac s 4
 refine ev_f (by simp <;> omega) (zaa w4 ?_)
 by_cases h1:(s.length:Int)<wAt s 4
 . rw [if_pos h1]; exact ev_t (by simpa using h1) rfl
 rw [if_neg h1]
 refine ev_f (by simpa using h1) ?_
 by_cases h2:wAt s 4<8
 . rw [if_pos h2]; exact ev_t (by simpa using h2) rfl
 rw [if_neg h2]
 refine ev_f (by simpa using h2) ?_
 by_cases h3:65515<wAt s 4
 . rw [if_pos h3]; exact ev_t (by simpa using h3) rfl
 rw [if_neg h3]
 refine ev_f (by simpa using h3) (zaa (zvc s 6 (by omega) hs) ?_)
 have hlt:(s.take (wAt s 4).toNat).length<=65515:=by rw [List.length_take]; omega
 by_cases h6:wAt s 6=0
 . rw [if_neg (by simp [h6])]
   refine ev_f (by simp [h6]) (zaa (zvc s 0 (by omega) hs) (zaa (zvc s 2 (by omega) hs) (ev_g (by simp <;> omega) rfl)))
 . refine ev_t (by simp [h6]) (zaa (zwk f t 17 _ hf ht (by decide)) (ev_g (by simp <;> omega) (ev_g (by simp <;> omega) ?_)))
   have hr:=zq0 (under f t 17 (wAt s 4)++s.take (wAt s 4).toNat) (by simp; unfold Lim; omega)
   rw [<- List.drop_zero (l:=s.take (wAt s 4).toNat)] at hr
   refine zaa hr ?_
   rw [List.drop_zero]
   by_cases hx:ws (under f t 17 (wAt s 4)++s.take (wAt s 4).toNat)≠0/\ws (under f t 17 (wAt s 4)++s.take (wAt s 4).toNat)%65535=0
   . rw [if_neg (fun h=>h.2 hx)]
     exact ev_f (by simpa using hx) (zaa (zvc s 0 (by omega) hs) (zaa (zvc s 2 (by omega) hs) (ev_g (by simp <;> omega) rfl)))
   . rw [if_pos ⟨h6,hx⟩]
     exact ev_t (by rw [decide_eq_false hx]; rfl) rfl

theorem zor (l:List UInt8) (i:Nat) (h:i+1<l.length) (hl:l.length<=Lim):zcf (l,((i:Int),()))=some (wAt l i,()):=by
 have e1:IntKind.i64.wrap ((i:Int)+1)=((i+1:Nat):Int):=by
  rw [zag ⟨by unfold Lim at hl; omega,by unfold Lim at hl; omega⟩]; omega
 simp only [zcf,zh2,Tr.eval,e1,Int.toNat_natCast]
 rw [show decide (0<=(i:Int)/\(i:Int)<(l.length:Int))=true by simp; omega,cond_true,cond_true,show decide (0<=((i+1:Nat):Int)/\((i+1:Nat):Int)<(l.length:Int))=true by simp; omega,cond_true,zbwb]
 rfl
theorem zrq (l:List UInt8) (i:Nat) (h:i+3<l.length) (hl:l.length<=Lim):zl3 (l,((i:Int),()))=some (lAt l i,()):=by
 have e1:IntKind.i64.wrap ((i:Int)+2)=((i+2:Nat):Int):=by
  rw [zag ⟨by unfold Lim at hl; omega,by unfold Lim at hl; omega⟩]; omega
 have b1:=zac l i; have b2:=zac l (i+2)
 refine zaa (zor l i (by omega) hl) (ev_g rfl ?_)
 rw [e1]
 refine zaa (zor l (i+2) (by omega) hl) (ev_r ?_)
 have f1:IntKind.u32.wrap (wAt l i)=wAt l i:=by rw [zhv]; omega
 have f2:IntKind.u32.wrap (wAt l (i+2))=wAt l (i+2):=by rw [zhv]; omega
 have f3:IntKind.u32.wrap (wAt l i*2^16)=wAt l i*2^16:=by rw [zhv]; omega
 simp only [f1,f2,f3]
 rw [zbi .u32 16 (wAt l i) (wAt l (i+2)) (by omega) (by omega) (by omega) (by show _<(2:Int)^32; omega) (fun h=>by cases h)]
 unfold lAt; rfl

def ob (o:TOption):List UInt8:=if 1<o.kind then byteOf o.kind :: byteOf (o.data.length+2) :: o.data else [byteOf o.kind]
def obs (l:List TOption):List UInt8:=l.flatMap ob
def pad (o:List UInt8):List UInt8:=o++List.replicate ((4-o.length%4)%4) 0
theorem tmN (n k:Nat):Int.tmod (n:Int) (k:Int)=((n%k:Nat):Int):=by
 rw [Int.tmod_eq_emod_of_nonneg (by omega)]; rfl
def sA (g:TSegment) (n:Int):List UInt8:=wd g.from'++wd g.to++lg g.seq++lg g.ack++[byteOf (n*4),byteOf g.flags]++wd g.window
def sB (g:TSegment):List UInt8:=wd g.urgent++pad (obs g.options)++g.data
def sn (g:TSegment):Int:=20+((pad (obs g.options)).length:Int)
def sc (g:TSegment) (f t:Int):Int:=65535-(ear (ws (under f t 6 (sn g+g.data.length)++sA g (sn g)++sB g)):Int)
def sb (g:TSegment) (f t:Int):List UInt8:=sA g (sn g)++wd (sc g f t)++sB g
def g9 (g:TSegment) {R:Type} (r:R):(Int×(Int×(Int×(Int×(Int×(Int×(Int×((List TOption)×((List UInt8)×R))))))))) :=
 (g.from',(g.to,(g.seq,(g.ack,(g.flags,(g.window,(g.urgent,(g.options,(g.data,r)))))))))
def okR (o:TOption):Prop:=1<=o.kind/\o.kind<=255/\o.data.length<=253/\(o.kind=1->o.data=[])
theorem zoe (b:UInt8):IntKind.wrap IntKind.i64 (b.toNat:Int)=b.toNat:=by have:=u8n b; exact zag ⟨by omega,by omega⟩
theorem zm5 (l:List UInt8):List.take (Int.toNat (l.length:Int)) l=l:=by rw [Int.toNat_natCast,List.take_length]
theorem zbtb (b:UInt8) (r:List UInt8) (acc:List TOption) (hb:b.toNat=1) (hl:acc.length+r.length<=1000) :
  (zal (b :: r,(acc,()))).eval=some (.inl (r,(acc++[TOption.mk 1 []],()))):=by
 unfold zal
 have e:List.getD (b :: r) 0 0=b:=rfl
 refine ev_t (by simp) (ev_g (by (first | (simp; done) | (simp; omega) | omega)) (ev_t (by rw [e,hb]; rfl) (ev_g (by (first | (simp; done) | (simp; omega) | omega)) (ev_t (by rw [e,hb]; rfl) (ev_g (by (first | (simp; done) | (simp; omega) | omega)) (ev_g (by (first | (simp; done) | (simp; omega) | omega)) (ev_g (by simp) (ev_r ?_))))))))
 rw [zm5]; rfl
theorem z70 (b c:UInt8) (d r:List UInt8) (acc:List TOption) (hb:2<=b.toNat) (hc:c.toNat=d.length+2) (hl:acc.length+r.length+d.length<=1000) :
  (zal (b :: c :: (d++r),(acc,()))).eval=some (.inl (r,(acc++[TOption.mk b.toNat d],()))):=by
 unfold zal
 have e:List.getD (b :: c :: (d++r)) 0 0=b:=rfl
 have e1:List.getD (b :: c :: (d++r)) 1 0=c:=rfl
 have h1:=u8n b; have h2:=u8n c
 have hlen:(b :: c :: (d++r)).length=d.length+r.length+2:=by simp
 have t1:List.take (Int.toNat (c.toNat:Int)) (b :: c :: (d++r))=b :: c :: d:=by
  rw [Int.toNat_natCast,hc]; simp
 have t2:List.drop (Int.toNat (c.toNat:Int)) (b :: c :: (d++r))=r:=by
  rw [Int.toNat_natCast,hc]; simp
 simp only [e,e1,zoe,hlen]
 refine ev_t (by simp) (ev_g (by (first | (simp; done) | (simp; omega) | omega)) (ev_t (by (first | (simp; done) | (simp; omega) | omega)) (ev_g (by (first | (simp; done) | (simp; omega) | omega)) (ev_f (by (first | (simp; done) | (simp; omega) | omega)) (ev_f (by (first | (simp; done) | (simp; omega) | omega)) (ev_g (by (first | (simp; done) | (simp; omega) | omega)) (ev_f (by (first | (simp; done) | (simp; omega) | omega)) (ev_g (by (first | (simp; done) | (simp; omega) | omega)) (ev_f (by (first | (simp; done) | (simp; omega) | omega)) (ev_g (by (first | (simp; done) | (simp; omega) | omega)) (ev_g (by (first | (simp; done) | (simp; omega) | omega)) (ev_g (by (first | (simp; done) | (simp; omega) | omega)) (ev_g (by (first | (simp; done) | (simp; omega) | omega)) (ev_g (by (first | (simp; done) | (simp; omega) | omega)) (ev_g (by simp) (ev_r ?_))))))))))))))))
 rw [t1,show List.take (Int.toNat ((d.length+r.length+2:Nat):Int)) (b :: c :: (d++r))=b :: c :: (d++r) by rw [Int.toNat_natCast,<- hlen,List.take_length],t2]
 rfl
theorem z7z (s:List UInt8) (acc:List TOption) (h:s=[]\/(s.getD 0 0).toNat=0):(zal (s,(acc,()))).eval=some (.inr (.inr (s,(acc,())))):=by
 unfold zal
 match s,h with
 | [],_=>exact ev_f rfl (ev_g (by simp) (ev_r rfl))
 | b :: r,h =>
  have h:b.toNat=0:=by
   rcases h with h | h
   . cases h
   . exact h
  have e:List.getD (b :: r) 0 0=b:=rfl
  exact ev_t (by simp) (ev_g (by (first | (simp; done) | (simp; omega) | omega)) (ev_f (by rw [e,h]; rfl) (ev_g (by simp) (ev_r rfl))))
abbrev zocb:=fun (n:Nat) (x:(List UInt8)×((List TOption)×Unit))=>zb2 640002 (fun x=>(zal x).eval) n x
theorem znn (o:TOption) (l:List TOption):obs (o :: l)=ob o++obs l:=rfl
theorem zq1:∀ (k:Nat) (s:List UInt8) (acc:List TOption) (n:Nat),s.length<=k->acc.length+s.length<=1000->k<n ->
  zocb n (s,(acc,()))=some (.inl (false,())) \/ ∃ l rest,s=obs l++rest/\(∀ o∈l,okR o)/\zocb n (s,(acc,()))=some (.inr (rest,(acc++l,())))
 | k,s,acc,n,hk,ha,hn=>by
  obtain ⟨n,rfl⟩:∃ m,n=m+1:=⟨n-1,by omega⟩
  by_cases h0:s=[]\/(s.getD 0 0).toNat=0
  . right; exact ⟨[],s,rfl,by simp,by rw [List.append_nil]; exact zam (z7z s acc h0)⟩
  match s,h0 with
  | [],h0=>exact absurd (.inl rfl) h0
  | b :: r,h0 =>
  have hb:b.toNat≠0:=fun e=>h0 (.inr e)
  have h1:=u8n b
  simp only [List.length_cons] at hk ha
  obtain ⟨k,rfl⟩:∃ m,k=m+1:=⟨k-1,by omega⟩
  by_cases hb1:b.toNat=1
  . have st:=zbtb b r acc hb1 (by omega)
    have hob:ob (TOption.mk 1 [])=[b]:=by
      unfold ob; rw [if_neg (by decide)]
      congr 1; apply UInt8.toNat_inj.1; rw [hb1]; rfl
    rcases zq1 k r (acc++[TOption.mk 1 []]) n (by omega) (by (first | (simp; done) | (simp; omega) | omega)) (by omega) with e | ⟨l,rest,e1,e2,e3⟩
    . left; show zb2 _ _ _ _=_; rw [za2 st]; exact e
    . right
      refine ⟨TOption.mk 1 [] :: l,rest,by rw [znn,hob,e1]; rfl,fun o ho=>?_,?_⟩
      . rcases List.mem_cons.1 ho with rfl | ho
        . exact ⟨by decide,by decide,by decide,fun _=>rfl⟩
        . exact e2 o ho
      . show zb2 _ _ _ _=_; rw [za2 st]
        rw [show acc++TOption.mk 1 [] :: l=acc++[TOption.mk 1 []]++l by simp]; exact e3
  have e:List.getD (b :: r) 0 0=b:=rfl
  match r,hk,ha with
  | [],hk,ha =>
    left; refine zam ?_
    unfold zal
    exact ev_t (by simp) (ev_g (by simp) (ev_t (by rw [e]; (first | (simp; done) | (simp; omega) | omega)) (ev_g (by simp) (ev_f (by rw [e]; (first | (simp; done) | (simp; omega) | omega)) (ev_t (by simp) (ev_r rfl))))))
  | c :: r,hk,ha =>
  have h2:=u8n c
  have e1:List.getD (b :: c :: r) 1 0=c:=rfl
  have e0:List.getD (b :: c :: r) 0 0=b:=rfl
  simp only [List.length_cons] at hk ha
  have hlen:((b :: c :: r).length:Int)=r.length+2:=by simp; omega
  by_cases hc:c.toNat<2
  . left; refine zam ?_
    unfold zal
    exact ev_t (by simp) (ev_g (by rw [hlen]; (first | (simp; done) | (simp; omega) | omega)) (ev_t (by rw [e0]; (first | (simp; done) | (simp; omega) | omega)) (ev_g (by rw [hlen]; (first | (simp; done) | (simp; omega) | omega)) (ev_f (by rw [e0]; (first | (simp; done) | (simp; omega) | omega)) (ev_f (by rw [hlen]; (first | (simp; done) | (simp; omega) | omega)) (ev_g (by rw [hlen]; (first | (simp; done) | (simp; omega) | omega)) (ev_t (by rw [e1]; (first | (simp; done) | (simp; omega) | omega)) (ev_r rfl))))))))
  by_cases hc2:r.length+2<c.toNat
  . left; refine zam ?_
    unfold zal
    exact ev_t (by simp) (ev_g (by rw [hlen]; (first | (simp; done) | (simp; omega) | omega)) (ev_t (by rw [e0]; (first | (simp; done) | (simp; omega) | omega)) (ev_g (by rw [hlen]; (first | (simp; done) | (simp; omega) | omega)) (ev_f (by rw [e0]; (first | (simp; done) | (simp; omega) | omega)) (ev_f (by rw [hlen]; (first | (simp; done) | (simp; omega) | omega)) (ev_g (by rw [hlen]; (first | (simp; done) | (simp; omega) | omega)) (ev_f (by rw [e1]; (first | (simp; done) | (simp; omega) | omega)) (ev_g (by rw [hlen]; (first | (simp; done) | (simp; omega) | omega)) (ev_t (by rw [e1,zoe,hlen]; (first | (simp; done) | (simp; omega) | omega)) (ev_r rfl))))))))))
  have hr:r=r.take (c.toNat-2)++r.drop (c.toNat-2):=(List.take_append_drop _ _).symm
  have hd:(r.take (c.toNat-2)).length=c.toNat-2:=by rw [List.length_take]; omega
  have hq:(r.drop (c.toNat-2)).length=r.length-(c.toNat-2):=by rw [List.length_drop]
  have st:=z70 b c (r.take (c.toNat-2)) (r.drop (c.toNat-2)) acc (by omega) (by omega) (by omega)
  rw [<- hr] at st
  have hob:ob (TOption.mk b.toNat (r.take (c.toNat-2)))=b :: c :: r.take (c.toNat-2):=by
    unfold ob; rw [if_pos (by show (1:Int)<(b.toNat:Int); omega)]
    show byteOf (b.toNat:Int) :: byteOf (((r.take (c.toNat-2)).length:Int)+2) :: _=_
    rw [ziu,hd,show (((c.toNat-2:Nat):Int)+2)=(c.toNat:Int) by omega,ziu]
  rcases zq1 k (r.drop (c.toNat-2)) (acc++[TOption.mk b.toNat (r.take (c.toNat-2))]) n (by omega) (by (first | (simp; done) | (simp; omega) | omega)) (by omega) with e | ⟨l,rest,e1,e2,e3⟩
  . left; show zb2 _ _ _ _=_; rw [za2 st]; exact e
  . right
    refine ⟨TOption.mk b.toNat (r.take (c.toNat-2)) :: l,rest,?_,fun o ho=>?_,?_⟩
    . rw [znn,hob]
      show b :: c :: r=b :: c :: r.take (c.toNat-2)++obs l++rest
      rw [List.append_assoc,<- e1]
      simp
    . rcases List.mem_cons.1 ho with rfl | ho
      . refine ⟨by show (1:Int)<=(b.toNat:Int); omega,by show (b.toNat:Int)<=255; omega,by show (r.take _).length<=253; omega,fun e=>?_⟩
        have:(b.toNat:Int)=1:=e
        omega
      . exact e2 o ho
    . show zb2 _ _ _ _=_; rw [za2 st]
      rw [show acc++TOption.mk b.toNat (r.take (c.toNat-2)) :: l=acc++[TOption.mk b.toNat (r.take (c.toNat-2))]++l by simp]; exact e3
theorem zu7 (s:List UInt8) (acc:List TOption) (hs:s.length<=1000) :
   zb2 640010 (fun x=>(zba x).eval) 18446744073709551616 (((0:Nat):Int),(s,((s.length:Int),(acc,()))))=some (match hit (fun b:UInt8=>decide (b.toNat≠0)) s with | some _=>Sum.inl (false,()) | none=>Sum.inr (acc,())):=by
 refine za1 (T:=UInt8) (l:=s) (fun i=>(((i:Nat):Int),(s,((s.length:Int),(acc,()))))) (fun b:UInt8=>decide (b.toNat≠0)) (fun q=>match q with | some _=>Sum.inl (false,()) | none=>Sum.inr (acc,())) (fun i x hx=>?_) ?_ 18446744073709551616 (by omega)
 . have hi:=(List.getElem?_eq_some_iff.1 hx).1
   have e:List.getD s (Int.toNat (i:Int)) 0=x:=by rw [Int.toNat_natCast,List.getD_eq_getElem?_getD,hx]; rfl
   show (zba _).eval=_
   unfold zba
   rcases Bool.eq_false_or_eq_true (decide (x.toNat≠0)) with h | h
   . rw [h]
     have h:x.toNat≠0:=by simpa using h
     exact ev_t (by (first | (simp; done) | (simp; omega) | omega)) (ev_g (by (first | (simp; done) | (simp; omega) | omega)) (ev_t (by rw [e]; (first | (simp; done) | (simp; omega) | omega)) (ev_r rfl)))
   . rw [h]
     have h:x.toNat=0:=by simpa using h
     refine ev_t (by (first | (simp; done) | (simp; omega) | omega)) (ev_g (by (first | (simp; done) | (simp; omega) | omega)) (ev_f (by rw [e]; (first | (simp; done) | (simp; omega) | omega)) (ev_g (by simp) (ev_r ?_))))
     rw [zax i (by omega)]
 . show (zba _).eval=_
   unfold zba
   exact ev_f (by simp) (ev_g (by simp) (ev_r rfl))
theorem z61 (s:List UInt8) (hs:s.length<=1000):zcq (s,())=some ([],(false,())) \/ ∃ l rest,s=obs l++rest/\(∀ o∈l,okR o)/\zcq (s,())=some (l,(true,())):=by
 rcases zq1 s.length s [] 18446744073709551616 (by omega) (by simpa using hs) (by omega) with e | ⟨l,rest,e1,e2,e3⟩
 . left; exact ev_g rfl (zaa e rfl)
 . have hr:rest.length<=1000:=by have:=congrArg List.length e1; simp at this; omega
   have z:=zu7 rest l hr
   rw [List.nil_append] at e3
   cases hh:hit (fun b:UInt8=>decide (b.toNat≠0)) rest with
   | some q =>
    rw [hh] at z
    left; exact ev_g rfl (zaa e3 (ev_g (by simp) (zaa z rfl)))
   | none =>
    rw [hh] at z
    right; exact ⟨l,rest,e1,e2,ev_g rfl (zaa e3 (ev_g (by simp) (zaa z rfl)))⟩
theorem tcN (b:UInt8):IntKind.wrap IntKind.i64 (IntKind.wrap IntKind.i64 (Int.tdiv (IntKind.wrap IntKind.i64 (b.toNat:Int)) (16:Int))*(4:Int))=((b.toNat / 16*4:Nat):Int):=by
 have:=u8n b
 have e:Int.tdiv (b.toNat:Int) 16=((b.toNat / 16:Nat):Int):=by rw [Int.tdiv_eq_ediv_of_nonneg (by omega)]; omega
 have w1:IntKind.wrap IntKind.i64 ((b.toNat / 16:Nat):Int)=((b.toNat / 16:Nat):Int):=zag ⟨by omega,by omega⟩
 have w2:IntKind.wrap IntKind.i64 (((b.toNat / 16:Nat):Int)*4)=((b.toNat / 16:Nat):Int)*4:=zag ⟨by omega,by omega⟩
 rw [zoe,e,w1,w2]; omega
theorem tm16 (n:Nat):Int.tmod (n:Int) (16:Int)=((n%16:Nat):Int):=tmN n 16
def tn (s:List UInt8):Nat:=(s.getD 12 0).toNat / 16*4
def z9 (e:Int):(Int×(Int×(Int×(Int×(Int×(Int×(Int×((List TOption)×((List UInt8)×(Int×Unit)))))))))):=g9 ⟨0,0,0,0,0,0,0,[],[]⟩ (e,())
abbrev sumR (s:List UInt8) (f t:Int):Prop:=ws (under f t 6 s.length++s)≠0/\ws (under f t 6 s.length++s)%65535=0
def gOf (s:List UInt8) (l:List TOption):TSegment:=⟨wAt s 0,wAt s 2,lAt s 4,lAt s 8,((s.getD 13 0).toNat:Int),wAt s 14,wAt s 18,l,s.drop (tn s)⟩
theorem zy5 (s:List UInt8) (f t:Int) (hf:U32 f) (ht:U32 t) (h20:20<=s.length) (h1:tn s<=s.length) (h2:20<=tn s) (h3:(s.getD 12 0).toNat%16=0) (h4:s.length-tn s<=65455) (l:List TOption)
  (hp:zcq (List.drop 20 (List.take (tn s) s),())=some (l,(true,()))) :
  (sumR s f t->za8 (s,(f,(t,())))=some (g9 (gOf s l) (0,())))/\(¬ sumR s f t->za8 (s,(f,(t,())))=some (z9 5)):=by
 have hb:=u8n (s.getD 12 0)
 have hn:tn s<=60:=by unfold tn; omega
 have hsl:s.length<=65515:=by omega
 have hlim:s.length<=Lim:=by unfold Lim; omega
 have hr:=zq0 (under f t 6 s.length++s) (by simp only [List.length_append,zy0]; unfold Lim; omega)
 have hsub:IntKind.wrap IntKind.i64 ((s.length:Int)-(tn s:Int))=((s.length-tn s:Nat):Int):=by rw [zag ⟨by omega,by omega⟩]; omega
 have htm:Int.tmod ((s.getD 12 0).toNat:Int) 16=0:=by
  have:=tmN (s.getD 12 0).toNat 16
  rw [h3] at this; exact this
 have go:za8 (s,(f,(t,())))=(if sumR s f t then some (g9 (gOf s l) (0,())) else some (z9 5)):=by
  unfold za8 zcg
  simp only [tcN]
  refine ev_f (by (first | (simp; done) | (simp; omega) | omega)) (ev_g (by (first | (simp; done) | (simp; omega) | omega)) (ev_g rfl (ev_f (show decide ((s.length:Int)<(tn s:Int))=false by (first | (simp; done) | (simp; omega) | omega)) (ev_f (show decide ((tn s:Int)<20)=false by (first | (simp; done) | (simp; omega) | omega)) (ev_g (by (first | (simp; done) | (simp; omega) | omega)) (ev_g rfl (ev_f (by rw [htm]; rfl) (ev_f (show decide ((65455:Int)<IntKind.wrap IntKind.i64 ((s.length:Int)-(tn s:Int)))=false by rw [hsub]; (first | (simp; done) | (simp; omega) | omega)) (ev_g (show decide ((0:Int)<=20/\(20:Int)<=(tn s:Int)/\(tn s:Int)<=(s.length:Int))=true by (first | (simp; done) | (simp; omega) | omega)) (zaa hp (ev_f rfl (zaa (zwk f t 6 _ hf ht (by decide)) (ev_g (decide_eq_true (by simp only [zy0]; omega)) (zaa hr ?_))))))))))))))
  by_cases hs:sumR s f t
  . rw [if_pos hs]
    have hd:decide (ws (under f t 6 s.length++s)≠0/\ws (under f t 6 s.length++s)%65535=0)=true:=decide_eq_true hs
    refine ev_f (by simp only [hd]; rfl) (zaa (zor s 0 (by omega) hlim) (zaa (zor s 2 (by omega) hlim) (zaa (zrq s 4 (by omega) hlim) (zaa (zrq s 8 (by omega) hlim) (ev_g (by (first | (simp; done) | (simp; omega) | omega)) (zaa (zor s 14 (by omega) hlim) (zaa (zor s 18 (by omega) hlim) (ev_g (show decide ((0:Int)<=(tn s:Int)/\(tn s:Int)<=(s.length:Int)/\(s.length:Int)<=(s.length:Int))=true by (first | (simp; done) | (simp; omega) | omega)) (ev_r ?_)))))))))
    rw [zoe,zm5,Int.toNat_natCast]
    rfl
  . rw [if_neg hs]
    have hd:decide (ws (under f t 6 s.length++s)≠0/\ws (under f t 6 s.length++s)%65535=0)=false:=decide_eq_false hs
    exact ev_t (by simp only [hd]; rfl) (ev_r rfl)
 exact ⟨fun h=>by rw [go,if_pos h],fun h=>by rw [go,if_neg h]⟩
theorem zalb (s:List UInt8) (f t:Int) (hf:U32 f) (ht:U32 t) (hl:s.length<=Lim):(∃ e,e≠0/\za8 (s,(f,(t,())))=some (z9 e)) \/
   ∃ l rest,20<=tn s/\tn s<=60/\tn s<=s.length/\s.length-tn s<=65455/\List.drop 20 (List.take (tn s) s)=obs l++rest/\(∀ o∈l,okR o)/\sumR s f t/\za8 (s,(f,(t,())))=some (g9 (gOf s l) (0,()))/\(s.getD 12 0).toNat%16=0/\zcq (List.drop 20 (List.take (tn s) s),())=some (l,(true,())):=by
 have hb:=u8n (s.getD 12 0)
 have hn:tn s<=60:=by unfold tn; omega
 have htm:=tmN (s.getD 12 0).toNat 16
 by_cases h20:s.length<20
 . left; exact ⟨3,by decide,ev_t (by (first | (simp; done) | (simp; omega) | omega)) (ev_r rfl)⟩
 by_cases h1:s.length<tn s
 . left; refine ⟨3,by decide,?_⟩
   unfold za8 zcg
   simp only [tcN]
   exact ev_f (by (first | (simp; done) | (simp; omega) | omega)) (ev_g (by (first | (simp; done) | (simp; omega) | omega)) (ev_g rfl (ev_t (show decide ((s.length:Int)<(tn s:Int))=true by (first | (simp; done) | (simp; omega) | omega)) (ev_r rfl))))
 by_cases h2:tn s<20
 . left; refine ⟨4,by decide,?_⟩
   unfold za8 zcg
   simp only [tcN]
   exact ev_f (by (first | (simp; done) | (simp; omega) | omega)) (ev_g (by (first | (simp; done) | (simp; omega) | omega)) (ev_g rfl (ev_f (show decide ((s.length:Int)<(tn s:Int))=false by (first | (simp; done) | (simp; omega) | omega)) (ev_t (show decide ((tn s:Int)<20)=true by (first | (simp; done) | (simp; omega) | omega)) (ev_r rfl)))))
 by_cases h3:(s.getD 12 0).toNat%16=0
 case neg =>
   left; refine ⟨4,by decide,?_⟩
   unfold za8 zcg
   simp only [tcN]
   exact ev_f (by (first | (simp; done) | (simp; omega) | omega)) (ev_g (by (first | (simp; done) | (simp; omega) | omega)) (ev_g rfl (ev_f (show decide ((s.length:Int)<(tn s:Int))=false by (first | (simp; done) | (simp; omega) | omega)) (ev_f (show decide ((tn s:Int)<20)=false by (first | (simp; done) | (simp; omega) | omega)) (ev_g (by (first | (simp; done) | (simp; omega) | omega)) (ev_g rfl (ev_t (by rw [tm16,decide_eq_false (by omega)]; rfl) (ev_r rfl))))))))
 have htm:Int.tmod ((s.getD 12 0).toNat:Int) 16=0:=by rw [h3] at htm; exact htm
 have hsub:IntKind.wrap IntKind.i64 ((s.length:Int)-(tn s:Int))=((s.length-tn s:Nat):Int):=by unfold Lim at hl; rw [zag ⟨by omega,by omega⟩]; omega
 by_cases h4:65455<s.length-tn s
 . left; refine ⟨2,by decide,?_⟩
   unfold za8 zcg
   simp only [tcN]
   exact ev_f (by (first | (simp; done) | (simp; omega) | omega)) (ev_g (by (first | (simp; done) | (simp; omega) | omega)) (ev_g rfl (ev_f (show decide ((s.length:Int)<(tn s:Int))=false by (first | (simp; done) | (simp; omega) | omega)) (ev_f (show decide ((tn s:Int)<20)=false by (first | (simp; done) | (simp; omega) | omega)) (ev_g (by (first | (simp; done) | (simp; omega) | omega)) (ev_g rfl (ev_f (by rw [htm]; rfl) (ev_t (show decide ((65455:Int)<IntKind.wrap IntKind.i64 ((s.length:Int)-(tn s:Int)))=true by rw [hsub]; (first | (simp; done) | (simp; omega) | omega)) (ev_r rfl)))))))))
 rcases z61 (List.drop 20 (List.take (tn s) s)) (by simp <;> omega) with hp | ⟨l,rest,e1,e2,hp⟩
 . left; refine ⟨4,by decide,?_⟩
   unfold za8 zcg
   simp only [tcN]
   exact ev_f (by (first | (simp; done) | (simp; omega) | omega)) (ev_g (by (first | (simp; done) | (simp; omega) | omega)) (ev_g rfl (ev_f (show decide ((s.length:Int)<(tn s:Int))=false by (first | (simp; done) | (simp; omega) | omega)) (ev_f (show decide ((tn s:Int)<20)=false by (first | (simp; done) | (simp; omega) | omega)) (ev_g (by (first | (simp; done) | (simp; omega) | omega)) (ev_g rfl (ev_f (by rw [htm]; rfl) (ev_f (show decide ((65455:Int)<IntKind.wrap IntKind.i64 ((s.length:Int)-(tn s:Int)))=false by rw [hsub]; (first | (simp; done) | (simp; omega) | omega)) (ev_g (show decide ((0:Int)<=20/\(20:Int)<=(tn s:Int)/\(tn s:Int)<=(s.length:Int))=true by (first | (simp; done) | (simp; omega) | omega)) (zaa hp (ev_t rfl (ev_r rfl))))))))))))
 . have h:=zy5 s f t hf ht (by omega) (by omega) (by omega) h3 (by omega) l hp
   by_cases hs:sumR s f t
   . right; exact ⟨l,rest,by omega,by omega,by omega,by omega,e1,e2,hs,h.1 hs,h3,hp⟩
   . left; exact ⟨5,by decide,h.2 hs⟩
def setW (l:List UInt8) (i:Nat) (x:Int):List UInt8:=(l.set i (byteOf (x / 256))).set (i+1) (byteOf x)
@[simp] theorem za7 (l:List UInt8) (i:Nat) (x:Int):(setW l i x).length=l.length:=by simp [setW]
theorem zx7 (l:List UInt8) (i j:Nat) (b:UInt8) (h:i<l.length):(l.set i b).getD j 0=if i=j then b else l.getD j 0:=by
 rw [List.getD_eq_getElem?_getD,List.getElem?_set]
 split
 . first | rfl | (rw [if_pos h]; rfl)
 . rw [List.getD_eq_getElem?_getD]
theorem ztf (l:List UInt8) (i j:Nat) (x:Int) (h:i+1<l.length):(setW l i x).getD j 0=if i+1=j then byteOf x else if i=j then byteOf (x / 256) else l.getD j 0:=by
 unfold setW
 rw [zx7 _ _ _ _ (by simpa using h),zx7 _ _ _ _ (by omega)]
theorem zck (l:List UInt8) (i j:Nat) (x:Int) (h:i+1<l.length) (h1:j≠i) (h2:j≠i+1):(setW l i x).getD j 0=l.getD j 0:=by
 rw [ztf l i j x h,if_neg (by omega),if_neg (by omega)]
theorem zhw (l:List UInt8) (i:Nat) (x:Int) (h:i+1<l.length):wAt (setW l i x) i=x%65536:=by
 unfold wAt
 rw [ztf l i i x h,ztf l i (i+1) x h,if_neg (by omega),if_pos rfl,if_pos rfl]
 exact zfvb x
theorem zae (l:List UInt8) (i j:Nat) (x:Int) (h:i+1<l.length) (h1:j+1<i\/i+1<j):wAt (setW l i x) j=wAt l j:=by
 unfold wAt
 rw [zck l i j x h (by omega) (by omega),zck l i (j+1) x h (by omega) (by omega)]
theorem zlr (l:List UInt8) (i:Nat) (x:Int) (h:i+1<l.length) (he:i%2=0):(ws (setW l i x):Int)=ws l-wAt l i+x%65536:=by
 have h1:=z9x l i (byteOf (x / 256)) (by omega)
 have h2:=z9x (l.set i (byteOf (x / 256))) (i+1) (byteOf x) (by simpa using h)
 have h3:=zfvb x
 have h4:=zx7 l i (i+1) (byteOf (x / 256)) (by omega)
 rw [if_neg (by omega)] at h4
 rw [h4] at h2
 rw [if_pos he] at h1
 rw [if_neg (by omega)] at h2
 unfold setW wAt wv at *
 omega
theorem zcs (g d:List UInt8) (i:Nat) (x:Int) (h:i+1<g.length):setW (g++d) i x=setW g i x++d:=by
 unfold setW
 rw [List.set_append_left _ _ (by omega),List.set_append_left _ _ (by simpa using h)]
theorem zd2 (g d:List UInt8) (i:Nat) (x:Int):setW (g++d) (g.length+i) x=g++setW d i x:=by
 unfold setW
 rw [List.set_append_right _ _ (by omega),List.set_append_right _ _ (by omega),show g.length+i-g.length=i by omega,show g.length+i+1-g.length=i+1 by omega]
theorem zzn (l:List UInt8) (i j:Nat) (x y:Int) (h:i+1<j\/j+1<i):setW (setW l i x) j y=setW (setW l j y) i x:=by
 unfold setW
 rw [List.set_comm _ _ (i:=i+1) (j:=j) (by omega),List.set_comm _ _ (i:=i) (j:=j) (by omega),List.set_comm _ _ (i:=i+1) (j:=j+1) (by omega),List.set_comm _ _ (i:=i) (j:=j+1) (by omega)]
theorem zzm (l:List UInt8) (i:Nat) (x y:Int):setW (setW l i x) i y=setW l i y:=by
 unfold setW
 rw [List.set_comm _ _ (i:=i+1) (j:=i) (by omega),List.set_set,List.set_set]
theorem zjxb (l:List UInt8) (i:Nat) (h:i+1<l.length):setW l i (wAt l i)=l:=by
 have e:=zpeb (l.getD i 0) (l.getD (i+1) 0)
 have e1:byteOf (wAt l i / 256)=l.getD i 0:=by unfold wd at e; exact (List.cons.inj e).1
 have e2:byteOf (wAt l i)=l.getD (i+1) 0:=by unfold wd at e; exact (List.cons.inj (List.cons.inj e).2).1
 unfold setW
 rw [e1,e2]
 apply List.ext_getElem?
 intro j
 rw [List.getElem?_set,List.getElem?_set]
 split
 . rename_i hj; subst hj
   rw [if_pos (by simpa using h),List.getD_eq_getElem?_getD,List.getElem?_eq_getElem (by omega)]; rfl
 . split
   . rename_i hj; subst hj
     rw [if_pos (by omega),List.getD_eq_getElem?_getD,List.getElem?_eq_getElem (by omega)]; rfl
   . rfl
theorem zaqb (l:List UInt8) (i n:Nat) (x:Int):(setW l i x).take n=if i+1<n then setW (l.take n) i x else if i<n then ((l.take n).set i (byteOf (x / 256))) else l.take n:=by
 unfold setW
 rw [List.take_set,List.take_set]
 split
 . rfl
 . split
   . rw [List.set_eq_of_length_le (i:=i+1) (by simp <;> omega)]
   . rw [List.set_eq_of_length_le (i:=i+1) (by simp <;> omega),List.set_eq_of_length_le (i:=i) (by simp <;> omega)]
theorem zpx (l:List UInt8) (i n:Nat) (x:Int) (h:i+1<n):(setW l i x).take n=setW (l.take n) i x:=by rw [zaqb,if_pos h]
theorem zdk (l:List UInt8) (i n:Nat) (x:Int) (h:i+1<n):(setW l i x).drop n=l.drop n:=by
 unfold setW
 rw [List.drop_set,List.drop_set,if_pos (by omega),if_pos (by omega)]
theorem zmu (l:List UInt8) (i n:Nat) (h:i+1<n):wAt (l.take n) i=wAt l i:=by
 unfold wAt
 simp only [List.getD_eq_getElem?_getD,List.getElem?_take]
 rw [if_pos (by omega),if_pos h]
theorem zf1b (l:List UInt8) (i n:Nat):wAt (l.drop n) i=wAt l (n+i):=by
 unfold wAt
 simp only [List.getD_eq_getElem?_getD,List.getElem?_drop,Nat.add_assoc]
theorem getD_take (l:List UInt8) (i n:Nat) (h:i<n):(l.take n).getD i 0=l.getD i 0:=by
 simp only [List.getD_eq_getElem?_getD,List.getElem?_take]
 rw [if_pos h]

theorem zji (l:List UInt8) (i:Nat) (h:i+1<l.length) (hi:i<=1000000):zbj (l,((i:Int),()))=some (wAt l i,()):=by
 have e1:IntKind.i64.wrap ((i:Int)+1)=((i+1:Nat):Int):=by rw [zc1 _ (by omega)]; omega
 have g0:l[i]?=some (l.getD i 0):=by rw [List.getD_eq_getElem?_getD,List.getElem?_eq_getElem (by omega)]; rfl
 have g1:l[i+1]?=some (l.getD (i+1) 0):=by rw [List.getD_eq_getElem?_getD,List.getElem?_eq_getElem (by omega)]; rfl
 unfold zbj zl4
 simp only [e1,Int.toNat_natCast]
 refine ev_g (by simp) (zaa g0 (ev_g rfl (ev_g (by (first | (simp; done) | (simp; omega) | omega)) (zaa g1 (ev_r ?_)))))
 rw [zogb]; rfl
theorem zw9 (n i:Nat) (x:Int) (l:List UInt8) (h:i+1<n) (hn:n<=l.length) (hi:i<=1000000):zd1 (n,((i:Int),(x,(l,()))))=some (setW l i x,()):=by
 have e1:IntKind.i64.wrap ((i:Int)+1)=((i+1:Nat):Int):=by rw [zc1 _ (by omega)]; omega
 have w8:∀ x:Int,UInt8.ofNat (Int.toNat (IntKind.wrap IntKind.u8 x))=byteOf x:=fun x=>by rw [zu9]; rfl
 unfold zd1 zos
 simp only [e1,Int.toNat_natCast,Nat.zero_add,zktb,w8]
 exact ev_g rfl (ev_g (by (first | (simp; done) | (simp; omega) | omega)) (zaa (List.getElem?_eq_getElem (by omega)) (ev_g (decide_eq_true (wr8 _)) (ev_g (by (first | (simp; done) | (simp; omega) | omega)) (zaa (List.getElem?_eq_getElem (by simp <;> omega)) (ev_g (decide_eq_true (wr8 _)) (ev_r rfl)))))))
def fixI (c o n:Int):Int:=65535-(ear ((65535-c)+(65535-o)+n).toNat:Int)
abbrev U16 (x:Int):Prop:=0<=x/\x<=65535
theorem zkrb {c o n:Int} (hc:U16 c) (ho:U16 o) (hn:U16 n):zg4 (c,(o,(n,())))=some (fixI c o n,()):=by
 have h:=zjfb c.toNat o.toNat n.toNat (by unfold U16 at hc; omega) (by unfold U16 at ho; omega) (by unfold U16 at hn; omega)
 unfold U16 at hc ho hn
 rw [show ((c.toNat:Int))=c by omega,show ((o.toNat:Int))=o by omega,show ((n.toNat:Int))=n by omega] at h
 rw [h]
 unfold fixI
 rw [show ((65535-c)+(65535-o)+n).toNat=65535-c.toNat+(65535-o.toNat)+n.toNat by omega]
theorem zn1 (c o n:Int):U16 (fixI c o n):=by have:=zwh ((65535-c)+(65535-o)+n).toNat; unfold fixI U16; omega
theorem zn2 {c o n:Int} (hc:U16 c) (ho:U16 o) (hn:U16 n):(fixI c o n+n-c-o)%65535=0:=by
 have:=zd1b ((65535-c)+(65535-o)+n).toNat
 unfold U16 at hc ho hn; unfold fixI; omega
theorem zn3 {c o n:Int} (hc:U16 c) (ho:U16 o) (hn:U16 n) (h:c<=65534):fixI c o n<=65534:=by
 have:=zh1b ((65535-c)+(65535-o)+n).toNat
 unfold U16 at hc ho hn; unfold fixI; omega

def chk (o x:Int) (l:List UInt8) (c:Nat):List UInt8:=setW l c (fixI (wAt l c) o x)
theorem zaz (o x:Int) (l:List UInt8) (c:Nat):(chk o x l c).length=l.length:=by simp [chk]
theorem ztx (n:Nat) (o x:Int) (ho:U16 o) (hx:U16 x) (CS:List Nat) (hcs:∀ c∈CS,c+1<n/\c<=1000000) (hCS:CS.length<=1000):∀ (r:List Nat) (k m:Nat) (l:List UInt8),CS.drop k=r->k<=CS.length->n<=l.length->r.length<m ->
  zb2 1250003 (fun x=>(zbk x).eval) m ((k:Int),(x,(o,(n,(CS.map (fun c:Nat=>(c:Int)),((CS.length:Int),(l,())))))))=some (r.foldl (chk o x) l,())
 | [],k,m,l,hk,hle,hn,hm=>by
  obtain ⟨m,rfl⟩:∃ q,m=q+1:=⟨m-1,by simp at hm; omega⟩
  have:k=CS.length:=by have:=congrArg List.length hk; simp at this; omega
  subst this
  refine zam ?_
  unfold zbk
  exact ev_f (by simp) (ev_r rfl)
 | c :: r,k,m,l,hk,hle,hn,hm=>by
  obtain ⟨m,rfl⟩:∃ q,m=q+1:=⟨m-1,by simp at hm; omega⟩
  have hx0:CS[k]?=some c:=by have:=congrArg (·[0]?) hk; simpa using this
  have hk2:CS.drop (k+1)=r:=by rw [<- List.drop_drop,hk]; rfl
  have hlt:=(List.getElem?_eq_some_iff.1 hx0).1
  obtain ⟨hc1,hc2⟩:=hcs c (List.mem_of_getElem? hx0)
  have hw:wAt (l.take n) c=wAt l c:=zmu l c n hc1
  have st:(zbk ((k:Int),(x,(o,(n,(CS.map (fun c:Nat=>(c:Int)),((CS.length:Int),(l,())))))))).eval=some (.inl (((k+1:Nat):Int),(x,(o,(n,(CS.map (fun c:Nat=>(c:Int)),((CS.length:Int),(chk o x l c,())))))))):=by
   unfold zbk
   refine ev_t (by (first | (simp; done) | (simp; omega) | omega)) (ev_g (by simp) (zaa (b:=(c:Int)) (by rw [Int.toNat_natCast,List.getElem?_map,hx0]; rfl) (zaa (zji (l.take n) c (by simp <;> omega) hc2) ?_)))
   rw [hw]
   refine zaa (zkrb (zac l c) ho hx) (zaa (zw9 n c _ l hc1 hn hc2) (ev_r ?_))
   rw [zax k (by omega)]; rfl
  rw [za2 st,ztx n o x ho hx CS hcs hCS r (k+1) m (chk o x l c) hk2 (by omega) (by rw [zaz]; exact hn) (by simp at hm; omega)]
  rfl
theorem zoa (n i:Nat) (x:Int) (hx:U16 x) (CS:List Nat) (hcs:∀ c∈CS,c+1<n/\c<=1000000) (hCS:CS.length<=1000) (l:List UInt8) (hi:i+1<n) (hi2:i<=1000000) (hn:n<=l.length) :
  zai (n,((i:Int),(x,(CS.map (fun c:Nat=>(c:Int)),(l,())))))=some (CS.foldl (chk (wAt l i) x) (setW l i x),()):=by
 have hw:wAt (l.take n) i=wAt l i:=zmu l i n hi
 have hl:=ztx n (wAt l i) x (zac l i) hx CS hcs hCS CS 0 18446744073709551616 (setW l i x) rfl (by omega) (by simpa using hn) (by omega)
 unfold zai zh5
 refine zaa (zji (l.take n) i (by simp <;> omega) hi2) (zaa (zw9 n i x l hi hn hi2) ?_)
 rw [hw,List.length_map]
 exact zaa (show zf5 _=_ from hl) (ev_r rfl)
structure TcOk (d:List UInt8) (f t:Int):Prop where
 n20:20<=tn d
 nle:tn d<=d.length
 most:d.length-tn d<=65455
 low:(d.getD 12 0).toNat%16=0
 opts:∃ l,zcq (List.drop 20 (List.take (tn d) d),())=some (l,(true,()))
 sum:sumR d f t
theorem zpob (d:List UInt8):tn d<=60:=by have:=u8n (d.getD 12 0); unfold tn; omega
theorem zn5b {d:List UInt8} {f t:Int} (hf:U32 f) (ht:U32 t) (h:TcOk d f t):∃ l,za8 (d,(f,(t,())))=some (g9 (gOf d l) (0,())):=by
 obtain ⟨h1,h2,h3,h4,⟨l,hp⟩,h6⟩:=h
 exact ⟨l,(zy5 d f t hf ht (by omega) h2 h1 h4 h3 l hp).1 h6⟩
theorem zn6b {d:List UInt8} {f t:Int} (hf:U32 f) (ht:U32 t) (hl:d.length<=Lim) (h:¬ TcOk d f t):∃ e,e≠0/\za8 (d,(f,(t,())))=some (z9 e):=by
 rcases zalb d f t hf ht hl with h1 | ⟨l,rest,h1,h2,h3,h4,h5,h6,h7,h8,h9,h10⟩
 . exact h1
 . exact absurd ⟨h1,h3,h4,h9,⟨l,h10⟩,h7⟩ h
structure DgOk (d:List UInt8) (f t:Int):Prop where
 n8:8<=wAt d 4
 nle:wAt d 4<=d.length
 most:wAt d 4<=65515
 sum:wAt d 6≠0->ws (under f t 17 (wAt d 4)++d.take (wAt d 4).toNat)≠0/\ws (under f t 17 (wAt d 4)++d.take (wAt d 4).toNat)%65535=0
theorem zpzb {d:List UInt8} {f t:Int} (hf:U32 f) (ht:U32 t) (hl:d.length<=Lim) (h:DgOk d f t):zkc (d,(f,(t,())))=some (wAt d 0,(wAt d 2,((d.take (wAt d 4).toNat).drop 8,(0,())))):=by
 obtain ⟨h1,h2,h3,h4⟩:=h
 have e:rd d f t=(wAt d 0,wAt d 2,(d.take (wAt d 4).toNat).drop 8,0):=by
  unfold rd
  rw [if_neg (by omega),if_neg (by omega),if_neg (by omega),if_neg (by omega),if_neg (fun h=>h.2 (h4 h.1))]
 rw [z1j d f t hl hf ht,e]
theorem zo5b {d:List UInt8} {f t:Int} (hf:U32 f) (ht:U32 t) (hl:d.length<=Lim) (h:¬ DgOk d f t):∃ e:Int,e≠0/\zkc (d,(f,(t,())))=some (0,(0,([],(e,())))):=by
 rw [z1j d f t hl hf ht]
 unfold rd
 have b4:=zac d 4
 by_cases h0:d.length<8
 . rw [if_pos h0]; exact ⟨3,by decide,rfl⟩
 rw [if_neg h0]
 by_cases h1:(d.length:Int)<wAt d 4
 . rw [if_pos h1]; exact ⟨3,by decide,rfl⟩
 rw [if_neg h1]
 by_cases h2:wAt d 4<8
 . rw [if_pos h2]; exact ⟨4,by decide,rfl⟩
 rw [if_neg h2]
 by_cases h3:65515<wAt d 4
 . rw [if_pos h3]; exact ⟨4,by decide,rfl⟩
 rw [if_neg h3]
 split
 . exact ⟨5,by decide,rfl⟩
 . rename_i hn
   refine absurd ⟨by omega,by omega,by omega,fun h6=>?_⟩ h
   exact Classical.byContradiction fun hx=>hn ⟨h6,hx⟩

structure EndOk (s:List UInt8):Prop where
 ip:IpOk s
 proto:(s.getD 9 0).toNat=6\/(s.getD 9 0).toNat=17
 whole:(pk s).more=false/\(pk s).start=0
 tcp:(s.getD 9 0).toNat=6->TcOk (pk s).data (pk s).from' (pk s).to
 udp:(s.getD 9 0).toNat=17->DgOk (pk s).data (pk s).from' (pk s).to
theorem z0a (s:List UInt8):U32 (pk s).from'/\U32 (pk s).to:=⟨z0s s 12,z0s s 16⟩
theorem zdtb {s:List UInt8} (h:EndOk s) (hl:s.length<=Lim):zjj (s,())=some ((pk s).from',((pk s).to,(((s.getD 9 0).toNat:Int),(wAt (pk s).data 0,(wAt (pk s).data 2,((0:Int),())))))):=by
 obtain ⟨h1,h2,⟨h3,h3'⟩,h4,h5⟩:=h
 obtain ⟨u1,u2⟩:=z0a s
 have hd:(pk s).data.length<=Lim:=by show ((s.take (alln s)).drop (hn s)).length<=_; simp; omega
 refine zaa (zj2 h1 hl) (ev_f rfl ?_)
 rcases h2 with h2 | h2
 . obtain ⟨l,ht⟩:=zn5b u1 u2 (h4 h2)
   have e:(pk s).proto=6:=by show ((s.getD 9 0).toNat:Int)=6; omega
   have e':((s.getD 9 0).toNat:Int)=6:=by omega
   refine ev_f (show (!decide ((pk s).proto=6))=false by rw [e]; rfl) (ev_f h3 (ev_f (show (!decide ((pk s).start=0))=false by rw [h3']; rfl) (ev_t (show decide ((pk s).proto=6)=true by rw [e]; rfl) (zaa ht (ev_f rfl (ev_r rfl))))))
 . have ht:=zpzb u1 u2 hd (h5 h2)
   have e:(pk s).proto=17:=by show ((s.getD 9 0).toNat:Int)=17; omega
   refine ev_t (show (!decide ((pk s).proto=6))=true by rw [e]; rfl) (ev_f (show (!decide ((pk s).proto=17))=false by rw [e]; rfl) (ev_f h3 (ev_f (show (!decide ((pk s).start=0))=false by rw [h3']; rfl) (ev_f (show decide ((pk s).proto=6)=false by rw [e]; rfl) (zaa ht (ev_f rfl (ev_r rfl)))))))
theorem zhyb {s:List UInt8} (h:¬ EndOk s) (hl:s.length<=Lim):∃ e:Int,e≠0/\zjj (s,())=some ((0:Int),((0:Int),((0:Int),((0:Int),((0:Int),(e,())))))):=by
 obtain ⟨u1,u2⟩:=z0a s
 have hd:(pk s).data.length<=Lim:=by show ((s.take (alln s)).drop (hn s)).length<=_; simp; omega
 by_cases h1:IpOk s
 case neg =>
   obtain ⟨e,⟨he,_⟩,hr⟩:=z79 h1 hl
   exact ⟨e,he,zaa hr (ev_t (show (!decide (e=0))=true by rw [decide_eq_false he]; rfl) (ev_r rfl))⟩
 have hr:=zj2 h1 hl
 by_cases hm:(pk s).more=true
 . by_cases e6:(pk s).proto=6
   . exact ⟨9,by decide,zaa hr (ev_f rfl (ev_f (show (!decide ((pk s).proto=6))=false by rw [e6]; rfl) (ev_t hm (ev_r rfl))))⟩
   by_cases e17:(pk s).proto=17
   . exact ⟨9,by decide,zaa hr (ev_f rfl (ev_t (show (!decide ((pk s).proto=6))=true by rw [decide_eq_false e6]; rfl) (ev_f (show (!decide ((pk s).proto=17))=false by rw [e17]; rfl) (ev_t hm (ev_r rfl)))))⟩
   . exact ⟨7,by decide,zaa hr (ev_f rfl (ev_t (show (!decide ((pk s).proto=6))=true by rw [decide_eq_false e6]; rfl) (ev_t (show (!decide ((pk s).proto=17))=true by rw [decide_eq_false e17]; rfl) (ev_r rfl))))⟩
 have hm:(pk s).more=false:=by cases hx:(pk s).more with | true=>exact absurd hx hm | false=>rfl
 by_cases hs:(pk s).start=0
 case neg =>
   have hs':(!decide ((pk s).start=0))=true:=by rw [decide_eq_false hs]; rfl
   by_cases e6:(pk s).proto=6
   . exact ⟨9,by decide,zaa hr (ev_f rfl (ev_f (show (!decide ((pk s).proto=6))=false by rw [e6]; rfl) (ev_f hm (ev_t hs' (ev_r rfl)))))⟩
   by_cases e17:(pk s).proto=17
   . exact ⟨9,by decide,zaa hr (ev_f rfl (ev_t (show (!decide ((pk s).proto=6))=true by rw [decide_eq_false e6]; rfl) (ev_f (show (!decide ((pk s).proto=17))=false by rw [e17]; rfl) (ev_f hm (ev_t hs' (ev_r rfl))))))⟩
   . exact ⟨7,by decide,zaa hr (ev_f rfl (ev_t (show (!decide ((pk s).proto=6))=true by rw [decide_eq_false e6]; rfl) (ev_t (show (!decide ((pk s).proto=17))=true by rw [decide_eq_false e17]; rfl) (ev_r rfl))))⟩
 have hs':(!decide ((pk s).start=0))=false:=by rw [hs]; rfl
 by_cases e6:(pk s).proto=6
 . have e9:(s.getD 9 0).toNat=6:=by have:((s.getD 9 0).toNat:Int)=6:=e6; omega
   have hn:¬ TcOk (pk s).data (pk s).from' (pk s).to:=fun hx=>h ⟨h1,.inl e9,⟨hm,hs⟩,fun _=>hx,fun e=>by omega⟩
   obtain ⟨e,he,ht⟩:=zn6b u1 u2 hd hn
   exact ⟨e,he,zaa hr (ev_f rfl (ev_f (show (!decide ((pk s).proto=6))=false by rw [e6]; rfl) (ev_f hm (ev_f hs' (ev_t (show decide ((pk s).proto=6)=true by rw [e6]; rfl) (zaa ht (ev_t (show (!decide (e=0))=true by rw [decide_eq_false he]; rfl) (ev_r rfl))))))))⟩
 by_cases e17:(pk s).proto=17
 . have e9:(s.getD 9 0).toNat=17:=by have:((s.getD 9 0).toNat:Int)=17:=e17; omega
   have hn:¬ DgOk (pk s).data (pk s).from' (pk s).to:=fun hx=>h ⟨h1,.inr e9,⟨hm,hs⟩,fun e=>by omega,fun _=>hx⟩
   obtain ⟨e,he,ht⟩:=zo5b u1 u2 hd hn
   exact ⟨e,he,zaa hr (ev_f rfl (ev_t (show (!decide ((pk s).proto=6))=true by rw [decide_eq_false e6]; rfl) (ev_f (show (!decide ((pk s).proto=17))=false by rw [e17]; rfl) (ev_f hm (ev_f hs' (ev_f (show decide ((pk s).proto=6)=false by rw [decide_eq_false e6]) (zaa ht (ev_t (show (!decide (e=0))=true by rw [decide_eq_false he]; rfl) (ev_r rfl)))))))))⟩
 . exact ⟨7,by decide,zaa hr (ev_f rfl (ev_t (show (!decide ((pk s).proto=6))=true by rw [decide_eq_false e6]; rfl) (ev_t (show (!decide ((pk s).proto=17))=true by rw [decide_eq_false e17]; rfl) (ev_r rfl))))⟩
def gch (g:List UInt8) (i:Nat) (x:Int):List UInt8:=chk (wAt g i) x (setW g i x) 10
theorem zdv (g:List UInt8) (i:Nat) (x:Int):(gch g i x).length=g.length:=by simp [gch,zaz]
theorem zq6 (o x:Int) (g d:List UInt8) (c:Nat) (h:c+1<g.length):chk o x (g++d) c=chk o x g c++d:=by
 unfold chk
 rw [zcd _ _ _ h,zcs _ _ _ _ h]
theorem z1q (o x:Int) (g d:List UInt8) (c:Nat):chk o x (g++d) (g.length+c)=g++chk o x d c:=by
 unfold chk
 rw [zd2,zhx _ _ _ (by omega),show g.length+c-g.length=c by omega]
section
variable {g d z:List UInt8} {i c off:Nat} {x:Int}
theorem z53 (hx:U16 x) (hi:i+1<g.length) (h10:11<g.length) (hc:c+1<d.length) (hs:g.length+d.length<=100000) :
  zai (g.length+d.length,((i:Int),(x,([(10:Int),((g.length+c:Nat):Int)],(g++(d++z),())))))=some (gch g i x++(chk (wAt g i) x d c++z),()):=by
 have h:=zoa (g.length+d.length) i x hx [10,g.length+c] (by intro q hq; simp at hq; omega) (by simp) (g++(d++z)) (by omega) (by omega) (by (first | (simp; done) | (simp; omega) | omega))
 refine (show _=_ from h).trans ?_
 rw [zcd _ _ _ hi,zcs _ _ _ _ hi]
 simp only [List.foldl_cons,List.foldl_nil]
 rw [zq6 _ _ _ _ _ (by simp <;> omega)]
 have e:g.length+c=(chk (wAt g i) x (setW g i x) 10).length+c:=by simp [zaz]
 rw [e,z1q,zq6 _ _ _ _ _ (by omega)]
 rfl
theorem zjjb (n:Nat) (hn:n=g.length+d.length) (hx:U16 x) (hi:i+1<g.length) (h10:11<g.length) (hs:g.length+d.length<=100000) :
  zai (n,((i:Int),(x,([(10:Int)],(g++(d++z),())))))=some (gch g i x++(d++z),()):=by
 subst hn
 have h:=zoa (g.length+d.length) i x hx [10] (by intro q hq; simp at hq; omega) (by simp) (g++(d++z)) (by omega) (by omega) (by (first | (simp; done) | (simp; omega) | omega))
 refine (show _=_ from h).trans ?_
 rw [zcd _ _ _ hi,zcs _ _ _ _ hi]
 simp only [List.foldl_cons,List.foldl_nil]
 rw [zq6 _ _ _ _ _ (by simp <;> omega)]
 rfl
theorem zewb (hx:U16 x) (ho:off+1<d.length) (hc:c+1<d.length) (hs:g.length+d.length<=100000) :
  zai (g.length+d.length,(((g.length+off:Nat):Int),(x,([((g.length+c:Nat):Int)],(g++(d++z),())))))=some (g++(chk (wAt d off) x (setW d off x) c++z),()):=by
 have h:=zoa (g.length+d.length) (g.length+off) x hx [g.length+c] (by intro q hq; simp at hq; omega) (by simp) (g++(d++z)) (by omega) (by omega) (by (first | (simp; done) | (simp; omega) | omega))
 refine (show _=_ from h).trans ?_
 rw [zhx _ _ _ (by omega),zd2,zcs _ _ _ _ ho,show g.length+off-g.length=off by omega,zcd _ _ _ ho]
 simp only [List.foldl_cons,List.foldl_nil]
 rw [z1q,zq6 _ _ _ _ _ (by simp <;> omega)]
theorem zlyb (hx:U16 x) (ho:off+1<d.length) (hs:g.length+d.length<=100000) :
  zai (g.length+d.length,(((g.length+off:Nat):Int),(x,([],(g++(d++z),())))))=some (g++(setW d off x++z),()):=by
 have h:=zoa (g.length+d.length) (g.length+off) x hx [] (by intro q hq; simp at hq) (by simp) (g++(d++z)) (by omega) (by omega) (by (first | (simp; done) | (simp; omega) | omega))
 refine (show _=_ from h).trans ?_
 rw [zd2,zcs _ _ _ _ ho]
 rfl
end

def dNew (udp:Bool) (g d:List UInt8) (a p:Int) (i off c:Nat):List UInt8 :=
 if udp=true/\wAt d c=0 then setW d off p else
 let d2:=chk (wAt (gch g i (a / 65536)) (i+2)) (a%65536) (chk (wAt g i) (a / 65536) d c) c
 let d3:=chk (wAt d2 off) p (setW d2 off p) c
 if udp=true/\wAt d3 c=0 then setW d3 c 65535 else d3
def gNew (g:List UInt8) (a:Int) (i:Nat):List UInt8:=gch (gch g i (a / 65536)) (i+2) (a%65536)
theorem zbf (g:List UInt8) (a:Int) (i:Nat):(gNew g a i).length=g.length:=by simp [gNew,zdv]
theorem z5y (udp:Bool) (g d:List UInt8) (a p:Int) (i off c:Nat):(dNew udp g d a p i off c).length=d.length:=by
 unfold dNew
 simp only
 split
 . simp
 . split <;> simp [zaz]
def udpB (s:List UInt8):Bool:=decide ((s.getD 9 0).toNat=17)
def cOf (s:List UInt8):Nat:=if (s.getD 9 0).toNat=17 then 6 else 16
def swp (s:List UInt8) (a p:Int) (i off:Nat):List UInt8:=gNew (s.take (hn s)) a i++dNew (udpB s) (s.take (hn s)) (pk s).data a p i off (cOf s)

theorem zpd {s:List UInt8} (h:EndOk s):(pk s).data.length=alln s-hn s/\(s.take (hn s)).length=hn s/\cOf s+1<(pk s).data.length/\4<=(pk s).data.length/\hn s+(pk s).data.length=alln s/\alln s<=65535/\20<=hn s:=by
 have h1:=h.ip.hall; have h2:=h.ip.all; have h3:=h.ip.head; have h4:=h.ip.h20
 have b2:=zac s 2
 have e:(pk s).data.length=alln s-hn s:=by show ((s.take (alln s)).drop (hn s)).length=_; simp; omega
 have hc:cOf s+1<(pk s).data.length/\4<=(pk s).data.length:=by
  unfold cOf
  rcases h.proto with hp | hp
  . have:=h.tcp hp
    have:=this.n20; have:=(h.tcp hp).nle
    rw [if_neg (by omega)]; omega
  . have:=h.udp hp
    have:=this.n8; have:=(h.udp hp).nle
    rw [if_pos hp]; omega
 exact ⟨e,by rw [List.length_take]; omega,hc.1,hc.2,by omega,by unfold alln; omega,h4⟩
theorem u16w (x:Int):IntKind.wrap IntKind.u16 x=x%65536:=zi9 x
theorem zvf {s : List UInt8} (h : EndOk s) (hl : s.length <= Lim) {a p : Int} {i off : Nat} (ha : U32 a) (hp : U16 p) (hi : i = 12 \/ i = 16) (ho : off = 0 \/ off = 2) :
   zf4 (s, (a, (p, ((i : Int), ((off : Int), ()))))) = some (swp s a p i off, ((0 : Int), ())) := by
 obtain ⟨l1, l2, l3, l4, l5, l6, l7⟩ := zpd h
 have h1 := h.ip.hall; have h2 := h.ip.all; have h3 := h.ip.head
 have b2 := zac s 2
 have hA : Int.toNat (wAt s 2) = alln s := rfl
 have hs0 : s = s.take (hn s) ++ ((pk s).data ++ s.drop (alln s)) := by
   show s = s.take (hn s) ++ ((s.take (alln s)).drop (hn s) ++ s.drop (alln s))
   have e1 : s.take (hn s) = (s.take (alln s)).take (hn s) := by rw [List.take_take, Nat.min_eq_left h1]
   rw [<- List.append_assoc, e1, List.take_append_drop, List.take_append_drop]
 have g0 : s[0]? = some (s.getD 0 0) := by rw [List.getD_eq_getElem?_getD, List.getElem?_eq_getElem (by omega)]; rfl
 have hck : wAt (s.take (alln s)) (hn s + cOf s) = wAt (pk s).data (cOf s) := by
   show _ = wAt ((s.take (alln s)).drop (hn s)) (cOf s)
   rw [zf1b]
 have hpl : (pk s).proto = ((s.getD 9 0).toNat : Int) := rfl
 have w1 : IntKind.wrap IntKind.u16 (Int.fdiv a ((2 : Int) ^ (16 : Nat))) = a / 65536 := by rw [zdhb, u16w]; unfold U32 at ha; omega
 have w2 : IntKind.wrap IntKind.u16 a = a % 65536 := u16w a
 have w3 : IntKind.wrap IntKind.u16 p = p := by rw [u16w]; unfold U16 at hp; omega
 have w4 : IntKind.wrap IntKind.i64 ((i : Int) + 2) = ((i + 2 : Nat) : Int) := by rw [zc1 _ (by omega)]; omega
 have w5 : IntKind.wrap IntKind.i64 ((hn s : Int) + (off : Int)) = ((hn s + off : Nat) : Int) := by rw [zc1 _ (by omega)]; omega
 have u1 : U16 (a / 65536) := by unfold U32 at ha; unfold U16; omega
 have u2 : U16 (a % 65536) := by unfold U16; omega
 have hnb : ((s.getD 0 0).toNat % 16 * 4 : Nat) = hn s := rfl
 unfold zf4 zgm
 refine zaa (zdtb h hl) (ev_f rfl (ev_f (show decide (p < 0) = false by unfold U16 at hp; (first | (simp; done) | (simp; omega) | omega)) (ev_f (show decide ((65535 : Int) < p) = false by unfold U16 at hp; (first | (simp; done) | (simp; omega) | omega)) (ev_g (by unfold Lim at hl; (first | (simp; done) | (simp; omega) | omega)) (zaa (zji s 2 (by have := h.ip.len; omega) (by omega)) (ev_g (by show decide ((0 : Int) <= wAt s 2 /\ wAt s 2 <= (s.length : Int)) = true; unfold alln at h2; (first | (simp; done) | (simp; omega) | omega)) (ev_g (show decide ((0 : Int) <= 0 /\ (0 : Int) < ((alln s : Nat) : Int)) = true by (first | (simp; done) | (simp; omega) | omega)) (zaa g0 ?_))))))))
 simp only [hA, hnN, hnb, w1, w2, w3, w4, w5]
 generalize hg : s.take (hn s) = g at *
 generalize hd : (pk s).data = d at *
 generalize hz : s.drop (alln s) = z at *
 have fin : ∀ (q r : List UInt8), q.length = g.length -> r.length = d.length -> List.take (alln s) (q ++ (r ++ z)) = q ++ r := fun q r hq hr => by
   rw [<- List.append_assoc, List.take_left' (by simp <;> omega)]
 have hgd : g.length + d.length = alln s := by omega
 rcases h.proto with hp9 | hp9
 . -- a segment
   have hc : cOf s = 16 := by unfold cOf; rw [if_neg (by omega)]
   have hu : udpB s = false := by unfold udpB; rw [decide_eq_false (by omega)]
   rw [hc] at l3
   have w6 : IntKind.wrap IntKind.i64 ((hn s : Int) + 16) = ((g.length + 16 : Nat) : Int) := by rw [zc1 _ (by omega)]; omega
   have n17 : decide (((s.getD 9 0).toNat : Int) = 17) = false := decide_eq_false (by omega)
   have e1 := z53 (g := g) (d := d) (z := z) (i := i) (c := 16) u1 (by omega) (by omega) (by omega) (by omega)
   have e2 := z53 (g := gch g i (a / 65536)) (d := chk (wAt g i) (a / 65536) d 16) (z := z) (i := i + 2) (c := 16) u2 (by rw [zdv]; omega) (by rw [zdv]; omega) (by rw [zaz]; omega) (by rw [zdv, zaz]; omega)
   have e3 := zewb (g := gNew g a i) (d := chk (wAt (gch g i (a / 65536)) (i + 2)) (a % 65536) (chk (wAt g i) (a / 65536) d 16) 16) (z := z) (off := off) (c := 16) (x := p) hp (by rw [zaz, zaz]; omega) (by rw [zaz, zaz]; omega) (by rw [zbf, zaz, zaz]; omega)
   rw [zdv, zaz] at e2
   rw [zbf, zaz, zaz] at e3
   rw [hgd] at e1 e2 e3
   simp only [w6]
   rw [<- hs0] at e1
   have l2' : hn s = g.length := by omega
   simp only [l2']
   refine ev_f n17 (ev_f n17 (ev_g rfl (zaa e1 (zaa e2 (ev_g rfl (zaa e3 (ev_f n17 (ev_r ?_))))))))
   show (List.take (alln s) _, _) = _
   rw [fin _ _ (zbf g a i) (by simp [zaz])]
   unfold swp dNew
   rw [hg, hd, hu, hc]
   rfl
 . have hc : cOf s = 6 := by unfold cOf; rw [if_pos hp9]
   have hu : udpB s = true := by unfold udpB; rw [decide_eq_true hp9]
   rw [hc] at l3 hck
   have w6 : IntKind.wrap IntKind.i64 ((hn s : Int) + 6) = ((g.length + 6 : Nat) : Int) := by rw [zc1 _ (by omega)]; omega
   have n17 : decide (((s.getD 9 0).toNat : Int) = 17) = true := decide_eq_true (by omega)
   have l2' : hn s = g.length := by omega
   have hw := zji (s.take (alln s)) (g.length + 6) (by rw [List.length_take]; omega) (by omega)
   rw [<- l2', hck] at hw
   simp only [w6]
   rw [<- l2']
   refine ev_t n17 (ev_t n17 (zaa hw ?_))
   rw [l2'] at *
   by_cases h0 : wAt d 6 = 0
   . have e1 := zjjb (g := g) (d := d) (z := z) (i := i) (alln s) hgd.symm u1 (by omega) (by omega) (by omega)
     have e2 := zjjb (g := gch g i (a / 65536)) (d := d) (z := z) (i := i + 2) (alln s) (by rw [zdv]; exact hgd.symm) u2 (by rw [zdv]; omega) (by rw [zdv]; omega) (by rw [zdv]; omega)
     have e3 := zlyb (g := gNew g a i) (d := d) (z := z) (off := off) (x := p) hp (by omega) (by rw [zbf]; omega)
     rw [zbf, hgd] at e3
     rw [<- hs0] at e1
     refine ev_t (show decide (wAt d 6 = 0) = true from decide_eq_true h0) (ev_g rfl (ev_g rfl (zaa e1 (zaa e2 (ev_g rfl (zaa e3 (ev_t n17 (ev_f (show (!decide (wAt d 6 = 0)) = false by rw [decide_eq_true h0]; rfl) (ev_r ?_)))))))))
     show (List.take (alln s) _, _) = _
     rw [fin _ _ (zbf g a i) (by simp)]
     unfold swp dNew
     rw [hg, hd, hu, hc, if_pos ⟨rfl, h0⟩]
   . have e1 := z53 (g := g) (d := d) (z := z) (i := i) (c := 6) u1 (by omega) (by omega) (by omega) (by omega)
     have e2 := z53 (g := gch g i (a / 65536)) (d := chk (wAt g i) (a / 65536) d 6) (z := z) (i := i + 2) (c := 6) u2 (by rw [zdv]; omega) (by rw [zdv]; omega) (by rw [zaz]; omega) (by rw [zdv, zaz]; omega)
     have e3 := zewb (g := gNew g a i) (d := chk (wAt (gch g i (a / 65536)) (i + 2)) (a % 65536) (chk (wAt g i) (a / 65536) d 6) 6) (z := z) (off := off) (c := 6) (x := p) hp (by rw [zaz, zaz]; omega) (by rw [zaz, zaz]; omega) (by rw [zbf, zaz, zaz]; omega)
     rw [zdv, zaz] at e2
     rw [zbf, zaz, zaz] at e3
     rw [hgd] at e1 e2 e3
     rw [<- hs0] at e1
     refine ev_f (show decide (wAt d 6 = 0) = false from decide_eq_false h0) (ev_g rfl (zaa e1 (zaa e2 (ev_g rfl (zaa e3 (ev_t n17 (ev_t (show (!decide (wAt d 6 = 0)) = true by rw [decide_eq_false h0]; rfl) ?_)))))))
     have hdn : dNew true g d a p i off 6 = (let d2 := chk (wAt (gch g i (a / 65536)) (i + 2)) (a % 65536) (chk (wAt g i) (a / 65536) d 6) 6
        let d3 := chk (wAt d2 off) p (setW d2 off p) 6
        if (true = true) /\ wAt d3 6 = 0 then setW d3 6 65535 else d3) := by unfold dNew; rw [if_neg (fun h => h0 h.2)]
     generalize hd3 : chk (wAt (chk (wAt (gch g i (a / 65536)) (i + 2)) (a % 65536) (chk (wAt g i) (a / 65536) d 6) 6) off) p (setW (chk (wAt (gch g i (a / 65536)) (i + 2)) (a % 65536) (chk (wAt g i) (a / 65536) d 6) 6) off p) 6 = d3 at *
     have ld3 : d3.length = d.length := by rw [<- hd3]; simp [zaz]
     simp only [hd3] at hdn
     have hw3 : zbj (List.take (alln s) (gNew g a i ++ (d3 ++ z)), (((g.length + 6 : Nat) : Int), ())) = some (wAt d3 6, ()) := by
       rw [fin _ _ (zbf g a i) ld3, zji _ _ (by simp [zbf]; omega) (by omega), zhx _ _ _ (by rw [zbf]; omega), zbf, show g.length + 6 - g.length = 6 by omega]
     refine zaa hw3 ?_
     by_cases h3 : wAt d3 6 = 0
     . have hput := zw9 (alln s) (g.length + 6) 65535 (gNew g a i ++ (d3 ++ z)) (by omega) (by simp [zbf]; omega) (by omega)
       refine ev_t (show decide (wAt d3 6 = 0) = true from decide_eq_true h3) (zaa hput (ev_r ?_))
       show (List.take (alln s) _, _) = _
       have e : g.length + 6 = (gNew g a i).length + 6 := by rw [zbf]
       rw [e, zd2, zcs _ _ _ _ (by omega), fin _ _ (zbf g a i) (by simp [ld3])]
       unfold swp
       rw [hg, hd, hu, hc, hdn, if_pos ⟨trivial, h3⟩]
     . refine ev_f (show decide (wAt d3 6 = 0) = false from decide_eq_false h3) (ev_r ?_)
       show (List.take (alln s) _, _) = _
       rw [fin _ _ (zbf g a i) ld3]
       unfold swp
       rw [hg, hd, hu, hc, hdn, if_neg (fun h => h3 h.2)]
end Go.Proofs.YthkhikdglmaiaaaGreatDoor.X
