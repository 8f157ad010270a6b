/- Texts towards the law HouseRight, put together (part 4): an abstract walk and its proof, functions of the program as trees, and plain laws. Conditions: none. -/
import Derived.KernelRfl
import Derived.WalkKit
import Derived.Test.YthkhikdglmaiaaaGreatDoorK3
set_option linter.unnecessarySimpa false
set_option linter.unusedSimpArgs false
set_option linter.unusedVariables false
set_option maxRecDepth 100000
namespace Go.Proofs.YthkhikdglmaiaaaGreatDoor.X
open Go Go.RowKit Go.Proofs.YthkhikdglmaiaaaGreatDoor.Abs
open Go.IntKind renaming wrap -> wW
set_option maxRecDepth 100000
set_option linter.unusedVariables false
theorem z87 (xs:List (τ 19)):(zdq Go.Proofs.Tryz.prog cod 13 [.one (.nn (.st 19 xs))]).eval=(zdm 59 19 40 xs).eval:=by kernel_rfl
theorem z86:(zdq Go.Proofs.Tryz.prog cod 13 [.one .nil]).eval=some (.one .nil,[]):=by kernel_rfl
def zpg:PF Go.Proofs.Tryz.prog:=zmp Go.Proofs.Tryz.prog cod 13 59 19 40 z87 z86
def z37:SP:=⟨33,[(0,.v (.one (.own 1000100))),(1,.v (.one (.i .i64))),(2,.v (.one (.i .i64)))],[(1000100,.row 59 19 true true)]⟩
def z36:SP:=⟨1,[(0,.v (.one (.own 1000100)))],[(1000100,.row 59 19 true true)]⟩
abbrev zm2b:Type:=(Int×(Int×((List TMeter)×Unit)))
def zev:zm2b->Tr ((List TMeter)×Unit) :=
 fun (a0,a1,a2,_) =>.grd (decide (0<=a0/\a0<=a1/\a1<=(↑(a2.length):Int)/\(↑(a2.length):Int)<=(↑(a2.length):Int))) (.ite (decide (a0=a1)) (gd a2.length (.ret (a2,()))) (.grd (decide (0<=a0/\a0<=(↑(a2.length):Int))) (.grd (decide (0<=a1/\a1<=(↑(a2.length):Int)/\(↑(a2.length):Int)<=(↑(a2.length):Int))) (.grd (decide (Int.toNat a1+Int.toNat ((↑(a2.length):Int)-a1)<=a2.length)) (.grd (decide (Int.toNat a0+List.length (List.take (Int.toNat ((↑(a2.length):Int)-a1)) (List.drop (Int.toNat a1) a2))<=a2.length)) (
 .grd (decide (0<=(↑(Int.toNat a0+List.length (List.take (Int.toNat ((↑(a2.length):Int)-a1)) (List.drop (Int.toNat a1) a2))):Int)/\(↑(Int.toNat a0+List.length (List.take (Int.toNat ((↑(a2.length):Int)-a1)) (List.drop (Int.toNat a1) a2))):Int)<=(↑(a2.length):Int)/\(↑(a2.length):Int)<=(↑(List.length (List.take (Int.toNat a0) a2++List.take (Int.toNat ((↑(a2.length):Int)-a1)) (List.drop (Int.toNat a1) a2)++List.drop (Int.toNat a0+List.length (List.take (Int.toNat ((↑(a2.length):Int)-a1)) (List.drop (Int.toNat a1) a2))) a2)):Int))) (
 .grd (decide (Int.toNat (↑(Int.toNat a0+List.length (List.take (Int.toNat ((↑(a2.length):Int)-a1)) (List.drop (Int.toNat a1) a2))):Int)+Int.toNat ((↑(a2.length):Int)-(↑(Int.toNat a0+List.length (List.take (Int.toNat ((↑(a2.length):Int)-a1)) (List.drop (Int.toNat a1) a2))):Int))<=List.length (List.take (Int.toNat a0) a2++List.take (Int.toNat ((↑(a2.length):Int)-a1)) (List.drop (Int.toNat a1) a2)++List.drop (Int.toNat a0+List.length (List.take (Int.toNat ((↑(a2.length):Int)-a1)) (List.drop (Int.toNat a1) a2))) a2))) (
 .grd (decide (Int.toNat a0+List.length (List.take (Int.toNat ((↑(a2.length):Int)-a1)) (List.drop (Int.toNat a1) a2))=List.length (List.take (Int.toNat a0+List.length (List.take (Int.toNat ((↑(a2.length):Int)-a1)) (List.drop (Int.toNat a1) a2))) (List.take (Int.toNat (↑(Int.toNat a0+List.length (List.take (Int.toNat ((↑(a2.length):Int)-a1)) (List.drop (Int.toNat a1) a2))):Int)) (List.take (Int.toNat a0) a2++List.take (Int.toNat ((↑(a2.length):Int)-a1)) (List.drop (Int.toNat a1) a2)++List.drop (Int.toNat a0+List.length (List.take (Int.toNat ((↑(a2.length):Int)-a1)) (List.drop (Int.toNat a1) a2))) a2)++List.replicate (Int.toNat ((↑(a2.length):Int)-(↑(Int.toNat a0+List.length (List.take (Int.toNat ((↑(a2.length):Int)-a1)) (List.drop (Int.toNat a1) a2))):Int))) (TMeter.mk (0:Int) (0:Int) (0:Int) (0:Int) (0:Int))++List.drop (Int.toNat (↑(Int.toNat a0+List.length (List.take (Int.toNat ((↑(a2.length):Int)-a1)) (List.drop (Int.toNat a1) a2))):Int)+List.length (List.replicate (Int.toNat ((↑(a2.length):Int)-(↑(Int.toNat a0+List.length (List.take (Int.toNat ((↑(a2.length):Int)-a1)) (List.drop (Int.toNat a1) a2))):Int))) (TMeter.mk (0:Int) (0:Int) (0:Int) (0:Int) (0:Int)))) (List.take (Int.toNat a0) a2++List.take (Int.toNat ((↑(a2.length):Int)-a1)) (List.drop (Int.toNat a1) a2)++List.drop (Int.toNat a0+List.length (List.take (Int.toNat ((↑(a2.length):Int)-a1)) (List.drop (Int.toNat a1) a2))) a2))))) (
 .ret (List.take (Int.toNat a0+List.length (List.take (Int.toNat ((↑(a2.length):Int)-a1)) (List.drop (Int.toNat a1) a2))) (List.take (Int.toNat (↑(Int.toNat a0+List.length (List.take (Int.toNat ((↑(a2.length):Int)-a1)) (List.drop (Int.toNat a1) a2))):Int)) (List.take (Int.toNat a0) a2++List.take (Int.toNat ((↑(a2.length):Int)-a1)) (List.drop (Int.toNat a1) a2)++List.drop (Int.toNat a0+List.length (List.take (Int.toNat ((↑(a2.length):Int)-a1)) (List.drop (Int.toNat a1) a2))) a2)++List.replicate (Int.toNat ((↑(a2.length):Int)-(↑(Int.toNat a0+List.length (List.take (Int.toNat ((↑(a2.length):Int)-a1)) (List.drop (Int.toNat a1) a2))):Int))) (TMeter.mk (0:Int) (0:Int) (0:Int) (0:Int) (0:Int))++List.drop (Int.toNat (↑(Int.toNat a0+List.length (List.take (Int.toNat ((↑(a2.length):Int)-a1)) (List.drop (Int.toNat a1) a2))):Int)+List.length (List.replicate (Int.toNat ((↑(a2.length):Int)-(↑(Int.toNat a0+List.length (List.take (Int.toNat ((↑(a2.length):Int)-a1)) (List.drop (Int.toNat a1) a2))):Int))) (TMeter.mk (0:Int) (0:Int) (0:Int) (0:Int) (0:Int)))) (List.take (Int.toNat a0) a2++List.take (Int.toNat ((↑(a2.length):Int)-a1)) (List.drop (Int.toNat a1) a2)++List.drop (Int.toNat a0+List.length (List.take (Int.toNat ((↑(a2.length):Int)-a1)) (List.drop (Int.toNat a1) a2))) a2)),()))))))))))
noncomputable def gm51:List (PF Go.Proofs.Tryz.prog):=gm30++[FS.pf swTo,zi7,GS.pf zfx,FS.pf zd0,FS.pf zm0,FS.pf zpp,FS.pf zps,FS.pf zje,FS.pf zjg,FS.pf zy3,GS.pf zqf,GS.pf zpq,GS.pf zf3,FS.pf zpr,FS.pf zpt,FS.pf zkk,FS.pf z4f,FS.pf zwr,zkg,FS.pf zuc,FS.pf zxf,FS.pf zf7,FS.pf zl7,FS.pf zl9,FS.pf zl8,FS.pf zia,tz64,FS.pf zb5,FS.pf zes,FS.pf zf8,FS.pf zhp,z4e,GS.pf ztw,FS.pf z33,FS.pf zfp,FS.pf zii,zih,GS.pf zfs,FS.pf zsv,FS.pf z3c,zpg]
def zfy (x:zm2b):Option ((List TMeter)×Unit):=(zev x).eval
noncomputable def zk5:GS Tryz.prog:=mGS gm51 [] 135 [1,0,0] z37 z36 zev fun x=>by kernel_rfl
def zuw:LS:=⟨2,[(1000200,1000200)],⟨19,[(8,.v (.one (.i .i64))),(0,.v (.one (.st 19 false))),(1,.v (.one (.clp 133 [(1000200,0)]))),(7,.v (.one (.i .i64)))],[(1000200,.cells [.i .u32])]⟩,[⟨none,[(1000200,1000200)],⟨19,[(4,.v (.one (.i .i64)))],[(1000200,.cells [.i .u32])]⟩⟩,⟨some 0,[(1000200,1000200)],⟨19,[],[(1000200,.cells [.i .u32])]⟩⟩],[]⟩
abbrev zm1b:Type:=(Int×((List TMeter)×(Int×(Int×Unit))))
def zbw:zm1b->Tr (zm1b⊕((Int×(Int×Unit))⊕(Int×Unit))) :=
 fun (a0,a1,a2,a3,_) =>.ite (decide (a0<a2)) (.grd (decide (0<=a0)) (.opt (a1[Int.toNat a0]?) (fun r0 =>.ite (decide (r0.addr=a3)) (.ret (Sum.inr (Sum.inl (a0,(a3,()))))) (.ret (Sum.inl (wW .i64 (a0+1),(a1,(a2,(a3,()))))))))) (.ret (Sum.inr (Sum.inr (a3,()))))
def zo1:=lpT 1320002 zbw
def z8f:List VP1:=[.agg [.i .u32,.i .i64,.i .i64,.i .i64,.i .i64,.i .i64,.st 10 false,.b,.st 19 false,.st 16 false,.i .i64,.i .i64,.i .u64,.i .i64,.i .u64,.st 17 false],.one (.i .u32)]
def z8e:SP:=⟨1,[(0,.v (.one (.i .i64)))],[]⟩
abbrev zf6b:Type:=(Int×(Int×(Int×(Int×(Int×(Int×((List TRule)×(Bool×((List TMeter)×((List TTalk)×(Int×(Int×(Int×(Int×(Int×((List TMap)×(Int×Unit)))))))))))))))))
def zp9:zf6b->Tr (Int×Unit) :=
 fun (a0,a1,a2,a3,a4,a5,a6,a7,a8,a9,a10,a11,a12,a13,a14,a15,a16,_) =>.opt ((zo1 (0,(a8,((↑(a8.length):Int),(a16,())))))) (fun r0 =>.sum (r0) (fun r1 =>.ret (r1.1,())) (fun r1 =>.ret ((-1:Int),())))
noncomputable def gm52:List (PF Go.Proofs.Tryz.prog):=gm51++[GS.pf zk5]
def zo2 (x:zf6b):Option (Int×Unit):=(zp9 x).eval
noncomputable def zo3:FS Tryz.prog:=mFS gm52 [(132,zuw)] 86 z8f z8e zp9 fun x=>by kernel_rfl
def zcwb:List VP1:=[.agg [.i .u32,.i .i64,.i .i64,.i .i64,.i .i64,.i .i64,.st 10 false,.b,.st 19 false,.st 16 false,.i .i64,.i .i64,.i .u64,.i .i64,.i .u64,.st 17 false]]
def zcvb:SP:=⟨1,[(0,.v (.one (.i .i64)))],[]⟩
abbrev z13:Type:=(Int×(Int×(Int×(Int×(Int×(Int×((List TRule)×(Bool×((List TMeter)×((List TTalk)×(Int×(Int×(Int×(Int×(Int×((List TMap)×Unit))))))))))))))))
def zta:z13->Tr (Int×Unit) :=
 fun (a0,a1,a2,a3,a4,a5,a6,a7,a8,a9,a10,a11,a12,a13,a14,a15,_) =>.ite (decide (0<(↑(a8.length):Int))) (.grd (decide (0<=wW .i64 ((↑(a8.length):Int)-1))) (.opt (a8[Int.toNat (wW .i64 ((↑(a8.length):Int)-1))]?) (fun r0 =>.ite (decide (0<(↑(a9.length):Int))) (.grd (decide (0<=wW .i64 ((↑(a9.length):Int)-1))) (.opt (a9[Int.toNat (wW .i64 ((↑(a9.length):Int)-1))]?) (fun r1 =>.ite (decide (0<(↑(a15.length):Int))) (.grd (decide (0<=wW .i64 ((↑(a15.length):Int)-1))) (.opt (a15[Int.toNat (wW .i64 ((↑(a15.length):Int)-1))]?) (fun r2 =>
 .ret (if false=true then if r2.at'<if false=true then if r1.at'<r0.at' then r1.at' else r0.at' else if r1.at'>r0.at' then r1.at' else r0.at' then r2.at' else if false=true then if r1.at'<r0.at' then r1.at' else r0.at' else if r1.at'>r0.at' then r1.at' else r0.at' else if r2.at'>if false=true then if r1.at'<r0.at' then r1.at' else r0.at' else if r1.at'>r0.at' then r1.at' else r0.at' then r2.at' else if false=true then if r1.at'<r0.at' then r1.at' else r0.at' else if r1.at'>r0.at' then r1.at' else r0.at',())))) (
 .ret (if false=true then if r1.at'<r0.at' then r1.at' else r0.at' else if r1.at'>r0.at' then r1.at' else r0.at',()))))) (.ite (decide (0<(↑(a15.length):Int))) (.grd (decide (0<=wW .i64 ((↑(a15.length):Int)-1))) (.opt (a15[Int.toNat (wW .i64 ((↑(a15.length):Int)-1))]?) (fun r1 =>.ret (if false=true then if r1.at'<r0.at' then r1.at' else r0.at' else if r1.at'>r0.at' then r1.at' else r0.at',())))) (.ret (r0.at',())))))) (.ite (decide (0<(↑(a9.length):Int))) (.grd (decide (0<=wW .i64 ((↑(a9.length):Int)-1))) (
 .opt (a9[Int.toNat (wW .i64 ((↑(a9.length):Int)-1))]?) (fun r0 =>.ite (decide (0<(↑(a15.length):Int))) (.grd (decide (0<=wW .i64 ((↑(a15.length):Int)-1))) (.opt (a15[Int.toNat (wW .i64 ((↑(a15.length):Int)-1))]?) (fun r1 =>
 .ret (if false=true then if r1.at'<if false=true then if r0.at'<0 then r0.at' else (0:Int) else if r0.at'>(0:Int) then r0.at' else (0:Int) then r1.at' else if false=true then if r0.at'<0 then r0.at' else (0:Int) else if r0.at'>(0:Int) then r0.at' else (0:Int) else if r1.at'>if false=true then if r0.at'<0 then r0.at' else (0:Int) else if r0.at'>(0:Int) then r0.at' else (0:Int) then r1.at' else if false=true then if r0.at'<0 then r0.at' else (0:Int) else if r0.at'>(0:Int) then r0.at' else 0,())))) (
 .ret (if false=true then if r0.at'<0 then r0.at' else (0:Int) else if r0.at'>(0:Int) then r0.at' else 0,()))))) (.ite (decide (0<(↑(a15.length):Int))) (.grd (decide (0<=wW .i64 ((↑(a15.length):Int)-1))) (.opt (a15[Int.toNat (wW .i64 ((↑(a15.length):Int)-1))]?) (fun r0 =>.ret (if false=true then if r0.at'<0 then r0.at' else (0:Int) else if r0.at'>(0:Int) then r0.at' else 0,())))) (.ret (0,()))))
noncomputable def gm53:List (PF Go.Proofs.Tryz.prog):=gm52++[FS.pf zo3]
def ztb (x:z13):Option (Int×Unit):=(zta x).eval
noncomputable def zv7:FS Tryz.prog:=mFS gm53 [] 41 zcwb zcvb zta fun x=>by kernel_rfl
def zux:LS:=⟨12,[(1,1),(5,5)],⟨103,[(62,.v (.one (.i .i64))),(1,.v (.one (.ptr 1 0))),(7,.v (.one (.i .i64))),(5,.v (.one (.ptr 5 0))),(60,.v (.one (.st 19 false))),(61,.v (.one (.i .i64)))],[(1,.cells [.i .u32,.i .i64,.i .i64,.i .i64,.i .i64,.i .i64,.st 10 false,.b,.st 19 false,.st 16 false,.i .i64,.i .i64,.i .u64,.i .i64,.i .u64,.st 17 false]),(5,.cells [.i .u32,.i .i64,.i .i64,.i .i64,.i .i64,.i .i64,.st 10 false,.b])]⟩,[⟨none,[],⟨103,[(2,.v (.one (.i .i64)))],[]⟩⟩,⟨some 2,[],⟨103,[],[]⟩⟩],[]⟩
abbrev zm0b:Type:=(Int×(Int×((List TMeter)×(Int×(Int×(Int×(Int×(Int×(Int×(Int×((List TRule)×(Bool×((List TMeter)×((List TTalk)×(Int×(Int×(Int×(Int×(Int×((List TMap)×(Int×(Int×(Int×(Int×(Int×(Int×((List TRule)×(Bool×Unit))))))))))))))))))))))))))))
def zbx:zm0b->Tr (zm0b⊕((Int×Unit)⊕Unit)) :=
 fun (a0,a1,a2,a3,a4,a5,a6,a7,a8,a9,a10,a11,a12,a13,a14,a15,a16,a17,a18,a19,a20,a21,a22,a23,a24,a25,a26,a27,_) =>.ite (decide (a0<a3)) (.grd (decide (0<=a0)) (.opt (a2[Int.toNat a0]?) (fun r0 =>.opt ((zk7 (r0.rate,(r0.most,(r0.has,(r0.at',())))))) (fun r1 =>.ite (!decide (r1.1=0)) (.ret (Sum.inr (Sum.inl (4,())))) (.ite (!decide (r0.rate=a24)) (.ret (Sum.inr (Sum.inl (4,())))) (.ite (!decide (r0.most=a25)) (.ret (Sum.inr (Sum.inl (4,())))) (.ite (decide (r0.at'<a1)) (.ret (Sum.inr (Sum.inl (4,())))) (
 .opt ((zo2 (a4,(a5,(a6,(a7,(a8,(a9,(a10,(a11,(a12,(a13,(a14,(a15,(a16,(a17,(a18,(a19,(r0.addr,()))))))))))))))))))) (fun r2 =>.ite (!decide (r2.1=a0)) (.ret (Sum.inr (Sum.inl (4,())))) (.ret (Sum.inl (wW .i64 (a0+1),(r0.at',(a2,(a3,(a4,(a5,(a6,(a7,(a8,(a9,(a10,(a11,(a12,(a13,(a14,(a15,(a16,(a17,(a18,(a19,(a20,(a21,(a22,(a23,(a24,(a25,(a26,(a27,()))))))))))))))))))))))))))))))))))))))) (.ret (Sum.inr (Sum.inr ())))
def zo4:=lpT 400012 zbx
def zx3:LS:=⟨2,[(1,1)],⟨103,[(21,.v (.one (.i .i64))),(20,.v (.agg [.i .i64,.i .i64,.i .i64])),(1,.v (.one (.ptr 1 0)))],[(1,.cells [.i .u32,.i .i64,.i .i64,.i .i64,.i .i64,.i .i64,.st 10 false,.b,.st 19 false,.st 16 false,.i .i64,.i .i64,.i .u64,.i .i64,.i .u64,.st 17 false])]⟩,[⟨none,[],⟨103,[(2,.v (.one (.i .i64)))],[]⟩⟩,⟨some 0,[(1,1)],⟨103,[(1,.v (.one (.ptr 1 0)))],[(1,.cells [.i .u32,.i .i64,.i .i64,.i .i64,.i .i64,.i .i64,.st 10 false,.b,.st 19 false,.st 16 false,.i .i64,.i .i64,.i .u64,.i .i64,.i .u64,.st 17 false])]⟩⟩],[]⟩
abbrev zmzb:Type:=(Int×(Int×(Int×(Int×(Int×(Int×(Int×(Int×(Int×(Int×((List TRule)×(Bool×((List TMeter)×((List TTalk)×(Int×(Int×(Int×(Int×(Int×((List TMap)×Unit))))))))))))))))))))
def zav:zmzb->Tr (zmzb⊕((Int×Unit)⊕z13)) :=
 fun (a0,a1,a2,a3,a4,a5,a6,a7,a8,a9,a10,a11,a12,a13,a14,a15,a16,a17,a18,a19,_) =>.ite (decide (a0<3)) (.grd (decide (0<=a0)) (.opt ([a1,a2,a3][Int.toNat a0]?) (fun r0 =>.ite (!decide (r0=0)) (.ret (Sum.inr (Sum.inl (r0,())))) (.ret (Sum.inl (wW .i64 (a0+1),(a1,(a2,(a3,(a4,(a5,(a6,(a7,(a8,(a9,(a10,(a11,(a12,(a13,(a14,(a15,(a16,(a17,(a18,(a19,()))))))))))))))))))))))))) (.ret (Sum.inr (Sum.inr (a4,(a5,(a6,(a7,(a8,(a9,(a10,(a11,(a12,(a13,(a14,(a15,(a16,(a17,(a18,(a19,())))))))))))))))))))
def zep:=lpT 400002 zav
def z8h:List VP1:=[.agg [.i .u32,.i .i64,.i .i64,.i .i64,.i .i64,.i .i64,.st 10 false,.b,.st 19 false,.st 16 false,.i .i64,.i .i64,.i .u64,.i .i64,.i .u64,.st 17 false]]
def z8g:SP:=⟨1,[(0,.v (.one (.i .i64)))],[]⟩
abbrev y14 {a0 a1 a2 a3 a4 a5 a6 a7 a8 a9 a10 a11 a12 a13 b c:Type} (x:a0×a1×a2×a3×a4×a5×a6×a7×a8×a9×a10×a11×a12×a13×b×c):b:=x.2.2.2.2.2.2.2.2.2.2.2.2.2.2.1
abbrev y15 {a0 a1 a2 a3 a4 a5 a6 a7 a8 a9 a10 a11 a12 a13 a14 b c:Type} (x:a0×a1×a2×a3×a4×a5×a6×a7×a8×a9×a10×a11×a12×a13×a14×b×c):b:=x.2.2.2.2.2.2.2.2.2.2.2.2.2.2.2.1
def zqa:z13->Tr (Int×Unit) :=
 fun (a0,a1,a2,a3,a4,a5,a6,a7,a8,a9,a10,a11,a12,a13,a14,a15,_) =>.opt ((zgj (a0,(a1,(a2,(a3,(a4,(a5,(a6,(a7,())))))))))) (fun r0 =>.opt ((zgz (a9,()))) (fun r1 =>.opt ((zc6 (a10,(a11,(a12,(a13,(a14,(a15,())))))))) (fun r2 =>.opt ((zep (0,(r0.1,(r1.1,(r2.1,(a0,(a1,(a2,(a3,(a4,(a5,(a6,(a7,(a8,(a9,(a10,(a11,(a12,(a13,(a14,(a15,())))))))))))))))))))))) (fun r3 =>.sum (r3) (fun r4 =>.ret (r4.1,())) (fun r4 =>.ite (decide (64<(↑((y8 r4).length):Int))) (.ret (4,())) (.ite (!decide ((y10 r4)=(y3 r4))) (.ret (4,())) (
 .ite (!decide ((y11 r4)=r4.2.1)) (.ret (4,())) (.ite (!decide ((y13 r4)=r4.2.2.1)) (.ret (4,())) (.opt ((zo4 (0,(0,(y8 r4,((↑((y8 r4).length):Int),(r4.1,(r4.2.1,(r4.2.2.1,(y3 r4,(y4 r4,(y5 r4,(y6 r4,(y7 r4,(y8 r4,(y9 r4,(y10 r4,(y11 r4,(y12 r4,(y13 r4,(y14 r4,(y15 r4,(r4.1,(r4.2.1,(r4.2.2.1,(y3 r4,(y4 r4,(y5 r4,(y6 r4,(y7 r4,())))))))))))))))))))))))))))))) (fun r5 =>.sum (r5) (fun r6 =>.ret (r6.1,())) (fun r6 =>.ret (0,()))))))))))))
noncomputable def gm54:List (PF Go.Proofs.Tryz.prog):=gm53++[FS.pf zv7]
def zo5 (x:z13):Option (Int×Unit):=(zqa x).eval
noncomputable def zo6:FS Tryz.prog:=mFS gm54 [(40,zux),(40,zx3)] 40 z8h z8g zqa fun x=>by kernel_rfl
def zhpb:List VP1:=[.agg [.i .u32,.i .i64,.i .i64,.i .i64,.i .i64,.i .i64,.st 10 false,.b]]
def zhnb:SP:=⟨1,[(0,.tup [.agg [.i .u32,.i .i64,.i .i64,.i .i64,.i .i64,.i .i64,.st 10 true,.b,.st 19 true,.st 16 true,.i .i64,.i .i64,.i .u64,.i .i64,.i .u64,.st 17 true],.one (.i .i64)])],[]⟩
def zv6:z6p->Tr zf6b :=
 fun (a0,a1,a2,a3,a4,a5,a6,a7,_) =>.opt ((zgj (a0,(a1,(a2,(a3,(a4,(a5,(a6,(a7,())))))))))) (fun r0 =>.ite (!decide (r0.1=0)) (.ret (0,(0,(0,(0,(0,(0,([],(false,([],([],(0,(0,(0,(0,(0,([],(r0.1,())))))))))))))))))) (.grd (decide (((0:Nat)+a6.length)*(80:Nat)<=(140737488355328:Nat)/\(0:Nat)+a6.length<=(9223372036854775807:Nat))) (.ret (a0,(a1,(a2,(a3,(a4,(a5,(a6,(a7,([],([],(a3,(a1,(0,(a2,(0,([],(0,()))))))))))))))))))))
noncomputable def gm55:List (PF Go.Proofs.Tryz.prog):=gm54++[FS.pf zo6]
def zhob (x:z6p):Option zf6b:=(zv6 x).eval
noncomputable def z8d:FS Tryz.prog:=mFS gm55 [] 25 zhpb zhnb zv6 fun x=>by kernel_rfl
open Go Go.RowKit Go.Proofs.YthkhikdglmaiaaaGreatDoor.Abs
open Go.IntKind renaming wrap -> wW
def zyy:SP:=⟨115,[(0,.v (.one (.ptr 1000000 0)))],[(1000000,.cells [.i .u32,.i .i64,.i .i64,.i .i64,.i .i64,.i .i64,.st 10 false,.b,.own 1000100,.st 16 false,.i .i64,.i .i64,.i .u64,.i .i64,.i .u64,.st 17 false,.i .u32,.i .u32,.i .i64,.i .i64,.i .i64,.s,.i .i64]),(1000100,.row 59 19 true true)]⟩
def zyx:SP:=⟨1,[(0,.v (.one (.b)))],[(1000000,.cells [.i .u32,.i .i64,.i .i64,.i .i64,.i .i64,.i .i64,.st 10 false,.b,.own 1000100,.st 16 false,.i .i64,.i .i64,.i .u64,.i .i64,.i .u64,.st 17 false,.i .u32,.i .u32,.i .i64,.i .i64,.i .i64,.s,.i .i64]),(1000100,.row 59 19 true true)]⟩
abbrev z6o:Type:=(Int×(Int×(Int×(Int×(Int×(Int×((List TRule)×(Bool×((List TTalk)×(Int×(Int×(Int×(Int×(Int×((List TMap)×(Int×(Int×(Int×(Int×(Int×((List UInt8)×(Int×((List TMeter)×Unit)))))))))))))))))))))))
abbrev z6n:Type:=(Bool×(Int×(Int×(Int×(Int×(Int×(Int×((List TRule)×(Bool×((List TTalk)×(Int×(Int×(Int×(Int×(Int×((List TMap)×(Int×(Int×(Int×(Int×(Int×((List UInt8)×(Int×((List TMeter)×Unit))))))))))))))))))))))))
def zlb:z6o->Tr z6n :=
 fun (a0,a1,a2,a3,a4,a5,a6,a7,a8,a9,a10,a11,a12,a13,a14,a15,a16,a17,a18,a19,a20,a21,a22,_) =>.opt ((zo2 (a0,(a1,(a2,(a3,(a4,(a5,(a6,(a7,(a22,(a8,(a9,(a10,(a11,(a12,(a13,(a14,(a15,()))))))))))))))))))) (fun r0 =>.ite (decide (0<=r0.1)) (.grd (decide (0<=r0.1/\r0.1<(↑(a22.length):Int))) (.opt (a22[Int.toNat r0.1]?) (fun r1 =>gd a22.length (.opt ((zfy (r0.1,(wW .i64 (r0.1+1),(a22,()))))) (fun r2 =>.opt ((zhr (r1.rate,(r1.most,(r1.has,(r1.at',(a21,((↑(a20.length):Int),())))))))) (fun r3 =>
 .grd (decide ((List.length r2.1+List.length [TMeter.mk a15 r3.1 r3.2.1 r3.2.2.1 (y3 r3)])*(40:Nat)<=(140737488355328:Nat)/\List.length r2.1+List.length [TMeter.mk a15 r3.1 r3.2.1 r3.2.2.1 (y3 r3)]<=(9223372036854775807:Nat))) (.grd (decide (List.length (r2.1++[TMeter.mk a15 r3.1 r3.2.1 r3.2.2.1 (y3 r3)])=List.length (r2.1++[TMeter.mk a15 r3.1 r3.2.1 r3.2.2.1 (y3 r3)]))) (
 .ret (y4 r3,(a0,(a1,(a2,(a3,(a4,(a5,(a6,(a7,(a8,(a9,(a10,(a11,(a12,(a13,(a14,(a15,(a16,(a17,(a18,(a19,(a20,(a21,(r2.1++[TMeter.mk a15 r3.1 r3.2.1 r3.2.2.1 (y3 r3)],())))))))))))))))))))))))))))))))) (.ite (decide ((↑(a22.length):Int)=64)) (gd a22.length (.opt ((zfy (0,(1,(a22,()))))) (fun r1 =>.opt ((zhr (a4,(a5,(a5,(a21,(a21,((↑(a20.length):Int),())))))))) (fun r2 =>
 .grd (decide ((List.length r1.1+List.length [TMeter.mk a15 r2.1 r2.2.1 r2.2.2.1 (y3 r2)])*(40:Nat)<=(140737488355328:Nat)/\List.length r1.1+List.length [TMeter.mk a15 r2.1 r2.2.1 r2.2.2.1 (y3 r2)]<=(9223372036854775807:Nat))) (.grd (decide (List.length (r1.1++[TMeter.mk a15 r2.1 r2.2.1 r2.2.2.1 (y3 r2)])=List.length (r1.1++[TMeter.mk a15 r2.1 r2.2.1 r2.2.2.1 (y3 r2)]))) (
 .ret (y4 r2,(a0,(a1,(a2,(a3,(a4,(a5,(a6,(a7,(a8,(a9,(a10,(a11,(a12,(a13,(a14,(a15,(a16,(a17,(a18,(a19,(a20,(a21,(r1.1++[TMeter.mk a15 r2.1 r2.2.1 r2.2.2.1 (y3 r2)],())))))))))))))))))))))))))))))) (.opt ((zhr (a4,(a5,(a5,(a21,(a21,((↑(a20.length):Int),())))))))) (fun r1 =>.grd (decide ((a22.length+List.length [TMeter.mk a15 r1.1 r1.2.1 r1.2.2.1 (y3 r1)])*(40:Nat)<=(140737488355328:Nat)/\a22.length+List.length [TMeter.mk a15 r1.1 r1.2.1 r1.2.2.1 (y3 r1)]<=(9223372036854775807:Nat))) (
 .grd (decide (List.length (a22++[TMeter.mk a15 r1.1 r1.2.1 r1.2.2.1 (y3 r1)])=List.length (a22++[TMeter.mk a15 r1.1 r1.2.1 r1.2.2.1 (y3 r1)]))) (.ret (y4 r1,(a0,(a1,(a2,(a3,(a4,(a5,(a6,(a7,(a8,(a9,(a10,(a11,(a12,(a13,(a14,(a15,(a16,(a17,(a18,(a19,(a20,(a21,(a22++[TMeter.mk a15 r1.1 r1.2.1 r1.2.2.1 (y3 r1)],()))))))))))))))))))))))))))))))
noncomputable def gm56:List (PF Go.Proofs.Tryz.prog):=gm55++[FS.pf z8d]
def zf2 (x:z6o):Option z6n:=(zlb x).eval
noncomputable def zgx:GS Tryz.prog:=mGS gm56 [] 88 [1] zyy zyx zlb fun x=>by kernel_rfl
def z9z:SP:=⟨24,[(0,.v (.one (.ptr 1000000 0))),(1,.v (.agg [.i .u32,.i .u32,.i .i64,.i .i64]))],[(1000000,.cells [.i .u32,.i .i64,.i .i64,.i .i64,.i .i64,.i .i64,.st 10 false,.b,.own 1000100,.st 16 false,.i .i64,.i .i64,.i .u64,.i .i64,.i .u64,.st 17 false,.i .u32,.i .u32,.i .i64,.i .i64,.i .i64,.s,.i .i64]),(1000100,.row 59 19 true true)]⟩
def z9y:SP:=⟨1,[(0,.v (.one (.b)))],[(1000000,.cells [.i .u32,.i .i64,.i .i64,.i .i64,.i .i64,.i .i64,.st 10 false,.b,.own 1000100,.st 16 false,.i .i64,.i .i64,.i .u64,.i .i64,.i .u64,.st 17 false,.i .u32,.i .u32,.i .i64,.i .i64,.i .i64,.s,.i .i64]),(1000100,.row 59 19 true true)]⟩
abbrev zf5b:Type:=(Int×(Int×(Int×(Int×(Int×(Int×(Int×(Int×(Int×(Int×((List TRule)×(Bool×((List TTalk)×(Int×(Int×(Int×(Int×(Int×((List TMap)×(Int×(Int×(Int×(Int×(Int×((List UInt8)×(Int×((List TMeter)×Unit)))))))))))))))))))))))))))
def zrf:zf5b->Tr z6n :=
 fun (a0,a1,a2,a3,a4,a5,a6,a7,a8,a9,a10,a11,a12,a13,a14,a15,a16,a17,a18,a19,a20,a21,a22,a23,a24,a25,a26,_) =>.opt ((zrm (a12,(a0,(a1,(a2,(a3,(a25,())))))))) (fun r0 =>gd a26.length (.ret (y7 r0,(a4,(a5,(a6,(a7,(a8,(a9,(a10,(a11,(a12,(a13,(a14,(a15,(a16,(a17,(a18,(a19,(a20,(a21,(a22,(a23,(a24,(a25,(a26,()))))))))))))))))))))))))))
noncomputable def gm57:List (PF Go.Proofs.Tryz.prog):=gm56++[GS.pf zgx]
def zmt (x:zf5b):Option z6n:=(zrf x).eval
noncomputable def zva:GS Tryz.prog:=mGS gm57 [] 137 [1,0] z9z z9y zrf fun x=>by kernel_rfl
def z6g:SP:=⟨59,[(0,.v (.one (.ptr 1000000 0))),(1,.v (.agg [.i .u32,.i .u32,.i .i64,.i .i64]))],[(1000000,.cells [.i .u32,.i .i64,.i .i64,.i .i64,.i .i64,.i .i64,.st 10 false,.b,.own 1000100,.st 16 false,.i .i64,.i .i64,.i .u64,.i .i64,.i .u64,.st 17 false,.i .u32,.i .u32,.i .i64,.i .i64,.i .i64,.s,.i .i64]),(1000100,.row 59 19 true true)]⟩
def z6f:SP:=⟨1,[(0,.v (.one (.b)))],[(1000000,.cells [.i .u32,.i .i64,.i .i64,.i .i64,.i .i64,.i .i64,.st 10 false,.b,.own 1000100,.st 16 false,.i .i64,.i .i64,.i .u64,.i .i64,.i .u64,.st 17 false,.i .u32,.i .u32,.i .i64,.i .i64,.i .i64,.s,.i .i64]),(1000100,.row 59 19 true true)]⟩
def zpm:zf5b->Tr z6n :=
 fun (a0,a1,a2,a3,a4,a5,a6,a7,a8,a9,a10,a11,a12,a13,a14,a15,a16,a17,a18,a19,a20,a21,a22,a23,a24,a25,a26,_) =>.opt ((zfu (a24,()))) (fun r0 =>.opt ((za8 (y10 r0,(y7 r0,(y8 r0,()))))) (fun r1 =>.opt ((zeb (a12,(a0,(a1,(a2,(a3,(y4 r1,(a25,()))))))))) (fun r2 =>.ite (decide (r2.2.2.1=0)) (.ite (decide (r2.2.2.1=0)) (gd a26.length (.ret (r2.2.1,(a4,(a5,(a6,(a7,(a8,(a9,(a10,(a11,(r2.1,(a13,(a14,(a15,(a16,(a17,(a18,(a19,(a20,(a21,(a22,(a23,(a24,(a25,(a26,())))))))))))))))))))))))))) (gd a26.length (
 .ret (false,(a4,(a5,(a6,(a7,(a8,(a9,(a10,(a11,(r2.1,(a13,(a14,(a15,(a16,(a17,(a18,(a19,(a20,(a21,(a22,(a23,(a24,(a25,(a26,()))))))))))))))))))))))))))) (.ite (decide (r2.2.2.1=0)) (gd a26.length (.ret (r2.2.1,(a4,(a5,(a6,(a7,(a8,(a9,(a10,(a11,(a12,(a13,(a14,(a15,(a16,(a17,(a18,(a19,(a20,(a21,(a22,(a23,(a24,(a25,(a26,())))))))))))))))))))))))))) (gd a26.length (.ret (false,(a4,(a5,(a6,(a7,(a8,(a9,(a10,(a11,(a12,(a13,(a14,(a15,(a16,(a17,(a18,(a19,(a20,(a21,(a22,(a23,(a24,(a25,(a26,()))))))))))))))))))))))))))))))
noncomputable def gm58:List (PF Go.Proofs.Tryz.prog):=gm57++[GS.pf zva]
def zex (x:zf5b):Option z6n:=(zpm x).eval
noncomputable def zok:GS Tryz.prog:=mGS gm58 [] 139 [1,0] z6g z6f zpm fun x=>by kernel_rfl
def z6i:SP:=⟨108,[(0,.v (.one (.ptr 1000000 0)))],[(1000000,.cells [.i .u32,.i .i64,.i .i64,.i .i64,.i .i64,.i .i64,.st 10 false,.b,.own 1000100,.st 16 false,.i .i64,.i .i64,.i .u64,.i .i64,.i .u64,.st 17 false,.i .u32,.i .u32,.i .i64,.i .i64,.i .i64,.s,.i .i64]),(1000100,.row 59 19 true true)]⟩
def z6h:SP:=⟨1,[(0,.tup [.one (.s),.one (.i .i64)])],[(1000000,.cells [.i .u32,.i .i64,.i .i64,.i .i64,.i .i64,.i .i64,.st 10 false,.b,.own 1000100,.st 16 false,.i .i64,.i .i64,.i .u64,.i .i64,.i .u64,.st 17 false,.i .u32,.i .u32,.i .i64,.i .i64,.i .i64,.s,.i .i64]),(1000100,.row 59 19 true true)]⟩
abbrev y16 {a0 a1 a2 a3 a4 a5 a6 a7 a8 a9 a10 a11 a12 a13 a14 a15 b c:Type} (x:a0×a1×a2×a3×a4×a5×a6×a7×a8×a9×a10×a11×a12×a13×a14×a15×b×c):b:=x.2.2.2.2.2.2.2.2.2.2.2.2.2.2.2.2.1
abbrev y17 {a0 a1 a2 a3 a4 a5 a6 a7 a8 a9 a10 a11 a12 a13 a14 a15 a16 b c:Type} (x:a0×a1×a2×a3×a4×a5×a6×a7×a8×a9×a10×a11×a12×a13×a14×a15×a16×b×c):b:=x.2.2.2.2.2.2.2.2.2.2.2.2.2.2.2.2.2.1
abbrev y18 {a0 a1 a2 a3 a4 a5 a6 a7 a8 a9 a10 a11 a12 a13 a14 a15 a16 a17 b c:Type} (x:a0×a1×a2×a3×a4×a5×a6×a7×a8×a9×a10×a11×a12×a13×a14×a15×a16×a17×b×c):b:=x.2.2.2.2.2.2.2.2.2.2.2.2.2.2.2.2.2.2.1
abbrev y19 {a0 a1 a2 a3 a4 a5 a6 a7 a8 a9 a10 a11 a12 a13 a14 a15 a16 a17 a18 b c:Type} (x:a0×a1×a2×a3×a4×a5×a6×a7×a8×a9×a10×a11×a12×a13×a14×a15×a16×a17×a18×b×c):b:=x.2.2.2.2.2.2.2.2.2.2.2.2.2.2.2.2.2.2.2.1
abbrev y20 {a0 a1 a2 a3 a4 a5 a6 a7 a8 a9 a10 a11 a12 a13 a14 a15 a16 a17 a18 a19 b c:Type} (x:a0×a1×a2×a3×a4×a5×a6×a7×a8×a9×a10×a11×a12×a13×a14×a15×a16×a17×a18×a19×b×c):b:=x.2.2.2.2.2.2.2.2.2.2.2.2.2.2.2.2.2.2.2.2.1
abbrev y21 {a0 a1 a2 a3 a4 a5 a6 a7 a8 a9 a10 a11 a12 a13 a14 a15 a16 a17 a18 a19 a20 b c:Type} (x:a0×a1×a2×a3×a4×a5×a6×a7×a8×a9×a10×a11×a12×a13×a14×a15×a16×a17×a18×a19×a20×b×c):b:=x.2.2.2.2.2.2.2.2.2.2.2.2.2.2.2.2.2.2.2.2.2.1
abbrev y22 {a0 a1 a2 a3 a4 a5 a6 a7 a8 a9 a10 a11 a12 a13 a14 a15 a16 a17 a18 a19 a20 a21 b c:Type} (x:a0×a1×a2×a3×a4×a5×a6×a7×a8×a9×a10×a11×a12×a13×a14×a15×a16×a17×a18×a19×a20×a21×b×c):b:=x.2.2.2.2.2.2.2.2.2.2.2.2.2.2.2.2.2.2.2.2.2.2.1
abbrev y23 {a0 a1 a2 a3 a4 a5 a6 a7 a8 a9 a10 a11 a12 a13 a14 a15 a16 a17 a18 a19 a20 a21 a22 b c:Type} (x:a0×a1×a2×a3×a4×a5×a6×a7×a8×a9×a10×a11×a12×a13×a14×a15×a16×a17×a18×a19×a20×a21×a22×b×c):b:=x.2.2.2.2.2.2.2.2.2.2.2.2.2.2.2.2.2.2.2.2.2.2.2.1
abbrev z6m:Type:=((List UInt8)×(Int×(Int×(Int×(Int×(Int×(Int×(Int×((List TRule)×(Bool×((List TTalk)×(Int×(Int×(Int×(Int×(Int×((List TMap)×(Int×(Int×(Int×(Int×(Int×((List UInt8)×(Int×((List TMeter)×Unit)))))))))))))))))))))))))
def zpn:z6o->Tr z6m :=
 fun (a0,a1,a2,a3,a4,a5,a6,a7,a8,a9,a10,a11,a12,a13,a14,a15,a16,a17,a18,a19,a20,a21,a22,_) =>.ite (!decide (a17=6)) (.opt ((zfd (a6,(a15,(a16,(a17,(a18,(a19,(a7,()))))))))) (fun r0 =>.ite (!r0.1) (gd a22.length (.ret ([],(4,(a0,(a1,(a2,(a3,(a4,(a5,(a6,(a7,(a8,(a9,(a10,(a11,(a12,(a13,(a14,(a15,(a16,(a17,(a18,(a19,(a20,(a21,(a22,()))))))))))))))))))))))))))) (.ite (decide (a17=6)) (gd a22.length (
 .opt ((zex (a15,(a16,(a18,(a19,(a0,(a1,(a2,(a3,(a4,(a5,(a6,(a7,(a8,(a9,(a10,(a11,(a12,(a13,(a14,(a15,(a16,(a17,(a18,(a19,(a20,(a21,(a22,()))))))))))))))))))))))))))))) (fun r1 =>.ite (!r1.1) (gd (y23 r1).length (.ret ([],(4,(r1.2.1,(r1.2.2.1,(y3 r1,(y4 r1,(y5 r1,(y6 r1,(y7 r1,(y8 r1,(y9 r1,(y10 r1,(y11 r1,(y12 r1,(y13 r1,(y14 r1,(y15 r1,(y16 r1,(y17 r1,(y18 r1,(y19 r1,(y20 r1,(y21 r1,(y22 r1,(y23 r1,()))))))))))))))))))))))))))) (
 .opt ((zb1 (y10 r1,(y11 r1,(y12 r1,(y13 r1,(y14 r1,(y15 r1,(a17,(a15,(a18,(y22 r1,())))))))))))) (fun r2 =>.ite (!decide ((y7 r2)=0)) (gd (y23 r1).length (.ret ([],(5,(r1.2.1,(r1.2.2.1,(y3 r1,(y4 r1,(y5 r1,(y6 r1,(y7 r1,(y8 r1,(y9 r1,(y10 r1,(y11 r1,(y12 r1,(y13 r1,(y14 r1,(y15 r1,(y16 r1,(y17 r1,(y18 r1,(y19 r1,(y20 r1,(y21 r1,(y22 r1,(y23 r1,()))))))))))))))))))))))))))) (.opt ((ze9 (y21 r1,(r1.2.1,(y6 r2,()))))) (fun r3 =>gd (y23 r1).length (
 .ret (r3.1,(0,(r1.2.1,(r1.2.2.1,(y3 r1,(y4 r1,(y5 r1,(y6 r1,(y7 r1,(y8 r1,(y9 r1,(r2.1,(r2.2.1,(r2.2.2.1,(y3 r2,(y4 r2,(y5 r2,(y16 r1,(y17 r1,(y18 r1,(y19 r1,(y20 r1,(y21 r1,(y22 r1,(y23 r1,()))))))))))))))))))))))))))))))))) (.opt ((zb1 (a9,(a10,(a11,(a12,(a13,(a14,(a17,(a15,(a18,(a21,())))))))))))) (fun r1 =>.ite (!decide ((y7 r1)=0)) (gd a22.length (.ret ([],(5,(a0,(a1,(a2,(a3,(a4,(a5,(a6,(a7,(a8,(a9,(a10,(a11,(a12,(a13,(a14,(a15,(a16,(a17,(a18,(a19,(a20,(a21,(a22,()))))))))))))))))))))))))))) (
 .opt ((ze9 (a20,(a0,(y6 r1,()))))) (fun r2 =>gd a22.length (.ret (r2.1,(0,(a0,(a1,(a2,(a3,(a4,(a5,(a6,(a7,(a8,(r1.1,(r1.2.1,(r1.2.2.1,(y3 r1,(y4 r1,(y5 r1,(a15,(a16,(a17,(a18,(a19,(a20,(a21,(a22,()))))))))))))))))))))))))))))))))) (gd a22.length (.opt ((zmt (a15,(a16,(a18,(a19,(a0,(a1,(a2,(a3,(a4,(a5,(a6,(a7,(a8,(a9,(a10,(a11,(a12,(a13,(a14,(a15,(a16,(a17,(a18,(a19,(a20,(a21,(a22,()))))))))))))))))))))))))))))) (fun r0 =>.ite (!r0.1) (.opt ((zfd (y7 r0,(a15,(a16,(a17,(a18,(a19,(y8 r0,()))))))))) (fun r1 =>.ite (!r1.1) (
 gd (y23 r0).length (.ret ([],(4,(r0.2.1,(r0.2.2.1,(y3 r0,(y4 r0,(y5 r0,(y6 r0,(y7 r0,(y8 r0,(y9 r0,(y10 r0,(y11 r0,(y12 r0,(y13 r0,(y14 r0,(y15 r0,(y16 r0,(y17 r0,(y18 r0,(y19 r0,(y20 r0,(y21 r0,(y22 r0,(y23 r0,()))))))))))))))))))))))))))) (.ite (decide (a17=6)) (gd (y23 r0).length (.opt ((zex (a15,(a16,(a18,(a19,(r0.2.1,(r0.2.2.1,(y3 r0,(y4 r0,(y5 r0,(y6 r0,(y7 r0,(y8 r0,(y9 r0,(y10 r0,(y11 r0,(y12 r0,(y13 r0,(y14 r0,(y15 r0,(y16 r0,(y17 r0,(y18 r0,(y19 r0,(y20 r0,(y21 r0,(y22 r0,(y23 r0,()))))))))))))))))))))))))))))) (fun r2 =>
 .ite (!r2.1) (gd (y23 r2).length (.ret ([],(4,(r2.2.1,(r2.2.2.1,(y3 r2,(y4 r2,(y5 r2,(y6 r2,(y7 r2,(y8 r2,(y9 r2,(y10 r2,(y11 r2,(y12 r2,(y13 r2,(y14 r2,(y15 r2,(y16 r2,(y17 r2,(y18 r2,(y19 r2,(y20 r2,(y21 r2,(y22 r2,(y23 r2,()))))))))))))))))))))))))))) (.opt ((zb1 (y10 r2,(y11 r2,(y12 r2,(y13 r2,(y14 r2,(y15 r2,(a17,(a15,(a18,(y22 r2,())))))))))))) (fun r3 =>.ite (!decide ((y7 r3)=0)) (gd (y23 r2).length (
 .ret ([],(5,(r2.2.1,(r2.2.2.1,(y3 r2,(y4 r2,(y5 r2,(y6 r2,(y7 r2,(y8 r2,(y9 r2,(y10 r2,(y11 r2,(y12 r2,(y13 r2,(y14 r2,(y15 r2,(y16 r2,(y17 r2,(y18 r2,(y19 r2,(y20 r2,(y21 r2,(y22 r2,(y23 r2,()))))))))))))))))))))))))))) (.opt ((ze9 (y21 r2,(r2.2.1,(y6 r3,()))))) (fun r4 =>gd (y23 r2).length (.ret (r4.1,(0,(r2.2.1,(r2.2.2.1,(y3 r2,(y4 r2,(y5 r2,(y6 r2,(y7 r2,(y8 r2,(y9 r2,(r3.1,(r3.2.1,(r3.2.2.1,(y3 r3,(y4 r3,(y5 r3,(y16 r2,(y17 r2,(y18 r2,(y19 r2,(y20 r2,(y21 r2,(y22 r2,(y23 r2,()))))))))))))))))))))))))))))))))) (
 .opt ((zb1 (y10 r0,(y11 r0,(y12 r0,(y13 r0,(y14 r0,(y15 r0,(a17,(a15,(a18,(y22 r0,())))))))))))) (fun r2 =>.ite (!decide ((y7 r2)=0)) (gd (y23 r0).length (.ret ([],(5,(r0.2.1,(r0.2.2.1,(y3 r0,(y4 r0,(y5 r0,(y6 r0,(y7 r0,(y8 r0,(y9 r0,(y10 r0,(y11 r0,(y12 r0,(y13 r0,(y14 r0,(y15 r0,(y16 r0,(y17 r0,(y18 r0,(y19 r0,(y20 r0,(y21 r0,(y22 r0,(y23 r0,()))))))))))))))))))))))))))) (.opt ((ze9 (y21 r0,(r0.2.1,(y6 r2,()))))) (fun r3 =>gd (y23 r0).length (
 .ret (r3.1,(0,(r0.2.1,(r0.2.2.1,(y3 r0,(y4 r0,(y5 r0,(y6 r0,(y7 r0,(y8 r0,(y9 r0,(r2.1,(r2.2.1,(r2.2.2.1,(y3 r2,(y4 r2,(y5 r2,(y16 r0,(y17 r0,(y18 r0,(y19 r0,(y20 r0,(y21 r0,(y22 r0,(y23 r0,()))))))))))))))))))))))))))))))))) (.ite (decide (a17=6)) (gd (y23 r0).length (.opt ((zex (a15,(a16,(a18,(a19,(r0.2.1,(r0.2.2.1,(y3 r0,(y4 r0,(y5 r0,(y6 r0,(y7 r0,(y8 r0,(y9 r0,(y10 r0,(y11 r0,(y12 r0,(y13 r0,(y14 r0,(y15 r0,(y16 r0,(y17 r0,(y18 r0,(y19 r0,(y20 r0,(y21 r0,(y22 r0,(y23 r0,()))))))))))))))))))))))))))))) (fun r1 =>.ite (!r1.1) (
 gd (y23 r1).length (.ret ([],(4,(r1.2.1,(r1.2.2.1,(y3 r1,(y4 r1,(y5 r1,(y6 r1,(y7 r1,(y8 r1,(y9 r1,(y10 r1,(y11 r1,(y12 r1,(y13 r1,(y14 r1,(y15 r1,(y16 r1,(y17 r1,(y18 r1,(y19 r1,(y20 r1,(y21 r1,(y22 r1,(y23 r1,()))))))))))))))))))))))))))) (.opt ((zb1 (y10 r1,(y11 r1,(y12 r1,(y13 r1,(y14 r1,(y15 r1,(a17,(a15,(a18,(y22 r1,())))))))))))) (fun r2 =>.ite (!decide ((y7 r2)=0)) (gd (y23 r1).length (
 .ret ([],(5,(r1.2.1,(r1.2.2.1,(y3 r1,(y4 r1,(y5 r1,(y6 r1,(y7 r1,(y8 r1,(y9 r1,(y10 r1,(y11 r1,(y12 r1,(y13 r1,(y14 r1,(y15 r1,(y16 r1,(y17 r1,(y18 r1,(y19 r1,(y20 r1,(y21 r1,(y22 r1,(y23 r1,()))))))))))))))))))))))))))) (.opt ((ze9 (y21 r1,(r1.2.1,(y6 r2,()))))) (fun r3 =>gd (y23 r1).length (.ret (r3.1,(0,(r1.2.1,(r1.2.2.1,(y3 r1,(y4 r1,(y5 r1,(y6 r1,(y7 r1,(y8 r1,(y9 r1,(r2.1,(r2.2.1,(r2.2.2.1,(y3 r2,(y4 r2,(y5 r2,(y16 r1,(y17 r1,(y18 r1,(y19 r1,(y20 r1,(y21 r1,(y22 r1,(y23 r1,()))))))))))))))))))))))))))))))))) (
 .opt ((zb1 (y10 r0,(y11 r0,(y12 r0,(y13 r0,(y14 r0,(y15 r0,(a17,(a15,(a18,(y22 r0,())))))))))))) (fun r1 =>.ite (!decide ((y7 r1)=0)) (gd (y23 r0).length (.ret ([],(5,(r0.2.1,(r0.2.2.1,(y3 r0,(y4 r0,(y5 r0,(y6 r0,(y7 r0,(y8 r0,(y9 r0,(y10 r0,(y11 r0,(y12 r0,(y13 r0,(y14 r0,(y15 r0,(y16 r0,(y17 r0,(y18 r0,(y19 r0,(y20 r0,(y21 r0,(y22 r0,(y23 r0,()))))))))))))))))))))))))))) (.opt ((ze9 (y21 r0,(r0.2.1,(y6 r1,()))))) (fun r2 =>gd (y23 r0).length (
 .ret (r2.1,(0,(r0.2.1,(r0.2.2.1,(y3 r0,(y4 r0,(y5 r0,(y6 r0,(y7 r0,(y8 r0,(y9 r0,(r1.1,(r1.2.1,(r1.2.2.1,(y3 r1,(y4 r1,(y5 r1,(y16 r0,(y17 r0,(y18 r0,(y19 r0,(y20 r0,(y21 r0,(y22 r0,(y23 r0,()))))))))))))))))))))))))))))))))))
noncomputable def gm59:List (PF Go.Proofs.Tryz.prog):=gm58++[GS.pf zok]
def zkn (x:z6o):Option z6m:=(zpn x).eval
noncomputable def zol:GS Tryz.prog:=mGS gm59 [] 89 [1] z6i z6h zpn fun x=>by kernel_rfl
def z6k:SP:=⟨68,[(0,.v (.one (.ptr 1000000 0)))],[(1000000,.cells [.i .u32,.i .i64,.i .i64,.i .i64,.i .i64,.i .i64,.st 10 false,.b,.own 1000100,.st 16 false,.i .i64,.i .i64,.i .u64,.i .i64,.i .u64,.st 17 false,.i .u32,.i .u32,.i .i64,.i .i64,.i .i64,.s,.i .i64]),(1000100,.row 59 19 true true)]⟩
def z6j:SP:=⟨1,[(0,.tup [.one (.s),.one (.i .i64)])],[(1000000,.cells [.i .u32,.i .i64,.i .i64,.i .i64,.i .i64,.i .i64,.st 10 false,.b,.own 1000100,.st 16 false,.i .i64,.i .i64,.i .u64,.i .i64,.i .u64,.st 17 false,.i .u32,.i .u32,.i .i64,.i .i64,.i .i64,.s,.i .i64]),(1000100,.row 59 19 true true)]⟩
def zpo:z6o->Tr z6m :=
 fun (a0,a1,a2,a3,a4,a5,a6,a7,a8,a9,a10,a11,a12,a13,a14,a15,a16,a17,a18,a19,a20,a21,a22,_) =>.opt ((z42 (a9,(a10,(a11,(a12,(a13,(a14,(a17,(a19,(a21,()))))))))))) (fun r0 =>.ite (!decide (r0.2.2.1=0)) (gd a22.length (.ret ([],(4,(a0,(a1,(a2,(a3,(a4,(a5,(a6,(a7,(a8,(a9,(a10,(a11,(a12,(a13,(a14,(a15,(a16,(a17,(a18,(a19,(a20,(a21,(a22,()))))))))))))))))))))))))))) (.ite (decide (a17=6)) (gd a22.length (
 .opt ((zmt (a15,(r0.1,(a18,(r0.2.1,(a0,(a1,(a2,(a3,(a4,(a5,(a6,(a7,(a8,(a9,(a10,(a11,(a12,(a13,(a14,(a15,(a16,(a17,(a18,(a19,(a20,(a21,(a22,()))))))))))))))))))))))))))))) (fun r1 =>.ite (!r1.1) (gd (y23 r1).length (.ret ([],(4,(r1.2.1,(r1.2.2.1,(y3 r1,(y4 r1,(y5 r1,(y6 r1,(y7 r1,(y8 r1,(y9 r1,(y10 r1,(y11 r1,(y12 r1,(y13 r1,(y14 r1,(y15 r1,(y16 r1,(y17 r1,(y18 r1,(y19 r1,(y20 r1,(y21 r1,(y22 r1,(y23 r1,()))))))))))))))))))))))))))) (gd (y23 r1).length (
 .opt ((zex (a15,(r0.1,(a18,(r0.2.1,(r1.2.1,(r1.2.2.1,(y3 r1,(y4 r1,(y5 r1,(y6 r1,(y7 r1,(y8 r1,(y9 r1,(y10 r1,(y11 r1,(y12 r1,(y13 r1,(y14 r1,(y15 r1,(y16 r1,(y17 r1,(y18 r1,(y19 r1,(y20 r1,(y21 r1,(y22 r1,(y23 r1,()))))))))))))))))))))))))))))) (fun r2 =>.ite (!r2.1) (gd (y23 r2).length (.ret ([],(4,(r2.2.1,(r2.2.2.1,(y3 r2,(y4 r2,(y5 r2,(y6 r2,(y7 r2,(y8 r2,(y9 r2,(y10 r2,(y11 r2,(y12 r2,(y13 r2,(y14 r2,(y15 r2,(y16 r2,(y17 r2,(y18 r2,(y19 r2,(y20 r2,(y21 r2,(y22 r2,(y23 r2,()))))))))))))))))))))))))))) (
 .opt ((z2d (y21 r2,(r0.1,(r0.2.1,()))))) (fun r3 =>gd (y23 r2).length (.ret (r3.1,(0,(r2.2.1,(r2.2.2.1,(y3 r2,(y4 r2,(y5 r2,(y6 r2,(y7 r2,(y8 r2,(y9 r2,(y10 r2,(y11 r2,(y12 r2,(y13 r2,(y14 r2,(y15 r2,(y16 r2,(y17 r2,(y18 r2,(y19 r2,(y20 r2,(y21 r2,(y22 r2,(y23 r2,())))))))))))))))))))))))))))))))))) (.opt ((z2d (a20,(r0.1,(r0.2.1,()))))) (fun r1 =>gd a22.length (.ret (r1.1,(0,(a0,(a1,(a2,(a3,(a4,(a5,(a6,(a7,(a8,(a9,(a10,(a11,(a12,(a13,(a14,(a15,(a16,(a17,(a18,(a19,(a20,(a21,(a22,()))))))))))))))))))))))))))))))
noncomputable def gm60:List (PF Go.Proofs.Tryz.prog):=gm59++[GS.pf zol]
def zko (x:z6o):Option z6m:=(zpo x).eval
noncomputable def zom:GS Tryz.prog:=mGS gm60 [] 90 [1] z6k z6j zpo fun x=>by kernel_rfl
def zf0b:SP:=⟨57,[(0,.v (.one (.ptr 1000000 0))),(1,.v (.one (.b))),(2,.v (.one (.s)))],[(1000000,.cells [.i .u32,.i .i64,.i .i64,.i .i64,.i .i64,.i .i64,.st 10 false,.b,.own 1000100,.st 16 false,.i .i64,.i .i64,.i .u64,.i .i64,.i .u64,.st 17 false,.i .u32,.i .u32,.i .i64,.i .i64,.i .i64,.s,.i .i64]),(1000100,.row 59 19 true true)]⟩
def zfzb:SP:=⟨1,[(0,.tup [.one (.s),.one (.i .i64)])],[(1000000,.cells [.i .u32,.i .i64,.i .i64,.i .i64,.i .i64,.i .i64,.st 10 false,.b,.own 1000100,.st 16 false,.i .i64,.i .i64,.i .u64,.i .i64,.i .u64,.st 17 false,.i .u32,.i .u32,.i .i64,.i .i64,.i .i64,.s,.i .i64]),(1000100,.row 59 19 true true)]⟩
abbrev y24 {a0 a1 a2 a3 a4 a5 a6 a7 a8 a9 a10 a11 a12 a13 a14 a15 a16 a17 a18 a19 a20 a21 a22 a23 b c:Type} (x:a0×a1×a2×a3×a4×a5×a6×a7×a8×a9×a10×a11×a12×a13×a14×a15×a16×a17×a18×a19×a20×a21×a22×a23×b×c):b:=x.2.2.2.2.2.2.2.2.2.2.2.2.2.2.2.2.2.2.2.2.2.2.2.2.1
abbrev zmyb:Type:=(Bool×((List UInt8)×(Int×(Int×(Int×(Int×(Int×(Int×((List TRule)×(Bool×((List TTalk)×(Int×(Int×(Int×(Int×(Int×((List TMap)×(Int×(Int×(Int×(Int×(Int×((List UInt8)×(Int×((List TMeter)×Unit)))))))))))))))))))))))))
def zvb:zmyb->Tr z6m :=
 fun (a0,a1,a2,a3,a4,a5,a6,a7,a8,a9,a10,a11,a12,a13,a14,a15,a16,a17,a18,a19,a20,a21,a22,a23,a24,_) =>.opt ((zjj (a1,()))) (fun r0 =>.ite (!decide ((y5 r0)=0)) (gd a24.length (.ret ([],(1,(a2,(a3,(a4,(a5,(a6,(a7,(a8,(a9,(a10,(a11,(a12,(a13,(a14,(a15,(a16,(r0.1,(r0.2.1,(r0.2.2.1,(y3 r0,(y4 r0,(a22,(a23,(a24,()))))))))))))))))))))))))))) (.ite (!a0) (.ite (!decide (r0.2.1=a2)) (gd a24.length (
 .ret ([],(4,(a2,(a3,(a4,(a5,(a6,(a7,(a8,(a9,(a10,(a11,(a12,(a13,(a14,(a15,(a16,(r0.1,(r0.2.1,(r0.2.2.1,(y3 r0,(y4 r0,(a22,(a23,(a24,()))))))))))))))))))))))))))) (.opt ((zin (a1,()))) (fun r1 =>.ite (!decide (r1.2.1=0)) (gd a24.length (.ret ([],(2,(a2,(a3,(a4,(a5,(a6,(a7,(a8,(a9,(a10,(a11,(a12,(a13,(a14,(a15,(a16,(r0.1,(r0.2.1,(r0.2.2.1,(y3 r0,(y4 r0,(r1.1,(a23,(a24,()))))))))))))))))))))))))))) (gd a24.length (
 .opt ((zf2 (a2,(a3,(a4,(a5,(a6,(a7,(a8,(a9,(a10,(a11,(a12,(a13,(a14,(a15,(a16,(r0.1,(r0.2.1,(r0.2.2.1,(y3 r0,(y4 r0,(r1.1,(a23,(a24,()))))))))))))))))))))))))) (fun r2 =>.ite (!r2.1) (gd (y23 r2).length (.ret ([],(3,(r2.2.1,(r2.2.2.1,(y3 r2,(y4 r2,(y5 r2,(y6 r2,(y7 r2,(y8 r2,(y9 r2,(y10 r2,(y11 r2,(y12 r2,(y13 r2,(y14 r2,(y15 r2,(y16 r2,(y17 r2,(y18 r2,(y19 r2,(y20 r2,(y21 r2,(y22 r2,(y23 r2,()))))))))))))))))))))))))))) (.ite (a0) (gd (y23 r2).length (
 .opt ((zkn (r2.2.1,(r2.2.2.1,(y3 r2,(y4 r2,(y5 r2,(y6 r2,(y7 r2,(y8 r2,(y9 r2,(y10 r2,(y11 r2,(y12 r2,(y13 r2,(y14 r2,(y15 r2,(y16 r2,(y17 r2,(y18 r2,(y19 r2,(y20 r2,(y21 r2,(y22 r2,(y23 r2,()))))))))))))))))))))))))) (fun r3 =>gd (y24 r3).length (.ret (r3.1,(r3.2.1,(r3.2.2.1,(y3 r3,(y4 r3,(y5 r3,(y6 r3,(y7 r3,(y8 r3,(y9 r3,(y10 r3,(y11 r3,(y12 r3,(y13 r3,(y14 r3,(y15 r3,(y16 r3,(y17 r3,(y18 r3,(y19 r3,(y20 r3,(y21 r3,(y22 r3,(y23 r3,(y24 r3,()))))))))))))))))))))))))))))) (gd (y23 r2).length (
 .opt ((zko (r2.2.1,(r2.2.2.1,(y3 r2,(y4 r2,(y5 r2,(y6 r2,(y7 r2,(y8 r2,(y9 r2,(y10 r2,(y11 r2,(y12 r2,(y13 r2,(y14 r2,(y15 r2,(y16 r2,(y17 r2,(y18 r2,(y19 r2,(y20 r2,(y21 r2,(y22 r2,(y23 r2,()))))))))))))))))))))))))) (fun r3 =>gd (y24 r3).length (.ret (r3.1,(r3.2.1,(r3.2.2.1,(y3 r3,(y4 r3,(y5 r3,(y6 r3,(y7 r3,(y8 r3,(y9 r3,(y10 r3,(y11 r3,(y12 r3,(y13 r3,(y14 r3,(y15 r3,(y16 r3,(y17 r3,(y18 r3,(y19 r3,(y20 r3,(y21 r3,(y22 r3,(y23 r3,(y24 r3,())))))))))))))))))))))))))))))))))))) (.opt ((zin (a1,()))) (fun r1 =>.ite (!decide (r1.2.1=0)) (
 gd a24.length (.ret ([],(2,(a2,(a3,(a4,(a5,(a6,(a7,(a8,(a9,(a10,(a11,(a12,(a13,(a14,(a15,(a16,(r0.1,(r0.2.1,(r0.2.2.1,(y3 r0,(y4 r0,(r1.1,(a23,(a24,()))))))))))))))))))))))))))) (gd a24.length (.opt ((zf2 (a2,(a3,(a4,(a5,(a6,(a7,(a8,(a9,(a10,(a11,(a12,(a13,(a14,(a15,(a16,(r0.1,(r0.2.1,(r0.2.2.1,(y3 r0,(y4 r0,(r1.1,(a23,(a24,()))))))))))))))))))))))))) (fun r2 =>.ite (!r2.1) (gd (y23 r2).length (
 .ret ([],(3,(r2.2.1,(r2.2.2.1,(y3 r2,(y4 r2,(y5 r2,(y6 r2,(y7 r2,(y8 r2,(y9 r2,(y10 r2,(y11 r2,(y12 r2,(y13 r2,(y14 r2,(y15 r2,(y16 r2,(y17 r2,(y18 r2,(y19 r2,(y20 r2,(y21 r2,(y22 r2,(y23 r2,()))))))))))))))))))))))))))) (.ite (a0) (gd (y23 r2).length (.opt ((zkn (r2.2.1,(r2.2.2.1,(y3 r2,(y4 r2,(y5 r2,(y6 r2,(y7 r2,(y8 r2,(y9 r2,(y10 r2,(y11 r2,(y12 r2,(y13 r2,(y14 r2,(y15 r2,(y16 r2,(y17 r2,(y18 r2,(y19 r2,(y20 r2,(y21 r2,(y22 r2,(y23 r2,()))))))))))))))))))))))))) (fun r3 =>gd (y24 r3).length (
 .ret (r3.1,(r3.2.1,(r3.2.2.1,(y3 r3,(y4 r3,(y5 r3,(y6 r3,(y7 r3,(y8 r3,(y9 r3,(y10 r3,(y11 r3,(y12 r3,(y13 r3,(y14 r3,(y15 r3,(y16 r3,(y17 r3,(y18 r3,(y19 r3,(y20 r3,(y21 r3,(y22 r3,(y23 r3,(y24 r3,()))))))))))))))))))))))))))))) (gd (y23 r2).length (.opt ((zko (r2.2.1,(r2.2.2.1,(y3 r2,(y4 r2,(y5 r2,(y6 r2,(y7 r2,(y8 r2,(y9 r2,(y10 r2,(y11 r2,(y12 r2,(y13 r2,(y14 r2,(y15 r2,(y16 r2,(y17 r2,(y18 r2,(y19 r2,(y20 r2,(y21 r2,(y22 r2,(y23 r2,()))))))))))))))))))))))))) (fun r3 =>gd (y24 r3).length (
 .ret (r3.1,(r3.2.1,(r3.2.2.1,(y3 r3,(y4 r3,(y5 r3,(y6 r3,(y7 r3,(y8 r3,(y9 r3,(y10 r3,(y11 r3,(y12 r3,(y13 r3,(y14 r3,(y15 r3,(y16 r3,(y17 r3,(y18 r3,(y19 r3,(y20 r3,(y21 r3,(y22 r3,(y23 r3,(y24 r3,())))))))))))))))))))))))))))))))))))))
noncomputable def gm61:List (PF Go.Proofs.Tryz.prog):=gm60++[GS.pf zom]
def zwz (x:zmyb):Option z6m:=(zvb x).eval
noncomputable def z90:GS Tryz.prog:=mGS gm61 [] 42 [1,0,0] zf0b zfzb zvb fun x=>by kernel_rfl
open Go Go.RowKit Go.Proofs.YthkhikdglmaiaaaGreatDoor.Abs
open Go.IntKind renaming wrap -> wW
def zcyb:List VP1:=[.agg [.i .u32,.i .i64,.i .i64,.i .i64,.i .i64,.i .i64,.st 10 false,.b,.st 19 false,.st 16 false,.i .i64,.i .i64,.i .u64,.i .i64,.i .u64,.st 17 false],.one (.b),.one (.s),.one (.i .i64)]
def zcxb:SP:=⟨1,[(0,.tup [.agg [.i .u32,.i .i64,.i .i64,.i .i64,.i .i64,.i .i64,.st 10 false,.b,.st 19 false,.st 16 false,.i .i64,.i .i64,.i .u64,.i .i64,.i .u64,.st 17 false],.one (.s),.one (.i .i64),.one (.i .i64)])],[]⟩
abbrev zf4b:Type:=(Int×(Int×(Int×(Int×(Int×(Int×((List TRule)×(Bool×((List TMeter)×((List TTalk)×(Int×(Int×(Int×(Int×(Int×((List TMap)×(Bool×((List UInt8)×(Int×Unit)))))))))))))))))))
abbrev zmxb:Type:=(Int×(Int×(Int×(Int×(Int×(Int×((List TRule)×(Bool×((List TMeter)×((List TTalk)×(Int×(Int×(Int×(Int×(Int×((List TMap)×((List UInt8)×(Int×(Int×Unit)))))))))))))))))))
def ztc:zf4b->Tr zmxb :=
 fun (a0,a1,a2,a3,a4,a5,a6,a7,a8,a9,a10,a11,a12,a13,a14,a15,a16,a17,a18,_) =>.grd (decide (((0:Nat)+a6.length)*(80:Nat)<=(140737488355328:Nat)/\(0:Nat)+a6.length<=(9223372036854775807:Nat))) (.grd (decide (((0:Nat)+a8.length)*(40:Nat)<=(140737488355328:Nat)/\(0:Nat)+a8.length<=(9223372036854775807:Nat))) (.grd (decide (((0:Nat)+a9.length)*(48:Nat)<=(140737488355328:Nat)/\(0:Nat)+a9.length<=(9223372036854775807:Nat))) (
 .grd (decide (((0:Nat)+a15.length)*(40:Nat)<=(140737488355328:Nat)/\(0:Nat)+a15.length<=(9223372036854775807:Nat))) (.opt ((zo5 (a0,(a1,(a2,(a3,(a4,(a5,(a6,(a7,(a8,(a9,(a10,(a11,(a12,(a13,(a14,(a15,())))))))))))))))))) (fun r0 =>.ite (!decide (r0.1=0)) (.ret (a0,(a1,(a2,(a3,(a4,(a5,(a6,(a7,(a8,(a9,(a10,(a11,(a12,(a13,(a14,(a15,([],(0,(r0.1,())))))))))))))))))))) (.opt ((ztb (a0,(a1,(a2,(a3,(a4,(a5,(a6,(a7,(a8,(a9,(a10,(a11,(a12,(a13,(a14,(a15,())))))))))))))))))) (fun r1 =>.ite (decide (a18<r1.1)) (
 .ret (a0,(a1,(a2,(a3,(a4,(a5,(a6,(a7,(a8,(a9,(a10,(a11,(a12,(a13,(a14,(a15,([],(0,(1,())))))))))))))))))))) (.ite (decide (1099511627776<a18)) (.ret (a0,(a1,(a2,(a3,(a4,(a5,(a6,(a7,(a8,(a9,(a10,(a11,(a12,(a13,(a14,(a15,([],(0,(1,())))))))))))))))))))) (gd a8.length (.opt ((zwz (a16,(a17,(a0,(a1,(a2,(a3,(a4,(a5,(a6,(a7,(a9,(a10,(a11,(a12,(a13,(a14,(a15,(0,(0,(0,(0,(0,([],(a18,(a8,()))))))))))))))))))))))))))) (fun r2 =>
 .ret (r2.2.2.1,(y3 r2,(y4 r2,(y5 r2,(y6 r2,(y7 r2,(y8 r2,(y9 r2,(y24 r2,(y10 r2,(y11 r2,(y12 r2,(y13 r2,(y14 r2,(y15 r2,(y16 r2,(r2.1,(r2.2.1,(0,()))))))))))))))))))))))))))))))
noncomputable def gm62:List (PF Go.Proofs.Tryz.prog):=[z1s,z1r,ze1b,FS.pf zgn,FS.pf zm8,FS.pf sumOf,FS.pf zh7,FS.pf zvk,FS.pf zwj,FS.pf zwn,FS.pf zk4,FS.pf zpf,FS.pf zwm,FS.pf zpe,FS.pf zwl,FS.pf zky,FS.pf zkz,FS.pf z8b,FS.pf zhm,FS.pf zv2,FS.pf zv4,FS.pf zoz,FS.pf zv3,FS.pf z8a,FS.pf zro,FS.pf zrr,FS.pf zh3,FS.pf zh4,FS.pf zlz,FS.pf ze7,FS.pf zly,FS.pf zl0,FS.pf zve,FS.pf zvi,FS.pf zvg,GS.pf z63,GS.pf zkq,FS.pf zg1,FS.pf zvh,FS.pf swTo,zi7,GS.pf zfx,FS.pf zd0,FS.pf zm0,FS.pf zpp,FS.pf zps,FS.pf zje,FS.pf zjg,FS.pf zy3,GS.pf zqf,GS.pf zpq,GS.pf zf3,FS.pf zpr,FS.pf zpt,FS.pf zkk,FS.pf z4f,FS.pf zwr,zkg,FS.pf zuc,FS.pf zxf,FS.pf zf7,FS.pf zl7,FS.pf zl9,FS.pf zl8,FS.pf zia,tz64,FS.pf zb5,FS.pf zes,FS.pf zf8,FS.pf zhp,z4e,GS.pf ztw,FS.pf z33,FS.pf zfp,FS.pf zii,zih,GS.pf zfs,FS.pf zsv,FS.pf z3c,zpg,GS.pf zk5,FS.pf zo3,FS.pf zv7,FS.pf zo6,FS.pf z8d,GS.pf zgx,GS.pf zva,GS.pf zok,GS.pf zol,GS.pf zom,GS.pf z90]
def zel (x:zf4b):Option zmxb:=(ztc x).eval
noncomputable def z00:FS Tryz.prog:=mFS gm62 [] 8 zcyb zcxb ztc fun x=>by kernel_rfl
open Go Go.RowKit Go.Proofs.YthkhikdglmaiaaaGreatDoor.Abs
open Go.IntKind renaming wrap -> wW
def zs1:List VP1:=[.agg [.i .i64,.i .i64,.s],.one (.i .u32),.one (.i .u32)]
def zsz:SP:=⟨1,[(0,.tup [.one (.s),.one (.b)])],[]⟩
def zhj:ty4_->Tr z94 :=
 fun (a0,a1,a2,a3,a4,_) =>.opt ((z8y (a0,(a1,(a2,(a3,(a4,()))))))) (fun r0 =>.opt ((z77 (0,(0,(false,(false,(0,(9,(17,(a3,(a4,([],(r0.1,()))))))))))))) (fun r1 =>.ite (decide (r0.2.1=0)) (.ret (r1.1,(decide (r1.2.1=0),()))) (.ret (r1.1,(false,())))))
noncomputable def gm63:List (PF Go.Proofs.Tryz.prog):=gm30++[FS.pf swTo]
def zs0 (x:ty4_):Option z94:=(zhj x).eval
noncomputable def zej:FS Tryz.prog:=mFS gm63 [] 44 zs1 zsz zhj fun x=>by kernel_rfl
open Go Go.RowKit Go.Proofs.YthkhikdglmaiaaaGreatDoor.Abs
open Go.IntKind renaming wrap -> wW
def zuv:List VP1:=[]
def zuu:SP:=⟨1,[(0,.v (.one (.b)))],[]⟩
def zi1:Unit->Tr (Bool×Unit) :=
 fun (_) =>.opt ((zhob (3325256705,(1024,(2048,(100,(1000,(100000,([],(true,())))))))))) (fun r0 =>.opt ((zs0 (1030,(53,([(120:UInt8)],(5,(6,()))))))) (fun r1 =>.opt ((zel (r0.1,(r0.2.1,(r0.2.2.1,(y3 r0,(y4 r0,(y5 r0,(y6 r0,(y7 r0,(y8 r0,(y9 r0,(y10 r0,(y11 r0,(y12 r0,(y13 r0,(y14 r0,(y15 r0,(true,(r1.1,(0,()))))))))))))))))))))) (fun r2 =>.opt ((zjj (y16 r2,()))) (fun r3 =>.ite (r1.2.1) (.ite (decide ((y16 r0)=0)) (.ite (decide ((y18 r2)=0)) (.ite (decide ((y17 r2)=0)) (.ite (decide ((y5 r3)=0)) (
 .ret (decide (r3.1=3325256705)&&(decide (r3.2.1=6)&&(decide (r3.2.2.1=17)&&(decide ((y3 r3)=1030)&&(decide ((y4 r3)=53)&&true)))),())) (.ret (false,()))) (.ret (false,()))) (.ret (false,()))) (.ret (false,()))) (.ret (false,()))))))
noncomputable def gm64:List (PF Go.Proofs.Tryz.prog):=gm62++[FS.pf z00,FS.pf zej]
def zd6 (x:Unit):Option (Bool×Unit):=(zi1 x).eval
noncomputable def zft:FS Tryz.prog:=mFS gm64 [] 9 zuv zuu zi1 fun x=>by kernel_rfl
open Go Go.RowKit Go.Proofs.YthkhikdglmaiaaaGreatDoor.Abs
open Go.IntKind renaming wrap -> wW
def zgwb:List VP1:=[.agg [.i .u32,.i .u32,.i .i64,.i .i64]]
def zgvb:SP:=⟨1,[(0,.v (.agg [.i .u32,.i .u32,.i .i64,.i .i64]))],[]⟩
def zvp:ty3_->Tr ty3_ :=
 fun (a0,a1,a2,a3,_) =>.ret (a1,(a0,(a3,(a2,()))))
noncomputable def gm65:List (PF Go.Proofs.Tryz.prog):=gm39++[FS.pf zpt]
def zxg (x:ty3_):Option ty3_:=(zvp x).eval
noncomputable def z2r:FS Tryz.prog:=mFS gm65 [] 146 zgwb zgvb zvp fun x=>by kernel_rfl
def z2w:List VP1:=[.one (.i .i64),.one (.i .i64),.one (.i .i64)]
def z2v:SP:=⟨1,[(0,.v (.one (.b)))],[]⟩
def zcv:ty2_->Tr (Bool×Unit) :=
 fun (a0,a1,a2,_) =>.ite (decide (a1<=a0)) (.ret (decide (a0<=a2),())) (.ret (false,()))
noncomputable def gm66:List (PF Go.Proofs.Tryz.prog):=gm65++[FS.pf z2r]
def zab (x:ty2_):Option (Bool×Unit):=(zcv x).eval
noncomputable def zif:FS Tryz.prog:=mFS gm66 [] 47 z2w z2v zcv fun x=>by kernel_rfl
def zzd:List VP1:=[.agg [.i .u32,.i .u32,.i .i64,.i .i64,.i .i64,.i .i64,.i .i64]]
def zzb:SP:=⟨1,[(0,.v (.one (.b)))],[]⟩
def zgl:zgeb->Tr (Bool×Unit) :=
 fun (a0,a1,a2,a3,a4,a5,a6,_) =>.opt ((zab (a2,(0,(65535,()))))) (fun r0 =>.ite (r0.1) (.opt ((zab (a3,(0,(65535,()))))) (fun r1 =>.ite (!r1.1) (.ret (false,())) (.opt ((zxg (a0,(a1,(a2,(a3,())))))) (fun r2 =>.ite (decide (a0=r2.1)&&(decide (a1=r2.2.1)&&(decide (a2=r2.2.2.1)&&(decide (a3=r2.2.2.2.1)&&true)))) (.ret (false,())) (.opt ((zab (a6,(0,(1099511627776,()))))) (fun r3 =>.ite (!r3.1) (.ret (false,())) (.opt ((zab (a4,(1,(4,()))))) (fun r4 =>.ite (!r4.1) (.ret (false,())) (.grd (decide (0<=a4/\a4<(↑(5:Nat):Int))) (
 .opt ([0,0,0,0,(3:Int)][Int.toNat a4]?) (fun r5 =>.grd (decide (0<=a4/\a4<(↑(5:Nat):Int))) (.opt ([0,0,0,2,(3:Int)][Int.toNat a4]?) (fun r6 =>.opt ((zab (a5,(r5,(r6,()))))) (fun r7 =>.ret (r7.1,()))))))))))))))) (.ite (true) (.ret (false,())) (.opt ((zxg (a0,(a1,(a2,(a3,())))))) (fun r1 =>.ite (decide (a0=r1.1)&&(decide (a1=r1.2.1)&&(decide (a2=r1.2.2.1)&&(decide (a3=r1.2.2.2.1)&&true)))) (.ret (false,())) (.opt ((zab (a6,(0,(1099511627776,()))))) (fun r2 =>.ite (!r2.1) (.ret (false,())) (.opt ((zab (a4,(1,(4,()))))) (fun r3 =>
 .ite (!r3.1) (.ret (false,())) (.grd (decide (0<=a4/\a4<(↑(5:Nat):Int))) (.opt ([0,0,0,0,(3:Int)][Int.toNat a4]?) (fun r4 =>.grd (decide (0<=a4/\a4<(↑(5:Nat):Int))) (.opt ([0,0,0,2,(3:Int)][Int.toNat a4]?) (fun r5 =>.opt ((zab (a5,(r4,(r5,()))))) (fun r6 =>.ret (r6.1,())))))))))))))))
noncomputable def gm67:List (PF Go.Proofs.Tryz.prog):=gm66++[FS.pf zif]
def zjh (x:zgeb):Option (Bool×Unit):=(zgl x).eval
noncomputable def ze8:FS Tryz.prog:=mFS gm67 [] 101 zzd zzb zgl fun x=>by kernel_rfl
def zqh:LS:=⟨9,[(4,4)],⟨41,[(24,.v (.one (.i .i64))),(4,.v (.one (.ptr 4 0))),(22,.v (.one (.st 16 false))),(0,.v (.one (.st 16 false))),(10,.v (.one (.st 16 false))),(11,.v (.one (.i .i64))),(12,.v (.one (.i .i64))),(23,.v (.one (.i .i64)))],[(4,.cells [.i .u32,.i .u32,.i .i64,.i .i64,.i .i64,.i .i64,.i .i64])]⟩,[⟨none,[],⟨41,[(2,.v (.one (.i .i64)))],[]⟩⟩,⟨some 2,[],⟨41,[(0,.v (.one (.st 16 false))),(10,.v (.one (.st 16 false))),(11,.v (.one (.i .i64))),(12,.v (.one (.i .i64)))],[]⟩⟩],[]⟩
abbrev zmwb:Type:=(Int×((List TTalk)×((List TTalk)×((List TTalk)×(Int×(Int×(Int×(Int×(Int×(Int×(Int×(Int×(Int×(Int×Unit))))))))))))))
abbrev zpjb:Type:=((List TTalk)×((List TTalk)×(Int×(Int×Unit))))
def zbb:zmwb->Tr (zmwb⊕((Int×Unit)⊕zpjb)) :=
 fun (a0,a1,a2,a3,a4,a5,a6,a7,a8,a9,a10,a11,a12,a13,_) =>.ite (decide (a0<a6)) (.grd (decide (0<=a0)) (.opt (a1[Int.toNat a0]?) (fun r0 =>.ite (decide (a13<r0.at')) (.ret (Sum.inr (Sum.inl (4,())))) (.ite (decide (r0.from'=a7)&&(decide (r0.to=a8)&&(decide (r0.fromPort=a9)&&(decide (r0.toPort=a10)&&true)))) (.ite (true) (.ret (Sum.inr (Sum.inl (4,())))) (.ret (Sum.inl (wW .i64 (a0+1),(a1,(a2,(a3,(a4,(a5,(a6,(a7,(a8,(a9,(a10,(a11,(a12,(a13,()))))))))))))))))) (.opt ((zxg (a7,(a8,(a9,(a10,())))))) (fun r1 =>
 .ite (decide (r0.from'=r1.1)&&(decide (r0.to=r1.2.1)&&(decide (r0.fromPort=r1.2.2.1)&&(decide (r0.toPort=r1.2.2.2.1)&&true)))) (.ret (Sum.inr (Sum.inl (4,())))) (.ret (Sum.inl (wW .i64 (a0+1),(a1,(a2,(a3,(a4,(a5,(a6,(a7,(a8,(a9,(a10,(a11,(a12,(a13,())))))))))))))))))))))) (.ret (Sum.inr (Sum.inr (a2,(a3,(a4,(a5,())))))))
def ze4:=lpT 550009 zbb
def zqi:LS:=⟨4,[],⟨41,[(12,.v (.one (.i .i64))),(0,.v (.one (.st 16 false))),(10,.v (.one (.st 16 false))),(11,.v (.one (.i .i64)))],[]⟩,[⟨none,[],⟨41,[(2,.v (.one (.i .i64)))],[]⟩⟩,⟨some 0,[],⟨41,[],[]⟩⟩],[]⟩
def zbc:z6q->Tr (z6q⊕((Int×Unit)⊕Unit)) :=
 fun (a0,a1,a2,a3,_) =>.ite (decide (a0<a3)) (.grd (decide (0<=a0)) (.opt (a2[Int.toNat a0]?) (fun r0 =>.opt ((zjh (r0.from',(r0.to,(r0.fromPort,(r0.toPort,(r0.state,(r0.over,(r0.at',()))))))))) (fun r1 =>.ite (!r1.1) (.ret (Sum.inr (Sum.inl (4,())))) (.grd (decide ((0:Int)<=(0:Int)/\0<=a0/\a0<=(↑(a1.length):Int))) (
 .opt ((ze4 (0,(List.drop (0:Nat) (List.take (Int.toNat a0) a1),(a1,(a2,(a3,(a0,((↑(List.length (List.drop (0:Nat) (List.take (Int.toNat a0) a1))):Int),(r0.from',(r0.to,(r0.fromPort,(r0.toPort,(r0.state,(r0.over,(r0.at',())))))))))))))))) (fun r2 =>.sum (r2) (fun r3 =>.ret (Sum.inr (Sum.inl (r3.1,())))) (fun r3 =>.ret (Sum.inl (wW .i64 (r3.2.2.2.1+1),(r3.1,(r3.2.1,(r3.2.2.1,()))))))))))))) (.ret (Sum.inr (Sum.inr ())))
def ze5:=lpT 550004 zbc
def zw4:List VP1:=[.one (.st 16 false)]
def zw2:SP:=⟨1,[(0,.v (.one (.i .i64)))],[]⟩
def ze3:((List TTalk)×Unit)->Tr (Int×Unit) :=
 fun (a0,_) =>.ite (decide (64<(↑(a0.length):Int))) (.ret (2,())) (.opt ((ze5 (0,(a0,(a0,((↑(a0.length):Int),())))))) (fun r0 =>.sum (r0) (fun r1 =>.ret (r1.1,())) (fun r1 =>.ret (0,()))))
noncomputable def gm68:List (PF Go.Proofs.Tryz.prog):=gm67++[FS.pf ze8]
def zhz (x:((List TTalk)×Unit)):Option (Int×Unit):=(ze3 x).eval
noncomputable def zey:FS Tryz.prog:=mFS gm68 [(55,zqh),(55,zqi)] 55 zw4 zw2 ze3 fun x=>by kernel_rfl
open Go Go.RowKit Go.Proofs.YthkhikdglmaiaaaGreatDoor.Abs
open Go.IntKind renaming wrap -> wW
def zdpb:List VP1:=[.agg [.i .i64,.i .i64,.i .u64,.i .i64,.i .u64,.st 17 false],.agg [.i .i64,.i .i64,.i .u64,.i .i64,.i .u64,.st 17 false]]
def zdob:SP:=⟨1,[(0,.v (.one (.b)))],[]⟩
abbrev zmvb:Type:=(Int×(Int×(Int×(Int×(Int×((List TMap)×(Int×(Int×(Int×(Int×(Int×((List TMap)×Unit))))))))))))
def zto:zmvb->Tr (Bool×Unit) :=
 fun (a0,a1,a2,a3,a4,a5,a6,a7,a8,a9,a10,a11,_) =>.ite (decide (a0=a6)) (.ite (decide (a1=a7)&&(decide (a2=a8)&&true)) (.ite (decide (a3=a9)&&(decide (a4=a10)&&true)) (.opt ((z5v (a5,(a11,())))) (fun r0 =>.ret (r0.1,()))) (.ret (false,()))) (.ret (false,()))) (.ret (false,()))
noncomputable def gm69:List (PF Go.Proofs.Tryz.prog):=gm50++[FS.pf z3c,zi7,GS.pf zfx,FS.pf zd0,FS.pf zm0,FS.pf zpp,FS.pf zps,FS.pf zje,FS.pf zjg,FS.pf zy3,GS.pf zqf,GS.pf zpq,GS.pf zf3,FS.pf zpr,FS.pf zpt,FS.pf z2r,FS.pf zif,FS.pf ze8,FS.pf zey]
def z1e (x:zmvb):Option (Bool×Unit):=(zto x).eval
noncomputable def zwc:FS Tryz.prog:=mFS gm69 [] 51 zdpb zdob zto fun x=>by kernel_rfl
def zxt:List VP1:=[.agg [.i .i64,.i .u64]]
def zxs:SP:=⟨1,[(0,.v (.one (.i .i64)))],[]⟩
def zjx:(Int×(Int×Unit))->Tr (Int×Unit) :=
 fun (a0,a1,_) =>.opt ((zab (a0,(64,(65472,()))))) (fun r0 =>.ite (!r0.1) (.ret (1,())) (.grd (true) (.ite (!decide (Int.tmod a0 (64:Int)=(0:Int))) (.ret (1,())) (.ret (0,())))))
noncomputable def gm70:List (PF Go.Proofs.Tryz.prog):=gm69++[FS.pf zwc]
def zdh (x:(Int×(Int×Unit))):Option (Int×Unit):=(zjx x).eval
noncomputable def zez:FS Tryz.prog:=mFS gm70 [] 99 zxt zxs zjx fun x=>by kernel_rfl
def zqs:LS:=⟨4,[(1,1),(3,3)],⟨25,[(8,.v (.one (.i .i64))),(4,.v (.one (.i .u64))),(1,.v (.one (.ptr 1 0))),(3,.v (.one (.own 3)))],[(1,.cells [.i .i64,.i .u64]),(3,.row 3 0 true true)]⟩,[⟨some 0,[(3,3)],⟨25,[(3,.v (.one (.own 3)))],[(3,.row 3 0 true true)]⟩⟩],[(3,3,0)]⟩
abbrev zmub:Type:=(Int×(Int×(Int×(Int×((List Int)×Unit)))))
def zfv:zmub->Tr (zmub⊕((List Int)×Unit)) :=
 fun (a0,a1,a2,a3,a4,_) =>.ite (decide (a0<64)) (.grd (true) (.ite (decide (Int.tmod a1 (2:Int)=(0:Int))) (.grd (decide ((a4.length+List.length [wW .i64 (a2+a0)])*(8:Nat)<=(140737488355328:Nat)/\a4.length+List.length [wW .i64 (a2+a0)]<=(9223372036854775807:Nat))) (.grd (true) (.grd (decide (List.length (a4++[wW .i64 (a2+a0)])=List.length (a4++[wW .i64 (a2+a0)]))) (.ret (Sum.inl (wW .i64 (a0+1),(wW .u64 (Int.tdiv a1 (2:Int)),(a2,(a3,(a4++[wW .i64 (a2+a0)],())))))))))) (.grd (true) (gd a4.length (
 .ret (Sum.inl (wW .i64 (a0+1),(wW .u64 (Int.tdiv a1 (2:Int)),(a2,(a3,(a4,()))))))))))) (gd a4.length (.ret (Sum.inr (a4,()))))
def zfw:=lpT 1480004 zfv
def z05:List VP1:=[.agg [.i .i64,.i .u64]]
def z04:SP:=⟨1,[(0,.v (.one (.st 0 true)))],[]⟩
def zlm:(Int×(Int×Unit))->Tr ((List Int)×Unit) :=
 fun (a0,a1,_) =>.grd (true) (.opt ((zfw (0,(a1,(a0,(a1,([],()))))))) (fun r0 =>.ret (r0.1,())))
noncomputable def gm71:List (PF Go.Proofs.Tryz.prog):=gm70++[FS.pf zez]
def zqb (x:(Int×(Int×Unit))):Option ((List Int)×Unit):=(zlm x).eval
noncomputable def freePorts:FS Tryz.prog:=mFS gm71 [(148,zqs)] 148 z05 z04 zlm fun x=>by kernel_rfl
def zs9:LS:=⟨2,[],⟨19,[(8,.v (.one (.i .i64))),(0,.v (.one (.st 0 false))),(1,.v (.one (.i .i64))),(7,.v (.one (.i .i64)))],[]⟩,[⟨none,[],⟨19,[(4,.v (.one (.i .i64)))],[]⟩⟩,⟨some 0,[],⟨19,[],[]⟩⟩],[]⟩
abbrev zmtb:Type:=(Int×((List Int)×(Int×(Int×Unit))))
def zca:zmtb->Tr (zmtb⊕((Int×Unit)⊕Unit)) :=
 fun (a0,a1,a2,a3,_) =>.ite (decide (a0<a3)) (.grd (decide (0<=a0)) (.opt (a1[Int.toNat a0]?) (fun r0 =>.ite (decide (a2=r0)) (.ret (Sum.inr (Sum.inl (a0,())))) (.ret (Sum.inl (wW .i64 (a0+1),(a1,(a2,(a3,()))))))))) (.ret (Sum.inr (Sum.inr ())))
def zgi:=lpT 1770002 zca
def z3u:List VP1:=[.one (.st 0 false),.one (.i .i64)]
def z3t:SP:=⟨1,[(0,.v (.one (.i .i64)))],[]⟩
abbrev zf3b:Type:=((List Int)×(Int×Unit))
def zny:zf3b->Tr (Int×Unit) :=
 fun (a0,a1,_) =>.opt ((zgi (0,(a0,(a1,((↑(a0.length):Int),())))))) (fun r0 =>.sum (r0) (fun r1 =>.ret (r1.1,())) (fun r1 =>.ret ((-1:Int),())))
noncomputable def gm72:List (PF Go.Proofs.Tryz.prog):=gm71++[FS.pf freePorts]
def zs8 (x:zf3b):Option (Int×Unit):=(zny x).eval
noncomputable def zk1:FS Tryz.prog:=mFS gm72 [(177,zs9)] 177 z3u z3t zny fun x=>by kernel_rfl
def zu3:List VP1:=[.one (.st 0 false),.one (.i .i64)]
def zu2:SP:=⟨1,[(0,.v (.one (.b)))],[]⟩
def zi6:zf3b->Tr (Bool×Unit) :=
 fun (a0,a1,_) =>.opt ((zs8 (a0,(a1,())))) (fun r0 =>.ret (decide (0<=r0.1),()))
noncomputable def gm73:List (PF Go.Proofs.Tryz.prog):=gm72++[FS.pf zk1]
def zd8 (x:zf3b):Option (Bool×Unit):=(zi6 x).eval
noncomputable def zdw:FS Tryz.prog:=mFS gm73 [] 147 zu3 zu2 zi6 fun x=>by kernel_rfl
def zsp:LS:=⟨3,[(1,1),(3,3)],⟨25,[(5,.v (.one (.i .i64))),(1,.v (.one (.ptr 1 0))),(3,.v (.one (.own 3)))],[(1,.cells [.i .i64,.i .u64]),(3,.row 3 0 true true)]⟩,[⟨some 0,[(3,3)],⟨25,[(3,.v (.one (.own 3)))],[(3,.row 3 0 true true)]⟩⟩],[(3,3,0)]⟩
abbrev zmsb:Type:=(Int×(Int×(Int×((List Int)×Unit))))
def zf9:zmsb->Tr (zmsb⊕((List Int)×Unit)) :=
 fun (a0,a1,a2,a3,_) =>.ite (decide (a0<64)) (.opt ((zqb (a1,(a2,())))) (fun r0 =>.opt ((zd8 (r0.1,(wW .i64 (a1+a0),())))) (fun r1 =>.ite (!r1.1) (.grd (decide ((a3.length+List.length [wW .i64 (a1+a0)])*(8:Nat)<=(140737488355328:Nat)/\a3.length+List.length [wW .i64 (a1+a0)]<=(9223372036854775807:Nat))) (.grd (decide (List.length (a3++[wW .i64 (a1+a0)])=List.length (a3++[wW .i64 (a1+a0)]))) (.ret (Sum.inl (wW .i64 (a0+1),(a1,(a2,(a3++[wW .i64 (a1+a0)],())))))))) (gd a3.length (.ret (Sum.inl (wW .i64 (a0+1),(a1,(a2,(a3,())))))))))) (
 gd a3.length (.ret (Sum.inr (a3,()))))
def zga:=lpT 1030003 zf9
def z29:List VP1:=[.agg [.i .i64,.i .u64]]
def z28:SP:=⟨1,[(0,.v (.one (.st 0 true)))],[]⟩
def znp:(Int×(Int×Unit))->Tr ((List Int)×Unit) :=
 fun (a0,a1,_) =>.grd (true) (.opt ((zga (0,(a0,(a1,([],())))))) (fun r0 =>.ret (r0.1,())))
noncomputable def gm74:List (PF Go.Proofs.Tryz.prog):=gm73++[FS.pf zdw]
def zmd (x:(Int×(Int×Unit))):Option ((List Int)×Unit):=(znp x).eval
noncomputable def zku:FS Tryz.prog:=mFS gm74 [(103,zsp)] 103 z29 z28 znp fun x=>by kernel_rfl
def zsr:LS:=⟨27,[(30,30)],⟨155,[(145,.v (.one (.i .i64))),(3,.v (.one (.mp 30))),(143,.v (.one (.st 0 true))),(144,.v (.one (.i .i64)))],[(30,.map 17)]⟩,[⟨none,[],⟨155,[(2,.v (.one (.i .i64)))],[]⟩⟩,⟨some 6,[],⟨155,[],[]⟩⟩],[]⟩
abbrev zmrb:Type:=(Int×((List Int)×(Int×((List (TMap×Int))×Unit))))
def zgb:zmrb->Tr (zmrb⊕((Int×Unit)⊕Unit)) :=
 fun (a0,a1,a2,a3,_) =>.ite (decide (a0<a2)) (.grd (decide (0<=a0)) (.opt (a1[Int.toNat a0]?) (fun r0 =>.ite (!decide (Option.getD (mGet (17:Nat) (TMap.mk (6:Int) (0:Int) (0:Int) r0 (0:Int)) a3) (0:Int)=(1:Int))) (.ret (Sum.inr (Sum.inl (4,())))) (.ret (Sum.inl (wW .i64 (a0+1),(a1,(a2,(a3,()))))))))) (.ret (Sum.inr (Sum.inr ())))
def zge:=lpT 560027 zgb
def zss:LS:=⟨21,[(30,30)],⟨155,[(133,.v (.one (.i .i64))),(3,.v (.one (.mp 30))),(131,.v (.one (.st 0 true))),(9,.v (.one (.st 0 true))),(132,.v (.one (.i .i64)))],[(30,.map 17)]⟩,[⟨none,[],⟨155,[(2,.v (.one (.i .i64)))],[]⟩⟩,⟨some 4,[(30,30)],⟨155,[(3,.v (.one (.mp 30))),(9,.v (.one (.st 0 true)))],[(30,.map 17)]⟩⟩],[]⟩
abbrev zmqb:Type:=(Int×((List Int)×((List Int)×(Int×((List (TMap×Int))×Unit)))))
abbrev zpib:Type:=((List Int)×((List (TMap×Int))×Unit))
def zgc:zmqb->Tr (zmqb⊕((Int×Unit)⊕zpib)) :=
 fun (a0,a1,a2,a3,a4,_) =>.ite (decide (a0<a3)) (.grd (decide (0<=a0)) (.opt (a1[Int.toNat a0]?) (fun r0 =>.ite (!decide (Option.getD (mGet (17:Nat) (TMap.mk (17:Int) (0:Int) (0:Int) r0 (0:Int)) a4) (0:Int)=(1:Int))) (.ret (Sum.inr (Sum.inl (4,())))) (.ret (Sum.inl (wW .i64 (a0+1),(a1,(a2,(a3,(a4,())))))))))) (.ret (Sum.inr (Sum.inr (a2,(a4,())))))
def zgf:=lpT 560021 zgc
def zst:LS:=⟨10,[(5,5),(30,30),(1,1)],⟨155,[(64,.v (.one (.i .i64))),(5,.v (.one (.ptr 5 0))),(62,.v (.one (.st 17 false))),(3,.v (.one (.mp 30))),(1,.v (.one (.ptr 1 0))),(32,.v (.one (.st 17 false))),(33,.v (.one (.i .i64))),(34,.v (.one (.i .i64))),(63,.v (.one (.i .i64)))],[(5,.cells [.i .i64,.i .u32,.i .i64,.i .i64,.i .i64]),(30,.map 17),(1,.cells [.i .i64,.i .i64,.i .u64,.i .i64,.i .u64,.st 17 false])]⟩,[⟨none,[],⟨155,[(2,.v (.one (.i .i64)))],[]⟩⟩,⟨some 2,[(30,30),(1,1),(5,5)],⟨155,[(3,.v (.one (.mp 30))),(1,.v (.one (.ptr 1 0))),(32,.v (.one (.st 17 false))),(33,.v (.one (.i .i64))),(34,.v (.one (.i .i64))),(5,.v (.one (.ptr 5 0)))],[(30,.map 17),(1,.cells [.i .i64,.i .i64,.i .u64,.i .i64,.i .u64,.st 17 false]),(5,.cells [.i .i64,.i .u32,.i .i64,.i .i64,.i .i64])]⟩⟩],[]⟩
abbrev zmpb:Type:=(Int×((List TMap)×((List TMap)×(Int×(Int×(Int×(Int×(Int×(Int×(Int×(Int×((List (TMap×Int))×(Int×(Int×(Int×(Int×(Int×((List TMap)×Unit))))))))))))))))))
abbrev zphb:Type:=((List TMap)×(Int×(Int×((List (TMap×Int))×(Int×(Int×(Int×(Int×(Int×((List TMap)×(Int×(Int×(Int×(Int×(Int×Unit)))))))))))))))
def zgd:zmpb->Tr (zmpb⊕((Int×Unit)⊕zphb)) :=
 fun (a0,a1,a2,a3,a4,a5,a6,a7,a8,a9,a10,a11,a12,a13,a14,a15,a16,a17,_) =>.ite (decide (a0<a5)) (.grd (decide (0<=a0)) (.opt (a1[Int.toNat a0]?) (fun r0 =>.ite (decide (a10<r0.at')) (.ret (Sum.inr (Sum.inl (4,())))) (.ite (decide (r0.proto=a6)) (.ite (decide (r0.out=a9)) (.ret (Sum.inr (Sum.inl (4,())))) (.ite (decide (r0.addr=a7)) (.ite (decide (r0.port=a8)) (.ret (Sum.inr (Sum.inl (4,())))) (.ret (Sum.inl (wW .i64 (a0+1),(a1,(a2,(a3,(a4,(a5,(a6,(a7,(a8,(a9,(a10,(a11,(a12,(a13,(a14,(a15,(a16,(a17,()))))))))))))))))))))) (
 .ret (Sum.inl (wW .i64 (a0+1),(a1,(a2,(a3,(a4,(a5,(a6,(a7,(a8,(a9,(a10,(a11,(a12,(a13,(a14,(a15,(a16,(a17,())))))))))))))))))))))) (.ret (Sum.inl (wW .i64 (a0+1),(a1,(a2,(a3,(a4,(a5,(a6,(a7,(a8,(a9,(a10,(a11,(a12,(a13,(a14,(a15,(a16,(a17,())))))))))))))))))))))))) (.ret (Sum.inr (Sum.inr (a2,(a3,(a4,(a11,(a12,(a13,(a14,(a15,(a16,(a17,(a6,(a7,(a8,(a9,(a10,()))))))))))))))))))
def zb9:=lpT 560010 zgd
def zuq:LS:=⟨5,[(30,30),(1,1)],⟨155,[(34,.v (.one (.i .i64))),(3,.v (.one (.mp 30))),(1,.v (.one (.ptr 1 0))),(32,.v (.one (.st 17 false))),(33,.v (.one (.i .i64)))],[(30,.map 17),(1,.cells [.i .i64,.i .i64,.i .u64,.i .i64,.i .u64,.st 17 false])]⟩,[⟨none,[],⟨155,[(2,.v (.one (.i .i64)))],[]⟩⟩,⟨some 0,[(30,30),(1,1)],⟨155,[(3,.v (.one (.mp 30))),(1,.v (.one (.ptr 1 0)))],[(30,.map 17),(1,.cells [.i .i64,.i .i64,.i .u64,.i .i64,.i .u64,.st 17 false])]⟩⟩],[]⟩
abbrev zmob:Type:=(Int×((List TMap)×(Int×((List (TMap×Int))×(Int×(Int×(Int×(Int×(Int×((List TMap)×Unit))))))))))
def zhf:zmob->Tr (zmob⊕((Int×Unit)⊕((List (TMap×Int))×zy1))) :=
 fun (a0,a1,a2,a3,a4,a5,a6,a7,a8,a9,_) =>.ite (decide (a0<a2)) (.grd (decide (0<=a0)) (.opt (a1[Int.toNat a0]?) (fun r0 =>.ite (!decide (r0.proto=17)) (.ite (!decide (r0.proto=6)) (.ret (Sum.inr (Sum.inl (4,())))) (.opt ((zab (r0.port,(0,(65535,()))))) (fun r1 =>.ite (!r1.1) (.ret (Sum.inr (Sum.inl (4,())))) (.opt ((zab (r0.at',(0,(1099511627776,()))))) (fun r2 =>.ite (!r2.1) (.ret (Sum.inr (Sum.inl (4,())))) (.grd (decide ((0:Int)<=(0:Int)/\0<=a0/\a0<=(↑(a9.length):Int))) (
 .opt ((zb9 (0,(List.drop (0:Nat) (List.take (Int.toNat a0) a9),(a1,(a2,(a0,((↑(List.length (List.drop (0:Nat) (List.take (Int.toNat a0) a9))):Int),(r0.proto,(r0.addr,(r0.port,(r0.out,(r0.at',(a3,(a4,(a5,(a6,(a7,(a8,(a9,())))))))))))))))))))) (fun r3 =>.sum (r3) (fun r4 =>.ret (Sum.inr (Sum.inl (r4.1,())))) (fun r4 =>.ret (Sum.inl (wW .i64 (r4.2.2.1+1),(r4.1,(r4.2.1,(mPut (17:Nat) (TMap.mk (y10 r4) (0:Int) (0:Int) (y13 r4) (0:Int)) (1:Int) (y3 r4),(y4 r4,(y5 r4,(y6 r4,(y7 r4,(y8 r4,(y9 r4,())))))))))))))))))))) (
 .opt ((zab (r0.port,(0,(65535,()))))) (fun r1 =>.ite (!r1.1) (.ret (Sum.inr (Sum.inl (4,())))) (.opt ((zab (r0.at',(0,(1099511627776,()))))) (fun r2 =>.ite (!r2.1) (.ret (Sum.inr (Sum.inl (4,())))) (.grd (decide ((0:Int)<=(0:Int)/\0<=a0/\a0<=(↑(a9.length):Int))) (.opt ((zb9 (0,(List.drop (0:Nat) (List.take (Int.toNat a0) a9),(a1,(a2,(a0,((↑(List.length (List.drop (0:Nat) (List.take (Int.toNat a0) a9))):Int),(r0.proto,(r0.addr,(r0.port,(r0.out,(r0.at',(a3,(a4,(a5,(a6,(a7,(a8,(a9,())))))))))))))))))))) (fun r3 =>.sum (r3) (fun r4 =>
 .ret (Sum.inr (Sum.inl (r4.1,())))) (fun r4 =>.ret (Sum.inl (wW .i64 (r4.2.2.1+1),(r4.1,(r4.2.1,(mPut (17:Nat) (TMap.mk (y10 r4) (0:Int) (0:Int) (y13 r4) (0:Int)) (1:Int) (y3 r4),(y4 r4,(y5 r4,(y6 r4,(y7 r4,(y8 r4,(y9 r4,())))))))))))))))))))))) (.ret (Sum.inr (Sum.inr (a3,(a4,(a5,(a6,(a7,(a8,(a9,()))))))))))
def zhg:=lpT 560005 zhf
def z3b:List VP1:=[.agg [.i .i64,.i .i64,.i .u64,.i .i64,.i .u64,.st 17 false]]
def z3a:SP:=⟨1,[(0,.v (.one (.i .i64)))],[]⟩
def znq:zy1->Tr (Int×Unit) :=
 fun (a0,a1,a2,a3,a4,a5,_) =>.opt ((zab (a0,(1,(1000000,()))))) (fun r0 =>.ite (!r0.1) (.ret (1,())) (.opt ((zdh (a1,(a2,())))) (fun r1 =>.ite (!decide (r1.1=0)) (.ret (1,())) (.opt ((zdh (a3,(a4,())))) (fun r2 =>.ite (!decide (r2.1=0)) (.ret (1,())) (.opt ((zhg (0,(a5,((↑(a5.length):Int),([],(a0,(a1,(a2,(a3,(a4,(a5,())))))))))))) (fun r3 =>.sum (r3) (fun r4 =>.ret (r4.1,())) (fun r4 =>.opt ((zmd (r4.2.2.1,(y3 r4,())))) (fun r5 =>.opt ((zmd (y4 r4,(y5 r4,())))) (fun r6 =>
 .ite (!decide ((↑(List.length r4.1):Int)=wW .i64 ((↑(List.length r5.1):Int)+(↑(List.length r6.1):Int)))) (.ret (4,())) (.ite (!decide ((↑((y6 r4).length):Int)=(↑(List.length r4.1):Int))) (.ret (4,())) (.opt ((zgf (0,(r5.1,(r6.1,((↑(List.length r5.1):Int),(r4.1,()))))))) (fun r7 =>.sum (r7) (fun r8 =>.ret (r8.1,())) (fun r8 =>.opt ((zge (0,(r8.1,((↑(List.length r8.1):Int),(r8.2.1,())))))) (fun r9 =>.sum (r9) (fun r10 =>.ret (r10.1,())) (fun r10 =>.ret (0,())))))))))))))))))
noncomputable def gm75:List (PF Go.Proofs.Tryz.prog):=gm74++[FS.pf zku]
def zsq (x:zy1):Option (Int×Unit):=(znq x).eval
noncomputable def znr:FS Tryz.prog:=mFS gm75 [(56,zsr),(56,zss),(56,zst),(56,zuq)] 56 z3b z3a znq fun x=>by kernel_rfl
open Go Go.RowKit Go.Proofs.YthkhikdglmaiaaaGreatDoor.Abs
open Go.IntKind renaming wrap -> wW
def z7k:List VP1:=[.one (.s),.one (.i .i64)]
def z7j:SP:=⟨1,[(0,.v (.one (.i .i64)))],[]⟩
def zjr:ty0_->Tr (Int×Unit) :=
 fun (a0,a1,_) =>.grd (decide (0<=a1/\a1<(↑(a0.length):Int))) (.ite (decide (wW .i64 (a1+1)<(↑(a0.length):Int))) (.grd (decide (0<=wW .i64 (a1+1)/\wW .i64 (a1+1)<(↑(a0.length):Int))) (.ret (wW .i64 (wW .i64 ((256:Int)*wW .i64 (↑(UInt8.toNat (List.getD a0 (Int.toNat a1) (0:UInt8))):Int))+wW .i64 (↑(UInt8.toNat (List.getD a0 (Int.toNat (wW .i64 (a1+1))) (0:UInt8))):Int)),()))) (.ret (wW .i64 ((256:Int)*wW .i64 (↑(UInt8.toNat (List.getD a0 (Int.toNat a1) (0:UInt8))):Int)),())))
noncomputable def gm76:List (PF Go.Proofs.Tryz.prog):=gm64++[FS.pf zft,FS.pf z2r,FS.pf zif,FS.pf ze8,FS.pf zey,FS.pf zwc,FS.pf zez,FS.pf freePorts,FS.pf zk1,FS.pf zdw,FS.pf zku,FS.pf znr]
def zaf (x:ty0_):Option (Int×Unit):=(zjr x).eval
noncomputable def zr5:FS Tryz.prog:=mFS gm76 [] 46 z7k z7j zjr fun x=>by kernel_rfl
def z7q:List VP1:=[.one (.s),.one (.i .i64)]
def z7p:SP:=⟨1,[(0,.v (.one (.i .u32)))],[]⟩
def zp2:ty0_->Tr (Int×Unit) :=
 fun (a0,a1,_) =>.opt ((zaf (a0,(a1,())))) (fun r0 =>.opt ((zaf (a0,(wW .i64 (a1+2),())))) (fun r1 =>.ret (wW .u32 (wW .i64 (wW .i64 ((65536:Int)*r0.1)+r1.1)),())))
noncomputable def gm77:List (PF Go.Proofs.Tryz.prog):=gm76++[FS.pf zr5]
def zg8 (x:ty0_):Option (Int×Unit):=(zp2 x).eval
noncomputable def zsd:FS Tryz.prog:=mFS gm77 [] 48 z7q z7p zp2 fun x=>by kernel_rfl
def zxr:List VP1:=[.one (.i .i64),.one (.i .i64)]
def zxq:SP:=⟨1,[(0,.v (.one (.i .i64)))],[]⟩
def zfi:(Int×(Int×Unit))->Tr (Int×Unit) :=
 fun (a0,a1,_) =>.ite (decide (65535<wW .i64 (a0+a1))) (.ret (wW .i64 (wW .i64 (a0+a1)-65535),())) (.ret (wW .i64 (a0+a1),()))
noncomputable def gm78:List (PF Go.Proofs.Tryz.prog):=gm77++[FS.pf zsd]
def zie (x:(Int×(Int×Unit))):Option (Int×Unit):=(zfi x).eval
noncomputable def zg9:FS Tryz.prog:=mFS gm78 [] 96 zxr zxq zfi fun x=>by kernel_rfl
def zzy:LS:=⟨2,[],⟨18,[(5,.v (.one (.i .i64))),(1,.v (.one (.s))),(0,.v (.one (.i .i64)))],[]⟩,[⟨some 0,[],⟨18,[(0,.v (.one (.i .i64)))],[]⟩⟩],[]⟩
abbrev zmnb:Type:=(Int×((List UInt8)×(Int×Unit)))
def zch:zmnb->Tr (zmnb⊕(Int×Unit)) :=
 fun (a0,a1,a2,_) =>.ite (decide (a0<(↑(a1.length):Int))) (.opt ((zaf (a1,(a0,())))) (fun r0 =>.opt ((zie (a2,(r0.1,())))) (fun r1 =>.ret (Sum.inl (wW .i64 (a0+2),(a1,(r1.1,()))))))) (.ret (Sum.inr (a2,())))
def zfg:=lpT 500002 zch
def zbdb:List VP1:=[.one (.i .i64),.one (.s)]
def zbcb:SP:=⟨1,[(0,.v (.one (.i .i64)))],[]⟩
def zsa:ty1_->Tr (Int×Unit) :=
 fun (a0,a1,_) =>.opt ((zfg (0,(a1,(a0,()))))) (fun r0 =>.ret (r0.1,()))
noncomputable def gm79:List (PF Go.Proofs.Tryz.prog):=gm78++[FS.pf zg9]
def zec (x:ty1_):Option (Int×Unit):=(zsa x).eval
noncomputable def zzz:FS Tryz.prog:=mFS gm79 [(50,zzy)] 50 zbdb zbcb zsa fun x=>by kernel_rfl
def zz5:LS:=⟨3,[(8,8)],⟨24,[(11,.v (.one (.i .i64))),(3,.v (.one (.own 8))),(9,.v (.one (.st 0 false))),(10,.v (.one (.i .i64)))],[(8,.row 5 2 true true)]⟩,[⟨some 0,[(8,8)],⟨24,[(3,.v (.one (.own 8)))],[(8,.row 5 2 true true)]⟩⟩],[]⟩
abbrev zmmb:Type:=(Int×((List Int)×(Int×((List UInt8)×Unit))))
def zay:zmmb->Tr (zmmb⊕((List UInt8)×Unit)) :=
 fun (a0,a1,a2,a3,_) =>.ite (decide (a0<a2)) (.grd (decide (0<=a0)) (.opt (a1[Int.toNat a0]?) (fun r0 =>.grd (decide (0<=a0/\a0<(↑(a3.length):Int))) (.opt (a3[Int.toNat a0]?) (fun r1 =>.grd (decide (0<=wW .u8 r0/\wW .u8 r0<256)) (.grd (decide (a3.length=List.length (List.set a3 (Int.toNat a0) (UInt8.ofNat (Int.toNat (wW .u8 r0)))))) (.ret (Sum.inl (wW .i64 (a0+1),(a1,(a2,(List.set a3 (Int.toNat a0) (UInt8.ofNat (Int.toNat (wW .u8 r0))),())))))))))))) (gd a3.length (.ret (Sum.inr (a3,()))))
def zfj:=lpT 920003 zay
def zbob:List VP1:=[.one (.st 0 false)]
def zbmb:SP:=⟨1,[(0,.v (.one (.s)))],[]⟩
def zsh:((List Int)×Unit)->Tr ((List UInt8)×Unit) :=
 fun (a0,_) =>.grd (decide (0<=(↑(a0.length):Int)/\(↑(a0.length):Int)<=(↑(a0.length):Int)/\Int.toNat (↑(a0.length):Int)*(1:Nat)<=(140737488355328:Nat)/\(↑(a0.length):Int)<=(↑(9223372036854775807:Nat):Int))) (.grd (true) (.grd (decide (List.length (List.replicate (Int.toNat (↑(a0.length):Int)) (UInt8.ofNat (0:Nat)))=List.length (List.replicate (Int.toNat (↑(a0.length):Int)) (UInt8.ofNat (0:Nat))))) (.opt ((zfj (0,(a0,((↑(a0.length):Int),(List.replicate (Int.toNat (↑(a0.length):Int)) (UInt8.ofNat (0:Nat)),())))))) (fun r0 =>
 .ret (r0.1,())))))
noncomputable def gm80:List (PF Go.Proofs.Tryz.prog):=gm79++[FS.pf zzz]
def zbu (x:((List Int)×Unit)):Option ((List UInt8)×Unit):=(zsh x).eval
noncomputable def zz6:FS Tryz.prog:=mFS gm80 [(92,zz5)] 92 zbob zbmb zsh fun x=>by kernel_rfl
def zgub:List VP1:=[.one (.i .i64)]
def zgtb:SP:=⟨1,[(0,.v (.one (.s)))],[]⟩
def zvn:(Int×Unit)->Tr ((List UInt8)×Unit) :=
 fun (a0,_) =>.grd (true) (.grd (true) (.opt ((zbu ([wW .i64 (Int.tdiv a0 (256:Int)),Int.tmod a0 (256:Int)],()))) (fun r0 =>.ret (r0.1,()))))
noncomputable def gm81:List (PF Go.Proofs.Tryz.prog):=gm80++[FS.pf zz6]
def zas (x:(Int×Unit)):Option ((List UInt8)×Unit):=(zvn x).eval
noncomputable def za8b:FS Tryz.prog:=mFS gm81 [] 93 zgub zgtb zvn fun x=>by kernel_rfl
def zgyb:List VP1:=[.one (.i .u32)]
def zgxb:SP:=⟨1,[(0,.v (.one (.s)))],[]⟩
def zvq:(Int×Unit)->Tr ((List UInt8)×Unit) :=
 fun (a0,_) =>.grd (true) (.opt ((zas (wW .i64 (wW .u32 (Int.tdiv a0 (65536:Int))),()))) (fun r0 =>.grd (true) (.opt ((zas (wW .i64 (Int.tmod a0 (65536:Int)),()))) (fun r1 =>.grd (decide (List.length r0.1+List.length r1.1<=(9223372036854775807:Nat))) (.ret (r0.1++r1.1,()))))))
noncomputable def gm82:List (PF Go.Proofs.Tryz.prog):=gm81++[FS.pf za8b]
def zb8 (x:(Int×Unit)):Option ((List UInt8)×Unit):=(zvq x).eval
noncomputable def zbfb:FS Tryz.prog:=mFS gm82 [] 94 zgyb zgxb zvq fun x=>by kernel_rfl
def zblb:List VP1:=[.one (.s)]
def zbjb:SP:=⟨1,[(0,.v (.one (.i .i64)))],[]⟩
def zsg:((List UInt8)×Unit)->Tr (Int×Unit) :=
 fun (a0,_) =>.opt ((zec (0,(a0,())))) (fun r0 =>.ret (wW .i64 ((65535:Int)-r0.1),()))
noncomputable def gm83:List (PF Go.Proofs.Tryz.prog):=gm82++[FS.pf zbfb]
def zha (x:((List UInt8)×Unit)):Option (Int×Unit):=(zsg x).eval
noncomputable def zz4:FS Tryz.prog:=mFS gm83 [] 95 zblb zbjb zsg fun x=>by kernel_rfl
def zum:List VP1:=[.agg [.i .i64,.i .i64,.b,.b,.i .i64,.i .i64,.i .i64,.i .u32,.i .u32,.s,.s]]
def zul:SP:=⟨1,[(0,.tup [.one (.s),.one (.i .i64)])],[]⟩
def ziz:ty7_->Tr ty0_ :=
 fun (a0,a1,a2,a3,a4,a5,a6,a7,a8,a9,a10,_) =>.opt ((zab (a0,(0,(255,()))))) (fun r0 =>.ite (!r0.1) (.ret ([],(1,()))) (.opt ((zab (a5,(0,(255,()))))) (fun r1 =>.ite (!r1.1) (.ret ([],(1,()))) (.opt ((zab (a6,(0,(255,()))))) (fun r2 =>.ite (!r2.1) (.ret ([],(1,()))) (.opt ((zab (a1,(0,(65535,()))))) (fun r3 =>.ite (!r3.1) (.ret ([],(1,()))) (.opt ((zab (a4,(0,(8191,()))))) (fun r4 =>.ite (!r4.1) (.ret ([],(1,()))) (.ite (decide (40<(↑(a9.length):Int))) (.ret ([],(1,()))) (.grd (true) (.ite (decide (0<Int.tmod (↑(a9.length):Int) (4:Int))) (
 .ret ([],(1,()))) (.ite (a2) (.ite (a3) (.ret ([],(4,()))) (.ite (decide (0<a4)) (.ret ([],(4,()))) (.ite (a3) (.ite (decide (65535<wW .i64 (wW .i64 ((20:Int)+(↑(a9.length):Int))+(↑(a10.length):Int)))) (.ret ([],(2,()))) (.grd (true) (.opt ((zbu ([wW .i64 ((69:Int)+wW .i64 (Int.tdiv (↑(a9.length):Int) (4:Int))),a0],()))) (fun r5 =>.opt ((zas (wW .i64 (wW .i64 ((20:Int)+(↑(a9.length):Int))+(↑(a10.length):Int)),()))) (fun r6 =>.grd (decide (List.length r5.1+List.length r6.1<=(9223372036854775807:Nat))) (.opt ((zas (a1,()))) (fun r7 =>
 .grd (decide (List.length (r5.1++r6.1)+List.length r7.1<=(9223372036854775807:Nat))) (.opt ((zas (24576,()))) (fun r8 =>.grd (decide (List.length (r5.1++r6.1++r7.1)+List.length r8.1<=(9223372036854775807:Nat))) (.opt ((zbu ([a5,a6,0,(0:Int)],()))) (fun r9 =>.grd (decide (List.length (r5.1++r6.1++r7.1++r8.1)+List.length r9.1<=(9223372036854775807:Nat))) (.opt ((zb8 (a7,()))) (fun r10 =>.grd (decide (List.length (r5.1++r6.1++r7.1++r8.1++r9.1)+List.length r10.1<=(9223372036854775807:Nat))) (.opt ((zb8 (a8,()))) (fun r11 =>
 .grd (decide (List.length (r5.1++r6.1++r7.1++r8.1++r9.1++r10.1)+List.length r11.1<=(9223372036854775807:Nat))) (.grd (decide (List.length (r5.1++r6.1++r7.1++r8.1++r9.1++r10.1++r11.1)+a9.length<=(9223372036854775807:Nat))) (.grd (decide ((0:Int)<=(0:Int)/\(0:Int)<=(10:Int)/\10<=(↑(List.length (r5.1++r6.1++r7.1++r8.1++r9.1++r10.1++r11.1++a9)):Int))) (.opt ((zha (r5.1++r6.1++r7.1++r8.1++r9.1++r10.1++r11.1++a9,()))) (fun r12 =>.opt ((zas (r12.1,()))) (fun r13 =>
 .grd (decide (List.length (List.drop (0:Nat) (List.take (10:Nat) (r5.1++r6.1++r7.1++r8.1++r9.1++r10.1++r11.1++a9)))+List.length r13.1<=(9223372036854775807:Nat))) (.grd (decide ((0:Int)<=(12:Int)/\12<=(↑(List.length (r5.1++r6.1++r7.1++r8.1++r9.1++r10.1++r11.1++a9)):Int)/\(↑(List.length (r5.1++r6.1++r7.1++r8.1++r9.1++r10.1++r11.1++a9)):Int)<=(↑(List.length (r5.1++r6.1++r7.1++r8.1++r9.1++r10.1++r11.1++a9)):Int))) (
 .grd (decide (List.length (List.drop (0:Nat) (List.take (10:Nat) (r5.1++r6.1++r7.1++r8.1++r9.1++r10.1++r11.1++a9))++r13.1)+List.length (List.drop (12:Nat) (List.take (Int.toNat (↑(List.length (r5.1++r6.1++r7.1++r8.1++r9.1++r10.1++r11.1++a9)):Int)) (r5.1++r6.1++r7.1++r8.1++r9.1++r10.1++r11.1++a9)))<=(9223372036854775807:Nat))) (
 .grd (decide (List.length (List.drop (0:Nat) (List.take (10:Nat) (r5.1++r6.1++r7.1++r8.1++r9.1++r10.1++r11.1++a9))++r13.1++List.drop (12:Nat) (List.take (Int.toNat (↑(List.length (r5.1++r6.1++r7.1++r8.1++r9.1++r10.1++r11.1++a9)):Int)) (r5.1++r6.1++r7.1++r8.1++r9.1++r10.1++r11.1++a9)))+a10.length<=(9223372036854775807:Nat))) (
 .ret (List.drop (0:Nat) (List.take (10:Nat) (r5.1++r6.1++r7.1++r8.1++r9.1++r10.1++r11.1++a9))++r13.1++List.drop (12:Nat) (List.take (Int.toNat (↑(List.length (r5.1++r6.1++r7.1++r8.1++r9.1++r10.1++r11.1++a9)):Int)) (r5.1++r6.1++r7.1++r8.1++r9.1++r10.1++r11.1++a9))++a10,(0,())))))))))))))))))))))))))) (.ite (decide (65535<wW .i64 (wW .i64 ((20:Int)+(↑(a9.length):Int))+(↑(a10.length):Int)))) (.ret ([],(2,()))) (.grd (true) (
 .opt ((zbu ([wW .i64 ((69:Int)+wW .i64 (Int.tdiv (↑(a9.length):Int) (4:Int))),a0],()))) (fun r5 =>.opt ((zas (wW .i64 (wW .i64 ((20:Int)+(↑(a9.length):Int))+(↑(a10.length):Int)),()))) (fun r6 =>.grd (decide (List.length r5.1+List.length r6.1<=(9223372036854775807:Nat))) (.opt ((zas (a1,()))) (fun r7 =>.grd (decide (List.length (r5.1++r6.1)+List.length r7.1<=(9223372036854775807:Nat))) (.opt ((zas (16384,()))) (fun r8 =>.grd (decide (List.length (r5.1++r6.1++r7.1)+List.length r8.1<=(9223372036854775807:Nat))) (
 .opt ((zbu ([a5,a6,0,(0:Int)],()))) (fun r9 =>.grd (decide (List.length (r5.1++r6.1++r7.1++r8.1)+List.length r9.1<=(9223372036854775807:Nat))) (.opt ((zb8 (a7,()))) (fun r10 =>.grd (decide (List.length (r5.1++r6.1++r7.1++r8.1++r9.1)+List.length r10.1<=(9223372036854775807:Nat))) (.opt ((zb8 (a8,()))) (fun r11 =>.grd (decide (List.length (r5.1++r6.1++r7.1++r8.1++r9.1++r10.1)+List.length r11.1<=(9223372036854775807:Nat))) (
 .grd (decide (List.length (r5.1++r6.1++r7.1++r8.1++r9.1++r10.1++r11.1)+a9.length<=(9223372036854775807:Nat))) (.grd (decide ((0:Int)<=(0:Int)/\(0:Int)<=(10:Int)/\10<=(↑(List.length (r5.1++r6.1++r7.1++r8.1++r9.1++r10.1++r11.1++a9)):Int))) (.opt ((zha (r5.1++r6.1++r7.1++r8.1++r9.1++r10.1++r11.1++a9,()))) (fun r12 =>.opt ((zas (r12.1,()))) (fun r13 =>
 .grd (decide (List.length (List.drop (0:Nat) (List.take (10:Nat) (r5.1++r6.1++r7.1++r8.1++r9.1++r10.1++r11.1++a9)))+List.length r13.1<=(9223372036854775807:Nat))) (.grd (decide ((0:Int)<=(12:Int)/\12<=(↑(List.length (r5.1++r6.1++r7.1++r8.1++r9.1++r10.1++r11.1++a9)):Int)/\(↑(List.length (r5.1++r6.1++r7.1++r8.1++r9.1++r10.1++r11.1++a9)):Int)<=(↑(List.length (r5.1++r6.1++r7.1++r8.1++r9.1++r10.1++r11.1++a9)):Int))) (
 .grd (decide (List.length (List.drop (0:Nat) (List.take (10:Nat) (r5.1++r6.1++r7.1++r8.1++r9.1++r10.1++r11.1++a9))++r13.1)+List.length (List.drop (12:Nat) (List.take (Int.toNat (↑(List.length (r5.1++r6.1++r7.1++r8.1++r9.1++r10.1++r11.1++a9)):Int)) (r5.1++r6.1++r7.1++r8.1++r9.1++r10.1++r11.1++a9)))<=(9223372036854775807:Nat))) (
 .grd (decide (List.length (List.drop (0:Nat) (List.take (10:Nat) (r5.1++r6.1++r7.1++r8.1++r9.1++r10.1++r11.1++a9))++r13.1++List.drop (12:Nat) (List.take (Int.toNat (↑(List.length (r5.1++r6.1++r7.1++r8.1++r9.1++r10.1++r11.1++a9)):Int)) (r5.1++r6.1++r7.1++r8.1++r9.1++r10.1++r11.1++a9)))+a10.length<=(9223372036854775807:Nat))) (
 .ret (List.drop (0:Nat) (List.take (10:Nat) (r5.1++r6.1++r7.1++r8.1++r9.1++r10.1++r11.1++a9))++r13.1++List.drop (12:Nat) (List.take (Int.toNat (↑(List.length (r5.1++r6.1++r7.1++r8.1++r9.1++r10.1++r11.1++a9)):Int)) (r5.1++r6.1++r7.1++r8.1++r9.1++r10.1++r11.1++a9))++a10,(0,()))))))))))))))))))))))))))))) (.ite (a3) (.ite (decide (65535<wW .i64 (wW .i64 ((20:Int)+(↑(a9.length):Int))+(↑(a10.length):Int)))) (.ret ([],(2,()))) (.grd (true) (
 .opt ((zbu ([wW .i64 ((69:Int)+wW .i64 (Int.tdiv (↑(a9.length):Int) (4:Int))),a0],()))) (fun r5 =>.opt ((zas (wW .i64 (wW .i64 ((20:Int)+(↑(a9.length):Int))+(↑(a10.length):Int)),()))) (fun r6 =>.grd (decide (List.length r5.1+List.length r6.1<=(9223372036854775807:Nat))) (.opt ((zas (a1,()))) (fun r7 =>.grd (decide (List.length (r5.1++r6.1)+List.length r7.1<=(9223372036854775807:Nat))) (.opt ((zas (wW .i64 (a4+8192),()))) (fun r8 =>.grd (decide (List.length (r5.1++r6.1++r7.1)+List.length r8.1<=(9223372036854775807:Nat))) (
 .opt ((zbu ([a5,a6,0,(0:Int)],()))) (fun r9 =>.grd (decide (List.length (r5.1++r6.1++r7.1++r8.1)+List.length r9.1<=(9223372036854775807:Nat))) (.opt ((zb8 (a7,()))) (fun r10 =>.grd (decide (List.length (r5.1++r6.1++r7.1++r8.1++r9.1)+List.length r10.1<=(9223372036854775807:Nat))) (.opt ((zb8 (a8,()))) (fun r11 =>.grd (decide (List.length (r5.1++r6.1++r7.1++r8.1++r9.1++r10.1)+List.length r11.1<=(9223372036854775807:Nat))) (
 .grd (decide (List.length (r5.1++r6.1++r7.1++r8.1++r9.1++r10.1++r11.1)+a9.length<=(9223372036854775807:Nat))) (.grd (decide ((0:Int)<=(0:Int)/\(0:Int)<=(10:Int)/\10<=(↑(List.length (r5.1++r6.1++r7.1++r8.1++r9.1++r10.1++r11.1++a9)):Int))) (.opt ((zha (r5.1++r6.1++r7.1++r8.1++r9.1++r10.1++r11.1++a9,()))) (fun r12 =>.opt ((zas (r12.1,()))) (fun r13 =>
 .grd (decide (List.length (List.drop (0:Nat) (List.take (10:Nat) (r5.1++r6.1++r7.1++r8.1++r9.1++r10.1++r11.1++a9)))+List.length r13.1<=(9223372036854775807:Nat))) (.grd (decide ((0:Int)<=(12:Int)/\12<=(↑(List.length (r5.1++r6.1++r7.1++r8.1++r9.1++r10.1++r11.1++a9)):Int)/\(↑(List.length (r5.1++r6.1++r7.1++r8.1++r9.1++r10.1++r11.1++a9)):Int)<=(↑(List.length (r5.1++r6.1++r7.1++r8.1++r9.1++r10.1++r11.1++a9)):Int))) (
 .grd (decide (List.length (List.drop (0:Nat) (List.take (10:Nat) (r5.1++r6.1++r7.1++r8.1++r9.1++r10.1++r11.1++a9))++r13.1)+List.length (List.drop (12:Nat) (List.take (Int.toNat (↑(List.length (r5.1++r6.1++r7.1++r8.1++r9.1++r10.1++r11.1++a9)):Int)) (r5.1++r6.1++r7.1++r8.1++r9.1++r10.1++r11.1++a9)))<=(9223372036854775807:Nat))) (
 .grd (decide (List.length (List.drop (0:Nat) (List.take (10:Nat) (r5.1++r6.1++r7.1++r8.1++r9.1++r10.1++r11.1++a9))++r13.1++List.drop (12:Nat) (List.take (Int.toNat (↑(List.length (r5.1++r6.1++r7.1++r8.1++r9.1++r10.1++r11.1++a9)):Int)) (r5.1++r6.1++r7.1++r8.1++r9.1++r10.1++r11.1++a9)))+a10.length<=(9223372036854775807:Nat))) (
 .ret (List.drop (0:Nat) (List.take (10:Nat) (r5.1++r6.1++r7.1++r8.1++r9.1++r10.1++r11.1++a9))++r13.1++List.drop (12:Nat) (List.take (Int.toNat (↑(List.length (r5.1++r6.1++r7.1++r8.1++r9.1++r10.1++r11.1++a9)):Int)) (r5.1++r6.1++r7.1++r8.1++r9.1++r10.1++r11.1++a9))++a10,(0,())))))))))))))))))))))))))) (.ite (decide (65535<wW .i64 (wW .i64 ((20:Int)+(↑(a9.length):Int))+(↑(a10.length):Int)))) (.ret ([],(2,()))) (.grd (true) (
 .opt ((zbu ([wW .i64 ((69:Int)+wW .i64 (Int.tdiv (↑(a9.length):Int) (4:Int))),a0],()))) (fun r5 =>.opt ((zas (wW .i64 (wW .i64 ((20:Int)+(↑(a9.length):Int))+(↑(a10.length):Int)),()))) (fun r6 =>.grd (decide (List.length r5.1+List.length r6.1<=(9223372036854775807:Nat))) (.opt ((zas (a1,()))) (fun r7 =>.grd (decide (List.length (r5.1++r6.1)+List.length r7.1<=(9223372036854775807:Nat))) (.opt ((zas (a4,()))) (fun r8 =>.grd (decide (List.length (r5.1++r6.1++r7.1)+List.length r8.1<=(9223372036854775807:Nat))) (
 .opt ((zbu ([a5,a6,0,(0:Int)],()))) (fun r9 =>.grd (decide (List.length (r5.1++r6.1++r7.1++r8.1)+List.length r9.1<=(9223372036854775807:Nat))) (.opt ((zb8 (a7,()))) (fun r10 =>.grd (decide (List.length (r5.1++r6.1++r7.1++r8.1++r9.1)+List.length r10.1<=(9223372036854775807:Nat))) (.opt ((zb8 (a8,()))) (fun r11 =>.grd (decide (List.length (r5.1++r6.1++r7.1++r8.1++r9.1++r10.1)+List.length r11.1<=(9223372036854775807:Nat))) (
 .grd (decide (List.length (r5.1++r6.1++r7.1++r8.1++r9.1++r10.1++r11.1)+a9.length<=(9223372036854775807:Nat))) (.grd (decide ((0:Int)<=(0:Int)/\(0:Int)<=(10:Int)/\10<=(↑(List.length (r5.1++r6.1++r7.1++r8.1++r9.1++r10.1++r11.1++a9)):Int))) (.opt ((zha (r5.1++r6.1++r7.1++r8.1++r9.1++r10.1++r11.1++a9,()))) (fun r12 =>.opt ((zas (r12.1,()))) (fun r13 =>
 .grd (decide (List.length (List.drop (0:Nat) (List.take (10:Nat) (r5.1++r6.1++r7.1++r8.1++r9.1++r10.1++r11.1++a9)))+List.length r13.1<=(9223372036854775807:Nat))) (.grd (decide ((0:Int)<=(12:Int)/\12<=(↑(List.length (r5.1++r6.1++r7.1++r8.1++r9.1++r10.1++r11.1++a9)):Int)/\(↑(List.length (r5.1++r6.1++r7.1++r8.1++r9.1++r10.1++r11.1++a9)):Int)<=(↑(List.length (r5.1++r6.1++r7.1++r8.1++r9.1++r10.1++r11.1++a9)):Int))) (
 .grd (decide (List.length (List.drop (0:Nat) (List.take (10:Nat) (r5.1++r6.1++r7.1++r8.1++r9.1++r10.1++r11.1++a9))++r13.1)+List.length (List.drop (12:Nat) (List.take (Int.toNat (↑(List.length (r5.1++r6.1++r7.1++r8.1++r9.1++r10.1++r11.1++a9)):Int)) (r5.1++r6.1++r7.1++r8.1++r9.1++r10.1++r11.1++a9)))<=(9223372036854775807:Nat))) (
 .grd (decide (List.length (List.drop (0:Nat) (List.take (10:Nat) (r5.1++r6.1++r7.1++r8.1++r9.1++r10.1++r11.1++a9))++r13.1++List.drop (12:Nat) (List.take (Int.toNat (↑(List.length (r5.1++r6.1++r7.1++r8.1++r9.1++r10.1++r11.1++a9)):Int)) (r5.1++r6.1++r7.1++r8.1++r9.1++r10.1++r11.1++a9)))+a10.length<=(9223372036854775807:Nat))) (
 .ret (List.drop (0:Nat) (List.take (10:Nat) (r5.1++r6.1++r7.1++r8.1++r9.1++r10.1++r11.1++a9))++r13.1++List.drop (12:Nat) (List.take (Int.toNat (↑(List.length (r5.1++r6.1++r7.1++r8.1++r9.1++r10.1++r11.1++a9)):Int)) (r5.1++r6.1++r7.1++r8.1++r9.1++r10.1++r11.1++a9))++a10,(0,()))))))))))))))))))))))))))))))))))))))))
noncomputable def gm84:List (PF Go.Proofs.Tryz.prog):=gm83++[FS.pf zz4]
def zgq (x:ty7_):Option ty0_:=(ziz x).eval
noncomputable def zfh:FS Tryz.prog:=mFS gm84 [] 49 zum zul ziz fun x=>by kernel_rfl
def zug:List VP1:=[.one (.s)]
def zuf:SP:=⟨1,[(0,.tup [.agg [.i .i64,.i .i64,.b,.b,.i .i64,.i .i64,.i .i64,.i .u32,.i .u32,.s,.s],.one (.i .i64)])],[]⟩
def zen:((List UInt8)×Unit)->Tr ty8_ :=
 fun (a0,_) =>.ite (decide ((↑(a0.length):Int)<20)) (.ret (0,(0,(false,(false,(0,(0,(0,(0,(0,([],([],(3,()))))))))))))) (.grd (decide ((0:Int)<=(0:Int)/\0<(↑(a0.length):Int))) (.grd (true) (.opt ((zaf (a0,(2,())))) (fun r0 =>
 .ite (decide ((↑(a0.length):Int)<if false=true then if r0.1<wW .i64 ((4:Int)*Int.tmod (wW .i64 (↑(UInt8.toNat (List.getD a0 (0:Nat) (0:UInt8))):Int)) (16:Int)) then r0.1 else wW .i64 ((4:Int)*Int.tmod (wW .i64 (↑(UInt8.toNat (List.getD a0 (0:Nat) (0:UInt8))):Int)) (16:Int)) else if r0.1>wW .i64 ((4:Int)*Int.tmod (wW .i64 (↑(UInt8.toNat (List.getD a0 (0:Nat) (0:UInt8))):Int)) (16:Int)) then r0.1 else wW .i64 ((4:Int)*Int.tmod (wW .i64 (↑(UInt8.toNat (List.getD a0 (0:Nat) (0:UInt8))):Int)) (16:Int)))) (
 .ret (0,(0,(false,(false,(0,(0,(0,(0,(0,([],([],(3,()))))))))))))) (.opt ((zaf (a0,(6,())))) (fun r1 =>.grd (decide ((0:Int)<=(0:Int)/\0<(↑(a0.length):Int))) (.opt ((zab (wW .i64 (↑(UInt8.toNat (List.getD a0 (0:Nat) (0:UInt8))):Int),(69,(79,()))))) (fun r2 =>.ite (!r2.1) (.ret (0,(0,(false,(false,(0,(0,(0,(0,(0,([],([],(4,()))))))))))))) (.ite (decide (r0.1<wW .i64 ((4:Int)*Int.tmod (wW .i64 (↑(UInt8.toNat (List.getD a0 (0:Nat) (0:UInt8))):Int)) (16:Int)))) (
 .ret (0,(0,(false,(false,(0,(0,(0,(0,(0,([],([],(4,()))))))))))))) (.ite (decide (32768<=r1.1)) (.ret (0,(0,(false,(false,(0,(0,(0,(0,(0,([],([],(4,()))))))))))))) (.grd (decide ((0:Int)<=(1:Int)/\1<(↑(a0.length):Int))) (.opt ((zaf (a0,(4,())))) (fun r3 =>.grd (true) (.grd (true) (.grd (true) (.grd (true) (.grd (decide ((0:Int)<=(8:Int)/\8<(↑(a0.length):Int))) (.grd (decide ((0:Int)<=(9:Int)/\9<(↑(a0.length):Int))) (.opt ((zg8 (a0,(12,())))) (fun r4 =>.opt ((zg8 (a0,(16,())))) (fun r5 =>
 .grd (decide ((0:Int)<=(20:Int)/\20<=wW .i64 ((4:Int)*Int.tmod (wW .i64 (↑(UInt8.toNat (List.getD a0 (0:Nat) (0:UInt8))):Int)) (16:Int))/\wW .i64 ((4:Int)*Int.tmod (wW .i64 (↑(UInt8.toNat (List.getD a0 (0:Nat) (0:UInt8))):Int)) (16:Int))<=(↑(a0.length):Int))) (.grd (decide (0<=wW .i64 ((4:Int)*Int.tmod (wW .i64 (↑(UInt8.toNat (List.getD a0 (0:Nat) (0:UInt8))):Int)) (16:Int))/\wW .i64 ((4:Int)*Int.tmod (wW .i64 (↑(UInt8.toNat (List.getD a0 (0:Nat) (0:UInt8))):Int)) (16:Int))<=r0.1/\r0.1<=(↑(a0.length):Int))) (
 .opt ((zgq (wW .i64 (↑(UInt8.toNat (List.getD a0 (1:Nat) (0:UInt8))):Int),(r3.1,(decide (wW .i64 (Int.tdiv r1.1 (16384:Int))=1),(decide (Int.tmod (wW .i64 (Int.tdiv r1.1 (8192:Int))) (2:Int)=(1:Int)),(Int.tmod r1.1 8192,(wW .i64 (↑(UInt8.toNat (List.getD a0 (8:Nat) (0:UInt8))):Int),(wW .i64 (↑(UInt8.toNat (List.getD a0 (9:Nat) (0:UInt8))):Int),(r4.1,(r5.1,(List.drop (20:Nat) (List.take (Int.toNat (wW .i64 ((4:Int)*Int.tmod (wW .i64 (↑(UInt8.toNat (List.getD a0 (0:Nat) (0:UInt8))):Int)) (16:Int)))) a0),(List.drop (Int.toNat (wW .i64 ((4:Int)*Int.tmod (wW .i64 (↑(UInt8.toNat (List.getD a0 (0:Nat) (0:UInt8))):Int)) (16:Int)))) (List.take (Int.toNat r0.1) a0),()))))))))))))) (fun r6 =>
 .ite (!decide (r6.2.1=0)) (.ret (0,(0,(false,(false,(0,(0,(0,(0,(0,([],([],(4,()))))))))))))) (.grd (decide ((0:Int)<=(0:Int)/\0<=wW .i64 ((4:Int)*Int.tmod (wW .i64 (↑(UInt8.toNat (List.getD a0 (0:Nat) (0:UInt8))):Int)) (16:Int))/\wW .i64 ((4:Int)*Int.tmod (wW .i64 (↑(UInt8.toNat (List.getD a0 (0:Nat) (0:UInt8))):Int)) (16:Int))<=(↑(a0.length):Int))) (
 .opt ((zec (0,(List.drop (0:Nat) (List.take (Int.toNat (wW .i64 ((4:Int)*Int.tmod (wW .i64 (↑(UInt8.toNat (List.getD a0 (0:Nat) (0:UInt8))):Int)) (16:Int)))) a0),())))) (fun r7 =>.ite (!decide (r7.1=65535)) (.ret (0,(0,(false,(false,(0,(0,(0,(0,(0,([],([],(5,()))))))))))))) (
 .ret (wW .i64 (↑(UInt8.toNat (List.getD a0 (1:Nat) (0:UInt8))):Int),(r3.1,(decide (wW .i64 (Int.tdiv r1.1 (16384:Int))=1),(decide (Int.tmod (wW .i64 (Int.tdiv r1.1 (8192:Int))) (2:Int)=(1:Int)),(Int.tmod r1.1 8192,(wW .i64 (↑(UInt8.toNat (List.getD a0 (8:Nat) (0:UInt8))):Int),(wW .i64 (↑(UInt8.toNat (List.getD a0 (9:Nat) (0:UInt8))):Int),(r4.1,(r5.1,(List.drop (20:Nat) (List.take (Int.toNat (wW .i64 ((4:Int)*Int.tmod (wW .i64 (↑(UInt8.toNat (List.getD a0 (0:Nat) (0:UInt8))):Int)) (16:Int)))) a0),(List.drop (Int.toNat (wW .i64 ((4:Int)*Int.tmod (wW .i64 (↑(UInt8.toNat (List.getD a0 (0:Nat) (0:UInt8))):Int)) (16:Int)))) (List.take (Int.toNat r0.1) a0),(0,()))))))))))))))))))))))))))))))))))))))))
noncomputable def gm85:List (PF Go.Proofs.Tryz.prog):=gm84++[FS.pf zfh]
def zd4 (x:((List UInt8)×Unit)):Option ty8_:=(zen x).eval
noncomputable def zff:FS Tryz.prog:=mFS gm85 [] 11 zug zuf zen fun x=>by kernel_rfl
end Go.Proofs.YthkhikdglmaiaaaGreatDoor.X
namespace Go.Proofs.YthkhikdglmaiaaaGreatDoor.Abs
set_option linter.unusedVariables false
theorem zvx {A B:Type} (tag:Nat) (f:A->Option (A⊕B)) (n:Nat) (a:A):zb2 tag f (n+1) a=match f a with | none=>none | some (.inl a')=>zb2 tag f n a' | some (.inr b)=>some b:=rfl
theorem zam {A B:Type} {tag:Nat} {f:A->Option (A⊕B)} {n:Nat} {a:A} {b:B} (h:f a=some (.inr b)):zb2 tag f (n+1) a=some b:=by rw [zvx,h]
theorem za2 {A B:Type} {tag:Nat} {f:A->Option (A⊕B)} {n:Nat} {a a':A} (h:f a=some (.inl a')):zb2 tag f (n+1) a=zb2 tag f n a':=by rw [zvx,h]

theorem zhab {A B:Type} {tag:Nat} {f:A->Option (A⊕B)} (P:A->Prop) (g:A->B) (μ:A->Nat)
  (h:∀ a,P a->f a=some (.inr (g a)) \/ ∃ a',f a=some (.inl a')/\P a'/\μ a' < μ a/\g a'=g a):∀ (n:Nat) (a:A),P a->μ a<n->zb2 tag f n a=some (g a):=by
 intro n
 induction n with
 | zero=>intro a _ hn; omega
 | succ n ih =>
  intro a ha hn
  rcases h a ha with e | ⟨a',e,h1,h2,h3⟩
  . exact zam e
  . rw [za2 e,ih a' h1 (by omega),h3]
theorem zkw {A B:Type} {tag:Nat} {f:A->Option (A⊕B)} (P:A->Prop) (Q:B->Prop) (μ:A->Nat)
  (h:∀ a,P a->(∃ b,f a=some (.inr b)/\Q b) \/ ∃ a',f a=some (.inl a')/\P a'/\μ a' < μ a):∀ (n:Nat) (a:A),P a->μ a<n -> ∃ b,zb2 tag f n a=some b/\Q b:=by
 intro n
 induction n with
 | zero=>intro a _ hn; omega
 | succ n ih =>
  intro a ha hn
  rcases h a ha with ⟨b,e,hb⟩ | ⟨a',e,h1,h2⟩
  . exact ⟨b,zam e,hb⟩
  . rw [za2 e]; exact ih a' h1 (by omega)
end Go.Proofs.YthkhikdglmaiaaaGreatDoor.Abs
namespace Go.Proofs.YthkhikdglmaiaaaGreatDoor.Bits
open Go
@[go_sem] theorem zn7b:IntKind.u8.signed=false:=rfl
@[go_sem] theorem zl8b:IntKind.u16.signed=false:=rfl
@[go_sem] theorem zl7b:IntKind.u32.signed=false:=rfl
@[go_sem] theorem zl6b:IntKind.u64.signed=false:=rfl
@[go_sem] theorem zl9b:IntKind.i64.signed=true:=rfl

theorem zei (w:Nat) (n:Nat) (h:n<2^w):(BitVec.ofInt w (n:Int)).toNat=n:=by
 rw [BitVec.ofInt_natCast,BitVec.toNat_ofNat]; exact Nat.mod_eq_of_lt h

theorem zht (k:IntKind) (n:Nat) (h:n<2^k.bits) (hs:k.signed=true->n<2^(k.bits-1)):k.wrap (n:Int)=(n:Int):=by
 have hb:(2:Int)^k.bits=((2^k.bits:Nat):Int):=by norm_cast
 have h2:(2:Nat)^k.bits=2^(k.bits-1)+2^(k.bits-1):=by cases k <;> rfl
 have hm:n%2^k.bits=n:=Nat.mod_eq_of_lt h
 unfold IntKind.wrap
 by_cases hk:k.signed=true
 . have:=hs hk
   cases k <;> simp_all [IntKind.bits,IntKind.signed] <;> omega
 . cases k <;> simp_all [IntKind.bits,IntKind.signed] <;> omega

theorem zkl (k:IntKind) (a b:Nat) (ha:a<2^k.bits) (hb:b<2^k.bits) (hs:k.signed=true->a<2^(k.bits-1)) :
  bits .and k (a:Int) (b:Int)=((a &&& b:Nat):Int):=by
 have h1:=zei k.bits a ha
 have h2:=zei k.bits b hb
 have h3:a &&& b<=a:=Nat.and_le_left
 show k.wrap ((BitVec.ofInt k.bits (a:Int) &&& BitVec.ofInt k.bits (b:Int)).toNat:Int)=_
 rw [BitVec.toNat_and,h1,h2]
 exact zht k _ (by omega) (fun h=>by have:=hs h; omega)

theorem zt0 (k:IntKind) (a b:Nat) (ha:a<2^k.bits) (hb:b<2^k.bits) (hs:k.signed=true->a<2^(k.bits-1)/\b<2^(k.bits-1)) :
  bits .or k (a:Int) (b:Int)=((a ||| b:Nat):Int):=by
 have h1:=zei k.bits a ha
 have h2:=zei k.bits b hb
 show k.wrap ((BitVec.ofInt k.bits (a:Int) ||| BitVec.ofInt k.bits (b:Int)).toNat:Int)=_
 rw [BitVec.toNat_or,h1,h2]
 exact zht k _ (Nat.or_lt_two_pow ha hb) (fun h=>Nat.or_lt_two_pow (hs h).1 (hs h).2)

theorem z1u (k:IntKind) (a b:Nat) (ha:a<2^k.bits) (hb:b<2^k.bits) (hs:k.signed=true->a<2^(k.bits-1)/\b<2^(k.bits-1)) :
  bits .xor k (a:Int) (b:Int)=((a ^^^ b:Nat):Int):=by
 have h1:=zei k.bits a ha
 have h2:=zei k.bits b hb
 show k.wrap ((BitVec.ofInt k.bits (a:Int) ^^^ BitVec.ofInt k.bits (b:Int)).toNat:Int)=_
 rw [BitVec.toNat_xor,h1,h2]
 exact zht k _ (Nat.xor_lt_two_pow ha hb) (fun h=>Nat.xor_lt_two_pow (hs h).1 (hs h).2)

theorem zdo (k:IntKind) (j:Nat) (x:Int) (h0:0<=x) (h1:x<2^k.bits) (hj:j<k.bits) (hs:k.signed=true->x<2^(k.bits-1)) :
  bits .and k x (2^j-1)=x%2^j:=by
 obtain ⟨n,rfl⟩:=Int.eq_ofNat_of_zero_le h0
 have e:((2:Int)^j-1)=((2^j-1:Nat):Int):=by
  rw [Int.ofNat_sub (Nat.one_le_two_pow)]; norm_cast
 have hlt:(2:Nat)^j<2^k.bits:=Nat.pow_lt_pow_right (by omega) hj
 have h1':n<2^k.bits:=by exact_mod_cast h1
 rw [e,zkl k n _ h1' (by omega) (fun h=>by exact_mod_cast hs h),Nat.and_two_pow_sub_one_eq_mod]
 norm_cast

theorem zbi (k:IntKind) (j:Nat) (x y:Int) (hx:0<=x) (hy:0<=y) (hy':y<2^j) (h1:x*2^j+y<2^k.bits) (hs:k.signed=true->x*2^j+y<2^(k.bits-1)) :
  bits .or k (x*2^j) y=x*2^j+y:=by
 obtain ⟨a,rfl⟩:=Int.eq_ofNat_of_zero_le hx
 obtain ⟨b,rfl⟩:=Int.eq_ofNat_of_zero_le hy
 have hb:b<2^j:=by exact_mod_cast hy'
 have e:((a:Int)*2^j)=((a*2^j:Nat):Int):=by norm_cast
 have h1':a*2^j+b<2^k.bits:=by exact_mod_cast h1
 have hs':k.signed=true->a*2^j+b<2^(k.bits-1):=fun h=>by exact_mod_cast hs h
 rw [e,zt0 k _ b (by omega) (by omega) (fun h=>by have:=hs' h; omega)]
 have:a*2^j ||| b=a*2^j+b:=by
  rw [<- Nat.shiftLeft_eq,Nat.shiftLeft_add_eq_or_of_lt hb]
 rw [this]; norm_cast

theorem z54 (k:IntKind) (x:Int) (hk:k.signed=false) (h0:0<=x) (h1:x<2^k.bits):bits .xor k (2^k.bits-1) x=2^k.bits-1-x:=by
 obtain ⟨n,rfl⟩:=Int.eq_ofNat_of_zero_le h0
 have hn:n<2^k.bits:=by exact_mod_cast h1
 have h2:=zei k.bits n hn
 have ho:BitVec.ofInt k.bits (2^k.bits-1)=BitVec.allOnes k.bits:=by
  apply BitVec.eq_of_toNat_eq
  have e:((2:Int)^k.bits-1)=((2^k.bits-1:Nat):Int):=by
   rw [Int.ofNat_sub (Nat.one_le_two_pow)]; norm_cast
  rw [e,zei _ _ (by omega),BitVec.toNat_allOnes]
 show k.wrap ((BitVec.ofInt k.bits (2^k.bits-1) ^^^ BitVec.ofInt k.bits (n:Int)).toNat:Int)=_
 rw [ho,BitVec.allOnes_xor,BitVec.toNat_not,h2,zht k _ (by omega) (fun h=>by rw [hk] at h; cases h)]
 rw [Nat.sub_sub,Int.ofNat_sub (by omega)]
 push_cast
 omega

theorem zj8b (x:Int) (h0:0<=x) (h1:x<=65535):bits .xor .u16 IntKind.u16.max x=65535-x:=z54 .u16 x rfl h0 (by show x<65536; omega)
theorem zj7b (x:Int) (h0:0<=x) (h1:x<=18446744073709551615):bits .xor .u64 IntKind.u64.max x=18446744073709551615-x:=z54 .u64 x rfl h0 (by show x<18446744073709551616; omega)

end Go.Proofs.YthkhikdglmaiaaaGreatDoor.Bits
namespace Go.Proofs.YthkhikdglmaiaaaGreatDoor.X
open Go Go.RowKit Go.Proofs.YthkhikdglmaiaaaGreatDoor.Abs Go.Proofs.YthkhikdglmaiaaaGreatDoor.Bits
set_option linter.unusedVariables false
set_option linter.unusedSimpArgs false
theorem zu9 (x:Int):IntKind.u8.wrap x=x%256:=by
 simp only [IntKind.wrap,IntKind.bits,IntKind.signed]
 simp
theorem zi9 (x:Int):IntKind.u16.wrap x=x%65536:=by
 simp only [IntKind.wrap,IntKind.bits,IntKind.signed]
 simp
theorem zhv (x:Int):IntKind.u32.wrap x=x%4294967296:=by
 simp only [IntKind.wrap,IntKind.bits,IntKind.signed]
 simp
theorem zdd (x:Int):IntKind.u64.wrap x=x%18446744073709551616:=by
 simp only [IntKind.wrap,IntKind.bits,IntKind.signed]
 simp
theorem zd7 (x:Int) {y:Int} (h:0<=y):x.fdiv y=x / y:=Int.fdiv_eq_ediv_of_nonneg _ h
theorem zktb (x:Int):x.fdiv ((2:Int)^(8:Nat))=x / 256:=zd7 x (by decide)
theorem zdhb (x:Int):x.fdiv ((2:Int)^(16:Nat))=x / 65536:=zd7 x (by decide)
theorem u8n (b:UInt8):b.toNat<256:=UInt8.toNat_lt b
def byteOf (x:Int):UInt8:=UInt8.ofNat (x%256).toNat
theorem zdx (x:Int):((byteOf x).toNat:Int)=x%256:=by
 unfold byteOf
 rw [UInt8.toNat_ofNat']; omega
theorem ziu (b:UInt8):byteOf (b.toNat:Int)=b:=by
 have h:=u8n b
 apply UInt8.toNat_inj.1
 have:=zdx (b.toNat:Int)
 omega
def wd (x:Int):List UInt8:=[byteOf (x / 256),byteOf x]
@[simp] theorem zi0b (x:Int):(wd x).length=2:=rfl
def wv (a b:UInt8):Int:=(a.toNat:Int)*256+(b.toNat:Int)
theorem zhs (a b:UInt8):0<=wv a b/\wv a b<=65535:=by
 have:=u8n a; have:=u8n b; unfold wv; omega
theorem zfvb (x:Int):wv (byteOf (x / 256)) (byteOf x)=x%65536:=by
 unfold wv; rw [zdx,zdx]; omega
theorem zpeb (a b:UInt8):wd (wv a b)=[a,b]:=by
 have h1:=u8n a; have h2:=u8n b
 have e1:byteOf (wv a b / 256)=a:=by
  rw [show wv a b / 256=(a.toNat:Int) by unfold wv; omega]; exact ziu a
 have e2:byteOf (wv a b)=b:=by
  apply UInt8.toNat_inj.1
  have:=zdx (wv a b)
  unfold wv at this ⊢; omega
 unfold wd; rw [e1,e2]
def wAt (l:List UInt8) (i:Nat):Int:=wv (l.getD i 0) (l.getD (i+1) 0)
theorem zac (l:List UInt8) (i:Nat):0<=wAt l i/\wAt l i<=65535:=zhs _ _
theorem zcd (l k:List UInt8) (i:Nat) (h:i+1<l.length):wAt (l++k) i=wAt l i:=by
 unfold wAt
 rw [List.getD_eq_getElem?_getD,List.getD_eq_getElem?_getD,List.getD_eq_getElem?_getD,List.getD_eq_getElem?_getD,List.getElem?_append_left (by omega),List.getElem?_append_left h]
theorem zhx (l k:List UInt8) (i:Nat) (h:l.length<=i):wAt (l++k) i=wAt k (i-l.length):=by
 unfold wAt
 rw [List.getD_eq_getElem?_getD,List.getD_eq_getElem?_getD,List.getD_eq_getElem?_getD,List.getD_eq_getElem?_getD,List.getElem?_append_right h,List.getElem?_append_right (by omega),show i+1-l.length=i-l.length+1 by omega]
def lAt (l:List UInt8) (i:Nat):Int:=wAt l i*65536+wAt l (i+2)
theorem z0s (l:List UInt8) (i:Nat):0<=lAt l i/\lAt l i<=4294967295:=by
 have:=zac l i; have:=zac l (i+2); unfold lAt; omega
def lg (x:Int):List UInt8:=wd (x / 65536)++wd x
@[simp] theorem zoob (x:Int):(lg x).length=4:=rfl
theorem zbwb (a b:UInt8):bits .or .i64 (IntKind.i64.wrap (IntKind.i64.wrap (a.toNat:Int)*(2:Int)^(8:Nat))) (IntKind.i64.wrap (b.toNat:Int))=wv a b:=by
 have h1:=u8n a; have h2:=u8n b
 have e1:IntKind.i64.wrap (a.toNat:Int)=a.toNat:=zag ⟨by omega,by omega⟩
 have e2:IntKind.i64.wrap (b.toNat:Int)=b.toNat:=zag ⟨by omega,by omega⟩
 have e3:IntKind.i64.wrap ((a.toNat:Int)*2^8)=(a.toNat:Int)*2^8:=zag ⟨by omega,by omega⟩
 rw [e1,e2,e3,zbi .i64 8 a.toNat b.toNat (by omega) (by omega) (by omega) (by show _<(2:Int)^64; omega) (fun _=>by show _<(2:Int)^63; omega)]
 unfold wv; omega
theorem zofb (a b:UInt8):bits .or .u64 (IntKind.u64.wrap (IntKind.u64.wrap (a.toNat:Int)*(2:Int)^(8:Nat))) (IntKind.u64.wrap (b.toNat:Int))=wv a b:=by
 have h1:=u8n a; have h2:=u8n b
 rw [zdd,zdd,zdd]
 have e1:((a.toNat:Int)%18446744073709551616*2^8)%18446744073709551616=(a.toNat:Int)*2^8:=by omega
 have e2:(b.toNat:Int)%18446744073709551616=b.toNat:=by omega
 rw [e1,e2,zbi .u64 8 a.toNat b.toNat (by omega) (by omega) (by omega) (by show _<(2:Int)^64; omega) (fun h=>by cases h)]
 unfold wv; omega
theorem zogb (a b:UInt8):bits .or .u16 (IntKind.u16.wrap (IntKind.u16.wrap (a.toNat:Int)*(2:Int)^(8:Nat))) (IntKind.u16.wrap (b.toNat:Int))=wv a b:=by
 have h1:=u8n a; have h2:=u8n b
 rw [zi9,zi9,zi9]
 have e1:((a.toNat:Int)%65536*2^8)%65536=(a.toNat:Int)*2^8:=by omega
 have e2:(b.toNat:Int)%65536=b.toNat:=by omega
 rw [e1,e2,zbi .u16 8 a.toNat b.toNat (by omega) (by omega) (by omega) (by show _<(2:Int)^16; omega) (fun h=>by cases h)]
 unfold wv; omega

def ws:List UInt8->Nat
 | []=>0
 | [a]=>a.toNat*256
 | a :: b :: r=>a.toNat*256+b.toNat+ws r
theorem zmr:∀ (l k:List UInt8),l.length%2=0->ws (l++k)=ws l+ws k
 | [],k,_=>by simp [ws]
 | [a],k,h=>by simp at h
 | a :: b :: r,k,h=>by
  have:=zmr r k (by simp at h; omega)
  simp only [List.cons_append,ws,this]; omega
theorem zfwb (x:Int):(ws (wd x):Int)=x%65536:=by
 have:=zfvb x
 unfold wv at this
 simp only [wd,ws]; omega
theorem z9w (x:Int) (l:List UInt8):(ws (wd x++l):Int)=x%65536+ws l:=by
 have h:=zmr (wd x) l (by simp); have:=zfwb x; omega
theorem zco (a b:UInt8) (r:List UInt8):(ws (a :: b :: r):Int)=wv a b+ws r:=by
 simp only [ws,wv]; omega
def ear (n:Nat):Nat:=if n=0 then 0 else (n-1)%65535+1
theorem zwh (n:Nat):ear n<=65535:=by unfold ear; split <;> omega
theorem zdzb (n:Nat) (h:n<=65535):ear n=n:=by unfold ear; split <;> omega
theorem zd1b (n:Nat):ear n%65535=n%65535:=by unfold ear; split <;> omega
theorem zq4 (n:Nat):ear n=65535↔(n≠0/\n%65535=0):=by unfold ear; split <;> omega
theorem zh1b (n:Nat):ear n=0↔n=0:=by unfold ear; split <;> omega
theorem zd0b (n:Nat):ear (n / 65536+n%65536)=ear n:=by unfold ear; split <;> split <;> omega
theorem zk1b (n m:Nat):ear (ear n+m)=ear (n+m):=by unfold ear; split <;> split <;> split <;> omega

theorem zaa {α β:Type} {o:Option β} {k:β->Tr α} {b:β} {r:Option α} (h:o=some b) (h2:(k b).eval=r):(Tr.opt o k).eval=r:=by rw [h]; exact h2
theorem ev_t {α:Type} {c:Bool} {t e:Tr α} {r:Option α} (h:c=true) (h2:t.eval=r):(Tr.ite c t e).eval=r:=by rw [h]; exact h2
theorem ev_f {α:Type} {c:Bool} {t e:Tr α} {r:Option α} (h:c=false) (h2:e.eval=r):(Tr.ite c t e).eval=r:=by rw [h]; exact h2
theorem ev_g {α:Type} {c:Bool} {t:Tr α} {r:Option α} (h:c=true) (h2:t.eval=r):(Tr.grd c t).eval=r:=by rw [h]; exact h2
theorem zi2 {α:Type} {c:Bool} {t e:Tr α} {r:Option α} (h1:c=true->t.eval=r) (h2:c=false->e.eval=r):(Tr.ite c t e).eval=r:=by
 cases c
 . exact h2 rfl
 . exact h1 rfl
theorem ev_r {α:Type} {a b:α} (h:a=b):(Tr.ret a).eval=some b:=by rw [h]; rfl

theorem z9x:∀ (l:List UInt8) (i:Nat) (b:UInt8),i<l.length->(ws (l.set i b):Int)=ws l+((b.toNat:Int)-((l.getD i 0).toNat:Int))*(if i%2=0 then 256 else 1)
 | [a],0,b,_=>by simp [ws]; omega
 | a :: c :: r,0,b,_=>by simp [ws]; omega
 | a :: c :: r,1,b,_=>by simp [ws]; omega
 | a :: c :: r,i+2,b,h=>by
  have:=z9x r i b (by simp at h; omega)
  have e1:(a :: c :: r).set (i+2) b=a :: c :: r.set i b:=rfl
  have e2:(a :: c :: r).getD (i+2) 0=r.getD i 0:=rfl
  rw [e1,e2]
  simp only [ws]
  rw [show (i+2)%2=i%2 by omega]
  omega
 | [a],i+1,b,h=>by simp at h
 | [],i,b,h=>by simp at h
def hit {T:Type} (p:T->Bool):List T->Option (Nat×T)
 | []=>none
 | x :: r=>match p x with
  | true=>some (0,x)
  | false=>(hit p r).map fun q=>(q.1+1,q.2)
theorem zdp {T:Type} {p:T->Bool}:∀ {l:List T} {i:Nat} {x:T},hit p l=some (i,x)->l[i]?=some x/\p x=true
 | [],i,x,h=>by cases h
 | y :: r,i,x,h=>by
  simp only [hit] at h
  split at h
  . rename_i e; cases h; exact ⟨rfl,e⟩
  . obtain ⟨q,hq,e⟩:=Option.map_eq_some_iff.1 h
    cases e
    obtain ⟨h1,h2⟩:=zdp (x:=q.2) (i:=q.1) hq
    exact ⟨by simpa using h1,h2⟩
theorem zcb {T:Type} {p:T->Bool}:∀ {l:List T},hit p l=none ↔ ∀ x∈l,p x=false
 | []=>by simp [hit]
 | y :: r=>by
  simp only [hit,List.mem_cons,forall_eq_or_imp]
  cases e:p y with
  | true=>simp
  | false=>simp [zcb (l:=r)]
theorem zio {T:Type} (p:T->Bool):∀ (a b:List T),hit p (a++b)=(hit p a).or ((hit p b).map fun q=>(q.1+a.length,q.2))
 | [],b=>by simp [hit]
 | x :: a,b=>by
  simp only [List.cons_append,hit,zio p a b]
  cases p x with
  | true=>rfl
  | false =>
   cases h1:hit p a with
   | some q=>rfl
   | none =>
    cases h2:hit p b with
    | none=>rfl
    | some q=>simp [Nat.add_assoc,Nat.add_comm]
theorem zhn {T:Type} {p:T->Bool} {l:List T} {i:Nat} {x:T} (h:hit p l=some (i,x)):i<l.length:=by
 have:=(zdp h).1
 exact (List.getElem?_eq_some_iff.1 this).1
def fst {T:Type} (p:T->Bool) (l:List T):Option T:=(hit p l).map (·.2)
theorem z3v {T:Type} (p:T->Bool) (a b:List T):fst p (a++b)=(fst p a).or (fst p b):=by
 unfold fst
 rw [zio]
 cases hit p a <;> simp [Function.comp_def]
theorem z5q {T:Type} (p:T->Bool) (x:T) (l:List T):fst p (x :: l)=match p x with | true=>some x | false=>fst p l:=by
 unfold fst
 simp only [hit]
 cases p x <;> simp [Function.comp_def]

theorem za1 {A B T:Type} {tag:Nat} {f:A->Option (A⊕B)} {l:List T} (st:Nat->A) (p:T->Bool) (out:Option (Nat×T)->B)
  (h1:∀ (i:Nat) (x:T),l[i]?=some x->f (st i)=match p x with | true=>some (.inr (out (some (i,x)))) | false=>some (.inl (st (i+1))))
  (h2:f (st l.length)=some (.inr (out none))) (n:Nat) (hn:l.length<n):zb2 tag f n (st 0)=some (out (hit p l)):=by
 have key:∀ (r:List T) (k n:Nat),l.drop k=r->k<=l.length->r.length<n->zb2 tag f n (st k)=some (out ((hit p r).map fun q=>(q.1+k,q.2))):=by
  intro r
  induction r with
  | nil =>
   intro k n hk hle hn
   obtain ⟨n,rfl⟩:∃ m,n=m+1:=⟨n-1,by simp at hn; omega⟩
   have:k=l.length:=by have:=congrArg List.length hk; simp at this; omega
   subst this
   exact zam h2
  | cons x r ih =>
   intro k n hk hle hn
   obtain ⟨n,rfl⟩:∃ m,n=m+1:=⟨n-1,by simp at hn; omega⟩
   have hx:l[k]?=some x:=by have:=congrArg (·[0]?) hk; simpa using this
   have hk2:l.drop (k+1)=r:=by rw [<- List.drop_drop,hk]; rfl
   have:=h1 k x hx
   simp only [hit]
   cases hp:p x with
   | true=>rw [hp] at this; rw [zam this]; simp
   | false =>
    rw [hp] at this
    have hlt:=(List.getElem?_eq_some_iff.1 hx).1
    rw [za2 this,ih (k+1) n hk2 (by omega) (by simp at hn; omega)]
    cases hit p r with
    | none=>rfl
    | some q=>simp only [Option.map_some]; rw [show q.1+(k+1)=q.1+1+k by omega]
 have:=key l 0 n rfl (by omega) hn
 rw [this]
 cases hit p l <;> rfl
theorem zcbb {A B S T:Type} {tag:Nat} {f:A->Option (A⊕B)} {l:List T} (st:Nat->S->A) (I:Nat->S->Prop) (g:S->T->S) (out:S->B)
  (h1:∀ (i:Nat) (x:T) (s:S),l[i]?=some x->I i s->f (st i s)=some (.inl (st (i+1) (g s x)))/\I (i+1) (g s x))
  (h2:∀ s,I l.length s->f (st l.length s)=some (.inr (out s))) (n:Nat) (s:S) (hs:I 0 s) (hn:l.length<n):zb2 tag f n (st 0 s)=some (out (l.foldl g s))/\I l.length (l.foldl g s):=by
 have key:∀ (r:List T) (k n:Nat) (s:S),l.drop k=r->k<=l.length->r.length<n->I k s->zb2 tag f n (st k s)=some (out (r.foldl g s))/\I l.length (r.foldl g s):=by
  intro r
  induction r with
  | nil =>
   intro k n s hk hle hn hi
   obtain ⟨n,rfl⟩:∃ m,n=m+1:=⟨n-1,by simp at hn; omega⟩
   have:k=l.length:=by have:=congrArg List.length hk; simp at this; omega
   subst this
   exact ⟨zam (h2 s hi),hi⟩
  | cons x r ih =>
   intro k n s hk hle hn hi
   obtain ⟨n,rfl⟩:∃ m,n=m+1:=⟨n-1,by simp at hn; omega⟩
   have hx:l[k]?=some x:=by have:=congrArg (·[0]?) hk; simpa using this
   have hk2:l.drop (k+1)=r:=by rw [<- List.drop_drop,hk]; rfl
   obtain ⟨e,hi'⟩:=h1 k x s hx hi
   have hlt:=(List.getElem?_eq_some_iff.1 hx).1
   rw [za2 e]
   exact ih (k+1) n (g s x) hk2 (by omega) (by simp at hn; omega) hi'
 exact key l 0 n s rfl (by omega) hn hs

theorem zk6 (b x:Bool):(cond b (some (x,())) (some (false,())):Option (Bool×Unit))=some (b&&x,()):=by cases b <;> rfl
theorem zlxb (a b x:Bool):(cond a (some (x,())) (some (b&&x,())):Option (Bool×Unit))=some ((a || b)&&x,()):=by cases a <;> rfl
theorem zax (i:Nat) (h:(i:Int)+1<9223372036854775808):IntKind.wrap IntKind.i64 ((i:Int)+(1:Int))=((i+1:Nat):Int):=by
 have:=zht .i64 (i+1) (by show i+1<2^64; omega) (fun _=>by show i+1<2^63; omega)
 simpa using this
theorem zni (i:Nat) (h:0<i) (h2:i<9223372036854775808):IntKind.wrap IntKind.i64 ((i:Int)-(1:Int))=((i-1:Nat):Int):=by
 have:=zht .i64 (i-1) (by show i-1<2^64; omega) (fun _=>by show i-1<2^63; omega)
 rw [<- this]; congr 1; omega
theorem del_eq {α:Type} (l:List α) (i j:Nat) (hij:i<=j) (hj:j<=l.length) (X Y Z:List α) :
  List.take (i+(List.take (l.length-j) (List.drop j l)).length) (List.take (i+(List.take (l.length-j) (List.drop j l)).length) (List.take i l++List.take (l.length-j) (List.drop j l)++X)++Y++Z)=l.take i++l.drop j:=by
 have hB:List.take (l.length-j) (List.drop j l)=List.drop j l:=List.take_of_length_le (by simp)
 rw [hB]
 have hl:(List.take i l++List.drop j l).length=i+(List.drop j l).length:=by simp; omega
 rw [<- hl,List.take_left' rfl,List.append_assoc,List.take_left' rfl]
end Go.Proofs.YthkhikdglmaiaaaGreatDoor.X
namespace Go.Proofs.YthkhikdglmaiaaaGreatDoor.Abs
open Go Go.RowKit Go.Proofs.YthkhikdglmaiaaaGreatDoor.Read
set_option linter.unusedVariables false
def z9l (Q:TypeId->List D->Prop):List TypeId->List D->Prop
 | [],ds=>ds=[]
 | t :: r,ds=>∃ a b,ds=a++b/\Q t a/\z9l Q r b

def Sh (P:Program):Nat->TypeId->List D->Prop
 | 0,_,_=>False
 | n+1,t,ds=>match P.underlying t with
  | some .bool=>∃ b,ds=[.b b]
  | some (.int k)=>∃ x,ds=[.i k x]/\k.min<=x/\x<=k.max
  | some .string=>∃ l:List UInt8,ds=[.s l]/\l.length<=140737488351232
  | some (.struct fs)=>z9l (Sh P n) (fs.toList.map (·.type)) ds
  | some (.array m e)=>z9l (Sh P n) (List.replicate m e) ds
  | some (.slice e)=>∃ rows,ds=[.sl (P.cellsOf e) rows]/\rows.length<=maxLen/\rows.length*P.bytesOf e<=140737488351232 /\ ∀ r∈rows,Sh P n e r
  | _=>False

def z1m (P:Program):List Field->Nat->Option Nat
 | [],o=>some o
 | f :: r,o=>if f.offset=o then z1m P r (o+P.cellsOf f.type) else none

def okT (P:Program):Nat->TypeId->Bool
 | 0,_=>false
 | n+1,t=>match P.underlying t with
  | some .bool | some (.int _) | some .string=>true
  | some (.struct fs)=>z1m P fs.toList 0==some (P.cellsOf t)&&fs.toList.all (fun f=>okT P n f.type)
  | some (.array m e)=>P.cellsOf t==m*P.cellsOf e&&okT P n e
  | some (.slice e)=>decide (0<P.cellsOf e)&&okT P n e
  | _=>false

def RepAll (w:World) (U:Nat->Prop):List Value->List D->Prop
 | [],[]=>True
 | v :: r,d :: q=>RepI w U v d/\RepAll w U r q
 | _,_=>False
theorem RepAll.length {w:World} {U:Nat->Prop}:∀ {l:List Value} {q:List D},RepAll w U l q->l.length=q.length
 | [],[],_=>rfl
 | v :: r,d :: q,h=>by simp [RepAll.length h.2]
 | [],d :: q,h=>h.elim
 | v :: r,[],h=>h.elim
theorem RepAll.app {w:World} {U:Nat->Prop}:∀ {l l2:List Value} {q q2:List D},RepAll w U l q->RepAll w U l2 q2->RepAll w U (l++l2) (q++q2)
 | [],l2,[],q2,_,h2=>h2
 | v :: r,l2,d :: q,q2,h,h2=>⟨h.1,RepAll.app h.2 h2⟩
 | [],l2,d :: q,q2,h,h2=>h.elim
 | v :: r,l2,[],q2,h,h2=>h.elim
theorem RepAll.at {w:World} {U:Nat->Prop}:∀ {l:List Value} {q:List D},RepAll w U l q -> ∀ (j:Nat) v d,l[j]?=some v->q[j]?=some d->RepI w U v d
 | v :: r,d :: q,h,0,v',d',h1,h2=>by simp at h1 h2; subst h1; subst h2; exact h.1
 | v :: r,d :: q,h,j+1,v',d',h1,h2=>RepAll.at h.2 j v' d' (by simpa using h1) (by simpa using h2)
 | [],[],h,j,v',d',h1,h2=>by simp at h1
 | [],d :: q,h,j,v',d',h1,h2=>h.elim
 | v :: r,[],h,j,v',d',h1,h2=>h.elim

theorem zvl {P:Program} {w:World} {U:Nat->Prop} {cs:List Value} {n:Nat} (ih:∀ t l,okT P n t=true->Rd P w t l -> ∃ ds,RepAll w U l ds/\Sh P n t ds) :
  ∀ (fs:List Field) (o tot:Nat),z1m P fs o=some tot->tot=cs.length->(∀ f∈fs,okT P n f.type=true/\Rd P w f.type ((cs.drop f.offset).take (P.cellsOf f.type))) ->
    ∃ ds,RepAll w U (cs.drop o) ds/\z9l (Sh P n) (fs.map (·.type)) ds
 | [],o,tot,h,ht,_=>by
  simp only [z1m,Option.some.injEq] at h
  subst h; subst ht
  exact ⟨[],by simp [RepAll],rfl⟩
 | f :: r,o,tot,h,ht,hf=>by
  unfold z1m at h
  split at h
  . rename_i e
    obtain ⟨h1,h2⟩:=hf f List.mem_cons_self
    obtain ⟨d1,k1,k2⟩:=ih _ _ h1 h2
    obtain ⟨d2,k3,k4⟩:=zvl ih r _ tot h ht fun g hg=>hf g (List.mem_cons_of_mem _ hg)
    refine ⟨d1++d2,?_,d1,d2,rfl,k2,k4⟩
    have:=k1.app k3
    rw [e,<- List.drop_drop,List.take_append_drop] at this
    exact this
  . cases h

theorem z1x {P:Program} {w:World} {U:Nat->Prop} {cs:List Value} {n:Nat} {e:TypeId} (ih:∀ l,Rd P w e l -> ∃ ds,RepAll w U l ds/\Sh P n e ds) :
  ∀ (m k:Nat),(k+m)*P.cellsOf e=cs.length->(∀ i,i<k+m->Rd P w e ((cs.drop (i*P.cellsOf e)).take (P.cellsOf e))) ->
   ∃ ds,RepAll w U (cs.drop (k*P.cellsOf e)) ds/\z9l (Sh P n) (List.replicate m e) ds
 | 0,k,h,_=>⟨[],by rw [List.drop_eq_nil_of_le (by rw [<- h]; exact Nat.le_refl _)]; trivial,rfl⟩
 | m+1,k,h,hf=>by
  obtain ⟨d1,k1,k2⟩:=ih _ (hf k (by omega))
  obtain ⟨d2,k3,k4⟩:=z1x ih m (k+1) (by rw [<- h]; congr 1; omega) fun i hi=>hf i (by omega)
  refine ⟨d1++d2,?_,d1,d2,rfl,k2,k4⟩
  have:=k1.app k3
  rw [show (k+1)*P.cellsOf e=k*P.cellsOf e+P.cellsOf e by rw [Nat.succ_mul],<- List.drop_drop,List.take_append_drop] at this
  exact this


theorem ze8b {k:IntKind} {x:Int} (h:(Lit.int k x).wf=true):k.min<=x/\x<=k.max:=by
 cases k <;> (simp only [Lit.wf,Bool.and_eq_true,decide_eq_true_eq] at h; exact h)

theorem z4x {P:Program} {w:World} {U:Nat->Prop} (hU:∀ b,b<w.heap.size->U b):∀ (n:Nat) (t:TypeId) (cs:List Value),okT P n t=true->Rd P w t cs -> ∃ ds,RepAll w U cs ds/\Sh P n t ds
 | 0,t,cs,h,_=>by simp [okT] at h
 | n+1,t,cs,h,hr=>by
  unfold okT at h
  split at h
  . rename_i ht
    obtain ⟨b,rfl⟩:=hr.bool ht
    simp only [Sh,ht]
    exact ⟨[.b b],⟨.b b,trivial⟩,b,rfl⟩
  . rename_i k ht
    obtain ⟨x,rfl,hx⟩:=hr.int ht
    simp only [Sh,ht]
    exact ⟨[.i k x],⟨.i k x,trivial⟩,x,rfl,ze8b hx⟩
  . rename_i ht
    obtain ⟨s,rfl,hs⟩:=hr.string ht
    simp only [Sh,ht]
    refine ⟨[.s s.data.toList],⟨?_,trivial⟩,_,rfl,by rw [Array.length_toList]; exact hs⟩
    exact RepI.s s.data.toList
  . rename_i fs ht
    simp only [Sh,ht]
    simp only [Bool.and_eq_true,beq_iff_eq,List.all_eq_true] at h
    obtain ⟨hl,hf⟩:=hr.struct ht
    obtain ⟨ds,h1,h2⟩:=zvl (U:=U) (n:=n) (fun t l=>z4x hU n t l) fs.toList 0 _ h.1 hl.symm fun f hf'=>by
      obtain ⟨i,hi,rfl⟩:=List.getElem_of_mem hf'
      exact ⟨h.2 _ (List.getElem_mem _),hf i _ (by simp)⟩
    exact ⟨ds,h1,h2⟩
  . rename_i m e ht
    simp only [Sh,ht]
    simp only [Bool.and_eq_true,beq_iff_eq] at h
    obtain ⟨hl,hf⟩:=hr.array ht
    obtain ⟨ds,h1,h2⟩:=z1x (U:=U) (n:=n) (fun l=>z4x hU n e l h.2) m 0 (by rw [hl,h.1,Nat.zero_add]) fun i hi=>hf i (by omega)
    exact ⟨ds,by simpa using h1,h2⟩
  . rename_i e ht
    simp only [Sh,ht]
    obtain ⟨a,len,cap,rfl,hlc,hcm,hcb,hn,hx⟩:=hr.slice ht
    have hb:∀ l:Nat,l<=cap->l*P.bytesOf e<=140737488351232:=fun l hl=>Nat.le_trans (Nat.mul_le_mul_right _ hl) hcb
    by_cases h0:len=0
    . subst h0
      exact ⟨[.sl (P.cellsOf e) []],⟨.nil a cap _ hn,trivial⟩,[],rfl,by simp,by simp,by simp⟩
    . cases a with
      | none=>have:=hn rfl; omega
      | some x =>
       obtain ⟨vals,hvl,hv⟩:=ztk (P:=fun i (p:List Value×List D)=>w.cells? 0 (x.add (i*P.cellsOf e)) (P.cellsOf e)=some p.1/\RepAll w U p.1 p.2/\Sh P n e p.2) len fun i hi=>by
         obtain ⟨row,h1,h2⟩:=hx x rfl i (by omega)
         obtain ⟨ds,h3,h4⟩:=z4x hU n e row (by simp at h; exact h.2) h2
         exact ⟨(row,ds),h1,h3,h4⟩
       refine ⟨[.sl (P.cellsOf e) (vals.map (·.2))],⟨?_,trivial⟩,_,rfl,by simp; omega,by simp only [List.length_map,hvl]; exact hb len hlc,?_⟩
       . by_cases hz:P.cellsOf e=0
         . simp [hz] at h
         . have hx0:=hv 0 (by omega)
           obtain ⟨q1,q2⟩:=zyj hx0.1
           obtain ⟨q3,q4⟩:=za4b (q2 0 (by omega))
           obtain ⟨b,o,sp⟩:=x
           have hsp:sp=none/\b<w.heap.size:=by
             rw [Nat.zero_mul] at q3 q4
             unfold Addr.add at q3 q4
             simp at q3 q4
             exact ⟨q3,q4⟩
           obtain ⟨rfl,hb2⟩:=hsp
           have:=RepI.sl (w:=w) (U:=U) b o cap (P.cellsOf e) (vals.map (·.2)) (fun i j=>((vals[i]?).bind fun p=>p.1[j]?).getD undef) (hU b hb2)
           rw [List.length_map,hvl] at this
           refine this ?_ hlc ?_ ?_
           . intro r hr'
             obtain ⟨p,hp,rfl⟩:=List.mem_map.1 hr'
             obtain ⟨i,hi,rfl⟩:=List.getElem_of_mem hp
             rw [<- (hv i hi).2.1.length,(zyj (hv i hi).1).1]
           . intro i j r d h1 h2
             rw [List.getElem?_map,Option.map_eq_some_iff] at h1
             obtain ⟨p,hp,rfl⟩:=h1
             obtain ⟨hi,rfl⟩:=List.getElem?_eq_some_iff.1 hp
             obtain ⟨k1,k2,k3⟩:=hv i hi
             obtain ⟨m1,m2⟩:=zyj k1
             obtain ⟨hj,-⟩:=List.getElem?_eq_some_iff.1 h2
             have hj':j<(vals[i]).1.length:=by rw [k2.length]; exact hj
             have:=m2 j hj'
             rw [z56,z56] at this
             rw [hp]
             simp only [Option.bind_some]
             rw [List.getElem?_eq_getElem hj',Option.getD_some]
             exact this
           . intro i j r d h1 h2
             rw [List.getElem?_map,Option.map_eq_some_iff] at h1
             obtain ⟨p,hp,rfl⟩:=h1
             obtain ⟨hi,rfl⟩:=List.getElem?_eq_some_iff.1 hp
             obtain ⟨k1,k2,k3⟩:=hv i hi
             obtain ⟨hj,-⟩:=List.getElem?_eq_some_iff.1 h2
             have hj':j<(vals[i]).1.length:=by rw [k2.length]; exact hj
             rw [hp]
             simp only [Option.bind_some]
             rw [List.getElem?_eq_getElem hj',Option.getD_some]
             exact k2.at j _ d (List.getElem?_eq_getElem hj') h2
       . intro r hr'
         obtain ⟨p,hp,rfl⟩:=List.mem_map.1 hr'
         obtain ⟨i,hi,rfl⟩:=List.getElem_of_mem hp
         exact (hv i hi).2.2
  . cases h

def RepArgs (w:World) (us:List Value) (ys:List V):Prop:=us.length=ys.length /\ ∀ (j:Nat) u y,us[j]?=some u->ys[j]?=some y->RepV w (fun _=>none) (fun b=>b<w.heap.size) w.heap.size u y
theorem RepArgs.nil {w:World}:RepArgs w [] []:=⟨rfl,fun j u y h=>by simp at h⟩
theorem RepArgs.cons {w:World} {u:Value} {y:V} {us:List Value} {ys:List V} (h:RepV w (fun _=>none) (fun b=>b<w.heap.size) w.heap.size u y) (hr:RepArgs w us ys):RepArgs w (u :: us) (y :: ys):=by
 refine ⟨by simp [hr.1],fun j u' y' h1 h2=>?_⟩
 cases j with
 | zero=>simp at h1 h2; subst h1; subst h2; exact h
 | succ j=>exact hr.2 j u' y' (by simpa using h1) (by simpa using h2)

theorem RepArgs.agg {w:World} {cs:Array Value} {ds:List D} {us:List Value} {ys:List V} (h:RepAll w (fun b=>b<w.heap.size) cs.toList ds) (hr:RepArgs w us ys):RepArgs w (.agg cs :: us) (.agg (ds.map C.d) :: ys):=by
 refine hr.cons ?_
 have:=RepV.agg (w:=w) (β:=fun _=>none) (U:=fun b=>b<w.heap.size) (base:=w.heap.size) cs.toList (ds.map C.d) (by rw [h.length,List.length_map]) ?_ ?_
 . exact this
 . intro u hu
   obtain ⟨j,hj,rfl⟩:=List.getElem_of_mem hu
   have hj2:j<ds.length:=by rw [<- h.length]; exact hj
   exact (h.at j _ _ (List.getElem?_eq_getElem hj) (List.getElem?_eq_getElem hj2)).oneCell
 . intro j u c hu hc
   rw [List.getElem?_map,Option.map_eq_some_iff] at hc
   obtain ⟨d,hd,rfl⟩:=hc
   exact h.at j u d hu hd
theorem RepArgs.one {w:World} {v:Value} {d:D} {us:List Value} {ys:List V} (h:RepI w (fun b=>b<w.heap.size) v d) (hr:RepArgs w us ys):RepArgs w (v :: us) (vd d :: ys):=hr.cons (.one _ _ h)
theorem RepArgs.s {w:World} {s:ByteArray} {us:List Value} {ys:List V} (hr:RepArgs w us ys):RepArgs w (.string s :: us) (Abs.vs s.data.toList :: ys):=hr.one (.s s.data.toList)
theorem RepArgs.i {w:World} {k:IntKind} {n:Int} {us:List Value} {ys:List V} (hr:RepArgs w us ys):RepArgs w (.int k n :: us) (vi k n :: ys):=hr.one (.i k n)
theorem RepArgs.b {w:World} {x:Bool} {us:List Value} {ys:List V} (hr:RepArgs w us ys):RepArgs w (.bool x :: us) (vb x :: ys):=hr.one (.b x)

theorem zknb {w:World} (h:∀ e∈globs,∃ x y,w.heap[e.1]?=some (.cells e.2 x y)) (h2:∀ g∈gints,g<w.heap.size /\ ∃ m,w.cell? ⟨g,0,none⟩=some (.int .i64 m)):Glob (fun b=>b<w.heap.size) w:=by
 refine ⟨fun e he=>?_,h2⟩
 obtain ⟨x,y,hx⟩:=h e he
 exact ⟨(Array.getElem?_eq_some_iff.1 hx).1,x,y,hx⟩
theorem zcfb {P:Program} {f:FuncId} {ys:List V} {w:World} {us:Array Value} (h:AFn P f ys (vb true)) (hr:RepArgs w us.toList ys) (hn:decide (ys.length<=900)=true) (hgl:Glob (fun b=>b<w.heap.size) w):Calls P f us w fun e w'=>e=.returned (.bool true)/\Below w.heap.size w w':=by
 have h0:SimB w (fun b=>b<w.heap.size) (fun _ _=>False) (fun _=>none) (fun _=>none) (fun b=>b<w.heap.size) ⟨ys.length,zby 0 ys,[]⟩ ⟨us,[]⟩ w:=by
  refine { n:=by simpa using hr.1,small:=of_decide_eq_true hn,args:=fun _ _=>rfl,ver0:=(fun k v ver e=>by cases e),hist:=(fun k p e=>by cases e),defers:=rfl,env:=fun t=>?_,mem:=(fun k b e=>by cases e),dom:=(fun k p e=>by cases e),apart:=(fun k p b e=>by cases e),inj:=(fun k k' p p' b b' x j _ e=>by cases e),stab:=fun b h=>h,glob:=hgl,old:=fun b h=>h,new:=fun b h _=>h,chg:=Chg.refl _ _ _,may:=(fun k p b c j e=>by cases e) }
  show RepV _ _ _ _ _ ((look t (zby 0 ys)).getD (.one .bad))
  rw [zj1,if_pos (Nat.zero_le _),Nat.sub_zero]
  cases hy:ys[t]? with
  | none=>exact .one _ _ trivial
  | some y =>
   have ht:t<ys.length:=(List.getElem?_eq_some_iff.1 hy).1
   have ht2:t<us.toList.length:=by rw [hr.1]; exact ht
   have:=hr.2 t _ y (List.getElem?_eq_getElem ht2) hy
   have e:us.getD t undef=us.toList[t]:=by simp only [Array.length_toList] at ht2; simp [Array.getD,ht2]
   rw [e]; exact this
 refine (h w _ _ _ us h0).mono ?_
 rintro e w' ⟨v,r,m',rfl,⟨rfl,rfl⟩,β,U,hs⟩
 have:=hs.env 0
 refine ⟨?_,hs.chg.below fun _ _ h=>h⟩
 have e:(⟨1,[(0,vb true)],[]⟩:St).get 0=vb true:=rfl
 rw [e] at this
 have hv:=this.bool
 simp at hv
 subst hv; rfl
def PD.same:PD->PD->Bool
 | .i k,.i k'=>decide (k=k')
 | .b,.b=>true
 | .s,.s=>true
 | .st c,.st c'=>Nat.beq c c'
 | _,_=>false
def zxw:List PD->List PD->Bool
 | [],[]=>true
 | p :: ps,q :: qs=>p.same q&&zxw ps qs
 | _,_=>false
theorem same_eq {p q:PD} (h:p.same q=true):p=q:=by
 cases p <;> cases q <;> first | rfl | (cases h; done) | (simp only [PD.same,decide_eq_true_eq] at h; rw [h]) | exact congrArg PD.st (Nat.eq_of_beq_eq_true h)
theorem zvt:∀ {l m:List PD},zxw l m=true->l=m
 | [],[],_=>rfl
 | p :: ps,q :: qs,h=>by
  simp only [zxw,Bool.and_eq_true] at h
  rw [same_eq h.1,zvt h.2]
 | [],_ :: _,h=>by cases h
 | _ :: _,[],h=>by cases h
def pdsE:Nat->List PD
 | 0=>[.i .i64]
 | 1=>[.b]
 | 2=>[.i .u8]
 | 3=>[.s]
 | 4=>[.i .i64,.s]
 | 5=>[.i .i64,.s,.b]
 | 6=>[.i .u32,.i .u32,.i .i64,.i .i64,.i .i64,.i .i64,.s,.st 5]
 | 7=>[.b,.i .u64,.i .i64]
 | 8=>[.i .i64,.i .i64]
 | 9=>[.i .i64,.i .i64,.b,.i .i64]
 | 10=>[.i .u32,.i .i64,.i .u32,.i .i64,.i .i64,.i .i64,.i .i64,.i .i64,.i .i64,.b]
 | 11=>[.i .i64,.i .i64]
 | 12=>[.i .i64,.i .i64,.st 0]
 | 13=>[.i .i64,.i .i64]
 | 14=>[.i .i64,.i .i64]
 | 15=>[.i .u8,.i .u8,.i .u8,.i .u8,.i .u8,.i .u8,.i .i64,.i .i64]
 | 16=>[.i .u32,.i .u32,.i .i64,.i .i64,.i .i64,.i .i64,.i .i64]
 | 17=>[.i .i64,.i .u32,.i .i64,.i .i64,.i .i64]
 | 18=>[.i .u32,.i .u32,.i .i64,.i .i64,.i .u32,.i .u32,.i .u32,.b,.i .i64]
 | 19=>[.i .u32,.i .i64,.i .i64,.i .i64,.i .i64]
 | 20=>[.i .i64,.i .i64,.b,.b,.i .i64,.i .i64,.i .i64,.i .u32,.i .u32,.s,.s]
 | 21=>[.i .u32,.i .i64]
 | 22=>[.st 0]
 | 23=>[.i .i64,.i .i64,.i .u32,.i .u32,.i .i64,.i .i64,.i .i64,.st 4,.s]
 | 24=>[.b,.s,.i .i64]
 | 25=>[.s,.i .i64,.i .i64]
 | 26=>[.i .u32,.i .u32,.i .i64,.i .i64]
 | 27=>[.i .u64]
 | 28=>[.i .u32]
 | _=>[]
def bsz:Nat->Nat
 | 0=>8
 | 1=>1
 | 2=>1
 | 3=>16
 | 4=>24
 | 5=>32
 | 6=>80
 | 7=>24
 | 8=>16
 | 9=>32
 | 10=>80
 | 11=>16
 | 12=>40
 | 13=>16
 | 14=>16
 | 15=>24
 | 16=>48
 | 17=>40
 | 18=>48
 | 19=>40
 | 20=>88
 | 21=>16
 | 22=>24
 | 23=>88
 | 24=>32
 | 25=>32
 | 26=>24
 | 27=>8
 | 28=>4
 | _=>0
theorem zo3b:∀ (c:Nat) (x:PdsT (pdsE c) Unit),c<29->(∀ d∈(zcc (pdsE c) x).1,c=2 -> ∃ n:Int,d=.i .u8 n/\0<=n/\n<=255) -> ∃ t:τ c,enc c t=(zcc (pdsE c) x).1:=by
 intro c x hc hb
 match c,x,hc,hb with
 | 0,(x0,()),_,_=>exact ⟨x0,rfl⟩
 | 1,(x0,()),_,_=>exact ⟨x0,rfl⟩
 | 2,(n,()),_,hb =>
  obtain ⟨m,h1,h2,h3⟩:=hb (.i .u8 n) (show D.i .u8 n∈[D.i .u8 n] from List.mem_singleton.2 rfl) rfl
  cases h1
  refine ⟨UInt8.ofNat n.toNat,?_⟩
  have e:(UInt8.ofNat n.toNat).toNat=n.toNat:=by rw [UInt8.toNat_ofNat']; omega
  show [D.i .u8 ((UInt8.ofNat n.toNat).toNat:Int)]=[D.i .u8 n]
  rw [e]; congr 2; omega
 | 3,(x0,()),_,_=>exact ⟨x0,rfl⟩
 | 4,(x0,x1,()),_,_=>exact ⟨TOption.mk x0 x1,rfl⟩
 | 5,(x0,x1,x2,()),_,_=>exact ⟨TPart.mk x0 x1 x2,rfl⟩
 | 6,(x0,x1,x2,x3,x4,x5,x6,x7,()),_,_=>exact ⟨THeap.mk x0 x1 x2 x3 x4 x5 x6 x7,rfl⟩
 | 7,(x0,x1,x2,()),_,_=>exact ⟨TSlot.mk x0 x1 x2,rfl⟩
 | 8,(x0,x1,()),_,_=>exact ⟨TStay.mk x0 x1,rfl⟩
 | 9,(x0,x1,x2,x3,()),_,_=>exact ⟨TNode.mk x0 x1 x2 x3,rfl⟩
 | 10,(x0,x1,x2,x3,x4,x5,x6,x7,x8,x9,()),_,_=>exact ⟨TRule.mk x0 x1 x2 x3 x4 x5 x6 x7 x8 x9,rfl⟩
 | 11,(x0,x1,()),_,_=>exact ⟨TDrop.mk x0 x1,rfl⟩
 | 12,(x0,x1,x2,()),_,_=>exact ⟨TQueue.mk x0 x1 x2,rfl⟩
 | 13,(x0,x1,()),_,_=>exact ⟨TSent.mk x0 x1,rfl⟩
 | 14,(x0,x1,()),_,_=>exact ⟨TDue.mk x0 x1,rfl⟩
 | 15,(x0,x1,x2,x3,x4,x5,x6,x7,()),_,_=>exact ⟨TStation.mk x0 x1 x2 x3 x4 x5 x6 x7,rfl⟩
 | 16,(x0,x1,x2,x3,x4,x5,x6,()),_,_=>exact ⟨TTalk.mk x0 x1 x2 x3 x4 x5 x6,rfl⟩
 | 17,(x0,x1,x2,x3,x4,()),_,_=>exact ⟨TMap.mk x0 x1 x2 x3 x4,rfl⟩
 | 18,(x0,x1,x2,x3,x4,x5,x6,x7,x8,()),_,_=>exact ⟨TGuarded.mk x0 x1 x2 x3 x4 x5 x6 x7 x8,rfl⟩
 | 19,(x0,x1,x2,x3,x4,()),_,_=>exact ⟨TMeter.mk x0 x1 x2 x3 x4,rfl⟩
 | 20,(x0,x1,x2,x3,x4,x5,x6,x7,x8,x9,x10,()),_,_=>exact ⟨TPacket.mk x0 x1 x2 x3 x4 x5 x6 x7 x8 x9 x10,rfl⟩
 | 21,(x0,x1,()),_,_=>exact ⟨TNet.mk x0 x1,rfl⟩
 | 22,(x0,()),_,_=>exact ⟨x0,rfl⟩
 | 23,(x0,x1,x2,x3,x4,x5,x6,x7,x8,()),_,_=>exact ⟨TSegment.mk x0 x1 x2 x3 x4 x5 x6 x7 x8,rfl⟩
 | 24,(x0,x1,x2,()),_,_=>exact ⟨TCame.mk x0 x1 x2,rfl⟩
 | 25,(x0,x1,x2,()),_,_=>exact ⟨TWent.mk x0 x1 x2,rfl⟩
 | 26,(x0,x1,x2,x3,()),_,_=>exact ⟨TRoad.mk x0 x1 x2 x3,rfl⟩
 | 27,(x0,()),_,_=>exact ⟨x0,rfl⟩
 | 28,(x0,()),_,_=>exact ⟨x0,rfl⟩
 | n+29,_,h,_=>omega

def BndD:Nat->D->Prop
 | _,.i k x=>k.min<=x/\x<=k.max
 | _,.b _=>True
 | _,.s l=>l.length<=140737488351232
 | n+1,.st c xs=>xs.length*bsz c<=140737488351232 /\ ∀ x∈xs,∀ d∈enc c x,BndD n d
 | _,_=>False
theorem BndD.up:∀ (n:Nat) (d:D),BndD n d->BndD (n+1) d:=by
 intro n
 induction n with
 | zero=>intro d h; cases d <;> first | exact h | exact h.elim
 | succ n ih =>
  intro d h
  cases d with
  | st c xs=>exact ⟨h.1,fun x hx d hd=>ih d (h.2 x hx d hd)⟩
  | _=>first | exact h | exact h.elim

def WkS (d d':D):Prop:=∀ (w:World) (U:Nat->Prop) (v:Value),RepI w U v d->RepI w U v d'
def WkSs (l l':List D):Prop:=l.length=l'.length /\ ∀ (j:Nat) d d',l[j]?=some d->l'[j]?=some d'->WkS d d'
theorem WkSs.app {a b a' b':List D} (h:WkSs a a') (k:WkSs b b'):WkSs (a++b) (a'++b'):=by
 refine ⟨by simp [h.1,k.1],fun j d d' h1 h2=>?_⟩
 by_cases hj:j<a.length
 . rw [List.getElem?_append_left hj] at h1
   rw [List.getElem?_append_left (by rw [<- h.1]; exact hj)] at h2
   exact h.2 j d d' h1 h2
 . rw [List.getElem?_append_right (by omega)] at h1
   rw [List.getElem?_append_right (by rw [<- h.1]; omega),<- h.1] at h2
   exact k.2 _ d d' h1 h2
theorem WkSs.rfl (l:List D):WkSs l l:=⟨Eq.refl _,fun j d d' h1 h2=>by rw [h1] at h2; cases h2; exact fun _ _ _ h=>h⟩
theorem RepAll.wkS {w:World} {U:Nat->Prop} {cs:List Value} {ds ds':List D} (h:RepAll w U cs ds) (k:WkSs ds ds'):RepAll w U cs ds':=by
 have key:∀ (cs:List Value) (ds ds':List D),RepAll w U cs ds->WkSs ds ds'->RepAll w U cs ds':=by
  intro cs
  induction cs with
  | nil =>
   intro ds ds' h k
   cases ds with
   | nil=>cases ds' with | nil=>trivial | cons=>have:=k.1; simp at this
   | cons=>exact h.elim
  | cons v cs ih =>
   intro ds ds' h k
   cases ds with
   | nil=>exact h.elim
   | cons d ds =>
    cases ds' with
    | nil=>have:=k.1; simp at this
    | cons d' ds' =>
     refine ⟨k.2 0 d d' (by simp) (by simp) _ _ _ h.1,ih ds ds' h.2 ⟨by have:=k.1; simpa using this,fun j d d' h1 h2=>k.2 (j+1) d d' (by simpa using h1) (by simpa using h2)⟩⟩
 exact key cs ds ds' h k

theorem zfyb {sz c:Nat} {rows:List (List D)} {xs:List (τ c)} (hsz:sz=esz c) (hl:rows.length=xs.length) (h:∀ (i:Nat) r x,rows[i]?=some r->xs[i]?=some x->WkSs r (enc c x)):WkS (.sl sz rows) (.st c xs):=by
 subst hsz
 intro w U v hr
 refine RepI.toSt ?_
 have hl':rows.length=(xs.map (enc c)).length:=by simpa using hl
 cases hr with
 | nil a cap _ hn =>
  have:xs=[]:=List.length_eq_zero_iff.1 (by simpa using hl.symm)
  subst this
  exact .nil a cap _ hn
 | sl b o cap _ _ vals hU hlen hcap hc hrr =>
  have main:=RepI.sl (w:=w) (U:=U) b o cap (esz c) (xs.map (enc c)) vals hU (fun r hr=>by obtain ⟨t,_,rfl⟩:=List.mem_map.1 hr; exact zeq c t) (by rw [<- hl']; exact hcap)
   (fun i j r d hi hj=>by
    rw [List.getElem?_map,Option.map_eq_some_iff] at hi
    obtain ⟨x,hx,rfl⟩:=hi
    have hlt:i<rows.length:=by rw [hl]; exact (List.getElem?_eq_some_iff.1 hx).1
    have hw:=h i _ x (List.getElem?_eq_getElem hlt) hx
    have hjlt:j<(rows[i]).length:=by rw [hw.1]; exact (List.getElem?_eq_some_iff.1 hj).1
    exact hc i j _ _ (List.getElem?_eq_getElem hlt) (List.getElem?_eq_getElem hjlt))
   (fun i j r d hi hj=>by
    rw [List.getElem?_map,Option.map_eq_some_iff] at hi
    obtain ⟨x,hx,rfl⟩:=hi
    have hlt:i<rows.length:=by rw [hl]; exact (List.getElem?_eq_some_iff.1 hx).1
    have hw:=h i _ x (List.getElem?_eq_getElem hlt) hx
    have hjlt:j<(rows[i]).length:=by rw [hw.1]; exact (List.getElem?_eq_some_iff.1 hj).1
    exact hw.2 j _ d (List.getElem?_eq_getElem hjlt) hj _ _ _ (hrr i j _ _ (List.getElem?_eq_getElem hlt) (List.getElem?_eq_getElem hjlt)))
  rw [<- hl'] at main
  exact main

def tyDs (P:Program) (cod:TypeId->Nat):Nat->TypeId->Option (List PD)
 | 0,_=>none
 | n+1,t=>match P.underlying t with
  | some .bool=>some [.b]
  | some (.int k)=>some [.i k]
  | some .string=>some [.s]
  | some (.struct fs)=>(fs.toList.map (·.type)).foldr (fun t r=>match tyDs P cod n t,r with | some a,some b=>some (a++b) | _,_=>none) (some [])
  | some (.array m e)=>(List.replicate m e).foldr (fun t r=>match tyDs P cod n t,r with | some a,some b=>some (a++b) | _,_=>none) (some [])
  | some (.slice e)=>if cod t<29/\esz (cod t)=P.cellsOf e/\bsz (cod t)=P.bytesOf e then match tyDs P cod n e with
   | some ps=>match zxw ps (pdsE (cod t)) with | true=>some [.st (cod t)] | false=>none
   | none=>none
   else none
  | _=>none

theorem zjw:∀ (a b:List PD) (x:PdsT a Unit) (y:PdsT b Unit),∃ z:PdsT (a++b) Unit,(zcc (a++b) z).1=(zcc a x).1++(zcc b y).1
 | [],b,x,y=>⟨y,rfl⟩
 | .i k :: a,b,(n,x),y=>by obtain ⟨z,hz⟩:=zjw a b x y; exact ⟨(n,z),by simp [zcc,hz]⟩
 | .b :: a,b,(n,x),y=>by obtain ⟨z,hz⟩:=zjw a b x y; exact ⟨(n,z),by simp [zcc,hz]⟩
 | .s :: a,b,(n,x),y=>by obtain ⟨z,hz⟩:=zjw a b x y; exact ⟨(n,z),by simp [zcc,hz]⟩
 | .st c :: a,b,(n,x),y=>by obtain ⟨z,hz⟩:=zjw a b x y; exact ⟨(n,z),by simp [zcc,hz]⟩

theorem zsy {α β:Type} {Q:α->β->Prop}:∀ (l:List α),(∀ a∈l,∃ b,Q a b) -> ∃ m:List β,l.length=m.length /\ ∀ (i:Nat) a b,l[i]?=some a->m[i]?=some b->Q a b
 | [],_=>⟨[],rfl,fun i a b h=>by simp at h⟩
 | a :: l,h=>by
  obtain ⟨b,hb⟩:=h a (by simp)
  obtain ⟨m,h1,h2⟩:=zsy l (fun a ha=>h a (by simp [ha]))
  refine ⟨b :: m,by simp [h1],fun i a' b' e1 e2=>?_⟩
  cases i with
  | zero=>simp at e1 e2; subst e1; subst e2; exact hb
  | succ i=>exact h2 i a' b' (by simpa using e1) (by simpa using e2)

theorem zpgb {ps:List PD} (h:ps=[.i .u8]) {x:PdsT ps Unit} {d:D} (hd:d∈(zcc ps x).1):∃ n:Int,d=.i .u8 n:=by
 subst h
 obtain ⟨n,u⟩:=x
 have hd':d∈[D.i .u8 n]:=hd
 exact ⟨n,List.mem_singleton.1 hd'⟩

theorem zxb {P:Program} {cod:TypeId->Nat}:∀ (n:Nat) (t:TypeId) (ds:List D) (ps:List PD),tyDs P cod n t=some ps->Sh P n t ds -> ∃ x:PdsT ps Unit,WkSs ds (zcc ps x).1 /\ ∀ d∈(zcc ps x).1,BndD n d
 | 0,t,ds,ps,h,_=>by cases h
 | n+1,t,ds,ps,h,hs=>by
  have parts:∀ (ts:List TypeId) (ds:List D) (ps:List PD),ts.foldr (fun t r=>match tyDs P cod n t,r with | some a,some b=>some (a++b) | _,_=>none) (some [])=some ps->z9l (Sh P n) ts ds ->
      ∃ x:PdsT ps Unit,WkSs ds (zcc ps x).1 /\ ∀ d∈(zcc ps x).1,BndD (n+1) d:=by
    intro ts
    induction ts with
    | nil =>
      intro ds ps h hs
      cases h
      have:ds=[]:=hs
      subst this
      exact ⟨(),WkSs.rfl _,fun d hd=>by cases hd⟩
    | cons t ts ih =>
      intro ds ps h hs
      rw [List.foldr_cons] at h
      split at h
      . rename_i a b h1 h2
        cases h
        obtain ⟨d1,d2,rfl,s1,s2⟩:=hs
        obtain ⟨x,hx,bx⟩:=zxb n t d1 a h1 s1
        obtain ⟨y,hy,byy⟩:=ih d2 b h2 s2
        obtain ⟨z,hz⟩:=zjw a b x y
        refine ⟨z,by rw [hz]; exact hx.app hy,fun d hd=>?_⟩
        rw [hz] at hd
        rcases List.mem_append.1 hd with hd | hd
        . exact BndD.up n d (bx d hd)
        . exact byy d hd
      . cases h
  unfold tyDs at h
  unfold Sh at hs
  split at h
  . rename_i hu
    cases h
    rw [hu] at hs
    obtain ⟨b,rfl⟩:=hs
    exact ⟨(b,()),WkSs.rfl _,fun d hd=>by simp [zcc] at hd; subst hd; trivial⟩
  . rename_i k hu
    cases h
    rw [hu] at hs
    obtain ⟨x,rfl,h1,h2⟩:=hs
    exact ⟨(x,()),WkSs.rfl _,fun d hd=>by simp [zcc] at hd; subst hd; exact ⟨h1,h2⟩⟩
  . rename_i hu
    cases h
    rw [hu] at hs
    obtain ⟨l,rfl,h1⟩:=hs
    exact ⟨(l,()),WkSs.rfl _,fun d hd=>by simp [zcc] at hd; subst hd; exact h1⟩
  . rename_i fs hu
    rw [hu] at hs
    exact parts _ ds ps h hs
  . rename_i m e hu
    rw [hu] at hs
    exact parts _ ds ps h hs
  . rename_i e hu
    rw [hu] at hs
    obtain ⟨rows,rfl,h1,h2,h3⟩:=hs
    split at h
    case isFalse=>cases h
    rename_i hc
    obtain ⟨c1,c2,c3⟩:=hc
    split at h
    case h_2=>cases h
    rename_i ps' hps
    split at h
    case h_2=>cases h
    rename_i heq
    have heq:=zvt heq
    subst heq
    cases h
    obtain ⟨xs,hl,hx⟩:=zsy (Q:=fun (r:List D) (x:τ (cod t))=>WkSs r (enc (cod t) x) /\ ∀ d∈enc (cod t) x,BndD n d) rows (fun r hr=>by
      obtain ⟨x,hx,bx⟩:=zxb n e r _ hps (h3 r hr)
      obtain ⟨y,hy⟩:=zo3b (cod t) x c1 (fun d hd he=>by
        have hb:=bx d hd
        obtain ⟨n',rfl⟩:=zpgb (by rw [he]; rfl) hd
        have hb':IntKind.u8.min<=n'/\n'<=IntKind.u8.max:=by cases n <;> exact hb
        exact ⟨n',rfl,hb'.1,hb'.2⟩)
      exact ⟨y,by rw [hy]; exact hx,by rw [hy]; exact bx⟩)
    refine ⟨(xs,()),?_,fun d hd=>?_⟩
    . refine ⟨rfl,fun j d d' e1 e2=>?_⟩
      cases j with
      | zero =>
        simp [zcc] at e1 e2
        subst e1; subst e2
        exact zfyb c2.symm hl (fun i r x a1 a2=>(hx i r x a1 a2).1)
      | succ j=>simp at e1
    . simp [zcc] at hd
      subst hd
      refine ⟨by rw [<- hl,c3]; exact h2,fun x hxm d hd=>?_⟩
      obtain ⟨i,hi⟩:=List.mem_iff_getElem?.1 hxm
      have hlt:i<rows.length:=by rw [hl]; exact (List.getElem?_eq_some_iff.1 hi).1
      exact (hx i _ x (List.getElem?_eq_getElem hlt) hi).2 d hd
  . cases h

theorem zgsb {P:Program} {cod:TypeId->Nat} {w:World} {t:TypeId} {cs:List Value} {ps:List PD} (hok:okT P 6 t=true) (hps:tyDs P cod 6 t=some ps) (hr:Rd P w t cs) :
  ∃ x:PdsT ps Unit,RepAll w (fun b=>b<w.heap.size) cs (zcc ps x).1 /\ ∀ d∈(zcc ps x).1,BndD 6 d:=by
 obtain ⟨ds,h1,h2⟩:=z4x (U:=fun b=>b<w.heap.size) (fun _ h=>h) 6 t cs hok hr
 obtain ⟨x,h3,h4⟩:=zxb 6 t ds ps hps h2
 exact ⟨x,h1.wkS h3,h4⟩
theorem RepArgs.d1 {w:World} {v:Value} {d:D} {us:List Value} {ys:List V} (h:RepAll w (fun b=>b<w.heap.size) [v] [d]) (hr:RepArgs w us ys):RepArgs w (v :: us) (vd d :: ys):=hr.one h.1
theorem zhcb {P:Program} (F:FS P) (hrp:F.rp=⟨1,[(0,.v (.one .b))],[]⟩) {x:VPsT F.ap Unit} (h:∃ r,F.fn x=some r/\(F.rp.put r).get 0=vb true/\(F.rp.put r).mem=[]) {w:World} {us:Array Value} (hr:RepArgs w us.toList (zgr (fun _=>0) F.ap x).1)
  (hn:decide ((zgr (fun _=>0) F.ap x).1.length<=900)=true) (hgl:∀ e∈globs,∃ x y,w.heap[e.1]?=some (.cells e.2 x y):=by intro e he; exact absurd he (by simp [Go.Proofs.YthkhikdglmaiaaaGreatDoor.Abs.globs])) (hgi:∀ g∈gints,g<w.heap.size /\ ∃ m,w.cell? ⟨g,0,none⟩=some (.int .i64 m):=by intro e he; exact absurd he (by simp [Go.Proofs.YthkhikdglmaiaaaGreatDoor.Abs.gints])):Calls P F.f us w fun e w'=>e=.returned (.bool true)/\Below w.heap.size w w':=by
 obtain ⟨r,h1,h2,h3⟩:=h
 have:=F.ok x r h1
 rw [h2,h3] at this
 exact zcfb this hr hn (zknb hgl hgi)
end Go.Proofs.YthkhikdglmaiaaaGreatDoor.Abs
namespace Go.Proofs.YthkhikdglmaiaaaGreatDoor.X
open Go Go.RowKit Go.Proofs.YthkhikdglmaiaaaGreatDoor.Abs Go.Proofs.YthkhikdglmaiaaaGreatDoor.Bits
set_option linter.unusedVariables false
set_option linter.unnecessarySimpa false
set_option linter.unusedSimpArgs false
structure Rd4 where (a b p q:Int) deriving DecidableEq
def turn (w:Rd4):Rd4:=⟨w.b,w.a,w.q,w.p⟩
def rdOf (x:TTalk):Rd4:=⟨x.from',x.to,x.fromPort,x.toPort⟩
def meet (w:Rd4) (x:TTalk):Bool:=decide (rdOf x=w) || decide (rdOf x=turn w)
theorem zjb (w:Rd4):turn (turn w)=w:=rfl
theorem zzw (x:TTalk) (w:Rd4):(decide (x.from'=w.a)&&(decide (x.to=w.b)&&(decide (x.fromPort=w.p)&&(decide (x.toPort=w.q)&&true))))=decide (rdOf x=w):=by
 obtain ⟨a,b,p,q⟩:=w
 rw [Bool.eq_iff_iff]
 simp [rdOf]
theorem zij {w:Rd4} {x:TTalk}:meet w x=true↔rdOf x=w\/rdOf x=turn w:=by simp [meet]
theorem zj0 {w:Rd4} {x y:TTalk} (hx:meet w x=true) (hy:meet w y=true):meet (rdOf x) y=true:=by
 rw [zij] at *
 rcases hx with h | h <;> rcases hy with k | k <;> rw [h,k] <;> simp [zjb]
theorem zkv {w v:Rd4} {x:TTalk} (hx:meet w x=true) (h1:v≠w) (h2:v≠turn w):meet v x=false:=by
 cases h:meet v x with
 | false=>rfl
 | true =>
  rw [zij] at hx h
  rcases hx with hx | hx <;> rcases h with h | h <;> rw [hx] at h
  . exact absurd h.symm h1
  . exact absurd (by rw [h]; rfl) h2
  . exact absurd h.symm h2
  . have:=congrArg turn h; rw [zjb,zjb] at this; exact absurd this.symm h1
theorem znu (x:TTalk):meet (rdOf x) x=true:=zij.2 (.inl rfl)
theorem zy2 (w:Rd4):zlt (w.a,(w.b,(w.p,(w.q,()))))=some ((turn w).a,((turn w).b,((turn w).p,((turn w).q,())))):=rfl
abbrev Big:Nat:=8796093022208
theorem zjy (l:List TTalk) (w:Rd4) (hl:l.length<Big):zcp (l,(w.a,(w.b,(w.p,(w.q,())))))=some ((match hit (meet w) l with | some q=>(q.1:Int) | none=>-1),()):=by
 unfold Big at hl
 unfold zcp zjd
 have:=za1 (tag:=1580002) (f:=fun x=>(zbr x).eval) (l:=l) (fun i=>((i:Int),(l,((l.length:Int),(w.a,(w.b,(w.p,(w.q,())))))))) (meet w)
  (fun q=>match q with | some q=>Sum.inl ((q.1:Int),(w.a,(w.b,(w.p,(w.q,()))))) | none=>Sum.inr (w.a,(w.b,(w.p,(w.q,())))))
  (fun i x hx=>by
   have hi:=(List.getElem?_eq_some_iff.1 hx).1
   show (zbr _).eval=_
   unfold zbr
   refine ev_t (by simp <;> omega) (ev_g (by simp) (zaa (show l[Int.toNat (i:Int)]?=some x by simpa using hx) ?_))
   unfold meet
   cases h1:decide (rdOf x=w) with
   | true=>exact ev_t (by rw [zzw x w]; exact h1) (ev_t rfl (ev_r rfl))
   | false =>
    refine ev_f (by rw [zzw x w]; exact h1) (zaa (zy2 w) ?_)
    cases h2:decide (rdOf x=turn w) with
    | true=>exact ev_t (show _=true from (zzw x (turn w)).trans h2) (ev_r rfl)
    | false=>exact ev_f (show _=false from (zzw x (turn w)).trans h2) (ev_r (by rw [zax i (by omega)])))
  (by show (zbr _).eval=_; exact ev_f (by simp) (ev_r rfl)) 18446744073709551616 (by omega)
 refine zaa (show zgy ((0:Int),(l,((l.length:Int),(w.a,(w.b,(w.p,(w.q,())))))))=_ from this) ?_
 cases hit (meet w) l <;> rfl
def z22 (x:Int):Bool:=decide ((0:Int)<=x)&&decide (x<=(65535:Int))
theorem zbqb (x:Int):zmz (x,())=some (z22 x,()):=by
 simp only [zmz,zlv,z22,Tr.eval,zk6]
def zue (w:Rd4):Bool:=z22 w.p&&(z22 w.q && !decide (w=turn w))
theorem zr3 (w:Rd4):zjc (w.a,(w.b,(w.p,(w.q,()))))=some (zue w,()):=by
 have e:(decide (w.a=(turn w).a)&&(decide (w.b=(turn w).b)&&(decide (w.p=(turn w).p)&&(decide (w.q=(turn w).q)&&true))))=decide (w=turn w):=zzw ⟨w.a,w.b,w.p,w.q,0,0,0⟩ (turn w)
 unfold zjc zlu zue
 refine zaa (zbqb w.p) ?_
 cases z22 w.p with
 | false=>exact ev_f rfl (ev_r rfl)
 | true =>
  refine ev_t rfl (zaa (zbqb w.q) ?_)
  cases z22 w.q with
  | false=>exact ev_f rfl (ev_r rfl)
  | true=>exact ev_t rfl (zaa (zy2 w) (ev_r (by rw [<- e]; rfl)))
def stB (x:TTalk):Bool:=if x.state=1 then decide (x.over=0) else if x.state=2 then decide (x.over=0) else if x.state=3 then decide ((0:Int)<=x.over)&&decide (x.over<=(2:Int)) else if x.state=4 then decide (x.over=3) else false
def zqt (x:TTalk):Bool:=zue (rdOf x)&&(decide (0<=x.at')&&(decide (x.at'<=1099511627776)&&stB x))
theorem zx9 (x:TTalk):zrl (x.from',(x.to,(x.fromPort,(x.toPort,(x.state,(x.over,(x.at',())))))))=some (zqt x,()):=by
 unfold zrl zlw zqt
 refine zaa (zr3 (rdOf x)) ?_
 cases zue (rdOf x) with
 | false=>exact ev_t rfl (ev_r rfl)
 | true =>
  refine ev_f rfl ?_
  by_cases h1:x.at'<0
  . exact ev_t (by simpa using h1) (ev_r (by simp <;> omega))
  refine ev_f (by simpa using h1) ?_
  by_cases h2:1099511627776<x.at'
  . exact ev_t (by simpa using h2) (ev_r (by simp <;> omega))
  refine ev_f (by simpa using h2) ?_
  rw [show decide (0<=x.at')=true by simp; omega,show decide (x.at'<=1099511627776)=true by simp; omega]
  unfold stB
  by_cases g1:x.state=1
  . exact ev_t (by simpa using g1) (ev_r (by rw [if_pos g1]; simp))
  refine ev_f (by simpa using g1) ?_
  by_cases g2:x.state=2
  . exact ev_t (by simpa using g2) (ev_r (by rw [if_neg g1,if_pos g2]; simp))
  refine ev_f (by simpa using g2) ?_
  by_cases g3:x.state=3
  . refine ev_t (by simpa using g3) ?_
    rw [if_neg g1,if_neg g2,if_pos g3]
    by_cases k:0<=x.over
    . exact ev_t (by simpa using k) (ev_r (by simp [k]))
    . exact ev_f (by simpa using k) (ev_r (by simp [k]))
  refine ev_f (by simpa using g3) ?_
  by_cases g4:x.state=4
  . exact ev_t (by simpa using g4) (ev_r (by rw [if_neg g1,if_neg g2,if_neg g3,if_pos g4]; simp))
  . exact ev_f (by simpa using g4) (ev_r (by rw [if_neg g1,if_neg g2,if_neg g3,if_neg g4]; simp))
def oldB (now:Int) (x:TTalk):Bool:=if x.state=3 then decide ((3000:Int)<IntKind.wrap IntKind.i64 (now-x.at')) else if x.state=4 then decide ((60:Int)<IntKind.wrap IntKind.i64 (now-x.at')) else decide ((30:Int)<IntKind.wrap IntKind.i64 (now-x.at'))
theorem z40 (now:Int) (x:TTalk):zm2 (x.from',(x.to,(x.fromPort,(x.toPort,(x.state,(x.over,(x.at',(now,()))))))))=some (oldB now x,()):=by
 unfold zm2 zon oldB
 by_cases g3:x.state=3
 . exact ev_t (by simpa using g3) (ev_r (by rw [if_pos g3]))
 refine ev_f (by simpa using g3) ?_
 by_cases g4:x.state=4
 . exact ev_t (by simpa using g4) (ev_r (by rw [if_neg g3,if_pos g4]))
 . exact ev_f (by simpa using g4) (ev_r (by rw [if_neg g3,if_neg g4]))

def Good (l:List TTalk):Prop:=l.length<=64/\(∀ x∈l,zqt x=true)/\l.Pairwise (fun x y=>x.at'<=y.at'/\meet (rdOf x) y=false)
theorem Good.sub {l l':List TTalk} (h:Good l) (hs:l'.Sublist l):Good l' :=
 ⟨Nat.le_trans hs.length_le h.1,fun x hx=>h.2.1 x (hs.subset hx),h.2.2.sublist hs⟩
def At (l:List TTalk) (i:Nat) (x:TTalk):Prop:=zqt x=true/\(∀ y,0<i->l[i-1]?=some y->y.at'<=x.at')/\(hit (meet (rdOf x)) l).map (·.1)=some i
theorem zc2b {l:List TTalk}:(l.length<=64 /\ ∀ i x,l[i]?=some x->At l i x)↔Good l:=by
 constructor
 . rintro ⟨h1,h2⟩
   refine ⟨h1,fun x hx=>?_,?_⟩
   . obtain ⟨i,hi,rfl⟩:=List.getElem_of_mem hx
     exact (h2 i _ (List.getElem?_eq_getElem hi)).1
   . rw [List.pairwise_iff_getElem]
     intro i j hi hj hij
     refine ⟨?_,?_⟩
     . have key:∀ d,∀ (k:Nat) (hk:k<l.length),k=i+d->l[i].at'<=l[k].at':=by
        intro d
        induction d with
        | zero=>intro k hk e; subst e; exact Int.le_refl _
        | succ d ih =>
         intro k hk e
         have:=(h2 k _ (List.getElem?_eq_getElem hk)).2.1 l[k-1] (by omega) (List.getElem?_eq_getElem (by omega))
         exact Int.le_trans (ih (k-1) (by omega) (by omega)) this
       exact key (j-i) j hj (by omega)
     . cases hm:meet (rdOf l[i]) l[j] with
       | false=>rfl
       | true =>
        have h3:=(h2 j _ (List.getElem?_eq_getElem hj)).2.2
        have h4:meet (rdOf l[j]) l[i]=true:=zj0 (w:=rdOf l[i]) hm (znu _)
        have e:l=l.take i++l[i] :: l.drop (i+1):=by rw [<- List.drop_eq_getElem_cons hi,List.take_append_drop]
        exfalso
        rw [show hit (meet (rdOf l[j])) l=hit (meet (rdOf l[j])) (l.take i++l[i] :: l.drop (i+1)) from congrArg _ e,zio] at h3
        simp only [hit,h4,Option.map_some] at h3
        cases h5:hit (meet (rdOf l[j])) (l.take i) with
        | none=>rw [h5] at h3; simp at h3; omega
        | some q =>
         rw [h5] at h3
         have:=zhn (i:=q.1) (x:=q.2) h5
         simp at h3 this; omega
 . rintro ⟨h1,h2,h3⟩
   refine ⟨h1,fun i x hx=>⟨h2 x (List.mem_of_getElem? hx),fun y hi hy=>?_,?_⟩⟩
   . obtain ⟨hi',rfl⟩:=List.getElem?_eq_some_iff.1 hx
     obtain ⟨hj',rfl⟩:=List.getElem?_eq_some_iff.1 hy
     exact ((List.pairwise_iff_getElem.1 h3) (i-1) i hj' hi' (by omega)).1
   . obtain ⟨hi',rfl⟩:=List.getElem?_eq_some_iff.1 hx
     have e:l=l.take i++l[i] :: l.drop (i+1):=by rw [<- List.drop_eq_getElem_cons hi',List.take_append_drop]
     have hn:hit (meet (rdOf l[i])) (l.take i)=none:=zcb.2 fun y hy=>by
       obtain ⟨j,hj,rfl⟩:=List.getElem_of_mem hy
       have hj2:j<i:=by simp at hj; omega
       rw [List.getElem_take]
       have:=((List.pairwise_iff_getElem.1 h3) j i (by omega) hi' hj2).2
       cases hm:meet (rdOf l[i]) l[j] with
       | false=>rfl
       | true=>rw [zj0 hm (znu _)] at this; cases this
     generalize hx:l[i]=x at *
     conv=>lhs; rw [e]
     rw [zio,hn]
     simp only [hit,znu,Option.map_some,Option.none_or]
     simp; omega
theorem z47 {A B T:Type} {tag:Nat} {f:A->Option (A⊕B)} {l:List T} (st:Nat->A) (p:Nat->T->Prop) (bad good:B)
   (h1:∀ (i:Nat) (x:T),l[i]?=some x->(p i x->f (st i)=some (.inl (st (i+1))))/\(¬ p i x->f (st i)=some (.inr bad)))
   (h2:f (st l.length)=some (.inr good)) (n:Nat) (hn:l.length<n):((∀ i x,l[i]?=some x->p i x)/\zb2 tag f n (st 0)=some good)\/((¬ ∀ i x,l[i]?=some x->p i x)/\zb2 tag f n (st 0)=some bad):=by
 have key:∀ (c k n:Nat),k+c=l.length->c<n->((∀ i x,k<=i->l[i]?=some x->p i x)/\zb2 tag f n (st k)=some good)\/((¬ ∀ i x,l[i]?=some x->p i x)/\zb2 tag f n (st k)=some bad):=by
   intro c
   induction c with
   | zero =>
    intro k n hk hn
    obtain ⟨n,rfl⟩:∃ m,n=m+1:=⟨n-1,by omega⟩
    have:k=l.length:=by omega
    subst this
    refine .inl ⟨fun i x hi hx=>?_,zam h2⟩
    have:=(List.getElem?_eq_some_iff.1 hx).1
    omega
   | succ c ih =>
    intro k n hk hn
    obtain ⟨n,rfl⟩:∃ m,n=m+1:=⟨n-1,by omega⟩
    have hkl:k<l.length:=by omega
    obtain ⟨g1,g2⟩:=h1 k l[k] (List.getElem?_eq_getElem hkl)
    by_cases hp:p k l[k]
    . rcases ih (k+1) n (by omega) (by omega) with ⟨a1,a2⟩ | ⟨a1,a2⟩
      . refine .inl ⟨fun i x hi hx=>?_,by rw [za2 (g1 hp)]; exact a2⟩
        by_cases e:i=k
        . subst e; rw [List.getElem?_eq_getElem hkl] at hx; cases hx; exact hp
        . exact a1 i x (by omega) hx
      . exact .inr ⟨a1,by rw [za2 (g1 hp)]; exact a2⟩
    . exact .inr ⟨fun hall=>hp (hall k _ (List.getElem?_eq_getElem hkl)),zam (g2 hp)⟩
 rcases key l.length 0 n (by omega) hn with ⟨a1,a2⟩ | h
 . exact .inl ⟨fun i x hx=>a1 i x (by omega) hx,a2⟩
 . exact .inr h
theorem zn9 (l : List TTalk) : ∃ c : Int, zgz (l, ()) = some (c, ()) /\ (c = 0 ↔ Good l) := by
  unfold zgz zjf
  by_cases hl : 64 < l.length
  . exact ⟨2, ev_t (by simp <;> omega) (ev_r rfl), ⟨fun h => (by cases h), fun h => by have := h.1; omega⟩⟩
  have := z47 (tag := 830004) (f := fun x => (zbg x).eval) (l := l) (fun i => ((i : Int), (l, (l, ((l.length : Int), ()))))) (At l) (Sum.inl ((4 : Int), ())) (Sum.inr ())
      (fun i x hx => by
        have hi := (List.getElem?_eq_some_iff.1 hx).1
        have hp := zjy l (rdOf x) (by unfold Big; omega)
        -- the last question
        have last : ∀ (T : Tr ((Int × ((List TTalk) × ((List TTalk) × (Int × Unit)))) ⊕ ((Int × Unit) ⊕ Unit))), T = (.opt (β := (Int × Unit)) ((zcp (l, (x.from', (x.to, (x.fromPort, (x.toPort, ()))))))) (fun r2 =>
             .ite (!decide (r2.1 = (i : Int))) (
              .ret (Sum.inr (Sum.inl ((4 : Int), ())))) (
              .ret (Sum.inl (IntKind.wrap IntKind.i64 ((i : Int) + (1 : Int)), (l, (l, ((l.length : Int), ())))))))) ->
             ((hit (meet (rdOf x)) l).map (·.1) = some i -> T.eval = some (.inl (((i + 1 : Nat) : Int), (l, (l, ((l.length : Int), ())))))) /\ (¬ (hit (meet (rdOf x)) l).map (·.1) = some i -> T.eval = some (.inr (Sum.inl ((4 : Int), ())))) := by
          rintro T rfl
          refine ⟨fun h => ?_, fun h => ?_⟩
          . refine zaa hp ?_
            cases h2 : hit (meet (rdOf x)) l with
            | none => rw [h2] at h; cases h
            | some q =>
              rw [h2] at h
              have : q.1 = i := by simpa using h
              exact ev_f (by simp [this]) (ev_r (by rw [zax i (by omega)]))
          . refine zaa hp ?_
            cases h2 : hit (meet (rdOf x)) l with
            | none => exact ev_t (by simp <;> omega) (ev_r rfl)
            | some q =>
              rw [h2] at h
              have : ¬ q.1 = i := by simpa using h
              exact ev_t (by simp <;> omega) (ev_r rfl)
        show (At l i x -> (zbg _).eval = _) /\ (¬ At l i x -> (zbg _).eval = _)
        unfold zbg
        by_cases h0 : 0 < i
        . have hy : l[i - 1]? = some l[i - 1] := List.getElem?_eq_getElem (by omega)
          refine ⟨fun hA => ?_, fun hA => ?_⟩
          . refine ev_t (by simp <;> omega) (ev_g (by simp) (zaa (show l[Int.toNat (i : Int)]? = some x by simpa using hx) (zaa (zx9 x) (ev_f (by simp [hA.1]) (ev_t (by simp <;> omega) ?_)))))
            rw [zni i h0 (by omega)]
            refine ev_g (by simp) (zaa (b := l[i - 1]) (by simpa using hy) (ev_f (by simp; exact hA.2.1 _ h0 hy) ((last _ rfl).1 hA.2.2)))
          . refine ev_t (by simp <;> omega) (ev_g (by simp) (zaa (show l[Int.toNat (i : Int)]? = some x by simpa using hx) (zaa (zx9 x) ?_)))
            cases hf : zqt x with
            | false => exact ev_t rfl (ev_r rfl)
            | true =>
              refine ev_f rfl (ev_t (by simp <;> omega) ?_)
              rw [zni i h0 (by omega)]
              refine ev_g (by simp) (zaa (b := l[i - 1]) (by simpa using hy) ?_)
              by_cases hlt : x.at' < l[i - 1].at'
              . exact ev_t (by simpa using hlt) (ev_r rfl)
              . refine ev_f (by simpa using hlt) ((last _ rfl).2 fun h => hA ⟨hf, fun y _ hy2 => ?_, h⟩)
                rw [hy] at hy2; cases hy2; omega
        . have h00 : i = 0 := by omega
          subst h00
          refine ⟨fun hA => ?_, fun hA => ?_⟩
          . exact ev_t (by simp <;> omega) (ev_g (by simp) (zaa (show l[Int.toNat ((0 : Nat) : Int)]? = some x by simpa using hx) (zaa (zx9 x) (ev_f (by simp [hA.1]) (ev_f (by simp) ((last _ rfl).1 hA.2.2))))))
          . refine ev_t (by simp <;> omega) (ev_g (by simp) (zaa (show l[Int.toNat ((0 : Nat) : Int)]? = some x by simpa using hx) (zaa (zx9 x) ?_)))
            cases hf : zqt x with
            | false => exact ev_t rfl (ev_r rfl)
            | true => exact ev_f rfl (ev_f (by simp) ((last _ rfl).2 fun h => hA ⟨hf, fun y h1 _ => by omega, h⟩)))
      (by show (zbg _).eval = _; exact ev_f (by simp) (ev_r rfl)) 18446744073709551616 (by omega)
  rcases this with ⟨h1, h2⟩ | ⟨h1, h2⟩
  . exact ⟨0, ev_f (by simp <;> omega) (zaa (show zem ((0 : Int), (l, (l, ((l.length : Int), ())))) = _ from h2) rfl), ⟨fun _ => zc2b.1 ⟨by omega, h1⟩, fun _ => rfl⟩⟩
  . exact ⟨4, ev_f (by simp <;> omega) (zaa (show zem ((0 : Int), (l, (l, ((l.length : Int), ())))) = _ from h2) rfl), ⟨fun h => (by cases h), fun h => (h1 (zc2b.2 h).2).elim⟩⟩
abbrev FT:=Int×(Int×(Int×(Int×(Int×(Int×(Int×(Bool×(Int×Unit))))))))
def noT (e:Int):FT:=(0,(0,(0,(0,(0,(0,(0,(false,(e,())))))))))
def okT (x:TTalk):FT:=(x.from',(x.to,(x.fromPort,(x.toPort,(x.state,(x.over,(x.at',(true,(0,())))))))))
def fnd (l:List TTalk) (w:Rd4) (now:Int):FT:=match hit (meet w) l with | none=>noT 0 | some q=>if oldB now q.2 then noT 0 else okT q.2
theorem zddb (l:List TTalk) (w:Rd4) (now:Int) (hg:Good l) (h0:0<=now) (h1:now<=1099511627776):zrm (l,(w.a,(w.b,(w.p,(w.q,(now,()))))))=some (fnd l w now):=by
 obtain ⟨c,hc,hc0⟩:=zn9 l
 have hlen:=hg.1
 unfold zrm zlx fnd
 refine zaa hc (ev_f (by simp [hc0.2 hg]) (ev_f (by simp <;> omega) (ev_f (by simp <;> omega) (zaa (zjy l w (by unfold Big; omega)) ?_))))
 cases h:hit (meet w) l with
 | none=>exact ev_t rfl (ev_r rfl)
 | some q =>
  have hx:l[Int.toNat (q.1:Int)]?=some q.2:=by simpa using (zdp (i:=q.1) (x:=q.2) h).1
  refine ev_f (by simp) (ev_g (by simp) (zaa hx (zaa (z40 now q.2) ?_)))
  cases ho:oldB now q.2 with
  | true=>exact ev_t rfl (ev_r (by show _=if oldB now q.2=true then noT 0 else okT q.2; rw [ho]; rfl))
  | false=>exact ev_f rfl (ev_g (by simp) (zaa hx (ev_r (by show _=if oldB now q.2=true then noT 0 else okT q.2; rw [ho]; rfl))))
abbrev keep (now:Int) (x:TTalk):Bool:=!oldB now x
theorem compact (now:Int) (l:List TTalk) (hl:l.length<Big):∀ (c j i:Nat) (L:List TTalk) (n:Nat),j+c=l.length->c<n->L.length=l.length->i<=j->L.take i=(l.take j).filter (keep now)->L.drop j=l.drop j ->
  ∃ (i':Nat) (L':List TTalk),zb2 1850005 (fun x=>(zbh x).eval) n ((j:Int),((i:Int),(L,(now,()))))=some ((i':Int),(L',(now,())))/\L'.length=l.length/\i'<=l.length/\L'.take i'=l.filter (keep now):=by
 unfold Big at hl
 intro c
 induction c with
 | zero =>
  intro j i L n hj hn hL hij ht hd
  obtain ⟨n,rfl⟩:∃ m,n=m+1:=⟨n-1,by omega⟩
  have:j=l.length:=by omega
  subst this
  refine ⟨i,L,zam (ev_f (by simp <;> omega) (ev_g (by simp) (ev_r rfl))),hL,hij,?_⟩
  rw [ht,List.take_length]
 | succ c ih =>
  intro j i L n hj hn hL hij ht hd
  obtain ⟨n,rfl⟩:∃ m,n=m+1:=⟨n-1,by omega⟩
  have hjl:j<l.length:=by omega
  have hx:L[j]?=l[j]?:=by have:=congrArg (·[0]?) hd; simpa using this
  have hxl:l[j]?=some l[j]:=List.getElem?_eq_getElem hjl
  generalize hxx:l[j]=x at hxl
  rw [hxl] at hx
  have hi:L[i]?=some L[i]:=List.getElem?_eq_getElem (by omega)
  have hfil:(l.take (j+1)).filter (keep now)=(l.take j).filter (keep now)++[x].filter (keep now):=by
   rw [List.take_add_one,hxl,List.filter_append]; rfl
  have hdd:L.drop (j+1)=l.drop (j+1):=by rw [<- List.drop_drop,hd,List.drop_drop]
  cases ho:oldB now x with
  | true =>
   have hs:(zbh ((j:Int),((i:Int),(L,(now,()))))).eval=some (.inl (((j+1:Nat):Int),((i:Int),(L,(now,()))))):=by
     unfold zbh
     exact ev_t (by simp <;> omega) (ev_g (by simp <;> omega) (zaa (b:=x) (by simpa using hx) (zaa (z40 now x) (ev_f (by simp [ho]) (ev_g (by simp) (ev_r (by rw [zax j (by omega)])))))))
   rw [za2 hs]
   refine ih (j+1) i L n (by omega) (by omega) hL (by omega) ?_ hdd
   rw [hfil,ht]; simp [keep,ho]
  | false =>
   have hs:(zbh ((j:Int),((i:Int),(L,(now,()))))).eval=some (.inl (((j+1:Nat):Int),(((i+1:Nat):Int),(L.set i x,(now,()))))):=by
     unfold zbh
     exact ev_t (by simp <;> omega) (ev_g (by simp <;> omega) (zaa (b:=x) (by simpa using hx) (zaa (z40 now x) (ev_t (by simp [ho]) (ev_g (by simp <;> omega) (zaa (b:=L[i]) (by simpa using hi) (ev_g (by simp) (ev_r (by rw [zax j (by omega),zax i (by omega)]; rfl)))))))))
   rw [za2 hs]
   refine ih (j+1) (i+1) (L.set i x) n (by omega) (by omega) (by simpa using hL) (by omega) ?_ ?_
   . rw [hfil,<- ht,List.take_add_one,List.take_set_of_le (Nat.le_refl i),List.getElem?_set_self (by omega)]
     simp [keep,ho]
   . rw [List.drop_set_of_lt (by omega),hdd]
theorem zwy (now:Int) (l:List TTalk) (hl:l.length<Big):zkd (now,(l,()))=some (now,(l.filter (keep now),())):=by
 have hl':=hl
 unfold Big at hl'
 unfold zkd zmn
 have:=za1 (tag:=1580002) (f:=fun x=>(zb3 x).eval) (l:=l) (fun i=>((i:Int),(l,((l.length:Int),(now,()))))) (oldB now)
   (fun q=>match q with | some q=>Sum.inl ((q.1:Int),(now,())) | none=>Sum.inr (now,()))
   (fun i x hx=>by
    have hi:=(List.getElem?_eq_some_iff.1 hx).1
    show (zb3 _).eval=_
    unfold zb3
    refine ev_t (by simp <;> omega) (ev_g (by simp) (zaa (show l[Int.toNat (i:Int)]?=some x by simpa using hx) (zaa (z40 now x) ?_)))
    cases oldB now x with
    | true=>exact ev_t rfl (ev_r rfl)
    | false=>exact ev_f rfl (ev_r (by rw [zax i (by omega)])))
   (by show (zb3 _).eval=_; exact ev_f (by simp) (ev_r rfl)) 18446744073709551616 (by omega)
 refine zaa (show zi5 ((0:Int),(l,((l.length:Int),(now,()))))=_ from this) ?_
 cases h:hit (oldB now) l with
 | none =>
  have hall:=zcb.1 h
  have e:l.filter (keep now)=l:=List.filter_eq_self.2 fun x hx=>by simp [keep,hall x hx]
  rw [e]
  exact ev_t rfl (ev_g (by simp) (ev_r rfl))
 | some q =>
  obtain ⟨i,x⟩:=q
  have hi:=zhn h
  have hx:=zdp h
  have e1:l=l.take i++x :: l.drop (i+1):=by
   obtain ⟨_,rfl⟩:=List.getElem?_eq_some_iff.1 hx.1
   rw [<- List.drop_eq_getElem_cons hi,List.take_append_drop]
  have hpre:∀ y∈l.take i,oldB now y=false:=by
   have:hit (oldB now) l=hit (oldB now) (l.take i++x :: l.drop (i+1)):=congrArg _ e1
   rw [zio] at this
   cases h3:hit (oldB now) (l.take i) with
   | none=>exact zcb.1 h3
   | some q =>
    have h4:=zhn (i:=q.1) (x:=q.2) h3
    rw [h,h3] at this
    simp at this h4
    have:=congrArg Prod.fst this
    simp at this; omega
  have ht:l.take i=(l.take (i+1)).filter (keep now):=by
   rw [List.take_add_one,hx.1,List.filter_append,List.filter_eq_self.2 fun y hy=>by simp [keep,hpre y hy]]
   simp [keep,hx.2]
  obtain ⟨i',L',hlp,h1,h2,h3⟩:=compact now l hl (l.length-(i+1)) (i+1) i l 18446744073709551616 (by omega) (by omega) rfl (by omega) ht rfl
  show (Tr.ite (decide ((i:Int) = -1)) _ _).eval=_
  refine ev_f (by simp) (ev_g (by simp) ?_)
  rw [zax i (by omega)]
  refine zaa (show zer _=_ from hlp) ?_
  have e4:∀ (Y Z:List TTalk),List.take i' (List.take i' L'++Y++Z)=List.take i' L':=fun Y Z=>by
   rw [List.append_assoc,List.take_append_of_le_length (by simp <;> omega),List.take_take,Nat.min_self]
  simp only [Int.toNat_natCast,e4]
  simp only [h3]
  have hfl:(l.filter (keep now)).length=i':=by rw [<- h3]; simp; omega
  exact ev_g (by simp <;> omega) (ev_g (by simp <;> omega) (ev_g (by simp <;> omega) (ev_g (by simp [hfl]) (ev_r rfl))))
theorem zwo (l:List TTalk) (i:Nat) (hi:i<l.length):zb7 ((i:Int),(((i+1:Nat):Int),(l,())))=some (l.take i++l.drop (i+1),()):=by
 unfold zb7 zke
 have hj:Int.toNat ((l.length:Int)-((i+1:Nat):Int))=l.length-(i+1):=by omega
 have hB:(List.take (l.length-(i+1)) (List.drop (i+1) l)).length=l.length-(i+1):=by simp
 simp only [Int.toNat_natCast,hj]
 refine ev_g (by simp <;> omega) (ev_f (by simp <;> omega) (ev_g (by simp <;> omega) (ev_g (by simp <;> omega) (ev_g (by simp <;> omega) (ev_g (by rw [hB]; simp; omega) ?_)))))
 refine ev_g (by simp [hB]; omega) (ev_g (by simp [hB]; omega) (ev_g (by simp [hB]; omega) (ev_r ?_)))
 simp only [del_eq l i (i+1) (by omega) (by omega)]

def ziq (a0:List TTalk) (a1 a2 a3 a4 a5 a6:Int):Tr ((List TTalk)×(Bool×(Int×Unit))) :=
 .grd (decide (((0:Nat)+List.length a0)*(48:Nat)<=(140737488355328:Nat)/\(0:Nat)+List.length a0<=(9223372036854775807:Nat))) (
 .grd (decide (List.length a0=List.length a0)) (
 .opt (β:=(Int×((List TTalk)×Unit))) ((zkd (a6,(a0,())))) (fun r2 =>
 .opt (β:=(Int×Unit)) ((zcp (r2.2.1,(a1,(a2,(a3,(a4,()))))))) (fun r3 =>
 .ite (decide (r3.1<(0:Int))) (
 .ite (!((!decide (bits BinOp.and IntKind.i64 a5 (2:Int)=(0:Int)))==true&&((!decide (bits BinOp.and IntKind.i64 a5 (16:Int)=(0:Int)))==false&&((!decide (bits BinOp.and IntKind.i64 a5 (1:Int)=(0:Int)))==false&&((!decide (bits BinOp.and IntKind.i64 a5 (4:Int)=(0:Int)))==false&&true))))) (
 .ret (r2.2.1,(false,((0:Int),())))) (
 .ite (decide ((↑(List.length r2.2.fst):Int)=(64:Int))) (
 .ret (a0,(false,((6:Int),())))) (
 .grd (decide ((List.length r2.2.1+List.length [TTalk.mk a1 a2 a3 a4 (1:Int) (0:Int) r2.1])*(48:Nat)<=(140737488355328:Nat)/\List.length r2.2.1+List.length [TTalk.mk a1 a2 a3 a4 (1:Int) (0:Int) r2.1]<=(9223372036854775807:Nat))) (
 .ret (r2.2.1++[TTalk.mk a1 a2 a3 a4 (1:Int) (0:Int) r2.1],(true,((0:Int),()))))))) (
 .grd (decide ((0:Int)<=r3.1/\r3.1<(↑(List.length r2.2.fst):Int))) (
 .opt (β:=TTalk) (r2.2.1[Int.toNat r3.1]?) (fun r4 =>
 .ite (!!decide (bits BinOp.and IntKind.i64 a5 (4:Int)=(0:Int))) (
 .opt (β:=(Bool×(Int×(Int×(Int×(Int×(Int×(Int×(Int×Unit))))))))) ((zh0 (!decide (bits BinOp.and IntKind.i64 a5 (2:Int)=(0:Int)),(!decide (bits BinOp.and IntKind.i64 a5 (16:Int)=(0:Int)),(!decide (bits BinOp.and IntKind.i64 a5 (1:Int)=(0:Int)),(!decide (bits BinOp.and IntKind.i64 a5 (4:Int)=(0:Int)),(decide (r4.from'=a1)&&(decide (r4.to=a2)&&(decide (r4.fromPort=a3)&&(decide (r4.toPort=a4)&&true))),(r4.from',(r4.to,(r4.fromPort,(r4.toPort,(r4.state,(r4.over,(r4.at',())))))))))))))) (fun r5 =>
 .ite (!r5.1) (
 .ret (r2.2.1,(false,((0:Int),())))) (
 .grd (decide (List.length r2.2.fst=List.length r2.2.1)) (
 .opt (β:=((List TTalk)×Unit)) ((zb7 (r3.1,(IntKind.wrap IntKind.i64 (r3.1+(1:Int)),(r2.2.1,()))))) (fun r6 =>
 .ite (!decide (bits BinOp.and IntKind.i64 a5 (4:Int)=(0:Int))) (
 .ret (r6.1,(true,((0:Int),())))) (
 .grd (decide ((List.length r6.1+List.length [TTalk.mk r5.2.1 r5.2.2.1 r5.2.2.2.1 r5.2.2.2.2.1 r5.2.2.2.2.2.1 r5.2.2.2.2.2.2.1 r2.1])*(48:Nat)<=(140737488355328:Nat)/\List.length r6.1+List.length [TTalk.mk r5.2.1 r5.2.2.1 r5.2.2.2.1 r5.2.2.2.2.1 r5.2.2.2.2.2.1 r5.2.2.2.2.2.2.1 r2.1]<=(9223372036854775807:Nat))) (
 .ret (r6.1++[TTalk.mk r5.2.1 r5.2.2.1 r5.2.2.2.1 r5.2.2.2.2.1 r5.2.2.2.2.2.1 r5.2.2.2.2.2.2.1 r2.1],(true,((0:Int),())))))))))) (
 .grd (decide (List.length r2.2.fst=List.length r2.2.1)) (
 .opt (β:=((List TTalk)×Unit)) ((zb7 (r3.1,(IntKind.wrap IntKind.i64 (r3.1+(1:Int)),(r2.2.1,()))))) (fun r5 =>
 .ite (!decide (bits BinOp.and IntKind.i64 a5 (4:Int)=(0:Int))) (
 .ret (r5.1,(true,((0:Int),())))) (
 .grd (decide ((List.length r5.1+List.length [TTalk.mk r4.from' r4.to r4.fromPort r4.toPort r4.state r4.over r2.1])*(48:Nat)<=(140737488355328:Nat)/\List.length r5.1+List.length [TTalk.mk r4.from' r4.to r4.fromPort r4.toPort r4.state r4.over r2.1]<=(9223372036854775807:Nat))) (
 .ret (r5.1++[TTalk.mk r4.from' r4.to r4.fromPort r4.toPort r4.state r4.over r2.1],(true,((0:Int),())))))))))))))))

def last (l:List TTalk):Int:=match l.getLast? with | some y=>y.at' | none=>0
def InR (l:List TTalk) (w:Rd4) (flags now:Int):Prop:=zue w=true/\0<=flags/\flags<=255/\last l<=now/\now<=1099511627776
theorem z02 (l:List TTalk) (w:Rd4) (flags now:Int) (hg:Good l) (hr:InR l w flags now):zeb (l,(w.a,(w.b,(w.p,(w.q,(flags,(now,())))))))=(ziq l w.a w.b w.p w.q flags now).eval:=by
 obtain ⟨c,hc,hc0⟩:=zn9 l
 have hlen:=hg.1
 obtain ⟨r1,r2,r3,r4,r5⟩:=hr
 unfold zeb zh1
 refine ev_g (by simp <;> omega) (zaa hc (ev_f (by simp [hc0.2 hg]) ?_))
 rcases List.eq_nil_or_concat l with e | ⟨q,y,e⟩
 . subst e
   refine ev_f (by simp) (zaa (zr3 w) (ev_f (by simp [r1]) (ev_f (by simp <;> omega) (ev_f (by simp <;> omega) (ev_f (by simp [last] at r4 ⊢; omega) (ev_f (by simp <;> omega) rfl))))))
 . rw [List.concat_eq_append] at e
   have hl:last l=y.at':=by rw [e]; simp [last]
   have hp:IntKind.wrap IntKind.i64 ((l.length:Int)-1)=(q.length:Int):=by rw [zni _ (by rw [e]; simp) (by omega)]; rw [e]; simp
   have hll:l.length=q.length+1:=by rw [e]; simp
   refine ev_t (by simp <;> omega) ?_
   rw [hp]
   refine ev_g (by simp <;> omega) (zaa (b:=y) (by rw [e]; simp) (zaa (zr3 w) (ev_f (by simp [r1]) (ev_f (by simp <;> omega) (ev_f (by simp <;> omega) (ev_f (by simp <;> omega) (ev_f (by simp <;> omega) rfl)))))))
theorem z5k (l:List TTalk) (w:Rd4) (flags now:Int) (hb:l.length*48<=140737488351232) (h:¬ (Good l/\InR l w flags now)):∃ e:Int,e≠0/\zeb (l,(w.a,(w.b,(w.p,(w.q,(flags,(now,())))))))=some (l,(false,(e,()))):=by
 obtain ⟨c,hc,hc0⟩:=zn9 l
 unfold zeb zh1
 by_cases hg:c=0
 case neg=>exact ⟨c,hg,ev_g (by simp <;> omega) (zaa hc (ev_t (by simpa using hg) (ev_r rfl)))⟩
 have hG:=hc0.1 hg
 refine ⟨1,by decide,ev_g (by simp <;> omega) (zaa hc (ev_f (by simp [hg]) ?_))⟩
 have hlen:=hG.1
 rcases List.eq_nil_or_concat l with e | ⟨q,y,e⟩
 . subst e
   refine ev_f (by simp) (zaa (zr3 w) ?_)
   cases r1:zue w with
   | false=>exact ev_t rfl (ev_r rfl)
   | true =>
   refine ev_f rfl (zi2 (fun _=>ev_r rfl) fun r2=>zi2 (fun _=>ev_r rfl) fun r3=>zi2 (fun _=>ev_r rfl) fun r4=>zi2 (fun _=>ev_r rfl) fun r5=>?_)
   exfalso
   simp at r2 r3 r4 r5
   exact h ⟨hG,r1,by omega,by omega,by simp [last]; omega,by omega⟩
 . rw [List.concat_eq_append] at e
   have hl:last l=y.at':=by rw [e]; simp [last]
   have hll:l.length=q.length+1:=by rw [e]; simp
   have hp:IntKind.wrap IntKind.i64 ((l.length:Int)-1)=(q.length:Int):=by rw [zni _ (by omega) (by omega)]; congr 1; omega
   refine ev_t (by simp <;> omega) ?_
   rw [hp]
   refine ev_g (by simp <;> omega) (zaa (b:=y) (by rw [e]; simp) (zaa (zr3 w) ?_))
   cases r1:zue w with
   | false=>exact ev_t rfl (ev_r rfl)
   | true =>
   refine ev_f rfl (zi2 (fun _=>ev_r rfl) fun r2=>zi2 (fun _=>ev_r rfl) fun r3=>zi2 (fun _=>ev_r rfl) fun r4=>zi2 (fun _=>ev_r rfl) fun r5=>?_)
   exfalso
   simp at r2 r3 r4 r5
   exact h ⟨hG,r1,by omega,by omega,by omega,by omega⟩

def zrt (flags:Int):Bool:=((!decide (bits BinOp.and IntKind.i64 flags (2:Int)=(0:Int)))==true&&((!decide (bits BinOp.and IntKind.i64 flags (16:Int)=(0:Int)))==false&&((!decide (bits BinOp.and IntKind.i64 flags (1:Int)=(0:Int)))==false&&((!decide (bits BinOp.and IntKind.i64 flags (4:Int)=(0:Int)))==false&&true))))
def rstB (flags:Int):Bool:=!decide (bits BinOp.and IntKind.i64 flags (4:Int)=(0:Int))
abbrev zbe (l:List TTalk) (now:Int):List TTalk:=l.filter (keep now)
theorem zzg (l:List TTalk) (w:Rd4) (flags now:Int) (hg:Good l) (h:hit (meet w) (zbe l now)=none):(ziq l w.a w.b w.p w.q flags now).eval =
  some (if zrt flags then if (zbe l now).length=64 then (l,(false,(6,()))) else (zbe l now++[⟨w.a,w.b,w.p,w.q,1,0,now⟩],(true,(0,()))) else (zbe l now,(false,(0,())))):=by
 have hlen:=hg.1
 have hyl:(zbe l now).length<=64:=Nat.le_trans (List.length_filter_le _ _) hlen
 unfold ziq
 refine ev_g (by simp <;> omega) (ev_g (by simp) (zaa (zwy now l (by unfold Big; omega)) (zaa (zjy (zbe l now) w (by unfold Big; omega)) ?_)))
 rw [h]
 refine ev_t rfl ?_
 cases hs:zrt flags with
 | false=>exact ev_t (by show (!zrt flags)=true; rw [hs]; rfl) (ev_r rfl)
 | true =>
  refine ev_f (by show (!zrt flags)=false; rw [hs]; rfl) ?_
  by_cases h64:(zbe l now).length=64
  . exact ev_t (decide_eq_true (by show (((zbe l now).length:Nat):Int)=64; omega)) (ev_r (by rw [if_pos rfl,if_pos h64]))
  . exact ev_f (decide_eq_false (by show ¬ (((zbe l now).length:Nat):Int)=64; omega)) (ev_g (decide_eq_true (by show ((zbe l now).length+1)*48<=140737488355328/\(zbe l now).length+1<=9223372036854775807; omega)) (ev_r (by rw [if_pos rfl,if_neg h64])))
theorem zze (l:List TTalk) (w:Rd4) (flags now:Int) (hg:Good l) {i:Nat} {x:TTalk} (h:hit (meet w) (zbe l now)=some (i,x)) (hr:rstB flags=true):(ziq l w.a w.b w.p w.q flags now).eval=some ((zbe l now).take i++(zbe l now).drop (i+1),(true,(0,()))):=by
 have hlen:=hg.1
 have hyl:(zbe l now).length<=64:=Nat.le_trans (List.length_filter_le _ _) hlen
 have hi:=zhn h
 have hx:=(zdp h).1
 unfold rstB at hr
 unfold ziq
 refine ev_g (by simp <;> omega) (ev_g (by simp) (zaa (zwy now l (by unfold Big; omega)) (zaa (zjy (zbe l now) w (by unfold Big; omega)) ?_)))
 rw [h]
 show (Tr.ite (decide ((i:Int)<0)) _ _).eval=_
 refine ev_f (by simp) (ev_g (by simp; exact hi) (zaa (b:=x) (by simpa using hx) (ev_f (by rw [hr]; rfl) (ev_g (by simp) ?_))))
 show (Tr.opt (zb7 ((i:Int),(IntKind.wrap IntKind.i64 ((i:Int)+1),(zbe l now,())))) _).eval=_
 rw [zax i (by omega)]
 exact zaa (zwo _ i hi) (ev_t hr (ev_r rfl))
theorem z9v (l:List TTalk) (now:Int):(zbe l now).Sublist l:=List.filter_sublist
theorem zre {l:List TTalk} {now:Int} {x:TTalk}:x∈zbe l now↔x∈l/\oldB now x=false:=by simp [zbe,keep]
theorem zg3b {l:List TTalk} (hg:Good l) (w:Rd4) {i:Nat} {x:TTalk} (h:hit (meet w) l=some (i,x)):∀ y∈l.take i++l.drop (i+1),meet w y=false:=by
 obtain ⟨hx,hm⟩:=zdp h
 have hi:=zhn h
 have e1:l=l.take i++x :: l.drop (i+1):=by
  obtain ⟨_,rfl⟩:=List.getElem?_eq_some_iff.1 hx
  rw [<- List.drop_eq_getElem_cons hi,List.take_append_drop]
 have hp:=hg.2.2
 rw [e1,List.pairwise_append] at hp
 intro y hy
 cases my:meet w y with
 | false=>rfl
 | true =>
  rcases List.mem_append.1 hy with hy | hy
  . have:=(hp.2.2 y hy x List.mem_cons_self).2
    rw [zj0 my hm] at this; cases this
  . have:=((List.pairwise_cons.1 hp.2.1).1 y hy).2
    rw [zj0 hm my] at this; cases this
theorem zsm (l:List TTalk) (i:Nat):(l.take i++l.drop (i+1)).Sublist l:=by
 conv=>rhs; rw [<- List.take_append_drop i l]
 refine List.Sublist.append (List.Sublist.refl _) ?_
 rw [<- List.drop_drop]
 exact List.drop_sublist 1 _
def zprb (ack syn fin op:Bool) (st ov:Int):Bool×(Int×Int) :=
 if !ack || syn then (false,(st,ov)) else
  let ov':Int:=if fin then if op then bits BinOp.or IntKind.i64 ov (1:Int) else bits BinOp.or IntKind.i64 ov (2:Int) else ov
  (true,(if ov'=3 then 4 else if (3:Int)>st then 3 else st,ov'))
def z7y (syn ack fin op:Bool) (st ov:Int):Bool×(Int×Int) :=
 if decide (st<=2)&&(op&&syn && !ack && !fin) then (true,(st,ov))
 else if decide (st<=2)&&(!op&&syn&&ack && !fin) then (true,(2,ov))
 else if decide (st=1) || (decide (st=2) && !op) then (false,(st,ov))
 else zprb ack syn fin op st ov
def sts:List (Int×Int):=[(1,0),(2,0),(3,0),(3,1),(3,2),(4,3)]
theorem zj5b (syn ack fin rst op:Bool) (a b p q at':Int):∀ s∈sts,zh0 (syn,(ack,(fin,(rst,(op,(a,(b,(p,(q,(s.1,(s.2,(at',()))))))))))))=some ((z7y syn ack fin op s.1 s.2).1,(a,(b,(p,(q,((z7y syn ack fin op s.1 s.2).2.1,((z7y syn ack fin op s.1 s.2).2.2,(at',()))))))))  := by
 intro s hs
 simp only [sts,List.mem_cons,List.not_mem_nil,or_false] at hs
 rcases hs with rfl | rfl | rfl | rfl | rfl | rfl <;> cases syn <;> cases ack <;> cases fin <;> cases rst <;> cases op <;> kernel_rfl
theorem zg2b:∀ (syn ack fin op:Bool),∀ s∈sts,((z7y syn ack fin op s.1 s.2).2.1,(z7y syn ack fin op s.1 s.2).2.2)∈sts:=by decide +kernel
theorem za3b {x:TTalk} (h:stB x=true):(x.state,x.over)∈sts:=by
 unfold stB at h
 simp only [sts,List.mem_cons,List.not_mem_nil,or_false,Prod.mk.injEq]
 split at h
 . simp at h; omega
 . split at h
   . simp at h; omega
   . split at h
     . simp at h; omega
     . split at h
       . simp at h; omega
       . cases h
theorem zjvb {x:TTalk} (h:(x.state,x.over)∈sts):stB x=true:=by
 simp only [sts,List.mem_cons,List.not_mem_nil,or_false,Prod.mk.injEq] at h
 unfold stB
 rcases h with ⟨h,k⟩ | ⟨h,k⟩ | ⟨h,k⟩ | ⟨h,k⟩ | ⟨h,k⟩ | ⟨h,k⟩ <;> rw [h,k] <;> rfl
theorem ztg {x:TTalk} (h:zqt x=true):zue (rdOf x)=true/\0<=x.at'/\x.at'<=1099511627776/\stB x=true:=by
 simpa only [zqt,Bool.and_eq_true,decide_eq_true_eq] using h
theorem zdcb {x:TTalk} (h1:zue (rdOf x)=true) (h2:0<=x.at') (h3:x.at'<=1099511627776) (h4:stB x=true):zqt x=true:=by
 simp only [zqt,Bool.and_eq_true,decide_eq_true_eq]
 exact ⟨h1,h2,h3,h4⟩
theorem zzf (l:List TTalk) (w:Rd4) (flags now:Int) (hg:Good l) {i:Nat} {x:TTalk} (h:hit (meet w) (zbe l now)=some (i,x)) (hr:rstB flags=false) :
  ∃ (b:Bool) (x':TTalk),rdOf x'=rdOf x/\x'.at'=now/\stB x'=true/\(ziq l w.a w.b w.p w.q flags now).eval=some (if b then ((zbe l now).take i++(zbe l now).drop (i+1)++[x'],(true,(0,()))) else (zbe l now,(false,(0,())))):=by
 have hlen:=hg.1
 have hyl:(zbe l now).length<=64:=Nat.le_trans (List.length_filter_le _ _) hlen
 have hi:=zhn h
 have hx:=(zdp h).1
 have hxf:=ztg (hg.2.1 x (zre.1 (List.mem_of_getElem? hx)).1)
 have hs:=za3b hxf.2.2.2
 unfold rstB at hr
 generalize hsy:(!decide (bits BinOp.and IntKind.i64 flags (2:Int)=(0:Int)))=syn
 generalize hac:(!decide (bits BinOp.and IntKind.i64 flags (16:Int)=(0:Int)))=ack
 generalize hfi:(!decide (bits BinOp.and IntKind.i64 flags (1:Int)=(0:Int)))=fin
 generalize hop:(decide (x.from'=w.a)&&(decide (x.to=w.b)&&(decide (x.fromPort=w.p)&&(decide (x.toPort=w.q)&&true))))=op
 have hp:=zj5b syn ack fin false op x.from' x.to x.fromPort x.toPort x.at' _ hs
 have hq:=zg2b syn ack fin op _ hs
 generalize hP:z7y syn ack fin op x.state x.over=P at hp hq
 obtain ⟨b,st',ov'⟩:=P
 refine ⟨b,⟨x.from',x.to,x.fromPort,x.toPort,st',ov',now⟩,rfl,rfl,zjvb hq,?_⟩
 unfold ziq
 refine ev_g (by simp <;> omega) (ev_g (by simp) (zaa (zwy now l (by unfold Big; omega)) (zaa (zjy (zbe l now) w (by unfold Big; omega)) ?_)))
 rw [h]
 show (Tr.ite (decide ((i:Int)<0)) _ _).eval=_
 refine ev_f (by simp) (ev_g (by simp; exact hi) (zaa (b:=x) (by simpa using hx) (ev_t (by rw [hr]; rfl) ?_)))
 rw [hsy,hac,hfi,hr,hop]
 refine zaa hp ?_
 cases b with
 | false=>exact ev_t rfl (ev_r rfl)
 | true =>
  refine ev_f rfl (ev_g (by simp) ?_)
  show (Tr.opt (zb7 ((i:Int),(IntKind.wrap IntKind.i64 ((i:Int)+1),(zbe l now,())))) _).eval=_
  rw [zax i (by omega)]
  refine zaa (zwo _ i hi) (ev_f (by rfl) (ev_g (decide_eq_true ?_) (ev_r rfl)))
  show (((zbe l now).take i++(zbe l now).drop (i+1)).length+1)*48<=140737488355328/\((zbe l now).take i++(zbe l now).drop (i+1)).length+1<=9223372036854775807
  have:=(zsm (zbe l now) i).length_le
  omega
theorem z3k {l:List TTalk} (hg:Good l):∀ x∈l,x.at'<=last l:=by
 intro x hx
 rcases List.eq_nil_or_concat l with e | ⟨q,y,e⟩
 . subst e; simp at hx
 . rw [List.concat_eq_append] at e
   subst e
   have:last (q++[y])=y.at':=by simp [last]
   rw [this]
   have hp:=List.pairwise_append.1 hg.2.2
   rcases List.mem_append.1 hx with h | h
   . exact (hp.2.2 x h y (by simp)).1
   . have:x=y:=by simpa using h
     rw [this]; exact Int.le_refl _
theorem z5m {a:List TTalk} {x:TTalk} (ha:Good a) (hl:a.length<64) (hf:zqt x=true) (ht:∀ y∈a,y.at'<=x.at') (hm:∀ y∈a,meet (rdOf x) y=false):Good (a++[x]):=by
 refine ⟨by simp; omega,fun y hy=>?_,?_⟩
 . rcases List.mem_append.1 hy with h | h
   . exact ha.2.1 y h
   . have:y=x:=by simpa using h
     rw [this]; exact hf
 . rw [List.pairwise_append]
   refine ⟨ha.2.2,List.pairwise_singleton _ _,fun y hy z hz=>?_⟩
   have:z=x:=by simpa using hz
   subst this
   refine ⟨ht y hy,?_⟩
   cases h:meet (rdOf y) z with
   | false=>rfl
   | true=>have:=hm y hy; rw [zj0 h (znu y)] at this; cases this
theorem zc8b {p:TTalk->Bool} {l:List TTalk} {i:Nat} {x:TTalk} (hx:l[i]?=some x) (hp:p x=false):fst p (l.take i++l.drop (i+1))=fst p l:=by
 obtain ⟨hi,rfl⟩:=List.getElem?_eq_some_iff.1 hx
 have e1:l=l.take i++l[i] :: l.drop (i+1):=by rw [<- List.drop_eq_getElem_cons hi,List.take_append_drop]
 have:fst p l=fst p (l.take i++l[i] :: l.drop (i+1)):=congrArg _ e1
 rw [this,z3v,z3v,z5q,hp]
theorem zc9b {p:TTalk->Bool} (a:List TTalk) {x:TTalk} (hp:p x=false):fst p (a++[x])=fst p a:=by
 rw [z3v,z5q,hp]
 show (fst p a).or none=fst p a
 cases fst p a <;> rfl
theorem z5l (l:List TTalk) (w:Rd4) (flags now:Int) (hg:Good l) (hr:InR l w flags now):∃ (a:List TTalk) (ok:Bool) (e:Int),zeb (l,(w.a,(w.b,(w.p,(w.q,(flags,(now,())))))))=some (a,(ok,(e,()))) /\
  ((e≠0/\a=l/\ok=false)\/(e=0/\Good a/\(∀ v,v≠w->v≠turn w->fst (meet v) a=fst (meet v) (zbe l now))/\(ok=false->a=zbe l now)/\a.length<=l.length+1)):=by
 rw [z02 l w flags now hg hr]
 obtain ⟨r1,r2,r3,r4,r5⟩:=hr
 have hgy:Good (zbe l now):=hg.sub (z9v l now)
 have hyl:(zbe l now).length<=l.length:=List.length_filter_le _ _
 have hnow:∀ y∈zbe l now,y.at'<=now:=fun y hy=>Int.le_trans (z3k hg y (zre.1 hy).1) r4
 have hn0:0<=now:=by
  have:0<=last l:=by
   unfold last
   cases h:l.getLast? with
   | none=>simp
   | some y=>exact (ztg (hg.2.1 y (List.mem_of_getLast? h))).2.1
  omega
 cases h:hit (meet w) (zbe l now) with
 | none =>
  rw [zzg l w flags now hg h]
  have hno:=zcb.1 h
  cases hs:zrt flags with
  | false=>exact ⟨_,_,_,rfl,.inr ⟨rfl,hgy,fun _ _ _=>rfl,fun _=>rfl,by omega⟩⟩
  | true =>
   by_cases h64:(zbe l now).length=64
   . rw [if_pos rfl,if_pos h64]; exact ⟨_,_,_,rfl,.inl ⟨by decide,rfl,rfl⟩⟩
   . rw [if_pos rfl,if_neg h64]
     have hlen:=hg.1
     refine ⟨_,_,_,rfl,.inr ⟨rfl,z5m hgy (by omega) (zdcb r1 hn0 r5 rfl) hnow hno,fun v h1 h2=>zc9b _ ?_,(by intro hh; cases hh),by simp; omega⟩⟩
     have:meet w ⟨w.a,w.b,w.p,w.q,1,0,now⟩=true:=zij.2 (.inl rfl)
     exact zkv this h1 h2
 | some q =>
  obtain ⟨i,x⟩:=q
  have hx:=(zdp h).1
  have hm:=(zdp h).2
  have hi:=zhn h
  have hout:=zg3b hgy w h
  have hgo:=hgy.sub (zsm (zbe l now) i)
  have holen:((zbe l now).take i++(zbe l now).drop (i+1)).length+1=(zbe l now).length:=by simp; omega
  cases hrst:rstB flags with
  | true =>
   rw [zze l w flags now hg h hrst]
   exact ⟨_,_,_,rfl,.inr ⟨rfl,hgo,fun v h1 h2=>zc8b hx (zkv hm h1 h2),(by intro hh; cases hh),by omega⟩⟩
  | false =>
   obtain ⟨b,x',e1,e2,e3,e4⟩:=zzf l w flags now hg h hrst
   rw [e4]
   cases b with
   | false=>exact ⟨_,_,_,rfl,.inr ⟨rfl,hgy,fun _ _ _=>rfl,fun _=>rfl,by omega⟩⟩
   | true =>
     have hxf:=ztg (hgy.2.1 x (List.mem_of_getElem? hx))
     have hm':meet w x'=true:=by rw [zij] at hm ⊢; rw [e1]; exact hm
     have hlen:=hg.1
     refine ⟨_,_,_,rfl,.inr ⟨rfl,z5m hgo (by omega) (zdcb (by rw [e1]; exact hxf.1) (by rw [e2]; exact hn0) (by rw [e2]; exact r5) e3) (fun y hy=>by rw [e2]; exact hnow y ((zsm _ i).subset hy)) (fun y hy=>?_),fun v h1 h2=>?_,(by intro hh; cases hh),?_⟩⟩
     . have:=hout y hy
       cases hh:meet (rdOf x') y with
       | false=>rfl
       | true =>
        exfalso
        rw [zij] at hm' hh
        have:meet w y=true:=by
         rw [zij]
         rcases hm' with k | k <;> rw [k] at hh
         . exact hh
         . rw [zjb] at hh; exact hh.symm
        rw [hout y hy] at this; cases this
     . rw [zc9b _ (zkv hm' h1 h2)]
       exact zc8b hx (zkv hm h1 h2)
     . show ((zbe l now).take i++(zbe l now).drop (i+1)++[x']).length<=_
       rw [List.length_append]; simp only [List.length_singleton]; omega
theorem w64 (a:Nat) (h:a<2^64):IntKind.wrap IntKind.u64 (a:Int)=(a:Int):=by
 simp only [IntKind.wrap,IntKind.bits,IntKind.signed]
 simp
 omega
theorem zpab (a b:Nat) (ha:a<2^64) (hb:b<2^64):bits BinOp.and IntKind.u64 (a:Int) (b:Int)=((a &&& b:Nat):Int):=zkl .u64 a b ha hb (fun h=>by cases h)
theorem fdn (a k:Nat):Int.fdiv (a:Int) ((2:Int)^k)=((a / 2^k:Nat):Int):=by
 rw [Int.fdiv_eq_ediv_of_nonneg _ (by exact_mod_cast Nat.zero_le (2^k))]
 norm_cast
def frI (a1:Int):Int:=bits BinOp.xor IntKind.u64 (if IntKind.signed IntKind.u64=true then (-1:Int) else IntKind.max IntKind.u64) a1
def mkI (a2:Int):Int:=IntKind.wrap IntKind.u64 ((6148914691236517205:Int)*(2:Int)^min (Int.toNat (bits BinOp.and IntKind.i64 a2 (1:Int))) (64:Nat))
def oneI (k:Int):Int:=IntKind.wrap IntKind.u64 ((1:Int)*(2:Int)^min (Int.toNat k) (64:Nat))
def z5b (a0 a1 k:Int):Tr (Int×(Int×(Int×(Int×Unit)))):=.ret (a0,(bits BinOp.or IntKind.u64 a1 (oneI k),(IntKind.wrap IntKind.i64 (a0+k),((0:Int),()))))
def z5a (a0 a1 x:Int):Tr (Int×(Int×(Int×(Int×Unit)))) :=
 .grd (decide ((0:Int)<=x/\x<=(18446744073709551615:Int))) (.grd (decide ((0:Int)<=ctzI x)) (z5b a0 a1 (ctzI x)))
def z3j (a0 a1 a2:Int):Tr (Int×(Int×(Int×(Int×Unit)))) :=
 .grd (decide ((0:Int)<=bits BinOp.and IntKind.i64 a2 (1:Int))) (
 .ite (decide (bits BinOp.and IntKind.u64 (frI a1) (mkI a2)=(0:Int))) (z5a a0 a1 (frI a1)) (z5a a0 a1 (bits BinOp.and IntKind.u64 (frI a1) (mkI a2))))
def zgt (a0 a1 a2:Int):Tr (Int×(Int×(Int×(Int×Unit)))) :=
 .ite (decide (IntKind.wrap IntKind.i64 (a2-a0)<(0:Int))) (z3j a0 a1 a2) (
 .ite (decide ((63:Int)<IntKind.wrap IntKind.i64 (a2-a0))) (z3j a0 a1 a2) (
 .grd (decide ((0:Int)<=IntKind.wrap IntKind.i64 (a2-a0))) (
 .ite (decide (bits BinOp.and IntKind.u64 (Int.fdiv (frI a1) ((2:Int)^min (Int.toNat (IntKind.wrap IntKind.i64 (a2-a0))) (64:Nat))) (1:Int)=(0:Int))) (z3j a0 a1 a2) (
 .grd (decide ((0:Int)<=IntKind.wrap IntKind.i64 (a2-a0))) (z5b a0 a1 (IntKind.wrap IntKind.i64 (a2-a0)))))))
theorem zlj (a0 a1 a2:Int):zar (a0,(a1,(a2,())))=(Tr.opt (β:=(Int×Unit)) (zau (a0,(a1,()))) (fun r0 =>
 .ite (!decide (r0.1=(0:Int))) (.ite (!decide (r0.1=(0:Int))) (.ret ((0:Int),((0:Int),((0:Int),(r0.1,()))))) (zgt a0 a1 a2)) (
 .ite (decide (a2<(0:Int))) (.ite true (.ret ((0:Int),((0:Int),((0:Int),((1:Int),()))))) (zgt a0 a1 a2)) (
 .ite (decide ((65535:Int)<a2)) (.ite true (.ret ((0:Int),((0:Int),((0:Int),((1:Int),()))))) (zgt a0 a1 a2)) (
 .ite (decide (a1=(18446744073709551615:Int))) (.ite true (.ret ((0:Int),((0:Int),((0:Int),((6:Int),()))))) (zgt a0 a1 a2)) (
 .ite (!decide (r0.1=(0:Int))) (.ret ((0:Int),((0:Int),((0:Int),(r0.1,()))))) (zgt a0 a1 a2))))))).eval:=rfl
def zb4 (b:Int):Prop:=64<=b/\b<=65472/\b%64=0
theorem z52 (b t:Int):zau (b,(t,()))=some (if 64<=b/\b<=65472/\b%64=0 then (0:Int) else 1,()):=by
 show (zfm (b,(t,()))).eval=_
 by_cases h1:b<64
 . refine ev_t (by simpa using h1) ?_
   rw [if_neg (by omega)]; rfl
 . refine ev_f (by simpa using h1) ?_
   by_cases h2:65472<b
   . refine ev_t (by simpa using h2) ?_
     rw [if_neg (by omega)]; rfl
   . refine ev_f (by simpa using h2) (ev_g rfl ?_)
     have e:Int.tmod b 64=b%64:=Int.tmod_eq_emod_of_nonneg (by omega)
     by_cases h3:b%64=0
     . refine ev_f (by rw [e]; simpa using h3) ?_
       rw [if_pos (by omega)]; rfl
     . refine ev_t (by rw [e]; simpa using h3) ?_
       rw [if_neg (by omega)]; rfl
theorem zb0 {b:Int} (t:Int) (h:zb4 b):zau (b,(t,()))=some ((0:Int),()):=by
 rw [z52]; exact congrArg (fun z:Int=>some (z,())) (if_pos h)
theorem zit {b:Int} (t:Int) (h:¬ zb4 b):zau (b,(t,()))=some ((1:Int),()):=by
 rw [z52]; exact congrArg (fun z:Int=>some (z,())) (if_neg h)
theorem z5r (t:Nat) (ht:t<2^64):frI (t:Int)=((2^64-(t+1):Nat):Int):=by
 have:=zj7b (t:Int) (by omega) (by omega)
 unfold frI
 rw [show (if IntKind.signed IntKind.u64=true then (-1:Int) else IntKind.max IntKind.u64)=IntKind.u64.max from rfl,this]
 omega
theorem z5s (t:Nat) (ht:t<2^64) (i:Nat):(2^64-(t+1)).testBit i=(decide (i<64) && !t.testBit i):=Nat.testBit_two_pow_sub_succ ht i
theorem zolb (w:Int) (hw:0<=w/\w<=65535):0<=bits BinOp.and IntKind.i64 w (1:Int)/\((w%2=0/\mkI w=((6148914691236517205:Nat):Int))\/(w%2=1/\mkI w=((12297829382473034410:Nat):Int))):=by
 have e:bits BinOp.and IntKind.i64 w (1:Int)=w%2:=by
   have:=zdo .i64 1 w hw.1 (by have:(2:Int)^IntKind.i64.bits=18446744073709551616:=rfl; omega) (by decide) (fun _=>by have:(2:Int)^(IntKind.i64.bits-1)=9223372036854775808:=rfl; omega)
   exact this
 unfold mkI
 rw [e]
 refine ⟨by omega,?_⟩
 have h2:w%2=0\/w%2=1:=by omega
 rcases h2 with h | h
 . left; rw [h]; exact ⟨rfl,by decide⟩
 . right; rw [h]; exact ⟨rfl,by decide⟩
theorem z45:∀ i:Fin 64,Nat.testBit 6148914691236517205 i.val=decide (i.val%2=0)/\Nat.testBit 12297829382473034410 i.val=decide (i.val%2=1):=by decide +kernel
theorem zbzb (k:Nat) (hk:k<64):oneI (k:Int)=((2^k:Nat):Int):=by
 unfold oneI
 rw [Int.toNat_natCast,Nat.min_eq_left (by omega),Int.one_mul]
 have:((2:Int)^k)=((2^k:Nat):Int):=by norm_cast
 rw [this]
 exact w64 _ (Nat.pow_lt_pow_right (by decide) hk)
theorem zfbb (x k:Nat) (hx:x<2^64) (hk:k<64):decide (bits BinOp.and IntKind.u64 (Int.fdiv (x:Int) ((2:Int)^min (Int.toNat (k:Int)) (64:Nat))) (1:Int)=(0:Int)) = !x.testBit k:=by
 rw [Int.toNat_natCast,Nat.min_eq_left (by omega),fdn,show (1:Int)=((1:Nat):Int) from rfl,zpab _ _ (Nat.lt_of_le_of_lt (Nat.div_le_self _ _) hx) (by decide),Nat.and_one_is_mod,Nat.testBit_eq_decide_div_mod_eq]
 by_cases h:x / 2^k%2=1
 . rw [h]; decide
 . rw [show x / 2^k%2=0 by omega]; decide
theorem zo7b (x:Nat) (h0:x≠0) (hx:x<2^64):∃ k:Nat,ctzI (x:Int)=(k:Int)/\k<64/\x.testBit k=true:=by
 obtain ⟨h1,h2⟩:=Lib.lowest_bit 64 x h0 hx
 refine ⟨Lib.ctz 64 x,by unfold ctzI; rw [Int.toNat_natCast],h2,?_⟩
 have:=congrArg (fun y=>Nat.testBit y (Lib.ctz 64 x)) h1
 simp only [Nat.testBit_and,Nat.testBit_two_pow_self] at this
 exact (Bool.and_eq_true_iff.1 this).1
theorem z0q (b:Int) (t k:Nat) (hb:zb4 b) (ht:t<2^64) (hk:k<64):(z5b b (t:Int) (k:Int)).eval=some (b,(((t ||| 2^k:Nat):Int),(b+(k:Int),((0:Int),())))):=by
 unfold z5b
 have hw:IntKind.wrap IntKind.i64 (b+(k:Int))=b+(k:Int):=by
  have:=hb.1; have:=hb.2.1
  simp only [IntKind.wrap,IntKind.bits,IntKind.signed]
  simp
  omega
 have hp:2^k<2^64:=Nat.pow_lt_pow_right (by decide) hk
 have hor:bits BinOp.or IntKind.u64 (t:Int) ((2^k:Nat):Int)=((t ||| 2^k:Nat):Int):=zt0 .u64 t (2^k) ht hp (fun h=>by cases h)
 rw [zbzb k hk,hw,hor]
 rfl
theorem z0p (b:Int) (t x:Nat) (hb:zb4 b) (ht:t<2^64) (h0:x≠0) (hx:x<2^64):∃ k:Nat,k<64/\x.testBit k=true/\(z5a b (t:Int) (x:Int)).eval=some (b,(((t ||| 2^k:Nat):Int),(b+(k:Int),((0:Int),())))):=by
 obtain ⟨k,h1,h2,h3⟩:=zo7b x h0 hx
 refine ⟨k,h2,h3,?_⟩
 unfold z5a
 rw [h1]
 refine ev_g (decide_eq_true (by omega)) (ev_g (decide_eq_true (by omega)) (z0q b t k hb ht h2))
theorem zjcb (b w:Int) (t:Nat) (hb:zb4 b) (ht:t<2^64) (hf:t≠2^64-1) (hw:0<=w/\w<=65535) :
   ∃ k:Nat,k<64/\t.testBit k=false/\zar (b,((t:Int),(w,())))=some (b,(((t ||| 2^k:Nat):Int),(b+(k:Int),((0:Int),())))) /\
     ((∃ j:Nat,j<64/\t.testBit j=false/\(b+(j:Int))%2=w%2)->(b+(k:Int))%2=w%2)/\(∀ j:Nat,j<64->t.testBit j=false->b+(j:Int)=w->k=j):=by
 have hF:2^64-(t+1)<2^64:=by omega
 have hF0:2^64-(t+1)≠0:=by omega
 have hbb:=hb
 obtain ⟨hb1,hb2,hb3⟩:=hb
 have hkk:IntKind.wrap IntKind.i64 (w-b)=w-b:=by
   simp only [IntKind.wrap,IntKind.bits,IntKind.signed]
   simp
   omega
 have tz:(∀ j:Nat,j<64->t.testBit j=false->b+(j:Int)≠w) -> ∃ k:Nat,k<64/\t.testBit k=false/\(z3j b (t:Int) w).eval=some (b,(((t ||| 2^k:Nat):Int),(b+(k:Int),((0:Int),())))) /\
     ((∃ j:Nat,j<64/\t.testBit j=false/\(b+(j:Int))%2=w%2)->(b+(k:Int))%2=w%2)/\(∀ j:Nat,j<64->t.testBit j=false->b+(j:Int)=w->k=j):=by
   intro hno
   obtain ⟨m1,m2⟩:=zolb w hw
   have main:∀ (m:Nat) (p:Int),p=w%2->m<2^64->(∀ i:Nat,i<64->(m.testBit i=true↔(i:Int)%2=p))->mkI w=(m:Int) -> ∃ k:Nat,k<64/\t.testBit k=false/\(z3j b (t:Int) w).eval=some (b,(((t ||| 2^k:Nat):Int),(b+(k:Int),((0:Int),())))) /\
       ((∃ j:Nat,j<64/\t.testBit j=false/\(b+(j:Int))%2=w%2)->(b+(k:Int))%2=w%2)/\(∀ j:Nat,j<64->t.testBit j=false->b+(j:Int)=w->k=j):=by
     intro m p hp hm hbit he
     have hand:bits BinOp.and IntKind.u64 (frI (t:Int)) (mkI w)=(((2^64-(t+1)) &&& m:Nat):Int):=by
       rw [z5r t ht,he]; exact zpab _ _ hF hm
     have hle:(2^64-(t+1)) &&& m<2^64:=Nat.lt_of_le_of_lt Nat.and_le_right hm
     by_cases hz:(2^64-(t+1)) &&& m=0
     . obtain ⟨k,k1,k2,k3⟩:=z0p b t _ hbb ht hF0 hF
       rw [z5s t ht k,decide_eq_true k1,Bool.true_and,Bool.not_eq_true'] at k2
       refine ⟨k,k1,k2,?_,?_,fun j j1 j2 j3=>absurd j3 (hno j j1 j2)⟩
       . unfold z3j
         refine ev_g (decide_eq_true m1) (ev_t (decide_eq_true (by rw [hand,hz]; rfl)) ?_)
         rw [z5r t ht]; exact k3
       . rintro ⟨j,j1,j2,j3⟩
         have hj:((2^64-(t+1)) &&& m).testBit j=true:=by
          rw [Nat.testBit_and,z5s t ht j,j2,decide_eq_true j1]
          simp only [Bool.not_false,Bool.and_self,Bool.true_and]
          exact (hbit j j1).2 (by omega)
         rw [hz,Nat.zero_testBit] at hj
         cases hj
     . obtain ⟨k,k1,k2,k3⟩:=z0p b t _ hbb ht hz hle
       rw [Nat.testBit_and,z5s t ht k,decide_eq_true k1,Bool.true_and,Bool.and_eq_true,Bool.not_eq_true'] at k2
       have hpar:=(hbit k k1).1 k2.2
       refine ⟨k,k1,k2.1,?_,fun _=>by omega,fun j j1 j2 j3=>absurd j3 (hno j j1 j2)⟩
       unfold z3j
       refine ev_g (decide_eq_true m1) (ev_f (decide_eq_false (by rw [hand]; exact_mod_cast hz)) ?_)
       rw [hand]; exact k3
   rcases m2 with ⟨h1,h2⟩ | ⟨h1,h2⟩
   . refine main _ 0 h1.symm (by decide) (fun i hi=>?_) h2
     rw [(z45 ⟨i,hi⟩).1,decide_eq_true_eq]
     show i%2=0↔_
     omega
   . refine main _ 1 h1.symm (by decide) (fun i hi=>?_) h2
     rw [(z45 ⟨i,hi⟩).2,decide_eq_true_eq]
     show i%2=1↔_
     omega
 have full:decide ((t:Int)=(18446744073709551615:Int))=false:=decide_eq_false (by omega)
 have head:∀ r,(zgt b (t:Int) w).eval=r->zar (b,((t:Int),(w,())))=r:=by
   intro r hr
   rw [zlj]
   exact zaa (zb0 _ hbb) (ev_f rfl (ev_f (decide_eq_false (by omega)) (ev_f (decide_eq_false (by omega)) (ev_f full (ev_f rfl hr)))))
 by_cases c1:w-b<0
 . obtain ⟨k,k1,k2,k3,k4,k5⟩:=tz (fun j j1 j2 j3=>by omega)
   refine ⟨k,k1,k2,head _ ?_,k4,k5⟩
   unfold zgt
   rw [hkk]
   exact ev_t (decide_eq_true c1) k3
 by_cases c2:63<w-b
 . obtain ⟨k,k1,k2,k3,k4,k5⟩:=tz (fun j j1 j2 j3=>by omega)
   refine ⟨k,k1,k2,head _ ?_,k4,k5⟩
   unfold zgt
   rw [hkk]
   exact ev_f (decide_eq_false c1) (ev_t (decide_eq_true c2) k3)
 obtain ⟨q,hq⟩:=Int.eq_ofNat_of_zero_le (show 0<=w-b by omega)
 have hq64:q<64:=by omega
 have hbq:=zfbb (2^64-(t+1)) q hF hq64
 rw [z5s t ht q,decide_eq_true hq64,Bool.true_and,Bool.not_not] at hbq
 cases hc:t.testBit q with
 | true =>
   rw [hc] at hbq
   obtain ⟨k,k1,k2,k3,k4,k5⟩:=tz (fun j j1 j2 j3=>by
     have:j=q:=by omega
     subst this; rw [hc] at j2; cases j2)
   refine ⟨k,k1,k2,head _ ?_,k4,k5⟩
   unfold zgt
   rw [hkk,hq,z5r t ht]
   exact ev_f (decide_eq_false (by omega)) (ev_f (decide_eq_false (by omega)) (ev_g (decide_eq_true (by omega)) (ev_t hbq k3)))
 | false =>
   rw [hc] at hbq
   refine ⟨q,hq64,hc,head _ ?_,fun _=>by omega,fun j j1 j2 j3=>by omega⟩
   unfold zgt
   rw [hkk,hq,z5r t ht]
   exact ev_f (decide_eq_false (by omega)) (ev_f (decide_eq_false (by omega)) (ev_g (decide_eq_true (by omega)) (ev_f hbq (ev_g (decide_eq_true (by omega)) (z0q b t q hbb ht hq64)))))
theorem z49 (b w:Int) (hb:zb4 b) (hw:0<=w/\w<=65535):zar (b,((18446744073709551615:Int),(w,())))=some ((0:Int),((0:Int),((0:Int),((6:Int),())))):=by
 rw [zlj]
 exact zaa (zb0 _ hb) (ev_f rfl (ev_f (decide_eq_false (by omega)) (ev_f (decide_eq_false (by omega)) (ev_t rfl (ev_t rfl rfl)))))
theorem zdvb (b:Int) (t k:Nat) (hb:zb4 b) (ht:t<2^64) (hk:k<64) (hbit:t.testBit k=true):zci (b,((t:Int),(b+(k:Int),())))=some (b,(((t ^^^ 2^k:Nat):Int),((0:Int),()))):=by
 have hb1:=hb.1
 have hb2:=hb.2.1
 have hw:IntKind.wrap IntKind.i64 (b+(63:Int))=b+63:=by
   simp only [IntKind.wrap,IntKind.bits,IntKind.signed]
   simp
   omega
 have hw2:IntKind.wrap IntKind.i64 (b+(k:Int)-b)=(k:Int):=by
   rw [show b+(k:Int)-b=(k:Int) by omega]
   simp only [IntKind.wrap,IntKind.bits,IntKind.signed]
   simp
   omega
 have hp:2^k<2^64:=Nat.pow_lt_pow_right (by decide) hk
 have hx:bits BinOp.xor IntKind.u64 (t:Int) ((2^k:Nat):Int)=((t ^^^ 2^k:Nat):Int):=z1u .u64 t (2^k) ht hp (fun h=>by cases h)
 have h1:=zbzb k hk
 unfold oneI at h1
 show (zcw _).eval=_
 unfold zcw
 simp only [hw,hw2]
 refine zaa (zb0 _ hb) (ev_f rfl (ev_f (decide_eq_false (by omega)) (ev_f (decide_eq_false (by omega)) (ev_g (decide_eq_true (by omega)) (ev_f ?_ (ev_g (decide_eq_true (by omega)) ?_))))))
 . rw [zfbb t k ht hk,hbit]; rfl
 . rw [h1,hx]; rfl
theorem zo2b (b:Int) (t:Nat) (q:Int) (ht:t<2^64) (h:¬ (zb4 b /\ ∃ k:Nat,k<64/\t.testBit k=true/\q=b+(k:Int))):∃ e:Int,e≠0/\zci (b,((t:Int),(q,())))=some ((0:Int),((0:Int),(e,()))):=by
 by_cases hb:zb4 b
 case neg=>exact ⟨1,by decide,zaa (zit _ hb) (ev_t rfl rfl)⟩
 have hb1:=hb.1
 have hb2:=hb.2.1
 have hw:IntKind.wrap IntKind.i64 (b+(63:Int))=b+63:=by
  simp only [IntKind.wrap,IntKind.bits,IntKind.signed]
  simp
  omega
 refine ⟨7,by decide,?_⟩
 show (zcw _).eval=_
 unfold zcw
 simp only [hw]
 refine zaa (zb0 _ hb) (ev_f rfl (zi2 (fun _=>rfl) fun c1=>zi2 (fun _=>rfl) fun c2=>?_))
 have c1:=of_decide_eq_false c1
 have c2:=of_decide_eq_false c2
 obtain ⟨k,hk⟩:=Int.eq_ofNat_of_zero_le (show 0<=q-b by omega)
 have hk64:k<64:=by omega
 have hw2:IntKind.wrap IntKind.i64 (q-b)=(k:Int):=by
  rw [hk]
  simp only [IntKind.wrap,IntKind.bits,IntKind.signed]
  simp
  omega
 simp only [hw2]
 refine ev_g (decide_eq_true (by omega)) (ev_t ?_ rfl)
 rw [zfbb t k ht hk64]
 cases hc:t.testBit k with
 | false=>rfl
 | true=>exact absurd ⟨hb,k,hk64,hc,by omega⟩ h
theorem or_bit (t k i:Nat):(t ||| 2^k).testBit i=(t.testBit i || decide (k=i)):=by rw [Nat.testBit_or,Nat.testBit_two_pow]
theorem zoi (t k i:Nat):(t ^^^ 2^k).testBit i=(t.testBit i ^^ decide (k=i)):=by rw [Nat.testBit_xor,Nat.testBit_two_pow]
theorem zohb (t k:Nat) (ht:t<2^64) (hk:k<64):t ||| 2^k<2^64:=Nat.or_lt_two_pow ht (Nat.pow_lt_pow_right (by decide) hk)
theorem zyv (t k:Nat) (ht:t<2^64) (hk:k<64):t ^^^ 2^k<2^64:=Nat.xor_lt_two_pow ht (Nat.pow_lt_pow_right (by decide) hk)
theorem zoeb (t k:Nat) (h:t.testBit k=false):(t ||| 2^k) ^^^ 2^k=t:=by
 apply Nat.eq_of_testBit_eq
 intro i
 rw [zoi,or_bit]
 by_cases hi:k=i
 . subst hi; rw [h]; simp
 . rw [decide_eq_false hi]; simp
theorem wi (x:Int) (h:-9223372036854775808<=x/\x<=9223372036854775807):IntKind.wrap IntKind.i64 x=x:=by
 simp only [IntKind.wrap,IntKind.bits,IntKind.signed]
 simp
 omega
def kb (p a q:Int) (x:TMap):Bool:=decide (x.proto=p)&&(decide (x.addr=a)&&decide (x.port=q))
theorem z5g {p a q:Int} {x:TMap}:kb p a q x=true↔x.proto=p/\x.addr=a/\x.port=q:=by simp [kb]
def same (x y:TMap):Prop:=x.proto=y.proto/\x.addr=y.addr/\x.port=y.port
abbrev BigN:Nat:=8796093022208
theorem zyw (life lb lt sb st:Int) (l:List TMap) (p a q:Int) (hl:l.length<BigN) :
  zbo (life,(lb,(lt,(sb,(st,(l,(p,(a,(q,())))))))))=some ((match hit (kb p a q) l with | some r=>(r.1:Int) | none=>-1),()):=by
 unfold BigN at hl
 have:=za1 (tag:=1610002) (f:=fun x=>(zbd x).eval) (l:=l) (fun i=>((i:Int),(l,((l.length:Int),(p,(a,(q,())))))))
   (kb p a q) (fun r=>match r with | some r=>Sum.inl ((r.1:Int),(p,(a,(q,())))) | none=>Sum.inr (p,(a,(q,()))))
   (fun i x hx=>by
    have hi:=(List.getElem?_eq_some_iff.1 hx).1
    have e1:IntKind.wrap IntKind.i64 ((i:Int)+(1:Int))=((i+1:Nat):Int):=wi _ (by omega)
    show (zbd _).eval=_
    unfold zbd
    refine ev_t (by simp <;> omega) (ev_g (by simp) (zaa (show l[Int.toNat (i:Int)]?=some x by simpa using hx) ?_))
    unfold kb
    cases h1:decide (x.proto=p) with
    | false=>exact ev_f rfl (ev_f rfl (ev_r (by rw [e1])))
    | true =>
     refine ev_t rfl ?_
     cases h2:decide (x.addr=a) with
     | false=>exact ev_f rfl (ev_f rfl (ev_r (by rw [e1])))
     | true =>
      refine ev_t rfl ?_
      cases h3:decide (x.port=q) with
      | false=>exact ev_f rfl (ev_r (by rw [e1]))
      | true=>exact ev_t rfl (ev_r rfl))
   (by show (zbd _).eval=_; exact ev_f (by simp) (ev_r rfl)) 18446744073709551616 (by omega)
 refine zaa (show zfo ((0:Int),(l,((l.length:Int),(p,(a,(q,()))))))=_ from this) ?_
 cases hit (kb p a q) l <;> rfl

def zoh (b:Int) (t:Nat) (o:Int):Option Nat:=if 0<=o-b/\o-b<=63/\t.testBit (o-b).toNat=true then some (t ^^^ 2^(o-b).toNat) else none
def rem (b:Int):Nat->List Int->Option Nat
 | t,[]=>some t
 | t,o :: r=>(zoh b t o).bind fun t'=>rem b t' r
def Cov (b:Int) (t:Nat) (os:List Int):Prop:=os.Nodup /\ ∀ o,o∈os ↔ ∃ k:Nat,k<64/\t.testBit k=true/\o=b+(k:Int)
theorem zl0b (x i:Nat) (hx:x<2^64) (hi:64<=i):x.testBit i=false:=Nat.testBit_lt_two_pow (Nat.lt_of_lt_of_le hx (Nat.pow_le_pow_right (by decide) hi))
theorem zpk {b:Int} {t:Nat} {o:Int} {t':Nat} (h:zoh b t o=some t'):∃ k:Nat,k<64/\o=b+(k:Int)/\t.testBit k=true/\t'=t ^^^ 2^k:=by
 unfold zoh at h
 split at h
 . rename_i hc
   cases h
   exact ⟨(o-b).toNat,by omega,by omega,hc.2.2,rfl⟩
 . cases h
theorem zyp {b:Int} {t k:Nat} (hk:k<64) (hb:t.testBit k=true):zoh b t (b+(k:Int))=some (t ^^^ 2^k):=by
 unfold zoh
 have e:b+(k:Int)-b=(k:Int):=by omega
 rw [e,Int.toNat_natCast,if_pos ⟨by omega,by omega,hb⟩]
theorem zn8 {b:Int} {t k:Nat} {os:List Int} (hk:k<64) (hb:t.testBit k=true):Cov b t ((b+(k:Int)) :: os)↔Cov b (t ^^^ 2^k) os:=by
 constructor
 . rintro ⟨h1,h2⟩
   obtain ⟨hn,h1⟩:=List.nodup_cons.1 h1
   refine ⟨h1,fun o=>⟨fun ho=>?_,?_⟩⟩
   . obtain ⟨j,j1,j2,rfl⟩:=(h2 o).1 (List.mem_cons_of_mem _ ho)
     refine ⟨j,j1,?_,rfl⟩
     have hjk:¬ k=j:=fun e=>by subst e; exact hn ho
     rw [zoi,j2,decide_eq_false hjk]; rfl
   . rintro ⟨j,j1,j2,rfl⟩
     rw [zoi] at j2
     by_cases hjk:k=j
     . subst hjk; rw [hb,decide_eq_true rfl] at j2; cases j2
     . rw [decide_eq_false hjk,Bool.xor_false] at j2
       rcases List.mem_cons.1 ((h2 _).2 ⟨j,j1,j2,rfl⟩) with e | e
       . exact absurd (show k=j by omega) hjk
       . exact e
 . rintro ⟨h1,h2⟩
   refine ⟨List.nodup_cons.2 ⟨fun hm=>?_,h1⟩,fun o=>⟨fun ho=>?_,?_⟩⟩
   . obtain ⟨j,j1,j2,j3⟩:=(h2 _).1 hm
     have:j=k:=by omega
     subst this
     rw [zoi,hb,decide_eq_true rfl] at j2; cases j2
   . rcases List.mem_cons.1 ho with rfl | ho
     . exact ⟨k,hk,hb,rfl⟩
     . obtain ⟨j,j1,j2,rfl⟩:=(h2 o).1 ho
       rw [zoi] at j2
       by_cases hjk:k=j
       . subst hjk; exact ⟨k,j1,hb,rfl⟩
       . rw [decide_eq_false hjk,Bool.xor_false] at j2; exact ⟨j,j1,j2,rfl⟩
   . rintro ⟨j,j1,j2,rfl⟩
     by_cases hjk:k=j
     . subst hjk; exact List.mem_cons_self
     . exact List.mem_cons_of_mem _ ((h2 _).2 ⟨j,j1,by rw [zoi,j2,decide_eq_false hjk]; rfl,rfl⟩)
theorem zekb {b:Int} {t:Nat} (ht:t<2^64):Cov b t []↔t=0:=by
 constructor
 . rintro ⟨_,h⟩
   apply Nat.eq_of_testBit_eq
   intro i
   rw [Nat.zero_testBit]
   by_cases hi:i<64
   . cases hb:t.testBit i with
     | false=>rfl
     | true=>have:=(h (b+(i:Int))).2 ⟨i,hi,hb,rfl⟩; cases this
   . exact zl0b t i ht (by omega)
 . rintro rfl
   refine ⟨List.nodup_nil,fun o=>⟨(fun h=>by cases h),?_⟩⟩
   rintro ⟨k,_,h,_⟩
   rw [Nat.zero_testBit] at h; cases h
theorem zdwb (b:Int) (t:Nat) (o:Int) (hb:zb4 b) (ht:t<2^64):(∃ t':Nat,zoh b t o=some t'/\t'<2^64/\zci (b,((t:Int),(o,())))=some (b,((t':Int),((0:Int),()))))\/(zoh b t o=none /\ ∃ e:Int,e≠0/\zci (b,((t:Int),(o,())))=some ((0:Int),((0:Int),(e,())))):=by
 cases h:zoh b t o with
 | some t' =>
  obtain ⟨k,k1,rfl,k2,rfl⟩:=zpk h
  exact .inl ⟨_,rfl,zyv t k ht k1,zdvb b t k hb ht k1 k2⟩
 | none =>
  refine .inr ⟨rfl,zo2b b t o ht ?_⟩
  rintro ⟨_,k,k1,k2,rfl⟩
  rw [zyp k1 k2] at h; cases h

def outs (p:Int) (l:List TMap):List Int:=(l.filter fun m=>decide (m.proto=p)).map (·.out)
def okm (m:TMap):Prop:=(m.proto=17\/m.proto=6)/\0<=m.port/\m.port<=65535/\0<=m.at'/\m.at'<=1099511627776
instance (m:TMap):Decidable (okm m):=by unfold okm; exact inferInstance
def ck (lb sb:Int) (l:List TMap):List TMap->Nat->Int->Nat->Nat->Option (Nat×Nat)
 | [],_,_,L,S=>some (L,S)
 | m :: r,i,t,L,S =>
  if okm m/\t<=m.at'/\(hit (kb m.proto m.addr m.port) l).map (·.1)=some i then
   if m.proto=17 then (zoh lb L m.out).bind fun L'=>ck lb sb l r (i+1) m.at' L' S else (zoh sb S m.out).bind fun S'=>ck lb sb l r (i+1) m.at' L S'
  else none
theorem zbv (p:Int) (m:TMap) (r:List TMap):outs p (m :: r)=if m.proto=p then m.out :: outs p r else outs p r:=by
 unfold outs
 by_cases h:m.proto=p
 . rw [if_pos h,List.filter_cons_of_pos (by simpa using h)]; rfl
 . rw [if_neg h,List.filter_cons_of_neg (by simpa using h)]
theorem zq2 (p:Int) (a b:List TMap):outs p (a++b)=outs p a++outs p b:=by simp [outs]
theorem zc0b {p a q:Int} (pre:List TMap) (m:TMap) (r:List TMap) (hm:kb p a q m=true):(hit (kb p a q) (pre++m :: r)).map (·.1)=some pre.length ↔ ∀ x∈pre,kb p a q x=false:=by
 constructor
 . intro h x hx
   cases hb:kb p a q x with
   | false=>rfl
   | true =>
    exfalso
    cases hh:hit (kb p a q) pre with
    | none=>have:=zcb.1 hh x hx; rw [hb] at this; cases this
    | some z =>
     have hlt:=zhn (i:=z.1) (x:=z.2) hh
     rw [zio,hh] at h
     simp at h
     omega
 . intro h
   rw [zio,zcb.2 h]
   simp [hit,hm]
theorem zckb (x y:TMap):kb x.proto x.addr x.port y=true↔same y x:=z5g
theorem za5b {x y:TMap} (h:same x y):same y x:=⟨h.1.symm,h.2.1.symm,h.2.2.symm⟩
theorem zeub (lb sb:Int) (l:List TMap):∀ (r pre:List TMap) (t:Int) (L S:Nat),l=pre++r->0<=t->L<2^64->S<2^64 ->
  (ck lb sb l r pre.length t L S=some (0,0)↔(∀ m∈r,okm m/\t<=m.at')/\r.Pairwise (fun x y=>x.at'<=y.at')/\r.Pairwise (fun x y=>¬ same x y)/\(∀ x∈pre,∀ m∈r,¬ same x m)/\Cov lb L (outs 17 r)/\Cov sb S (outs 6 r))
 | [],pre,t,L,S,hl,ht,hL,hS=>by
  have e:∀ p:Int,outs p []=[]:=fun _=>rfl
  rw [e,e,zekb hL,zekb hS]
  simp [ck]
 | m :: r,pre,t,L,S,hl,ht,hL,hS=>by
  have hl2:l=(pre++[m])++r:=by rw [hl]; simp
  have hlen:(pre++[m]).length=pre.length+1:=by simp
  have hfirst:(hit (kb m.proto m.addr m.port) l).map (·.1)=some pre.length ↔ ∀ x∈pre,¬ same x m:=by
    rw [hl,zc0b pre m r ((zckb m m).2 ⟨rfl,rfl,rfl⟩)]
    refine forall_congr' fun x=>forall_congr' fun hx=>?_
    rw [<- zckb m x]; simp
  unfold ck
  by_cases hc:okm m/\t<=m.at'/\(hit (kb m.proto m.addr m.port) l).map (·.1)=some pre.length
  case neg =>
    rw [if_neg hc]
    constructor
    . intro h; cases h
    . rintro ⟨h1,h2,h3,h4,h5,h6⟩
      exact absurd ⟨(h1 m List.mem_cons_self).1,(h1 m List.mem_cons_self).2,hfirst.2 fun x hx=>h4 x hx m List.mem_cons_self⟩ hc
  rw [if_pos hc]
  obtain ⟨c1,c2,c3⟩:=hc
  have c3:=hfirst.1 c3
  have main:∀ (L' S':Nat),L'<2^64->S'<2^64->(Cov lb L' (outs 17 r)/\Cov sb S' (outs 6 r)↔Cov lb L (outs 17 (m :: r))/\Cov sb S (outs 6 (m :: r))) ->
      (ck lb sb l r (pre.length+1) m.at' L' S'=some (0,0)↔(∀ x∈m :: r,okm x/\t<=x.at')/\(m :: r).Pairwise (fun x y=>x.at'<=y.at')/\(m :: r).Pairwise (fun x y=>¬ same x y)/\(∀ x∈pre,∀ y∈m :: r,¬ same x y)/\Cov lb L (outs 17 (m :: r))/\Cov sb S (outs 6 (m :: r))):=by
    intro L' S' hL' hS' hcov
    have ih:=zeub lb sb l r (pre++[m]) m.at' L' S' hl2 (by omega) hL' hS'
    rw [hlen] at ih
    rw [ih,<- hcov]
    constructor
    . rintro ⟨h1,h2,h3,h4,h5⟩
      refine ⟨fun x hx=>?_,List.pairwise_cons.2 ⟨fun x hx=>(h1 x hx).2,h2⟩,List.pairwise_cons.2 ⟨fun x hx=>h4 m (by simp) x hx,h3⟩,fun x hx y hy=>?_,h5⟩
      . rcases List.mem_cons.1 hx with rfl | hx
        . exact ⟨c1,c2⟩
        . have:=h1 x hx; exact ⟨this.1,by omega⟩
      . rcases List.mem_cons.1 hy with rfl | hy
        . exact c3 x hx
        . exact h4 x (List.mem_append_left _ hx) y hy
    . rintro ⟨h1,h2,h3,h4,h5⟩
      obtain ⟨h2a,h2⟩:=List.pairwise_cons.1 h2
      obtain ⟨h3a,h3⟩:=List.pairwise_cons.1 h3
      refine ⟨fun x hx=>⟨(h1 x (List.mem_cons_of_mem _ hx)).1,h2a x hx⟩,h2,h3,fun x hx y hy=>?_,h5⟩
      rcases List.mem_append.1 hx with hx | hx
      . exact h4 x hx y (List.mem_cons_of_mem _ hy)
      . rw [List.mem_singleton] at hx; subst hx; exact h3a y hy
  by_cases hp:m.proto=17
  . rw [if_pos hp]
    have e1:outs 17 (m :: r)=m.out :: outs 17 r:=by rw [zbv,if_pos hp]
    have e2:outs 6 (m :: r)=outs 6 r:=by rw [zbv,if_neg (by omega)]
    cases hb:zoh lb L m.out with
    | none =>
      constructor
      . intro h; cases h
      . rintro ⟨_,_,_,_,h,_⟩
        rw [e1] at h
        obtain ⟨k,k1,k2,k3⟩:=(h.2 m.out).1 List.mem_cons_self
        rw [k3,zyp k1 k2] at hb; cases hb
    | some L' =>
      obtain ⟨k,k1,k2,k3,rfl⟩:=zpk hb
      refine main _ S (zyv L k hL k1) hS ?_
      rw [e1,e2,k2,zn8 k1 k3]
  . rw [if_neg hp]
    have hp6:m.proto=6:=by have:=c1.1; omega
    have e1:outs 6 (m :: r)=m.out :: outs 6 r:=by rw [zbv,if_pos hp6]
    have e2:outs 17 (m :: r)=outs 17 r:=by rw [zbv,if_neg hp]
    cases hb:zoh sb S m.out with
    | none =>
      constructor
      . intro h; cases h
      . rintro ⟨_,_,_,_,_,h⟩
        rw [e1] at h
        obtain ⟨k,k1,k2,k3⟩:=(h.2 m.out).1 List.mem_cons_self
        rw [k3,zyp k1 k2] at hb; cases hb
    | some S' =>
      obtain ⟨k,k1,k2,k3,rfl⟩:=zpk hb
      refine main L _ hL (zyv S k hS k1) ?_
      rw [e1,e2,k2,zn8 k1 k3]
structure NatOk (life lb:Int) (L:Nat) (sb:Int) (S:Nat) (l:List TMap):Prop where
 life:1<=life/\life<=1000000
 bl:zb4 lb
 bs:zb4 sb
 ltL:L<2^64
 ltS:S<2^64
 ok:∀ m∈l,okm m
 sorted:l.Pairwise (fun x y=>x.at'<=y.at')
 keys:l.Pairwise (fun x y=>¬ same x y)
 covL:Cov lb L (outs 17 l)
 covS:Cov sb S (outs 6 l)
theorem zwq (life lb:Int) (L:Nat) (sb:Int) (S:Nat) (l:List TMap) (hb:zb4 lb) (hs:zb4 sb) (hL:L<2^64) (hS:S<2^64) (hl:l.length<BigN) :
  zhh ((0:Int),((0:Int),(l,((l.length:Int),(life,(lb,((L:Int),(sb,((S:Int),(l,(life,(lb,((L:Int),(sb,((S:Int),(l,())))))))))))))))) =
   some (match ck lb sb l l 0 0 L S with | none=>.inl ((4:Int),()) | some (L',S')=>.inr (life,(lb,((L':Int),(sb,((S':Int),(l,()))))))):=by
 unfold BigN at hl
 have key:∀ (n:Nat) (r pre:List TMap) (t:Int) (L' S':Nat),l=pre++r->L'<2^64->S'<2^64->0<=t->r.length<n ->
   zb2 840009 (fun x=>(zap x).eval) n ((pre.length:Int),(t,(l,((l.length:Int),(life,(lb,((L:Int),(sb,((S:Int),(l,(life,(lb,((L':Int),(sb,((S':Int),(l,())))))))))))))))) =
    some (match ck lb sb l r pre.length t L' S' with | none=>.inl ((4:Int),()) | some (L',S')=>.inr (life,(lb,((L':Int),(sb,((S':Int),(l,()))))))):=by
  intro n
  induction n with
  | zero=>intro r pre t L' S' _ _ _ _ hn; omega
  | succ n ih =>
   intro r pre t L' S' hlr hL' hS' ht hn
   cases r with
   | nil =>
    have:pre.length=l.length:=by rw [hlr]; simp
    exact zam (ev_f (decide_eq_false (by omega)) rfl)
   | cons m r =>
    have hlt:pre.length<l.length:=by rw [hlr]; simp
    have hget:l[Int.toNat (pre.length:Int)]?=some m:=by rw [Int.toNat_natCast,hlr]; simp
    have e1:IntKind.wrap IntKind.i64 ((pre.length:Int)+(1:Int))=((pre.length+1:Nat):Int):=wi _ (by omega)
    have hw:=zyw life lb (L:Int) sb (S:Int) l m.proto m.addr m.port hl
    have hidx:decide ((match hit (kb m.proto m.addr m.port) l with | some r=>(r.1:Int) | none=>-1)=(pre.length:Int))=decide ((hit (kb m.proto m.addr m.port) l).map (·.1)=some pre.length):=by
      cases hit (kb m.proto m.addr m.port) l with
      | none=>simp
      | some z=>simp; omega
    have stop:∀ z,(zap ((pre.length:Int),(t,(l,((l.length:Int),(life,(lb,((L:Int),(sb,((S:Int),(l,(life,(lb,((L':Int),(sb,((S':Int),(l,()))))))))))))))))).eval=some (.inr (.inl ((4:Int),())))->ck lb sb l (m :: r) pre.length t L' S'=none ->
        zb2 840009 (fun x=>(zap x).eval) (n+1) ((pre.length:Int),(t,(l,((l.length:Int),(life,(lb,((L:Int),(sb,((S:Int),(l,(life,(lb,((L':Int),(sb,((S':Int),(l,z)))))))))))))))) =
        some (match ck lb sb l (m :: r) pre.length t L' S' with | none=>.inl ((4:Int),()) | some (L',S')=>.inr (life,(lb,((L':Int),(sb,((S':Int),(l,()))))))):=fun z h1 h2=>by
      rw [h2]; exact zam h1
    have bad:¬ (okm m/\t<=m.at'/\(hit (kb m.proto m.addr m.port) l).map (·.1)=some pre.length)->ck lb sb l (m :: r) pre.length t L' S'=none:=fun h=>by unfold ck; rw [if_neg h]
    have go:∀ (L2 S2:Nat),L2<2^64->S2<2^64->0<=m.at'->zb2 840009 (fun x=>(zap x).eval) n (((pre.length+1:Nat):Int),(m.at',(l,((l.length:Int),(life,(lb,((L:Int),(sb,((S:Int),(l,(life,(lb,((L2:Int),(sb,((S2:Int),(l,())))))))))))))))) =
        some (match ck lb sb l r (pre.length+1) m.at' L2 S2 with | none=>.inl ((4:Int),()) | some (L',S')=>.inr (life,(lb,((L':Int),(sb,((S':Int),(l,()))))))):=fun L2 S2 h1 h2 h3=>by
      have:=ih r (pre++[m]) m.at' L2 S2 (by rw [hlr]; simp) h1 h2 h3 (by simp at hn; omega)
      rw [show (pre++[m]).length=pre.length+1 by simp] at this
      exact this
    have hlt':decide ((pre.length:Int)<(l.length:Int))=true:=decide_eq_true (by omega)
    have hge':decide ((0:Int)<=(pre.length:Int))=true:=decide_eq_true (by omega)
    by_cases c1:m.port<0
    . refine stop () ?_ (bad fun h=>by have:=h.1.2.1; omega)
      by_cases p17:m.proto=17
      . exact ev_t hlt' (ev_g hge' (zaa hget (ev_t (decide_eq_true p17) (ev_f rfl (ev_t (decide_eq_true c1) rfl)))))
      by_cases p6:m.proto=6
      . exact ev_t hlt' (ev_g hge' (zaa hget (ev_f (decide_eq_false p17) (ev_t (decide_eq_true p6) (ev_f rfl (ev_t (decide_eq_true c1) rfl))))))
      . exact ev_t hlt' (ev_g hge' (zaa hget (ev_f (decide_eq_false p17) (ev_f (decide_eq_false p6) (ev_t rfl rfl)))))
    by_cases pb:m.proto=17\/m.proto=6
    case neg =>
      refine stop () ?_ (bad fun h=>pb h.1.1)
      exact ev_t hlt' (ev_g hge' (zaa hget (ev_f (decide_eq_false fun e=>pb (.inl e)) (ev_f (decide_eq_false fun e=>pb (.inr e)) (ev_t rfl rfl)))))
    have c1:=decide_eq_false c1
    by_cases c2:65535<m.port
    . refine stop () ?_ (bad fun h=>by have:=h.1.2.2.1; omega)
      rcases pb with p17 | p6
      . exact ev_t hlt' (ev_g hge' (zaa hget (ev_t (decide_eq_true p17) (ev_f rfl (ev_f c1 (ev_t (decide_eq_true c2) rfl))))))
      . exact ev_t hlt' (ev_g hge' (zaa hget (ev_f (decide_eq_false (by omega)) (ev_t (decide_eq_true p6) (ev_f rfl (ev_f c1 (ev_t (decide_eq_true c2) rfl)))))))
    have c2':=decide_eq_false c2
    by_cases c3:m.at'<t
    . refine stop () ?_ (bad fun h=>by have:=h.2.1; omega)
      rcases pb with p17 | p6
      . exact ev_t hlt' (ev_g hge' (zaa hget (ev_t (decide_eq_true p17) (ev_f rfl (ev_f c1 (ev_f c2' (ev_t (decide_eq_true c3) rfl)))))))
      . exact ev_t hlt' (ev_g hge' (zaa hget (ev_f (decide_eq_false (by omega)) (ev_t (decide_eq_true p6) (ev_f rfl (ev_f c1 (ev_f c2' (ev_t (decide_eq_true c3) rfl))))))))
    have c3':=decide_eq_false c3
    by_cases c4:1099511627776<m.at'
    . refine stop () ?_ (bad fun h=>by have:=h.1.2.2.2.2; omega)
      rcases pb with p17 | p6
      . exact ev_t hlt' (ev_g hge' (zaa hget (ev_t (decide_eq_true p17) (ev_f rfl (ev_f c1 (ev_f c2' (ev_f c3' (ev_t (decide_eq_true c4) rfl))))))))
      . exact ev_t hlt' (ev_g hge' (zaa hget (ev_f (decide_eq_false (by omega)) (ev_t (decide_eq_true p6) (ev_f rfl (ev_f c1 (ev_f c2' (ev_f c3' (ev_t (decide_eq_true c4) rfl)))))))))
    have c4':=decide_eq_false c4
    by_cases c5:(hit (kb m.proto m.addr m.port) l).map (·.1)=some pre.length
    case neg =>
      refine stop () ?_ (bad fun h=>c5 h.2.2)
      have c5:(!decide ((match hit (kb m.proto m.addr m.port) l with | some r=>(r.1:Int) | none=>-1)=(pre.length:Int)))=true:=by rw [hidx,decide_eq_false c5]; rfl
      rcases pb with p17 | p6
      . exact ev_t hlt' (ev_g hge' (zaa hget (ev_t (decide_eq_true p17) (ev_f rfl (ev_f c1 (ev_f c2' (ev_f c3' (ev_f c4' (zaa hw (ev_t c5 rfl))))))))))
      . exact ev_t hlt' (ev_g hge' (zaa hget (ev_f (decide_eq_false (by omega)) (ev_t (decide_eq_true p6) (ev_f rfl (ev_f c1 (ev_f c2' (ev_f c3' (ev_f c4' (zaa hw (ev_t c5 rfl)))))))))))
    have c6:(!decide ((match hit (kb m.proto m.addr m.port) l with | some r=>(r.1:Int) | none=>-1)=(pre.length:Int)))=false:=by rw [hidx,decide_eq_true c5]; rfl
    have hok:okm m:=⟨pb,by have:=of_decide_eq_false c1; omega,by omega,by omega,by omega⟩
    have hck:ck lb sb l (m :: r) pre.length t L' S'=if m.proto=17 then (zoh lb L' m.out).bind fun L'=>ck lb sb l r (pre.length+1) m.at' L' S' else (zoh sb S' m.out).bind fun S'=>ck lb sb l r (pre.length+1) m.at' L' S':=by
      conv=>lhs; unfold ck
      rw [if_pos ⟨hok,by omega,c5⟩]
    rcases pb with p17 | p6
    . rw [if_pos p17] at hck
      rcases zdwb lb L' m.out hb hL' with ⟨L2,b1,b2,b3⟩ | ⟨b1,e,b2,b3⟩
      . rw [hck,b1]
        have hstep:(zap ((pre.length:Int),(t,(l,((l.length:Int),(life,(lb,((L:Int),(sb,((S:Int),(l,(life,(lb,((L':Int),(sb,((S':Int),(l,()))))))))))))))))).eval=some (.inl (((pre.length+1:Nat):Int),(m.at',(l,((l.length:Int),(life,(lb,((L:Int),(sb,((S:Int),(l,(life,(lb,((L2:Int),(sb,((S':Int),(l,()))))))))))))))))):=(ev_t hlt' (ev_g hge' (zaa hget (ev_t (decide_eq_true p17) (ev_f rfl (ev_f c1 (ev_f c2' (ev_f c3' (ev_f c4' (zaa hw (ev_f c6 (zaa b3 (ev_f rfl (ev_r (by rw [e1])))))))))))))))
        exact (za2 (f:=fun x=>(zap x).eval) hstep).trans (go L2 S' b2 hS' hok.2.2.2.1)
      . refine stop () ?_ (by rw [hck,b1]; rfl)
        exact ev_t hlt' (ev_g hge' (zaa hget (ev_t (decide_eq_true p17) (ev_f rfl (ev_f c1 (ev_f c2' (ev_f c3' (ev_f c4' (zaa hw (ev_f c6 (zaa b3 (ev_t (by simpa using b2) rfl))))))))))))
    . have p17:¬ m.proto=17:=by omega
      rw [if_neg p17] at hck
      rcases zdwb sb S' m.out hs hS' with ⟨S2,b1,b2,b3⟩ | ⟨b1,e,b2,b3⟩
      . rw [hck,b1]
        have hstep:(zap ((pre.length:Int),(t,(l,((l.length:Int),(life,(lb,((L:Int),(sb,((S:Int),(l,(life,(lb,((L':Int),(sb,((S':Int),(l,()))))))))))))))))).eval=some (.inl (((pre.length+1:Nat):Int),(m.at',(l,((l.length:Int),(life,(lb,((L:Int),(sb,((S:Int),(l,(life,(lb,((L':Int),(sb,((S2:Int),(l,()))))))))))))))))):=(ev_t hlt' (ev_g hge' (zaa hget (ev_f (decide_eq_false p17) (ev_t (decide_eq_true p6) (ev_f rfl (ev_f c1 (ev_f c2' (ev_f c3' (ev_f c4' (zaa hw (ev_f c6 (zaa b3 (ev_f rfl (ev_r (by rw [e1]))))))))))))))))
        exact (za2 (f:=fun x=>(zap x).eval) hstep).trans (go L' S2 hL' b2 hok.2.2.2.1)
      . refine stop () ?_ (by rw [hck,b1]; rfl)
        exact ev_t hlt' (ev_g hge' (zaa hget (ev_f (decide_eq_false p17) (ev_t (decide_eq_true p6) (ev_f rfl (ev_f c1 (ev_f c2' (ev_f c3' (ev_f c4' (zaa hw (ev_f c6 (zaa b3 (ev_t (by simpa using b2) rfl)))))))))))))
 have:=key 18446744073709551616 l [] 0 L S rfl hL hS (Int.le_refl _) (by omega)
 exact this
theorem zjz {life lb:Int} {L:Nat} {sb:Int} {S:Nat} {l:List TMap} (h:NatOk life lb L sb S l) (hl:l.length<BigN):zc6 (life,(lb,((L:Int),(sb,((S:Int),(l,()))))))=some ((0:Int),()):=by
 have hlife:=h.life
 have hck:=(zeub lb sb l l [] 0 L S rfl (Int.le_refl _) h.ltL h.ltS).2 ⟨fun m hm=>⟨h.ok m hm,(h.ok m hm).2.2.2.1⟩,h.sorted,h.keys,(fun x hx=>by cases hx),h.covL,h.covS⟩
 have hlp:=zwq life lb L sb S l h.bl h.bs h.ltL h.ltS hl
 rw [show ([]:List TMap).length=0 from rfl] at hck
 rw [hck] at hlp
 exact ev_f (decide_eq_false (by omega)) (ev_f (decide_eq_false (by omega)) (zaa (zb0 _ h.bl) (zaa (zb0 _ h.bs) (ev_f rfl (zaa hlp (ev_f rfl (ev_f rfl rfl)))))))
theorem z3e {life lb:Int} {L:Nat} {sb:Int} {S:Nat} {l:List TMap} (h:¬ NatOk life lb L sb S l) (hL:L<2^64) (hS:S<2^64) (hl:l.length<BigN):∃ e:Int,e≠0/\zc6 (life,(lb,((L:Int),(sb,((S:Int),(l,()))))))=some (e,()):=by
 by_cases h1:life<1
 . exact ⟨1,by decide,ev_t (decide_eq_true h1) rfl⟩
 by_cases h2:1000000<life
 . exact ⟨1,by decide,ev_f (decide_eq_false h1) (ev_t (decide_eq_true h2) rfl)⟩
 have h1':=decide_eq_false h1
 have h2':=decide_eq_false h2
 by_cases hb:zb4 lb
 case neg =>
   by_cases hs:zb4 sb
   . exact ⟨1,by decide,ev_f h1' (ev_f h2' (zaa (zit _ hb) (zaa (zb0 _ hs) (ev_t rfl rfl))))⟩
   . exact ⟨1,by decide,ev_f h1' (ev_f h2' (zaa (zit _ hb) (zaa (zit _ hs) (ev_t rfl rfl))))⟩
 by_cases hs:zb4 sb
 case neg=>exact ⟨1,by decide,ev_f h1' (ev_f h2' (zaa (zb0 _ hb) (zaa (zit _ hs) (ev_t rfl rfl))))⟩
 have hlp:=zwq life lb L sb S l hb hs hL hS hl
 have hck:=zeub lb sb l l [] 0 L S rfl (Int.le_refl _) hL hS
 rw [show ([]:List TMap).length=0 from rfl] at hck
 have hne:ck lb sb l l 0 0 L S≠some (0,0):=fun e=>by
   obtain ⟨g1,g2,g3,_,g5,g6⟩:=hck.1 e
   exact h ⟨by omega,hb,hs,hL,hS,fun m hm=>(g1 m hm).1,g2,g3,g5,g6⟩
 cases hc:ck lb sb l l 0 0 L S with
 | none =>
   rw [hc] at hlp
   exact ⟨4,by decide,ev_f h1' (ev_f h2' (zaa (zb0 _ hb) (zaa (zb0 _ hs) (ev_f rfl (zaa hlp rfl)))))⟩
 | some z =>
   obtain ⟨L',S'⟩:=z
   rw [hc] at hlp hne
   refine ⟨4,by decide,ev_f h1' (ev_f h2' (zaa (zb0 _ hb) (zaa (zb0 _ hs) (ev_f rfl (zaa hlp ?_)))))⟩
   by_cases hz:L'=0
   . by_cases hz2:S'=0
     . subst hz; subst hz2; exact absurd rfl hne
     . exact ev_f (show (!decide ((L':Int)=0))=false by rw [hz]; rfl) (ev_t (show (!decide ((S':Int)=0))=true by rw [decide_eq_false (by omega)]; rfl) rfl)
   . exact ev_t (show (!decide ((L':Int)=0))=true by rw [decide_eq_false (by omega)]; rfl) rfl
theorem zegb (l:List TMap) (i j:Nat) (hij:i<=j) (hj:j<=l.length):zdl ((i:Int),((j:Int),(l,())))=some (l.take i++l.drop j,()):=by
 by_cases he:i=j
 . subst he
   show (zis _).eval=_
   refine ev_g (decide_eq_true (by omega)) (ev_t (decide_eq_true rfl) (ev_g (decide_eq_true rfl) (ev_r ?_)))
   rw [List.take_append_drop]
 . unfold zdl zis
   have hj2:Int.toNat ((l.length:Int)-(j:Int))=l.length-j:=by omega
   have hB:(List.take (l.length-j) (List.drop j l)).length=l.length-j:=by simp
   simp only [Int.toNat_natCast,hj2]
   refine ev_g (by simp <;> omega) (ev_f (by simp <;> omega) (ev_g (by simp <;> omega) (ev_g (by simp <;> omega) (ev_g (by simp <;> omega) (ev_g (by rw [hB]; simp; omega) ?_)))))
   refine ev_g (by simp [hB]; omega) (ev_g (by simp [hB]; omega) (ev_g (by simp [hB]; omega) (ev_r ?_)))
   simp only [del_eq l i j (by omega) (by omega)]
theorem NatOk.tail {life lb:Int} {L:Nat} {sb:Int} {S:Nat} {m:TMap} {r:List TMap} (h:NatOk life lb L sb S (m :: r)) :
   (m.proto=17 /\ ∃ k:Nat,k<64/\L.testBit k=true/\m.out=lb+(k:Int)/\NatOk life lb (L ^^^ 2^k) sb S r)\/(m.proto=6 /\ ∃ k:Nat,k<64/\S.testBit k=true/\m.out=sb+(k:Int)/\NatOk life lb L sb (S ^^^ 2^k) r):=by
 have hok:=h.ok m List.mem_cons_self
 have s2:=(List.pairwise_cons.1 h.sorted).2
 have k2:=(List.pairwise_cons.1 h.keys).2
 have cL:=h.covL
 have cS:=h.covS
 rcases hok.1 with p | p
 . left
   rw [zbv,if_pos p] at cL
   rw [zbv,if_neg (by omega)] at cS
   obtain ⟨k,k1,k3,k4⟩:=(cL.2 m.out).1 List.mem_cons_self
   rw [k4,zn8 k1 k3] at cL
   exact ⟨p,k,k1,k3,k4,⟨h.life,h.bl,h.bs,zyv L k h.ltL k1,h.ltS,fun x hx=>h.ok x (List.mem_cons_of_mem _ hx),s2,k2,cL,cS⟩⟩
 . right
   rw [zbv,if_neg (by omega)] at cL
   rw [zbv,if_pos p] at cS
   obtain ⟨k,k1,k3,k4⟩:=(cS.2 m.out).1 List.mem_cons_self
   rw [k4,zn8 k1 k3] at cS
   exact ⟨p,k,k1,k3,k4,⟨h.life,h.bl,h.bs,h.ltL,zyv S k h.ltS k1,fun x hx=>h.ok x (List.mem_cons_of_mem _ hx),s2,k2,cL,cS⟩⟩
theorem zts {T:Type} (l:List T) (i:Nat) (hi:i<l.length):l.drop i=l[i] :: l.drop (i+1):=List.drop_eq_getElem_cons hi
theorem zdib (now life lb:Int) (L:Nat) (sb:Int) (S:Nat) (l:List TMap) (h:NatOk life lb L sb S l) (hnow:0<=now/\now<=1099511627776) (hl:l.length<BigN) :
  ∃ k L' S':Nat,zc7 (now,(life,(lb,((L:Int),(sb,((S:Int),(l,())))))))=some (life,(lb,((L':Int),(sb,((S':Int),(l.drop k,()))))))/\NatOk life lb L' sb S' (l.drop k)/\k<=l.length/\(∀ m∈l.take k,life<now-m.at')/\(∀ m∈l.drop k,now-m.at'<=life):=by
 unfold BigN at hl
 have key:∃ z,zfr ((0:Int),(now,(life,(lb,((L:Int),(sb,((S:Int),(l,()))))))))=some z /\ ∃ k L' S':Nat,z=((k:Int),(life,(lb,((L':Int),(sb,((S':Int),(l,())))))))/\NatOk life lb L' sb S' (l.drop k)/\k<=l.length/\(∀ m∈l.take k,life<now-m.at')/\(∀ m∈l.drop k,now-m.at'<=life):=by
  refine zkw (f:=fun x=>(zfq x).eval)
    (fun x=>∃ i L' S':Nat,x=((i:Int),(now,(life,(lb,((L':Int),(sb,((S':Int),(l,()))))))))/\NatOk life lb L' sb S' (l.drop i)/\i<=l.length/\(∀ m∈l.take i,life<now-m.at')) _
    (fun x=>l.length-x.1.toNat) ?_ _ _ ⟨0,L,S,rfl,h,Nat.zero_le _,fun m hm=>by simp at hm⟩ (by show l.length-(0:Int).toNat<18446744073709551616; simp; omega)
  rintro _ ⟨i,L',S',rfl,hN,hi,hold⟩
  by_cases hlt:i<l.length
  case neg =>
    left
    have:i=l.length:=by omega
    exact ⟨_,ev_f (decide_eq_false (by omega)) (ev_g (decide_eq_true rfl) rfl),i,L',S',rfl,hN,hi,hold,fun m hm=>by rw [List.drop_eq_nil_of_le (by omega)] at hm; cases hm⟩
  have hget:l[Int.toNat (i:Int)]?=some l[i]:=by rw [Int.toNat_natCast,List.getElem?_eq_getElem hlt]
  have hd:=zts l i hlt
  have htk:l.take (i+1)=l.take i++[l[i]]:=(List.take_append_getElem hlt).symm
  generalize l[i]=m at hget hd htk
  have hNd:=hN
  rw [hd] at hNd
  have hok:=hNd.ok m List.mem_cons_self
  have hw:IntKind.wrap IntKind.i64 (now-m.at')=now-m.at':=by have:=hok.2.2.2; exact wi _ (by omega)
  have g0:decide ((i:Int)<(l.length:Int))=true:=decide_eq_true (by omega)
  have g1:decide ((0:Int)<=(i:Int)/\(i:Int)<(l.length:Int))=true:=decide_eq_true (by omega)
  have e1:IntKind.wrap IntKind.i64 ((i:Int)+(1:Int))=((i+1:Nat):Int):=wi _ (by omega)
  by_cases ho:life<now-m.at'
  . right
    have hold2:∀ x∈l.take (i+1),life<now-x.at':=fun x hx=>by
      rw [htk] at hx
      rcases List.mem_append.1 hx with hx | hx
      . exact hold x hx
      . rw [List.mem_singleton] at hx; subst hx; exact ho
    have hmeas:l.length-(i+1)<l.length-i:=by omega
    rcases hNd.tail with ⟨p,k,k1,k2,k3,hN2⟩ | ⟨p,k,k1,k2,k3,hN2⟩
    . have he:=zdvb lb L' k h.bl hN.ltL k1 k2
      rw [<- k3] at he
      refine ⟨_,ev_t g0 (ev_g g1 (zaa hget (ev_t (by rw [hw]; exact decide_eq_true ho) (ev_g g1 (zaa hget (ev_t (decide_eq_true p) (ev_g g1 (zaa hget (zaa he (ev_g (decide_eq_true rfl) (ev_r rfl))))))))))),⟨i+1,L' ^^^ 2^k,S',by rw [e1],hN2,by omega,hold2⟩,by show l.length-(IntKind.wrap IntKind.i64 ((i:Int)+(1:Int))).toNat<l.length-(i:Int).toNat; rw [e1]; exact hmeas⟩
    . have he:=zdvb sb S' k h.bs hN.ltS k1 k2
      rw [<- k3] at he
      refine ⟨_,ev_t g0 (ev_g g1 (zaa hget (ev_t (by rw [hw]; exact decide_eq_true ho) (ev_g g1 (zaa hget (ev_f (decide_eq_false (by omega)) (ev_t (decide_eq_true p) (ev_g g1 (zaa hget (zaa he (ev_g (decide_eq_true rfl) (ev_r rfl)))))))))))),⟨i+1,L',S' ^^^ 2^k,by rw [e1],hN2,by omega,hold2⟩,by show l.length-(IntKind.wrap IntKind.i64 ((i:Int)+(1:Int))).toNat<l.length-(i:Int).toNat; rw [e1]; exact hmeas⟩
  . left
    refine ⟨_,ev_t g0 (ev_g g1 (zaa hget (ev_f (by rw [hw]; exact decide_eq_false ho) (ev_g (decide_eq_true rfl) (ev_r rfl))))),i,L',S',rfl,hN,hi,hold,fun x hx=>?_⟩
    rw [hd] at hx
    rcases List.mem_cons.1 hx with rfl | hx
    . omega
    . have:=(List.pairwise_cons.1 hNd.sorted).1 x hx
      omega
 obtain ⟨_,h1,k,L',S',rfl,h2,h3,h4,h5⟩:=key
 have hdel:=zegb l 0 k (Nat.zero_le _) h3
 refine ⟨k,L',S',?_,h2,h3,h4,h5⟩
 exact ev_g (decide_eq_true rfl) (zaa h1 (ev_g (decide_eq_true rfl) (zaa hdel (ev_g (decide_eq_true rfl) rfl))))
def ze0 (a0 a1 a2 a3 a4:Int) (a5:List TMap) (a6 a7 a8 a9:Int):Tr (Int×(Int×(Int×(Int×(Int×((List TMap)×(Int×(Int×Unit)))))))) :=
 .grd (decide (((0:Nat)+List.length a5)*(40:Nat)<=(140737488355328:Nat)/\(0:Nat)+List.length a5<=(9223372036854775807:Nat))) ( .grd (decide (List.length a5=List.length a5)) ( .opt (β:=(Int×(Int×(Int×(Int×(Int×((List TMap)×Unit))))))) ((zc7 (a9,(a0,(a1,(a2,(a3,(a4,(a5,()))))))))) (fun r2=>.opt (β:=(Int×Unit)) ((zbo (r2.1,(r2.2.1,(r2.2.2.1,(r2.2.2.2.1,(r2.2.2.2.2.1,(r2.2.2.2.2.2.1,(a6,(a7,(a8,()))))))))))) (fun r3=>.ite (decide ((0:Int)<=r3.1)) ( .grd (decide ((0:Int)<=r3.1/\r3.1<(↑(List.length r2.2.2.2.2.2.fst):Int))) ( .opt (β:=TMap) (r2.2.2.2.2.2.1[Int.toNat r3.1]?) (fun r4=>.grd (decide (List.length r2.2.2.2.2.2.fst=List.length r2.2.2.2.2.2.1)) ( .opt (β:=((List TMap)×Unit)) ((zdl (r3.1,(IntKind.wrap IntKind.i64 (r3.1+(1:Int)),(r2.2.2.2.2.2.1,()))))) (fun r5=>.grd (decide ((List.length r5.1+List.length [TMap.mk a6 a7 a8 r4.out a9])*(40:Nat)<=(140737488355328:Nat)/\List.length r5.1+List.length [TMap.mk a6 a7 a8 r4.out a9]<=(9223372036854775807:Nat))) ( .ret (r2.1,(r2.2.1,(r2.2.2.1,(r2.2.2.2.1,(r2.2.2.2.2.1,(r5.1++[TMap.mk a6 a7 a8 r4.out a9],(r4.out,((0:Int),())))))))))))))) ( .ite (decide (a6=(17:Int))) ( .opt (β:=(Int×(Int×(Int×(Int×Unit))))) ((zar (r2.2.1,(r2.2.2.1,(a8,()))))) (fun r4=>.ite (!decide (r4.2.2.2.1=(0:Int))) ( .ret (a0,(a1,(a2,(a3,(a4,(a5,((0:Int),(r4.2.2.2.1,()))))))))) ( .grd (decide ((List.length r2.2.2.2.2.2.1+List.length [TMap.mk a6 a7 a8 r4.2.2.1 a9])*(40:Nat)<=(140737488355328:Nat)/\List.length r2.2.2.2.2.2.1+List.length [TMap.mk a6 a7 a8 r4.2.2.1 a9]<=(9223372036854775807:Nat))) ( .ret (r2.1,(r4.1,(r4.2.1,(r2.2.2.2.1,(r2.2.2.2.2.1,(r2.2.2.2.2.2.1++[TMap.mk a6 a7 a8 r4.2.2.1 a9],(r4.2.2.1,((0:Int),())))))))))))) ( .ite (decide (a6=(6:Int))) ( .opt (β:=(Int×(Int×(Int×(Int×Unit))))) ((zar (r2.2.2.2.1,(r2.2.2.2.2.1,(a8,()))))) (fun r4=>.ite (!decide (r4.2.2.2.1=(0:Int))) ( .ret (a0,(a1,(a2,(a3,(a4,(a5,((0:Int),(r4.2.2.2.1,()))))))))) ( .grd (decide ((List.length r2.2.2.2.2.2.1+List.length [TMap.mk a6 a7 a8 r4.2.2.1 a9])*(40:Nat)<=(140737488355328:Nat)/\List.length r2.2.2.2.2.2.1+List.length [TMap.mk a6 a7 a8 r4.2.2.1 a9]<=(9223372036854775807:Nat))) ( .ret (r2.1,(r2.2.1,(r2.2.2.1,(r4.1,(r4.2.1,(r2.2.2.2.2.2.1++[TMap.mk a6 a7 a8 r4.2.2.1 a9],(r4.2.2.1,((0:Int),())))))))))))) ( .fail 3)))))))
theorem z0h (a0 a1 a2 a3 a4:Int) (a5:List TMap) (a6 a7 a8 a9:Int):zb1 (a0,(a1,(a2,(a3,(a4,(a5,(a6,(a7,(a8,(a9,()))))))))))=(Tr.grd (decide (((0:Nat)+List.length a5)*(40:Nat)<=(140737488355328:Nat)/\(0:Nat)+List.length a5<=(9223372036854775807:Nat))) (
 .opt (β:=(Int×Unit)) ((zc6 (a0,(a1,(a2,(a3,(a4,(a5,())))))))) (fun r0 =>
 .ite (!decide (r0.1=(0:Int))) (
  .ret ((a0,(a1,(a2,(a3,(a4,(a5,((0:Int),(r0.1,())))))))):(Int×(Int×(Int×(Int×(Int×((List TMap)×(Int×(Int×Unit)))))))))) (
  .ite (decide ((0:Int)<(↑(List.length a5):Int))) (
   .grd (decide ((0:Int)<=IntKind.wrap IntKind.i64 ((↑(List.length a5):Int)-(1:Int))/\IntKind.wrap IntKind.i64 ((↑(List.length a5):Int)-(1:Int))<(↑(List.length a5):Int))) (
   .opt (β:=TMap) (a5[Int.toNat (IntKind.wrap IntKind.i64 ((↑(List.length a5):Int)-(1:Int)))]?) (fun r1 =>
   .ite (!decide (a6=(6:Int))) (
    .ite (!decide (a6=(17:Int))) (
     .ret (a0,(a1,(a2,(a3,(a4,(a5,((0:Int),((7:Int),()))))))))) (
     .ite (decide (a8<(0:Int))) (
    .ret (a0,(a1,(a2,(a3,(a4,(a5,((0:Int),((1:Int),()))))))))) (
    .ite (decide ((65535:Int)<a8)) (
     .ret (a0,(a1,(a2,(a3,(a4,(a5,((0:Int),((1:Int),()))))))))) (
     .ite (decide (a9<r1.at')) (
      .ret (a0,(a1,(a2,(a3,(a4,(a5,((0:Int),((1:Int),()))))))))) (
      .ite (decide ((1099511627776:Int)<a9)) (
       .ret (a0,(a1,(a2,(a3,(a4,(a5,((0:Int),((1:Int),()))))))))) (
       ze0 a0 a1 a2 a3 a4 a5 a6 a7 a8 a9)))))) (
    .ite (decide (a8<(0:Int))) (
    .ret (a0,(a1,(a2,(a3,(a4,(a5,((0:Int),((1:Int),()))))))))) (
    .ite (decide ((65535:Int)<a8)) (
     .ret (a0,(a1,(a2,(a3,(a4,(a5,((0:Int),((1:Int),()))))))))) (
     .ite (decide (a9<r1.at')) (
      .ret (a0,(a1,(a2,(a3,(a4,(a5,((0:Int),((1:Int),()))))))))) (
      .ite (decide ((1099511627776:Int)<a9)) (
       .ret (a0,(a1,(a2,(a3,(a4,(a5,((0:Int),((1:Int),()))))))))) (
       ze0 a0 a1 a2 a3 a4 a5 a6 a7 a8 a9)))))))) (
   .ite (!decide (a6=(6:Int))) (
    .ite (!decide (a6=(17:Int))) (
     .ret (a0,(a1,(a2,(a3,(a4,(a5,((0:Int),((7:Int),()))))))))) (
     .ite (decide (a8<(0:Int))) (
    .ret (a0,(a1,(a2,(a3,(a4,(a5,((0:Int),((1:Int),()))))))))) (
    .ite (decide ((65535:Int)<a8)) (
     .ret (a0,(a1,(a2,(a3,(a4,(a5,((0:Int),((1:Int),()))))))))) (
     .ite (decide (a9<(0:Int))) (
      .ret (a0,(a1,(a2,(a3,(a4,(a5,((0:Int),((1:Int),()))))))))) (
      .ite (decide ((1099511627776:Int)<a9)) (
       .ret (a0,(a1,(a2,(a3,(a4,(a5,((0:Int),((1:Int),()))))))))) (
       ze0 a0 a1 a2 a3 a4 a5 a6 a7 a8 a9)))))) (
    .ite (decide (a8<(0:Int))) (
    .ret (a0,(a1,(a2,(a3,(a4,(a5,((0:Int),((1:Int),()))))))))) (
    .ite (decide ((65535:Int)<a8)) (
     .ret (a0,(a1,(a2,(a3,(a4,(a5,((0:Int),((1:Int),()))))))))) (
     .ite (decide (a9<(0:Int))) (
      .ret (a0,(a1,(a2,(a3,(a4,(a5,((0:Int),((1:Int),()))))))))) (
      .ite (decide ((1099511627776:Int)<a9)) (
       .ret (a0,(a1,(a2,(a3,(a4,(a5,((0:Int),((1:Int),()))))))))) (
       ze0 a0 a1 a2 a3 a4 a5 a6 a7 a8 a9)))))))))).eval:=rfl
def zhk (l:List TMap):Int:=match l.getLast? with | some m=>m.at' | none=>0
theorem zs2 {l:List TMap} (h:l.Pairwise (fun x y=>x.at'<=y.at')):∀ m∈l,m.at'<=zhk l:=by
 intro m hm
 rcases List.eq_nil_or_concat l with rfl | ⟨p,x,rfl⟩
 . cases hm
 . rw [List.concat_eq_append] at hm h ⊢
   simp only [zhk,List.getLast?_append,List.getLast?_singleton,Option.some_or]
   rcases List.mem_append.1 hm with hm | hm
   . exact (List.pairwise_append.1 h).2.2 m hm x (by simp)
   . rw [List.mem_singleton] at hm; subst hm; exact Int.le_refl _
structure ArgOk (l:List TMap) (proto port now:Int):Prop where
 proto:proto=17\/proto=6
 port:0<=port/\port<=65535
 now:zhk l<=now/\0<=now/\now<=1099511627776
theorem zys {α:Type} {Q:Option α->Prop} {c:Bool} {t e:Tr α} (h1:c=true->Q t.eval) (h2:c=false->Q e.eval):Q (Tr.ite c t e).eval:=by
 cases c
 . exact h2 rfl
 . exact h1 rfl
theorem zpdb {α β:Type} {Q:Option α->Prop} {o:Option β} {k:β->Tr α} {b:β} (h:o=some b) (h2:Q (k b).eval):Q (Tr.opt o k).eval:=by rw [h]; exact h2
theorem R_g {α:Type} {Q:Option α->Prop} {c:Bool} {t:Tr α} (h:c=true) (h2:Q t.eval):Q (Tr.grd c t).eval:=by rw [h]; exact h2
theorem z4z {life lb:Int} {L:Nat} {sb:Int} {S:Nat} {l:List TMap} {proto addr port now:Int} (hN:NatOk life lb L sb S l) (hs:l.length*40<=140737488355300) (hl:l.length<BigN) (Q:Option (Int×(Int×(Int×(Int×(Int×((List TMap)×(Int×(Int×Unit))))))))->Prop)
   (hA:ArgOk l proto port now->Q (ze0 life lb (L:Int) sb (S:Int) l proto addr port now).eval) (hB:¬ ArgOk l proto port now -> ∀ e:Int,e≠0->Q (some (life,(lb,((L:Int),(sb,((S:Int),(l,((0:Int),(e,()))))))))) ) :
   Q (zb1 (life,(lb,((L:Int),(sb,((S:Int),(l,(proto,(addr,(port,(now,()))))))))))):=by
 unfold BigN at hl
 rw [z0h]
 refine R_g (Q:=Q) (decide_eq_true (by omega)) (zpdb (Q:=Q) (zjz hN (by unfold BigN; exact hl)) (zys (Q:=Q) (fun h=>by cases h) fun _=>?_))
 have tl:∀ last:Int,last=zhk l->0<=last->(proto=17\/proto=6)->Q (Tr.ite (decide (port<(0:Int))) (
    .ret ((life,(lb,((L:Int),(sb,((S:Int),(l,((0:Int),((1:Int),())))))))):(Int×(Int×(Int×(Int×(Int×((List TMap)×(Int×(Int×Unit)))))))))) (
    .ite (decide ((65535:Int)<port)) (
     .ret (life,(lb,((L:Int),(sb,((S:Int),(l,((0:Int),((1:Int),()))))))))) (
     .ite (decide (now<last)) (
      .ret (life,(lb,((L:Int),(sb,((S:Int),(l,((0:Int),((1:Int),()))))))))) (
      .ite (decide ((1099511627776:Int)<now)) (
       .ret (life,(lb,((L:Int),(sb,((S:Int),(l,((0:Int),((1:Int),()))))))))) (
       ze0 life lb (L:Int) sb (S:Int) l proto addr port now))))).eval:=by
   intro last hla h0 hp
   refine zys (Q:=Q) (fun c=>hB (fun h=>by have:=h.port; have:=of_decide_eq_true c; omega) 1 (by decide)) fun c1=>zys (Q:=Q) (fun c=>hB (fun h=>by have:=h.port; have:=of_decide_eq_true c; omega) 1 (by decide)) fun c2=>zys (Q:=Q) (fun c=>hB (fun h=>by have:=h.now; have:=of_decide_eq_true c; omega) 1 (by decide)) fun c3=>zys (Q:=Q) (fun c=>hB (fun h=>by have:=h.now; have:=of_decide_eq_true c; omega) 1 (by decide)) fun c4=>hA ?_
   have c1:=of_decide_eq_false c1
   have c2:=of_decide_eq_false c2
   have c3:=of_decide_eq_false c3
   have c4:=of_decide_eq_false c4
   exact ⟨hp,by omega,by omega⟩
 have two:∀ T1 T2:Tr (Int×(Int×(Int×(Int×(Int×((List TMap)×(Int×(Int×Unit)))))))),((proto=17\/proto=6)->Q T1.eval)->((proto=17\/proto=6)->Q T2.eval)->Q (Tr.ite (!decide (proto=(6:Int))) (.ite (!decide (proto=(17:Int))) (.ret (life,(lb,((L:Int),(sb,((S:Int),(l,((0:Int),((7:Int),()))))))))) T1) T2).eval:=by
   intro T1 T2 h1 h2
   refine zys (Q:=Q) (fun c=>?_) (fun c=>h2 (.inr (by simpa using c)))
   refine zys (Q:=Q) (fun c2=>hB (fun h=>?_) 7 (by decide)) (fun c2=>h1 (.inl (by simpa using c2)))
   have h3:¬ proto=6:=by simpa using c
   have h4:¬ proto=17:=by simpa using c2
   have:=h.proto
   omega
 by_cases hz:0<l.length
 . have hw:IntKind.wrap IntKind.i64 ((l.length:Int)-(1:Int))=((l.length-1:Nat):Int):=by rw [wi _ (by omega)]; omega
   have hget:l[Int.toNat (IntKind.wrap IntKind.i64 ((l.length:Int)-(1:Int)))]?=some l[l.length-1]:=by rw [hw,Int.toNat_natCast,List.getElem?_eq_getElem (by omega)]
   have hla:l[l.length-1].at'=zhk l:=by
     unfold zhk
     rw [List.getLast?_eq_getElem?,List.getElem?_eq_getElem (by omega)]
   have h0:0<=l[l.length-1].at':=(hN.ok _ (List.getElem_mem _)).2.2.2.1
   generalize l[l.length-1]=m at hget hla h0
   refine zys (Q:=Q) (fun _=>R_g (Q:=Q) (decide_eq_true (by rw [hw]; omega)) (zpdb (Q:=Q) hget (two _ _ (tl _ hla h0) (tl _ hla h0)))) (fun c=>absurd (of_decide_eq_false c) (by omega))
 . have hla:(0:Int)=zhk l:=by
     have:l=[]:=List.length_eq_zero_iff.1 (by omega)
     subst this; rfl
   exact zys (Q:=Q) (fun c=>absurd (of_decide_eq_true c) (by omega)) (fun _=>two _ _ (tl _ hla (Int.le_refl _)) (tl _ hla (Int.le_refl _)))
theorem zyf {b:Int} {t:Nat} {x y:List Int} (h:x.Perm y) (hc:Cov b t x):Cov b t y:=⟨(h.nodup_iff).1 hc.1,fun o=>by rw [<- h.mem_iff]; exact hc.2 o⟩
theorem zelb {b:Int} {t k:Nat} {os:List Int} (hk:k<64) (hb:t.testBit k=false) (hc:Cov b t os):Cov b (t ||| 2^k) (os++[b+(k:Int)]):=by
 have h1:(t ||| 2^k).testBit k=true:=by rw [or_bit]; simp
 have:=(zn8 (b:=b) (os:=os) hk h1).2 (by rw [zoeb t k hb]; exact hc)
 exact zyf (List.perm_append_comm (l₁:=[b+(k:Int)])) this
theorem zczb {T:Type} {p:T->Bool}:∀ {l:List T} {i:Nat} {x:T},hit p l=some (i,x)->l=l.take i++x :: l.drop (i+1)/\p x=true:=by
 intro l i x h
 obtain ⟨h1,h2⟩:=zdp h
 have hi:=zhn h
 refine ⟨?_,h2⟩
 have:l[i]=x:=by rw [List.getElem?_eq_getElem hi] at h1; exact Option.some.inj h1
 conv=>lhs; rw [<- List.take_append_drop i l,zts l i hi,this]
theorem zklb (Y:List TMap) (m:TMap) (h:(Y.length+1)*40<=140737488355328):decide ((List.length Y+List.length [m])*(40:Nat)<=(140737488355328:Nat)/\List.length Y+List.length [m]<=(9223372036854775807:Nat))=true:=by
 apply decide_eq_true
 simp only [List.length_singleton]
 omega
theorem NatOk.put {life lb:Int} {L L2:Nat} {sb:Int} {S S2:Nat} {Y Z:List TMap} {proto addr port out now:Int} (hN:NatOk life lb L sb S Y) (hA:ArgOk Y proto port now) (hZ:Z.Sublist Y) (hk:∀ x∈Z,kb proto addr port x=false) (hL2:L2<2^64) (hS2:S2<2^64)
   (cL:Cov lb L2 (outs 17 (Z++[⟨proto,addr,port,out,now⟩]))) (cS:Cov sb S2 (outs 6 (Z++[⟨proto,addr,port,out,now⟩]))):NatOk life lb L2 sb S2 (Z++[⟨proto,addr,port,out,now⟩]):=by
 have hlast:=zs2 hN.sorted
 refine ⟨hN.life,hN.bl,hN.bs,hL2,hS2,fun m hm=>?_,?_,?_,cL,cS⟩
 . rcases List.mem_append.1 hm with hm | hm
   . exact hN.ok m (hZ.subset hm)
   . rw [List.mem_singleton] at hm; subst hm
     exact ⟨hA.proto,hA.port.1,hA.port.2,hA.now.2.1,hA.now.2.2⟩
 . refine List.pairwise_append.2 ⟨hN.sorted.sublist hZ,by simp,fun x hx y hy=>?_⟩
   rw [List.mem_singleton] at hy; subst hy
   have:=hlast x (hZ.subset hx)
   have:=hA.now.1
   show x.at'<=now
   omega
 . refine List.pairwise_append.2 ⟨hN.keys.sublist hZ,by simp,fun x hx y hy hs=>?_⟩
   rw [List.mem_singleton] at hy; subst hy
   have:=hk x hx
   rw [z5g.2 hs] at this; cases this
theorem zodb {life lb:Int} {L:Nat} {sb:Int} {S:Nat} {l:List TMap} {proto addr port now:Int} (hN:NatOk life lb L sb S l) (hA:ArgOk l proto port now) (hs:l.length*40<=140737488355280) (hl:l.length<BigN) :
  ∃ Y:List TMap,(∃ k,Y=l.drop k)/\(∀ m,m∈Y↔m∈l/\now-m.at'<=life)/\((∃ (out:Int) (L2 S2:Nat) (Z:List TMap),zb1 (life,(lb,((L:Int),(sb,((S:Int),(l,(proto,(addr,(port,(now,()))))))))))=some (life,(lb,((L2:Int),(sb,((S2:Int),(Z++[⟨proto,addr,port,out,now⟩],(out,((0:Int),())))))))) /\
      NatOk life lb L2 sb S2 (Z++[⟨proto,addr,port,out,now⟩])/\Z.length<=l.length/\(∀ m,m∈Z↔m∈Y/\kb proto addr port m=false)/\(∀ m∈Y,kb proto addr port m=true->m.out=out)/\((∀ m∈Y,kb proto addr port m=false)->Z=Y)) \/
    (zb1 (life,(lb,((L:Int),(sb,((S:Int),(l,(proto,(addr,(port,(now,()))))))))))=some (life,(lb,((L:Int),(sb,((S:Int),(l,((0:Int),((6:Int),()))))))))/\(∀ m∈Y,kb proto addr port m=false) /\ ∃ b:Int,(proto=17/\b=lb\/proto=6/\b=sb) /\ ∀ k:Nat,k<64->b+(k:Int)∈outs proto Y)):=by
 have hl0:=hl
 unfold BigN at hl
 obtain ⟨k,L1,S1,e1,hN1,hk,hold,hnew⟩:=zdib now life lb L sb S l hN hA.now.2 hl0
 have hYl:(l.drop k).length<=l.length:=by simp
 have hAY:ArgOk (l.drop k) proto port now:=by
  refine ⟨hA.proto,hA.port,?_,hA.now.2⟩
  unfold zhk
  cases hg:(l.drop k).getLast? with
  | none=>exact hA.now.2.1
  | some m =>
    have hm:m∈l.drop k:=List.mem_of_getLast? hg
    have:=zs2 hN.sorted m (List.mem_of_mem_drop hm)
    have:=hA.now.1
    show m.at'<=now
    omega
 have hmem:∀ m,m∈l.drop k↔m∈l/\now-m.at'<=life:=by
  intro m
  constructor
  . intro hm; exact ⟨List.mem_of_mem_drop hm,hnew m hm⟩
  . rintro ⟨hm,ht⟩
    rw [<- List.take_append_drop k l] at hm
    rcases List.mem_append.1 hm with hm | hm
    . have:=hold m hm; omega
    . exact hm
 refine ⟨l.drop k,⟨k,rfl⟩,hmem,?_⟩
 have g0:decide (((0:Nat)+List.length l)*(40:Nat)<=(140737488355328:Nat)/\(0:Nat)+List.length l<=(9223372036854775807:Nat))=true:=decide_eq_true (by omega)
 generalize hY:l.drop k=Y at e1 hN1 hold hnew hYl hAY hmem ⊢
 have hwi:=zyw life lb (L1:Int) sb (S1:Int) Y proto addr port (by unfold BigN; omega)
 cases hh:hit (kb proto addr port) Y with
 | some z =>
  obtain ⟨i,x⟩:=z
  obtain ⟨hsp,hkx⟩:=zczb hh
  have hi:=zhn hh
  rw [hh] at hwi
  have hx:=z5g.1 hkx
  have hxY:x∈Y:=by rw [hsp]; simp
  have hkeys:=hN1.keys
  rw [hsp] at hkeys
  obtain ⟨ka,kbb,kc⟩:=List.pairwise_append.1 hkeys
  obtain ⟨kd,ke⟩:=List.pairwise_cons.1 kbb
  have hZk:∀ y∈Y.take i++Y.drop (i+1),kb proto addr port y=false:=by
    intro y hy
    cases hb:kb proto addr port y with
    | false=>rfl
    | true =>
      exfalso
      have hy2:=z5g.1 hb
      have hsame:same y x:=⟨hy2.1.trans hx.1.symm,hy2.2.1.trans hx.2.1.symm,hy2.2.2.trans hx.2.2.symm⟩
      rcases List.mem_append.1 hy with hy | hy
      . exact kc y hy x List.mem_cons_self hsame
      . exact kd y hy (za5b hsame)
  have hsub:(Y.take i++Y.drop (i+1)).Sublist Y:=by
    conv=>rhs; rw [hsp]
    exact List.Sublist.append (List.Sublist.refl _) (List.sublist_cons_self _ _)
  have hperm:(Y.take i++Y.drop (i+1)++[(⟨proto,addr,port,x.out,now⟩:TMap)]).Perm ((⟨proto,addr,port,x.out,now⟩:TMap) :: (Y.take i++Y.drop (i+1))):=List.perm_append_comm (l₂:=[(⟨proto,addr,port,x.out,now⟩:TMap)])
  have hperm2:Y.Perm (x :: (Y.take i++Y.drop (i+1))):=by
    conv=>lhs; rw [hsp]
    exact List.perm_middle
  have ho:∀ p:Int,(outs p Y).Perm (outs p (Y.take i++Y.drop (i+1)++[⟨proto,addr,port,x.out,now⟩])):=by
    intro p
    have a1:(outs p Y).Perm (outs p (x :: (Y.take i++Y.drop (i+1)))):=(hperm2.filter _).map _
    have a2:(outs p (Y.take i++Y.drop (i+1)++[⟨proto,addr,port,x.out,now⟩])).Perm (outs p (⟨proto,addr,port,x.out,now⟩ :: (Y.take i++Y.drop (i+1)))):=(hperm.filter _).map _
    have a3:outs p (x :: (Y.take i++Y.drop (i+1)))=outs p (⟨proto,addr,port,x.out,now⟩ :: (Y.take i++Y.drop (i+1))):=by rw [zbv,zbv,hx.1]
    rw [a3] at a1
    exact a1.trans a2.symm
  left
  have hzl:(Y.take i++Y.drop (i+1)).length+1=Y.length:=by simp; omega
  have hnext:IntKind.wrap IntKind.i64 ((i:Int)+(1:Int))=((i+1:Nat):Int):=wi _ (by omega)
  have hget:Y[Int.toNat (i:Int)]?=some x:=by rw [Int.toNat_natCast]; exact (zdp hh).1
  have hdel:=zegb Y i (i+1) (by omega) (by omega)
  refine ⟨x.out,L1,S1,Y.take i++Y.drop (i+1),?_,hN1.put hAY hsub hZk hN1.ltL hN1.ltS (zyf (ho 17) hN1.covL) (zyf (ho 6) hN1.covS),by omega,fun m=>?_,fun m hm hb=>?_,fun hno=>by have:=hno x hxY; rw [hkx] at this; cases this⟩
  . refine z4z hN (by omega) hl0 (fun z=>z=_) (fun _=>?_) (fun hno=>absurd hA hno)
    refine ev_g g0 (ev_g (decide_eq_true rfl) (zaa e1 (zaa hwi (ev_t (decide_eq_true (by show (0:Int)<=(i:Int); omega)) (ev_g (decide_eq_true (by show (0:Int)<=(i:Int)/\(i:Int)<(Y.length:Int); omega)) (zaa hget (ev_g (decide_eq_true rfl) (zaa (b:=(Y.take i++Y.drop (i+1),())) ?_ (ev_g (zklb _ _ (by show (List.length (Y.take i++Y.drop (i+1))+1)*40<=140737488355328; omega)) (ev_r rfl))))))))))
    show zdl ((i:Int),(IntKind.wrap IntKind.i64 ((i:Int)+(1:Int)),(Y,())))=_
    rw [hnext]; exact hdel
  . constructor
    . intro hm; exact ⟨hsub.subset hm,hZk m hm⟩
    . rintro ⟨hm,hb⟩
      rcases List.mem_cons.1 (hperm2.subset hm) with rfl | hm
      . rw [hkx] at hb; cases hb
      . exact hm
  . rcases List.mem_cons.1 (hperm2.subset hm) with rfl | hm
    . rfl
    . have:=hZk m hm; rw [hb] at this; cases this
 | none =>
  rw [hh] at hwi
  have hno:=zcb.1 hh
  have hneg:decide ((0:Int)<=(-1:Int))=false:=by decide
  have pre:∀ r,(Tr.ite (decide (proto=(17:Int))) ( .opt (β:=(Int×(Int×(Int×(Int×Unit))))) ((zar (lb,((L1:Int),(port,()))))) (fun r4=>.ite (!decide (r4.2.2.2.1=(0:Int))) ( .ret ((life,(lb,((L:Int),(sb,((S:Int),(l,((0:Int),(r4.2.2.2.1,())))))))):(Int×(Int×(Int×(Int×(Int×((List TMap)×(Int×(Int×Unit)))))))))) ( .grd (decide ((List.length Y+List.length [TMap.mk proto addr port r4.2.2.1 now])*(40:Nat)<=(140737488355328:Nat)/\List.length Y+List.length [TMap.mk proto addr port r4.2.2.1 now]<=(9223372036854775807:Nat))) ( .ret (life,(r4.1,(r4.2.1,(sb,((S1:Int),(Y++[TMap.mk proto addr port r4.2.2.1 now],(r4.2.2.1,((0:Int),())))))))))))) ( .ite (decide (proto=(6:Int))) ( .opt (β:=(Int×(Int×(Int×(Int×Unit))))) ((zar (sb,((S1:Int),(port,()))))) (fun r4=>.ite (!decide (r4.2.2.2.1=(0:Int))) ( .ret (life,(lb,((L:Int),(sb,((S:Int),(l,((0:Int),(r4.2.2.2.1,()))))))))) ( .grd (decide ((List.length Y+List.length [TMap.mk proto addr port r4.2.2.1 now])*(40:Nat)<=(140737488355328:Nat)/\List.length Y+List.length [TMap.mk proto addr port r4.2.2.1 now]<=(9223372036854775807:Nat))) ( .ret (life,(lb,((L1:Int),(r4.1,(r4.2.1,(Y++[TMap.mk proto addr port r4.2.2.1 now],(r4.2.2.1,((0:Int),())))))))))))) ( .fail 3))).eval=r ->
      zb1 (life,(lb,((L:Int),(sb,((S:Int),(l,(proto,(addr,(port,(now,()))))))))))=r:=by
    intro r hr
    refine z4z hN (by omega) hl0 (fun z=>z=r) (fun _=>?_) (fun hno=>absurd hA hno)
    exact ev_g g0 (ev_g (decide_eq_true rfl) (zaa e1 (zaa hwi (ev_f hneg hr))))
  have mem2:∀ m,m∈Y↔m∈Y/\kb proto addr port m=false:=fun m=>⟨fun hm=>⟨hm,hno m hm⟩,fun h=>h.1⟩
  have bad:∀ m∈Y,kb proto addr port m=true -> ∀ o:Int,m.out=o:=fun m hm hb=>by have:=hno m hm; rw [hb] at this; cases this
  have full:∀ t:Nat,t=2^64-1 -> ∀ j:Nat,j<64->t.testBit j=true:=fun t ht j hj=>by subst ht; rw [Nat.testBit_two_pow_sub_one]; exact decide_eq_true hj
  rcases hA.proto with p | p
  . subst p
    by_cases hf:L1=2^64-1
    . right
      refine ⟨pre _ ?_,hno,lb,.inl ⟨rfl,rfl⟩,fun j hj=>(hN1.covL.2 _).2 ⟨j,hj,full L1 hf j hj,rfl⟩⟩
      have:=z49 lb port hN.bl hA.port
      rw [hf]
      exact ev_t rfl (zaa this (ev_t rfl rfl))
    . left
      obtain ⟨j,j1,j2,j3,_,_⟩:=zjcb lb port L1 hN.bl hN1.ltL hf hA.port
      have c1:Cov lb (L1 ||| 2^j) (outs 17 (Y++[⟨17,addr,port,lb+(j:Int),now⟩])):=by rw [zq2]; exact zelb j1 j2 hN1.covL
      have c2:Cov sb S1 (outs 6 (Y++[⟨17,addr,port,lb+(j:Int),now⟩])):=by rw [zq2]; show Cov sb S1 (outs 6 Y++[]); rw [List.append_nil]; exact hN1.covS
      exact ⟨lb+(j:Int),L1 ||| 2^j,S1,Y,pre _ (ev_t rfl (zaa j3 (ev_f rfl (ev_g (zklb _ _ (by omega)) rfl)))),hN1.put hAY (List.Sublist.refl _) hno (zohb L1 j hN1.ltL j1) hN1.ltS c1 c2,hYl,mem2,fun m hm hb=>bad m hm hb _,fun _=>rfl⟩
  . subst p
    by_cases hf:S1=2^64-1
    . right
      refine ⟨pre _ ?_,hno,sb,.inr ⟨rfl,rfl⟩,fun j hj=>(hN1.covS.2 _).2 ⟨j,hj,full S1 hf j hj,rfl⟩⟩
      have:=z49 sb port hN.bs hA.port
      rw [hf]
      exact ev_f rfl (ev_t rfl (zaa this (ev_t rfl rfl)))
    . left
      obtain ⟨j,j1,j2,j3,_,_⟩:=zjcb sb port S1 hN.bs hN1.ltS hf hA.port
      have c1:Cov sb (S1 ||| 2^j) (outs 6 (Y++[⟨6,addr,port,sb+(j:Int),now⟩])):=by rw [zq2]; exact zelb j1 j2 hN1.covS
      have c2:Cov lb L1 (outs 17 (Y++[⟨6,addr,port,sb+(j:Int),now⟩])):=by rw [zq2]; show Cov lb L1 (outs 17 Y++[]); rw [List.append_nil]; exact hN1.covL
      exact ⟨sb+(j:Int),L1,S1 ||| 2^j,Y,pre _ (ev_f rfl (ev_t rfl (zaa j3 (ev_f rfl (ev_g (zklb _ _ (by omega)) rfl))))),hN1.put hAY (List.Sublist.refl _) hno hN1.ltL (zohb S1 j hN1.ltS j1) c2 c1,hYl,mem2,fun m hm hb=>bad m hm hb _,fun _=>rfl⟩
def inB (life proto out now:Int) (x:TMap):Bool:=decide (x.proto=proto)&&(decide (x.out=out)&&decide (now-x.at'<=life))
theorem zpxb {life lb:Int} {L:Nat} {sb:Int} {S:Nat} {l:List TMap} {proto out now:Int} (hN:NatOk life lb L sb S l) (hp:proto=17\/proto=6) (hnow:0<=now/\now<=1099511627776) (hl:l.length<BigN) :
   z42 (life,(lb,((L:Int),(sb,((S:Int),(l,(proto,(out,(now,())))))))))=some (match hit (inB life proto out now) l with | some r=>(r.2.addr,(r.2.port,((0:Int),()))) | none=>((0:Int),((0:Int),((7:Int),())))):=by
 have hl0:=hl
 unfold BigN at hl
 have lp:=za1 (tag:=1410009) (f:=fun x=>(zcj x).eval) (l:=l) (fun i=>((i:Int),(now,(out,(proto,(l,((l.length:Int),(life,(lb,((L:Int),(sb,((S:Int),(l,())))))))))))))
     (inB life proto out now) (fun r=>match r with | some r=>Sum.inl (r.2.addr,(r.2.port,((0:Int),()))) | none=>Sum.inr ())
     (fun i x hx=>by
       have hi:=(List.getElem?_eq_some_iff.1 hx).1
       have hok:=hN.ok x (List.mem_of_getElem? hx)
       have e1:IntKind.wrap IntKind.i64 ((i:Int)+(1:Int))=((i+1:Nat):Int):=wi _ (by omega)
       have e2:IntKind.wrap IntKind.i64 (now-x.at')=now-x.at':=by have:=hok.2.2.2; exact wi _ (by omega)
       show (zcj _).eval=_
       unfold zcj
       refine ev_t (by simp <;> omega) (ev_g (by simp) (zaa (show l[Int.toNat (i:Int)]?=some x by simpa using hx) ?_))
       unfold inB
       simp only [e1,e2]
       cases h1:decide (x.proto=proto) with
       | false=>exact ev_f rfl (ev_r rfl)
       | true =>
        refine ev_t rfl ?_
        cases h2:decide (x.out=out) with
        | false=>exact ev_f rfl (ev_r rfl)
        | true =>
         refine ev_t rfl ?_
         cases h3:decide (now-x.at'<=life) with
         | false=>exact ev_f rfl (ev_r rfl)
         | true=>exact ev_t rfl (ev_r rfl))
     (by show (zcj _).eval=_; exact ev_f (by simp) (ev_r rfl)) 18446744073709551616 (by omega)
 have lp:zdi ((0:Int),(now,(out,(proto,(l,((l.length:Int),(life,(lb,((L:Int),(sb,((S:Int),(l,()))))))))))))=_:=lp
 have fin:(Tr.ite (decide (now<(0:Int))) (.ret (((0:Int),((0:Int),((1:Int),()))):(Int×(Int×(Int×Unit))))) (
    .ite (decide ((1099511627776:Int)<now)) (.ret ((0:Int),((0:Int),((1:Int),())))) (
     .opt (β:=((Int×(Int×(Int×Unit)))⊕Unit)) ((zdi ((0:Int),(now,(out,(proto,(l,((l.length:Int),(life,(lb,((L:Int),(sb,((S:Int),(l,())))))))))))))) (fun r1 =>
     .sum (β:=(Int×(Int×(Int×Unit)))) (γ:=Unit) (r1) (fun r2 =>
      .ret (r2.1,(r2.2.1,(r2.2.2.1,())))) (fun r2 =>
      .ret ((0:Int),((0:Int),((7:Int),())))))))).eval=some (match hit (inB life proto out now) l with | some r=>(r.2.addr,(r.2.port,((0:Int),()))) | none=>((0:Int),((0:Int),((7:Int),())))):=by
   refine ev_f (decide_eq_false (by omega)) (ev_f (decide_eq_false (by omega)) (zaa lp ?_))
   cases hit (inB life proto out now) l <;> rfl
 refine zaa (zjz hN hl0) (ev_f rfl ?_)
 by_cases p6:proto=6
 . exact ev_f (by rw [decide_eq_true p6]; rfl) fin
 . exact ev_t (by rw [decide_eq_false p6]; rfl) (ev_f (by rw [decide_eq_true (show proto=17 by omega)]; rfl) fin)
theorem zcab (kt:Nat) (k:τ kt) (e:τ kt×Int) (r:List (τ kt×Int)):mGet kt k (e :: r)=if zdc kt k e.1=true then some e.2 else mGet kt k r:=by
 unfold mGet
 by_cases h:zdc kt k e.1=true
 . rw [if_pos h]
   simp only [mIdx,h]
   rfl
 . have h':zdc kt k e.1=false:=by simpa using h
   rw [if_neg h]
   simp only [mIdx,h']
   cases mIdx kt k r with
   | none=>rfl
   | some j=>simp [mVal]
theorem zb8b (kt:Nat) (k:τ kt) (v:Int) (e:τ kt×Int) (r:List (τ kt×Int)):mPut kt k v (e :: r)=if zdc kt k e.1=true then (k,v) :: r else e :: mPut kt k v r:=by
 unfold mPut
 by_cases h:zdc kt k e.1=true
 . rw [if_pos h]
   simp only [mIdx,h]
   rfl
 . have h':zdc kt k e.1=false:=by simpa using h
   rw [if_neg h]
   simp only [mIdx,h']
   cases mIdx kt k r with
   | none=>rfl
   | some j=>simp
theorem key0 (a b:τ 0):zdc 0 a b=true↔a=b:=decide_eq_true_iff
end Go.Proofs.YthkhikdglmaiaaaGreatDoor.X
