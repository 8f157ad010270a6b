/- Functions of the program, as trees (printed by a program of mine: tool/XTool, xg.py), each with the proof that the machine comes to what its tree says. Conditions: none. -/
import Derived.Test.YtcedkdopoigijaaCod
import Derived.KernelRfl
import Derived.Test.YtcedkdopoigijaaGBridge
namespace Go.Proofs.Ytcedkdopoigijaa.X
open Go Go.RowKit Go.Proofs.Ytcedkdopoigijaa.Abs
set_option maxRecDepth 100000
set_option linter.unusedVariables false
def dfStation_L79_5 : LS := ⟨5, [(1000100, 1000100), (1000200, 1000200), (1000201, 1000201)], ⟨42, [(6, .v (.one (.i .i64))), (5, .v (.one (.i .i64))), (0, .v (.one (.own 1000100))), (1, .v (.one (.clp 80 [(1000200, 0), (1000201, 0)])))], [(1000100, .row 98 15 true true), (1000200, .cells [.i .u8, .i .u8, .i .u8, .i .u8, .i .u8, .i .u8, .i .i64, .i .i64]), (1000201, .cells [.i .i64, .i .i64, .bad])]⟩, [⟨some 0, [(1000100, 1000100), (1000200, 1000200), (1000201, 1000201)], ⟨42, [(5, .v (.one (.i .i64))), (0, .v (.one (.own 1000100)))], [(1000100, .row 98 15 true true), (1000200, .cells [.i .u8, .i .u8, .i .u8, .i .u8, .i .u8, .i .u8, .i .i64, .i .i64]), (1000201, .cells [.i .i64, .i .i64, .bad])]⟩⟩], []⟩
def dfStation_step79_5 : (Int × (Int × ((List TStation) × (Int × (Int × (Int × (Int × (Int × (Int × (Int × (Int × (Int × (Int × Unit))))))))))))) → Tr ((Int × (Int × ((List TStation) × (Int × (Int × (Int × (Int × (Int × (Int × (Int × (Int × (Int × (Int × Unit))))))))))))) ⊕ (Int × ((List TStation) × (Int × (Int × (Int × (Int × (Int × (Int × (Int × (Int × (Int × (Int × Unit))))))))))))) :=
  fun (a0, a1, a2, a3, a4, a5, a6, a7, a8, a9, a10, a11, a12, _) =>
  .ite (decide (a0 < (↑(List.length a2) : Int))) (
   .grd (decide ((0 : Int) ≤ a0 ∧ a0 < (↑(List.length a2) : Int))) (
   .opt (β := TStation) (a2[Int.toNat a0]?) (fun r0 =>
   .ite (decide (r0.m0 = a3) && (decide (r0.m1 = a4) && (decide (r0.m2 = a5) && (decide (r0.m3 = a6) && (decide (r0.m4 = a7) && (decide (r0.m5 = a8) && true)))))) (
    .ite (false) (
     .grd (decide ((0 : Int) ≤ a1 ∧ a1 < (↑(List.length a2) : Int))) (
     .opt (β := TStation) (a2[Int.toNat a1]?) (fun r1 =>
     .grd (decide (List.length a2 = List.length (List.set a2 (Int.toNat a1) (TStation.mk r0.m0 r0.m1 r0.m2 r0.m3 r0.m4 r0.m5 r0.port r0.at')))) (
     .ret (Sum.inl (IntKind.wrap IntKind.i64 (a0 + (1 : Int)), (IntKind.wrap IntKind.i64 (a1 + (1 : Int)), (List.set a2 (Int.toNat a1) (TStation.mk r0.m0 r0.m1 r0.m2 r0.m3 r0.m4 r0.m5 r0.port r0.at'), (a3, (a4, (a5, (a6, (a7, (a8, (a9, (a10, (a11, (a12, ())))))))))))))))))) (
     .grd (decide (List.length a2 = List.length a2)) (
     .ret (Sum.inl (IntKind.wrap IntKind.i64 (a0 + (1 : Int)), (a1, (a2, (a3, (a4, (a5, (a6, (a7, (a8, (a9, (a10, (a11, (a12, ()))))))))))))))))) (
    .ite (!decide (a12 < IntKind.wrap IntKind.i64 (a10 - r0.at'))) (
     .grd (decide ((0 : Int) ≤ a1 ∧ a1 < (↑(List.length a2) : Int))) (
     .opt (β := TStation) (a2[Int.toNat a1]?) (fun r1 =>
     .grd (decide (List.length a2 = List.length (List.set a2 (Int.toNat a1) (TStation.mk r0.m0 r0.m1 r0.m2 r0.m3 r0.m4 r0.m5 r0.port r0.at')))) (
     .ret (Sum.inl (IntKind.wrap IntKind.i64 (a0 + (1 : Int)), (IntKind.wrap IntKind.i64 (a1 + (1 : Int)), (List.set a2 (Int.toNat a1) (TStation.mk r0.m0 r0.m1 r0.m2 r0.m3 r0.m4 r0.m5 r0.port r0.at'), (a3, (a4, (a5, (a6, (a7, (a8, (a9, (a10, (a11, (a12, ())))))))))))))))))) (
     .grd (decide (List.length a2 = List.length a2)) (
     .ret (Sum.inl (IntKind.wrap IntKind.i64 (a0 + (1 : Int)), (a1, (a2, (a3, (a4, (a5, (a6, (a7, (a8, (a9, (a10, (a11, (a12, ())))))))))))))))))))) (
   .grd (decide (List.length a2 = List.length a2)) (
   .ret (Sum.inr (a1, (a2, (a3, (a4, (a5, (a6, (a7, (a8, (a9, (a10, (a11, (a12, ())))))))))))))))
def dfStation_loop79_5 (x : (Int × (Int × ((List TStation) × (Int × (Int × (Int × (Int × (Int × (Int × (Int × (Int × (Int × (Int × Unit)))))))))))))) : Option (Int × ((List TStation) × (Int × (Int × (Int × (Int × (Int × (Int × (Int × (Int × (Int × (Int × Unit)))))))))))) := loopO 790005 (fun x => (dfStation_step79_5 x).eval) 18446744073709551616 x
def dfStation_L84_2 : LS := ⟨2, [(1000200, 1000200), (1000201, 1000201)], ⟨19, [(8, .v (.one (.i .i64))), (0, .v (.one (.st 15 false))), (1, .v (.one (.clp 80 [(1000200, 0), (1000201, 0)]))), (7, .v (.one (.i .i64)))], [(1000200, .cells [.i .u8, .i .u8, .i .u8, .i .u8, .i .u8, .i .u8, .i .i64, .i .i64]), (1000201, .cells [.i .i64, .i .i64, .bad])]⟩, [⟨none, [(1000200, 1000200), (1000201, 1000201)], ⟨19, [(4, .v (.one (.i .i64)))], [(1000200, .cells [.i .u8, .i .u8, .i .u8, .i .u8, .i .u8, .i .u8, .i .i64, .i .i64]), (1000201, .cells [.i .i64, .i .i64, .bad])]⟩⟩, ⟨some 0, [(1000200, 1000200), (1000201, 1000201)], ⟨19, [], [(1000200, .cells [.i .u8, .i .u8, .i .u8, .i .u8, .i .u8, .i .u8, .i .i64, .i .i64]), (1000201, .cells [.i .i64, .i .i64, .bad])]⟩⟩], []⟩
def dfStation_step84_2 : (Int × ((List TStation) × (Int × (Int × (Int × (Int × (Int × (Int × (Int × (Int × (Int × (Int × (Int × Unit))))))))))))) → Tr ((Int × ((List TStation) × (Int × (Int × (Int × (Int × (Int × (Int × (Int × (Int × (Int × (Int × (Int × Unit))))))))))))) ⊕ ((Int × (Int × (Int × (Int × (Int × (Int × (Int × (Int × (Int × (Int × (Int × Unit))))))))))) ⊕ (Int × (Int × (Int × (Int × (Int × (Int × (Int × (Int × (Int × (Int × Unit)))))))))))) :=
  fun (a0, a1, a2, a3, a4, a5, a6, a7, a8, a9, a10, a11, a12, _) =>
  .ite (decide (a0 < a2)) (
   .grd (decide ((0 : Int) ≤ a0)) (
   .opt (β := TStation) (a1[Int.toNat a0]?) (fun r0 =>
   .ite (decide (r0.m0 = a3) && (decide (r0.m1 = a4) && (decide (r0.m2 = a5) && (decide (r0.m3 = a6) && (decide (r0.m4 = a7) && (decide (r0.m5 = a8) && true)))))) (
    .ite (true) (
     .ret (Sum.inr (Sum.inl (a0, (a3, (a4, (a5, (a6, (a7, (a8, (a9, (a10, (a11, (a12, ())))))))))))))) (
     .ret (Sum.inl (IntKind.wrap IntKind.i64 (a0 + (1 : Int)), (a1, (a2, (a3, (a4, (a5, (a6, (a7, (a8, (a9, (a10, (a11, (a12, ())))))))))))))))) (
    .ite (decide (a12 < IntKind.wrap IntKind.i64 (a10 - r0.at'))) (
     .ret (Sum.inr (Sum.inl (a0, (a3, (a4, (a5, (a6, (a7, (a8, (a9, (a10, (a11, (a12, ())))))))))))))) (
     .ret (Sum.inl (IntKind.wrap IntKind.i64 (a0 + (1 : Int)), (a1, (a2, (a3, (a4, (a5, (a6, (a7, (a8, (a9, (a10, (a11, (a12, ()))))))))))))))))))) (
   .ret (Sum.inr (Sum.inr (a3, (a4, (a5, (a6, (a7, (a8, (a9, (a10, (a11, (a12, ())))))))))))))
def dfStation_loop84_2 (x : (Int × ((List TStation) × (Int × (Int × (Int × (Int × (Int × (Int × (Int × (Int × (Int × (Int × (Int × Unit)))))))))))))) : Option ((Int × (Int × (Int × (Int × (Int × (Int × (Int × (Int × (Int × (Int × (Int × Unit))))))))))) ⊕ (Int × (Int × (Int × (Int × (Int × (Int × (Int × (Int × (Int × (Int × Unit))))))))))) := loopO 840002 (fun x => (dfStation_step84_2 x).eval) 18446744073709551616 x
def dfStation_ap : SP := ⟨42, [(0, .v (.one (.own 1000100))), (1, .v (.one (.clp 80 [(1000200, 0), (1000201, 0)])))], [(1000200, .cells [.i .u8, .i .u8, .i .u8, .i .u8, .i .u8, .i .u8, .i .i64, .i .i64]), (1000201, .cells [.i .i64, .i .i64, .bad]), (1000100, .row 98 15 true true)]⟩
def dfStation_rp : SP := ⟨1, [(0, .v (.one (.own 1000100)))], [(1000200, .cells [.i .u8, .i .u8, .i .u8, .i .u8, .i .u8, .i .u8, .i .i64, .i .i64]), (1000201, .cells [.i .i64, .i .i64, .bad]), (1000100, .row 98 15 true true)]⟩
def dfStation_tree : (Int × (Int × (Int × (Int × (Int × (Int × (Int × (Int × (Int × (Int × ((List TStation) × Unit))))))))))) → Tr (Int × (Int × (Int × (Int × (Int × (Int × (Int × (Int × (Int × (Int × ((List TStation) × Unit))))))))))) :=
  fun (a0, a1, a2, a3, a4, a5, a6, a7, a8, a9, a10, _) =>
  .opt (β := ((Int × (Int × (Int × (Int × (Int × (Int × (Int × (Int × (Int × (Int × (Int × Unit))))))))))) ⊕ (Int × (Int × (Int × (Int × (Int × (Int × (Int × (Int × (Int × (Int × Unit)))))))))))) ((dfStation_loop84_2 ((0 : Int), (a10, ((↑(List.length a10) : Int), (a0, (a1, (a2, (a3, (a4, (a5, (a6, (a7, (a8, (a9, ()))))))))))))))) (fun r0 =>
  .sum (β := (Int × (Int × (Int × (Int × (Int × (Int × (Int × (Int × (Int × (Int × (Int × Unit)))))))))))) (γ := (Int × (Int × (Int × (Int × (Int × (Int × (Int × (Int × (Int × (Int × Unit))))))))))) (r0) (fun r1 =>
   .ite (decide (r1.1 = (-1 : Int))) (
    .grd (decide (List.length a10 = List.length a10)) (
    .ret (r1.2.1, (r1.2.2.1, (r1.2.2.2.1, (r1.2.2.2.2.1, (r1.2.2.2.2.2.1, (r1.2.2.2.2.2.2.1, (r1.2.2.2.2.2.2.2.1, (r1.2.2.2.2.2.2.2.2.1, (r1.2.2.2.2.2.2.2.2.2.1, (r1.2.2.2.2.2.2.2.2.2.2.1, (a10, ()))))))))))))) (
    .grd (decide (List.length a10 = List.length a10)) (
    .opt (β := (Int × ((List TStation) × (Int × (Int × (Int × (Int × (Int × (Int × (Int × (Int × (Int × (Int × Unit))))))))))))) ((dfStation_loop79_5 (IntKind.wrap IntKind.i64 (r1.1 + (1 : Int)), (r1.1, (a10, (r1.2.1, (r1.2.2.1, (r1.2.2.2.1, (r1.2.2.2.2.1, (r1.2.2.2.2.2.1, (r1.2.2.2.2.2.2.1, (r1.2.2.2.2.2.2.2.1, (r1.2.2.2.2.2.2.2.2.1, (r1.2.2.2.2.2.2.2.2.2.1, (r1.2.2.2.2.2.2.2.2.2.2.1, ()))))))))))))))) (fun r2 =>
    .grd (decide ((0 : Int) ≤ r2.1 ∧ r2.1 ≤ (↑(List.length r2.2.fst) : Int) ∧ (↑(List.length r2.2.fst) : Int) ≤ (↑(List.length r2.2.fst) : Int))) (
    .grd (decide (Int.toNat r2.1 + Int.toNat ((↑(List.length r2.2.fst) : Int) - r2.1) ≤ List.length r2.2.1)) (
    .grd (decide ((0 : Int) ≤ r2.1 ∧ r2.1 ≤ (↑(List.length r2.2.fst) : Int))) (
    .grd (decide (Int.toNat r2.1 = List.length (List.take (Int.toNat r2.1) (List.take (Int.toNat r2.1) r2.2.1 ++ List.replicate (Int.toNat ((↑(List.length r2.2.fst) : Int) - r2.1)) (TStation.mk (0 : Int) (0 : Int) (0 : Int) (0 : Int) (0 : Int) (0 : Int) (0 : Int) (0 : Int)) ++ List.drop (Int.toNat r2.1 + List.length (List.replicate (Int.toNat ((↑(List.length r2.2.fst) : Int) - r2.1)) (TStation.mk (0 : Int) (0 : Int) (0 : Int) (0 : Int) (0 : Int) (0 : Int) (0 : Int) (0 : Int)))) r2.2.1)))) (
    .ret (r2.2.2.1, (r2.2.2.2.1, (r2.2.2.2.2.1, (r2.2.2.2.2.2.1, (r2.2.2.2.2.2.2.1, (r2.2.2.2.2.2.2.2.1, (r2.2.2.2.2.2.2.2.2.1, (r2.2.2.2.2.2.2.2.2.2.1, (r2.2.2.2.2.2.2.2.2.2.2.1, (r2.2.2.2.2.2.2.2.2.2.2.2.1, (List.take (Int.toNat r2.1) (List.take (Int.toNat r2.1) r2.2.1 ++ List.replicate (Int.toNat ((↑(List.length r2.2.fst) : Int) - r2.1)) (TStation.mk (0 : Int) (0 : Int) (0 : Int) (0 : Int) (0 : Int) (0 : Int) (0 : Int) (0 : Int)) ++ List.drop (Int.toNat r2.1 + List.length (List.replicate (Int.toNat ((↑(List.length r2.2.fst) : Int) - r2.1)) (TStation.mk (0 : Int) (0 : Int) (0 : Int) (0 : Int) (0 : Int) (0 : Int) (0 : Int) (0 : Int)))) r2.2.1), ()))))))))))))))))))) (fun r1 =>
   .ite (true) (
    .grd (decide (List.length a10 = List.length a10)) (
    .ret (r1.1, (r1.2.1, (r1.2.2.1, (r1.2.2.2.1, (r1.2.2.2.2.1, (r1.2.2.2.2.2.1, (r1.2.2.2.2.2.2.1, (r1.2.2.2.2.2.2.2.1, (r1.2.2.2.2.2.2.2.2.1, (r1.2.2.2.2.2.2.2.2.2.1, (a10, ()))))))))))))) (
    .grd (decide (List.length a10 = List.length a10)) (
    .opt (β := (Int × ((List TStation) × (Int × (Int × (Int × (Int × (Int × (Int × (Int × (Int × (Int × (Int × Unit))))))))))))) ((dfStation_loop79_5 ((0 : Int), ((-1 : Int), (a10, (r1.1, (r1.2.1, (r1.2.2.1, (r1.2.2.2.1, (r1.2.2.2.2.1, (r1.2.2.2.2.2.1, (r1.2.2.2.2.2.2.1, (r1.2.2.2.2.2.2.2.1, (r1.2.2.2.2.2.2.2.2.1, (r1.2.2.2.2.2.2.2.2.2.1, ()))))))))))))))) (fun r2 =>
    .grd (decide ((0 : Int) ≤ r2.1 ∧ r2.1 ≤ (↑(List.length r2.2.fst) : Int) ∧ (↑(List.length r2.2.fst) : Int) ≤ (↑(List.length r2.2.fst) : Int))) (
    .grd (decide (Int.toNat r2.1 + Int.toNat ((↑(List.length r2.2.fst) : Int) - r2.1) ≤ List.length r2.2.1)) (
    .grd (decide ((0 : Int) ≤ r2.1 ∧ r2.1 ≤ (↑(List.length r2.2.fst) : Int))) (
    .grd (decide (Int.toNat r2.1 = List.length (List.take (Int.toNat r2.1) (List.take (Int.toNat r2.1) r2.2.1 ++ List.replicate (Int.toNat ((↑(List.length r2.2.fst) : Int) - r2.1)) (TStation.mk (0 : Int) (0 : Int) (0 : Int) (0 : Int) (0 : Int) (0 : Int) (0 : Int) (0 : Int)) ++ List.drop (Int.toNat r2.1 + List.length (List.replicate (Int.toNat ((↑(List.length r2.2.fst) : Int) - r2.1)) (TStation.mk (0 : Int) (0 : Int) (0 : Int) (0 : Int) (0 : Int) (0 : Int) (0 : Int) (0 : Int)))) r2.2.1)))) (
    .ret (r2.2.2.1, (r2.2.2.2.1, (r2.2.2.2.2.1, (r2.2.2.2.2.2.1, (r2.2.2.2.2.2.2.1, (r2.2.2.2.2.2.2.2.1, (r2.2.2.2.2.2.2.2.2.1, (r2.2.2.2.2.2.2.2.2.2.1, (r2.2.2.2.2.2.2.2.2.2.2.1, (r2.2.2.2.2.2.2.2.2.2.2.2.1, (List.take (Int.toNat r2.1) (List.take (Int.toNat r2.1) r2.2.1 ++ List.replicate (Int.toNat ((↑(List.length r2.2.fst) : Int) - r2.1)) (TStation.mk (0 : Int) (0 : Int) (0 : Int) (0 : Int) (0 : Int) (0 : Int) (0 : Int) (0 : Int)) ++ List.drop (Int.toNat r2.1 + List.length (List.replicate (Int.toNat ((↑(List.length r2.2.fst) : Int) - r2.1)) (TStation.mk (0 : Int) (0 : Int) (0 : Int) (0 : Int) (0 : Int) (0 : Int) (0 : Int) (0 : Int)))) r2.2.1), ()))))))))))))))))))))
theorem dfStation_eq (x : (Int × (Int × (Int × (Int × (Int × (Int × (Int × (Int × (Int × (Int × ((List TStation) × Unit)))))))))))) : gsTr Try.prog cod [FS.pf ethMany, FS.pf ethWrite, FS.pf ethRead, clStation, GS.pf delStation, FS.pf brCheck, FS.pf brLast, FS.pf brFind] [(79, dfStation_L79_5), (84, dfStation_L84_2)] 30 79 dfStation_ap dfStation_rp x = dfStation_tree x := by kernel_rfl
def dfStation_fn (x : (Int × (Int × (Int × (Int × (Int × (Int × (Int × (Int × (Int × (Int × ((List TStation) × Unit)))))))))))) : Option (Int × (Int × (Int × (Int × (Int × (Int × (Int × (Int × (Int × (Int × ((List TStation) × Unit))))))))))) := (dfStation_tree x).eval
def dfStation : GS Try.prog := ⟨79, [1, 0], dfStation_ap, dfStation_rp, dfStation_fn, fun x r h ys m g he hg => gs_sound (cod := cod) (Γ := [FS.pf ethMany, FS.pf ethWrite, FS.pf ethRead, clStation, GS.pf delStation, FS.pf brCheck, FS.pf brLast, FS.pf brFind]) (Λs := [(79, dfStation_L79_5), (84, dfStation_L84_2)]) (n := 30) ((congrArg Tr.eval (dfStation_eq x)).trans h) he hg⟩
def brLearn_ap : SP := ⟨25, [(0, .v (.agg [.i .i64, .i .i64, .own 1000100])), (1, .v (.agg [.i .u8, .i .u8, .i .u8, .i .u8, .i .u8, .i .u8, .i .i64, .i .i64]))], [(1000100, .row 98 15 true true)]⟩
def brLearn_rp : SP := ⟨1, [(0, .v (.agg [.i .i64, .i .i64, .own 1000100]))], [(1000100, .row 98 15 true true)]⟩
def brLearn_tree : (Int × (Int × (Int × (Int × (Int × (Int × (Int × (Int × (Int × (Int × ((List TStation) × Unit))))))))))) → Tr (Int × (Int × ((List TStation) × Unit))) :=
  fun (a0, a1, a2, a3, a4, a5, a6, a7, a8, a9, a10, _) =>
  .grd (decide (List.length a10 = List.length a10)) (
  .opt (β := (Int × (Int × (Int × (Int × (Int × (Int × (Int × (Int × (Int × (Int × ((List TStation) × Unit)))))))))))) ((dfStation_fn (a2, (a3, (a4, (a5, (a6, (a7, (a8, (a9, (a0, (a1, (a10, ()))))))))))))) (fun r0 =>
  .ite (decide ((↑(List.length r0.2.2.2.2.2.2.2.2.2.2.fst) : Int) = (64 : Int))) (
   .grd (decide (List.length r0.2.2.2.2.2.2.2.2.2.2.fst = List.length r0.2.2.2.2.2.2.2.2.2.2.1)) (
   .opt (β := ((List TStation) × Unit)) ((delStation_fn ((0 : Int), ((1 : Int), (r0.2.2.2.2.2.2.2.2.2.2.1, ()))))) (fun r1 =>
   .grd (decide ((List.length r1.1 + List.length [TStation.mk r0.1 r0.2.1 r0.2.2.1 r0.2.2.2.1 r0.2.2.2.2.1 r0.2.2.2.2.2.1 r0.2.2.2.2.2.2.1 r0.2.2.2.2.2.2.2.1]) * (24 : Nat) ≤ (140737488355328 : Nat) ∧ List.length r1.1 + List.length [TStation.mk r0.1 r0.2.1 r0.2.2.1 r0.2.2.2.1 r0.2.2.2.2.1 r0.2.2.2.2.2.1 r0.2.2.2.2.2.2.1 r0.2.2.2.2.2.2.2.1] ≤ (9223372036854775807 : Nat))) (
   .grd (decide (List.length (r1.1 ++ [TStation.mk r0.1 r0.2.1 r0.2.2.1 r0.2.2.2.1 r0.2.2.2.2.1 r0.2.2.2.2.2.1 r0.2.2.2.2.2.2.1 r0.2.2.2.2.2.2.2.1]) = List.length (r1.1 ++ [TStation.mk r0.1 r0.2.1 r0.2.2.1 r0.2.2.2.1 r0.2.2.2.2.1 r0.2.2.2.2.2.1 r0.2.2.2.2.2.2.1 r0.2.2.2.2.2.2.2.1]))) (
   .ret (r0.2.2.2.2.2.2.2.2.1, (r0.2.2.2.2.2.2.2.2.2.1, (r1.1 ++ [TStation.mk r0.1 r0.2.1 r0.2.2.1 r0.2.2.2.1 r0.2.2.2.2.1 r0.2.2.2.2.2.1 r0.2.2.2.2.2.2.1 r0.2.2.2.2.2.2.2.1], ())))))))) (
   .grd (decide ((List.length r0.2.2.2.2.2.2.2.2.2.2.1 + List.length [TStation.mk r0.1 r0.2.1 r0.2.2.1 r0.2.2.2.1 r0.2.2.2.2.1 r0.2.2.2.2.2.1 r0.2.2.2.2.2.2.1 r0.2.2.2.2.2.2.2.1]) * (24 : Nat) ≤ (140737488355328 : Nat) ∧ List.length r0.2.2.2.2.2.2.2.2.2.2.1 + List.length [TStation.mk r0.1 r0.2.1 r0.2.2.1 r0.2.2.2.1 r0.2.2.2.2.1 r0.2.2.2.2.2.1 r0.2.2.2.2.2.2.1 r0.2.2.2.2.2.2.2.1] ≤ (9223372036854775807 : Nat))) (
   .grd (decide (List.length (r0.2.2.2.2.2.2.2.2.2.2.1 ++ [TStation.mk r0.1 r0.2.1 r0.2.2.1 r0.2.2.2.1 r0.2.2.2.2.1 r0.2.2.2.2.2.1 r0.2.2.2.2.2.2.1 r0.2.2.2.2.2.2.2.1]) = List.length (r0.2.2.2.2.2.2.2.2.2.2.1 ++ [TStation.mk r0.1 r0.2.1 r0.2.2.1 r0.2.2.2.1 r0.2.2.2.2.1 r0.2.2.2.2.2.1 r0.2.2.2.2.2.2.1 r0.2.2.2.2.2.2.2.1]))) (
   .ret (r0.2.2.2.2.2.2.2.2.1, (r0.2.2.2.2.2.2.2.2.2.1, (r0.2.2.2.2.2.2.2.2.2.2.1 ++ [TStation.mk r0.1 r0.2.1 r0.2.2.1 r0.2.2.2.1 r0.2.2.2.2.1 r0.2.2.2.2.2.1 r0.2.2.2.2.2.2.1 r0.2.2.2.2.2.2.2.1], ()))))))))
theorem brLearn_eq (x : (Int × (Int × (Int × (Int × (Int × (Int × (Int × (Int × (Int × (Int × ((List TStation) × Unit)))))))))))) : gsTr Try.prog cod [FS.pf ethMany, FS.pf ethWrite, FS.pf ethRead, clStation, GS.pf delStation, FS.pf brCheck, FS.pf brLast, FS.pf brFind, GS.pf dfStation] [] 30 68 brLearn_ap brLearn_rp x = brLearn_tree x := by kernel_rfl
def brLearn_fn (x : (Int × (Int × (Int × (Int × (Int × (Int × (Int × (Int × (Int × (Int × ((List TStation) × Unit)))))))))))) : Option (Int × (Int × ((List TStation) × Unit))) := (brLearn_tree x).eval
def brLearn : GS Try.prog := ⟨68, [1, 0], brLearn_ap, brLearn_rp, brLearn_fn, fun x r h ys m g he hg => gs_sound (cod := cod) (Γ := [FS.pf ethMany, FS.pf ethWrite, FS.pf ethRead, clStation, GS.pf delStation, FS.pf brCheck, FS.pf brLast, FS.pf brFind, GS.pf dfStation]) (Λs := []) (n := 30) ((congrArg Tr.eval (brLearn_eq x)).trans h) he hg⟩
def brHear_L38_22 : LS := ⟨22, [(16, 16), (8, 8), (4, 4), (21000, 21000)], ⟨103, [(90, .v (.one (.i .i64))), (16, .v (.one (.own 16))), (1, .v (.one (.i .i64))), (8, .v (.one (.ptr 8 0))), (4, .v (.one (.ptr 4 0))), (89, .v (.one (.i .i64)))], [(16, .row 3 0 true true), (8, .cells [.i .i64, .i .i64, .nil]), (4, .cells [.i .i64, .i .i64, .own 21000]), (21000, .row 98 15 true true)]⟩, [⟨some 0, [(8, 8), (16, 16), (4, 4), (21000, 21000)], ⟨103, [(8, .v (.one (.ptr 8 0))), (16, .v (.one (.own 16))), (4, .v (.one (.ptr 4 0)))], [(8, .cells [.i .i64, .i .i64, .nil]), (16, .row 3 0 true true), (4, .cells [.i .i64, .i .i64, .own 21000]), (21000, .row 98 15 true true)]⟩⟩], [(16, 3, 0)]⟩
def brHear_step38_22 : (Int × (Int × (Int × ((List Int) × (Int × (Int × (Int × (Int × ((List TStation) × Unit))))))))) → Tr ((Int × (Int × (Int × ((List Int) × (Int × (Int × (Int × (Int × ((List TStation) × Unit))))))))) ⊕ (Int × (Int × ((List Int) × (Int × (Int × ((List TStation) × Unit))))))) :=
  fun (a0, a1, a2, a3, a4, a5, a6, a7, a8, _) =>
  .ite (decide (a0 < a2)) (
   .ite (!decide (a0 = a1)) (
    .grd (decide ((List.length a3 + List.length [a0]) * (8 : Nat) ≤ (140737488355328 : Nat) ∧ List.length a3 + List.length [a0] ≤ (9223372036854775807 : Nat))) (
    .grd (decide (List.length (a3 ++ [a0]) = List.length (a3 ++ [a0]))) (
    .grd (decide (List.length a8 = List.length a8)) (
    .ret (Sum.inl (IntKind.wrap IntKind.i64 (a0 + (1 : Int)), (a1, (a2, (a3 ++ [a0], (a4, (a5, (a6, (a7, (a8, ())))))))))))))) (
    .grd (decide (List.length a3 = List.length a3)) (
    .grd (decide (List.length a8 = List.length a8)) (
    .ret (Sum.inl (IntKind.wrap IntKind.i64 (a0 + (1 : Int)), (a1, (a2, (a3, (a4, (a5, (a6, (a7, (a8, ())))))))))))))) (
   .grd (decide (List.length a3 = List.length a3)) (
   .grd (decide (List.length a8 = List.length a8)) (
   .ret (Sum.inr (a4, (a5, (a3, (a6, (a7, (a8, ()))))))))))
def brHear_loop38_22 (x : (Int × (Int × (Int × ((List Int) × (Int × (Int × (Int × (Int × ((List TStation) × Unit)))))))))) : Option (Int × (Int × ((List Int) × (Int × (Int × ((List TStation) × Unit)))))) := loopO 380022 (fun x => (brHear_step38_22 x).eval) 18446744073709551616 x
def brHear_ap : List VP1 := [.agg [.i .i64, .i .i64, .st 15 false], .one (.i .i64), .one (.i .i64), .one (.s)]
def brHear_rp : SP := ⟨1, [(0, .tup [.agg [.i .i64, .i .i64, .st 15 true], .one (.st 0 true), .one (.i .i64)])], []⟩
def brHear_tree : (Int × (Int × ((List TStation) × (Int × (Int × ((List UInt8) × Unit)))))) → Tr (Int × (Int × ((List TStation) × ((List Int) × (Int × Unit))))) :=
  fun (a0, a1, a2, a3, a4, a5, _) =>
  .grd (decide (((0 : Nat) + List.length a2) * (24 : Nat) ≤ (140737488355328 : Nat) ∧ (0 : Nat) + List.length a2 ≤ (9223372036854775807 : Nat))) (
  .opt (β := (Int × Unit)) ((brCheck_fn (a0, (a1, (a2, ()))))) (fun r0 =>
  .ite (!decide (r0.1 = (0 : Int))) (
   .ret (a0, (a1, (a2, ([], (r0.1, ())))))) (
   .ite (decide (a3 < (0 : Int))) (
    .ret (a0, (a1, (a2, ([], ((7 : Int), ())))))) (
    .ite (decide (a0 ≤ a3)) (
     .ret (a0, (a1, (a2, ([], ((7 : Int), ())))))) (
     .opt (β := (Int × Unit)) ((brLast_fn (a0, (a1, (a2, ()))))) (fun r1 =>
     .ite (decide (a4 < r1.1)) (
      .ret (a0, (a1, (a2, ([], ((1 : Int), ())))))) (
      .ite (decide ((1099511627776 : Int) < a4)) (
       .ret (a0, (a1, (a2, ([], ((1 : Int), ())))))) (
       .opt (β := (Int × (Int × (Int × (Int × (Int × (Int × (Int × (Int × (Int × (Int × (Int × (Int × (Int × (Int × ((List UInt8) × (Int × Unit))))))))))))))))) ((ethRead_fn (a5, ()))) (fun r2 =>
       .ite (!decide (r2.2.2.2.2.2.2.2.2.2.2.2.2.2.2.2.1 = (0 : Int))) (
        .ret (a0, (a1, (a2, ([], (r2.2.2.2.2.2.2.2.2.2.2.2.2.2.2.2.1, ())))))) (
        .opt (β := (Bool × Unit)) ((ethMany_fn (r2.2.2.2.2.2.2.1, (r2.2.2.2.2.2.2.2.1, (r2.2.2.2.2.2.2.2.2.1, (r2.2.2.2.2.2.2.2.2.2.1, (r2.2.2.2.2.2.2.2.2.2.2.1, (r2.2.2.2.2.2.2.2.2.2.2.2.1, ())))))))) (fun r3 =>
        .ite (r3.1) (
         .ret (a0, (a1, (a2, ([], ((4 : Int), ())))))) (
         .grd (decide (List.length a2 = List.length a2)) (
         .opt (β := (Int × (Int × ((List TStation) × Unit)))) ((brLearn_fn (a0, (a1, (r2.2.2.2.2.2.2.1, (r2.2.2.2.2.2.2.2.1, (r2.2.2.2.2.2.2.2.2.1, (r2.2.2.2.2.2.2.2.2.2.1, (r2.2.2.2.2.2.2.2.2.2.2.1, (r2.2.2.2.2.2.2.2.2.2.2.2.1, (a3, (a4, (a2, ()))))))))))))) (fun r4 =>
         .opt (β := (Int × (Bool × Unit))) ((brFind_fn (r4.1, (r4.2.1, (r4.2.2.1, (r2.1, (r2.2.1, (r2.2.2.1, (r2.2.2.2.1, (r2.2.2.2.2.1, (r2.2.2.2.2.2.1, (a4, ())))))))))))) (fun r5 =>
         .ite (r5.2.1) (
          .opt (β := (Bool × Unit)) ((ethMany_fn (r2.1, (r2.2.1, (r2.2.2.1, (r2.2.2.2.1, (r2.2.2.2.2.1, (r2.2.2.2.2.2.1, ())))))))) (fun r6 =>
          .ite (!r6.1) (
           .ite (decide (r5.1 = a3)) (
            .ret (r4.1, (r4.2.1, (r4.2.2.1, ([], ((0 : Int), ())))))) (
            .ret (r4.1, (r4.2.1, (r4.2.2.1, ([r5.1], ((0 : Int), ()))))))) (
           .grd (true) (
           .grd (decide (List.length r4.2.2.fst = List.length r4.2.2.1)) (
           .opt (β := (Int × (Int × ((List Int) × (Int × (Int × ((List TStation) × Unit))))))) ((brHear_loop38_22 ((0 : Int), (a3, (r4.1, ([], ((0 : Int), ((0 : Int), (r4.1, (r4.2.1, (r4.2.2.1, ()))))))))))) (fun r7 =>
           .ret (r7.2.2.2.1, (r7.2.2.2.2.1, (r7.2.2.2.2.2.1, (r7.2.2.1, ((0 : Int), ()))))))))))) (
          .grd (true) (
          .grd (decide (List.length r4.2.2.fst = List.length r4.2.2.1)) (
          .opt (β := (Int × (Int × ((List Int) × (Int × (Int × ((List TStation) × Unit))))))) ((brHear_loop38_22 ((0 : Int), (a3, (r4.1, ([], ((0 : Int), ((0 : Int), (r4.1, (r4.2.1, (r4.2.2.1, ()))))))))))) (fun r6 =>
          .ret (r6.2.2.2.1, (r6.2.2.2.2.1, (r6.2.2.2.2.2.1, (r6.2.2.1, ((0 : Int), ()))))))))))))))))))))))))
theorem brHear_eq (x : (Int × (Int × ((List TStation) × (Int × (Int × ((List UInt8) × Unit))))))) : fnTr Try.prog cod [FS.pf ethMany, FS.pf ethWrite, FS.pf ethRead, clStation, GS.pf delStation, FS.pf brCheck, FS.pf brLast, FS.pf brFind, GS.pf dfStation, GS.pf brLearn] [(38, brHear_L38_22)] 30 38 brHear_ap brHear_rp x = brHear_tree x := by kernel_rfl
def brHear_fn (x : (Int × (Int × ((List TStation) × (Int × (Int × ((List UInt8) × Unit))))))) : Option (Int × (Int × ((List TStation) × ((List Int) × (Int × Unit))))) := (brHear_tree x).eval
def brHear : FS Try.prog := ⟨38, brHear_ap, brHear_rp, brHear_fn, fun x r h => fnTr_sound (cod := cod) (Γ := [FS.pf ethMany, FS.pf ethWrite, FS.pf ethRead, clStation, GS.pf delStation, FS.pf brCheck, FS.pf brLast, FS.pf brFind, GS.pf dfStation, GS.pf brLearn]) (Λs := [(38, brHear_L38_22)]) (n := 30) ((congrArg Tr.eval (brHear_eq x)).trans h)⟩
def brWhere_ap : List VP1 := [.agg [.i .i64, .i .i64, .st 15 false], .agg [.i .u8, .i .u8, .i .u8, .i .u8, .i .u8, .i .u8], .one (.i .i64)]
def brWhere_rp : SP := ⟨1, [(0, .tup [.one (.i .i64), .one (.i .i64)])], []⟩
def brWhere_tree : (Int × (Int × ((List TStation) × (Int × (Int × (Int × (Int × (Int × (Int × (Int × Unit)))))))))) → Tr (Int × (Int × Unit)) :=
  fun (a0, a1, a2, a3, a4, a5, a6, a7, a8, a9, _) =>
  .opt (β := (Int × Unit)) ((brCheck_fn (a0, (a1, (a2, ()))))) (fun r0 =>
  .ite (!decide (r0.1 = (0 : Int))) (
   .ret ((0 : Int), (r0.1, ()))) (
   .ite (decide (a9 < (0 : Int))) (
    .ret ((0 : Int), ((1 : Int), ()))) (
    .ite (decide ((1099511627776 : Int) < a9)) (
     .ret ((0 : Int), ((1 : Int), ()))) (
     .opt (β := (Int × (Bool × Unit))) ((brFind_fn (a0, (a1, (a2, (a3, (a4, (a5, (a6, (a7, (a8, (a9, ())))))))))))) (fun r1 =>
     .ite (!r1.2.1) (
      .ret ((0 : Int), ((7 : Int), ()))) (
      .ret (r1.1, ((0 : Int), ()))))))))
theorem brWhere_eq (x : (Int × (Int × ((List TStation) × (Int × (Int × (Int × (Int × (Int × (Int × (Int × Unit))))))))))) : fnTr Try.prog cod [FS.pf ethMany, FS.pf ethWrite, FS.pf ethRead, clStation, GS.pf delStation, FS.pf brCheck, FS.pf brLast, FS.pf brFind, GS.pf dfStation, GS.pf brLearn, FS.pf brHear] [] 30 41 brWhere_ap brWhere_rp x = brWhere_tree x := by kernel_rfl
def brWhere_fn (x : (Int × (Int × ((List TStation) × (Int × (Int × (Int × (Int × (Int × (Int × (Int × Unit))))))))))) : Option (Int × (Int × Unit)) := (brWhere_tree x).eval
def brWhere : FS Try.prog := ⟨41, brWhere_ap, brWhere_rp, brWhere_fn, fun x r h => fnTr_sound (cod := cod) (Γ := [FS.pf ethMany, FS.pf ethWrite, FS.pf ethRead, clStation, GS.pf delStation, FS.pf brCheck, FS.pf brLast, FS.pf brFind, GS.pf dfStation, GS.pf brLearn, FS.pf brHear]) (Λs := []) (n := 30) ((congrArg Tr.eval (brWhere_eq x)).trans h)⟩
end Go.Proofs.Ytcedkdopoigijaa.X
