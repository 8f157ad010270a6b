/- Functions of the program, as trees (printed by a program of mine: tool/XTool, xg.py), each with the proof that the machine comes to what its tree says. Conditions: none. -/
import Derived.Test.YthnijeclidpooaaCod
import Derived.KernelRfl
import Derived.Test.YthnijeclidpooaaJFrag
namespace Go.Proofs.Ythnijeclidpooaa.X
open Go Go.RowKit Go.Proofs.Ythnijeclidpooaa.Abs
set_option maxRecDepth 100000
set_option linter.unusedVariables false
def poolRight_L32_18 : LS := ⟨18, [(4, 4)], ⟨158, [(126, .v (.one (.i .i64))), (4, .v (.one (.ptr 4 0))), (124, .v (.one (.st 6 false))), (0, .v (.one (.st 6 false))), (18, .v (.one (.st 6 false))), (19, .v (.one (.i .i64))), (20, .v (.one (.i .i64))), (125, .v (.one (.i .i64)))], [(4, .cells [.i .u32, .i .u32, .i .i64, .i .i64, .i .i64, .i .i64, .s, .st 5 false])]⟩, [⟨none, [], ⟨158, [(2, .v (.one (.i .i64)))], []⟩⟩, ⟨some 4, [], ⟨158, [(0, .v (.one (.st 6 false))), (18, .v (.one (.st 6 false))), (19, .v (.one (.i .i64))), (20, .v (.one (.i .i64)))], []⟩⟩], []⟩
def poolRight_step32_18 : (Int × ((List THeap) × ((List THeap) × ((List THeap) × (Int × (Int × (Int × (Int × (Int × (Int × (Int × (Int × (Int × ((List UInt8) × ((List TPart) × Unit))))))))))))))) → Tr ((Int × ((List THeap) × ((List THeap) × ((List THeap) × (Int × (Int × (Int × (Int × (Int × (Int × (Int × (Int × (Int × ((List UInt8) × ((List TPart) × Unit))))))))))))))) ⊕ ((Int × Unit) ⊕ ((List THeap) × ((List THeap) × (Int × (Int × Unit)))))) :=
  fun (a0, a1, a2, a3, a4, a5, a6, a7, a8, a9, a10, a11, a12, a13, a14, _) =>
  .ite (decide (a0 < a6)) (
   .grd (decide ((0 : Int) ≤ a0)) (
   .opt (β := THeap) (a1[Int.toNat a0]?) (fun r0 =>
   .opt (β := (Bool × ((List THeap) × ((List THeap) × ((List THeap) × (Int × (Int × (Int × (Int × (Int × (Int × (Int × (Int × (Int × (Int × ((List UInt8) × ((List TPart) × Unit))))))))))))))))) (Tr.eval (α := (Bool × ((List THeap) × ((List THeap) × ((List THeap) × (Int × (Int × (Int × (Int × (Int × (Int × (Int × (Int × (Int × (Int × ((List UInt8) × ((List TPart) × Unit))))))))))))))))) (
     .ite (decide (r0.from' = a7)) (
      .ite (decide (r0.to = a8)) (
       .ite (decide (r0.proto = a9)) (
        .ret (decide (r0.id = a10), (a1, (a2, (a3, (a4, (a5, (a6, (a0, (a7, (a8, (a9, (a10, (a11, (a12, (a13, (a14, ()))))))))))))))))) (
        .ret (false, (a1, (a2, (a3, (a4, (a5, (a6, (a0, (a7, (a8, (a9, (a10, (a11, (a12, (a13, (a14, ())))))))))))))))))) (
       .ret (false, (a1, (a2, (a3, (a4, (a5, (a6, (a0, (a7, (a8, (a9, (a10, (a11, (a12, (a13, (a14, ())))))))))))))))))) (
      .ret (false, (a1, (a2, (a3, (a4, (a5, (a6, (a0, (a7, (a8, (a9, (a10, (a11, (a12, (a13, (a14, ()))))))))))))))))))) (fun r1 =>
   .ite (r1.1) (
    .ret (Sum.inr (Sum.inl ((4 : Int), ())))) (
    .ret (Sum.inl (IntKind.wrap IntKind.i64 (r1.2.2.2.2.2.2.2.1 + (1 : Int)), (r1.2.1, (r1.2.2.1, (r1.2.2.2.1, (r1.2.2.2.2.1, (r1.2.2.2.2.2.1, (r1.2.2.2.2.2.2.1, (r1.2.2.2.2.2.2.2.2.1, (r1.2.2.2.2.2.2.2.2.2.1, (r1.2.2.2.2.2.2.2.2.2.2.1, (r1.2.2.2.2.2.2.2.2.2.2.2.1, (r1.2.2.2.2.2.2.2.2.2.2.2.2.1, (r1.2.2.2.2.2.2.2.2.2.2.2.2.2.1, (r1.2.2.2.2.2.2.2.2.2.2.2.2.2.2.1, (r1.2.2.2.2.2.2.2.2.2.2.2.2.2.2.2.1, ()))))))))))))))))))))) (
   .ret (Sum.inr (Sum.inr (a2, (a3, (a4, (a5, ())))))))
def poolRight_loop32_18 (x : (Int × ((List THeap) × ((List THeap) × ((List THeap) × (Int × (Int × (Int × (Int × (Int × (Int × (Int × (Int × (Int × ((List UInt8) × ((List TPart) × Unit)))))))))))))))) : Option ((Int × Unit) ⊕ ((List THeap) × ((List THeap) × (Int × (Int × Unit))))) := loopO 320018 (fun x => (poolRight_step32_18 x).eval) 18446744073709551616 x
def poolRight_L32_8 : LS := ⟨8, [(4, 4)], ⟨158, [(28, .v (.one (.i .i64))), (4, .v (.one (.ptr 4 0))), (5, .v (.one (.i .i64))), (26, .v (.one (.st 5 false))), (0, .v (.one (.st 6 false))), (18, .v (.one (.st 6 false))), (19, .v (.one (.i .i64))), (20, .v (.one (.i .i64))), (3, .v (.one (.i .i64))), (27, .v (.one (.i .i64)))], [(4, .cells [.i .u32, .i .u32, .i .i64, .i .i64, .i .i64, .i .i64, .s, .st 5 false])]⟩, [⟨none, [], ⟨158, [(2, .v (.one (.i .i64)))], []⟩⟩, ⟨some 2, [(4, 4)], ⟨158, [(4, .v (.one (.ptr 4 0))), (0, .v (.one (.st 6 false))), (18, .v (.one (.st 6 false))), (19, .v (.one (.i .i64))), (20, .v (.one (.i .i64))), (3, .v (.one (.i .i64)))], [(4, .cells [.i .u32, .i .u32, .i .i64, .i .i64, .i .i64, .i .i64, .s, .st 5 false])]⟩⟩], []⟩
def poolRight_step32_8 : (Int × (Int × ((List TPart) × ((List THeap) × ((List THeap) × (Int × (Int × (Int × (Int × (Int × (Int × (Int × (Int × (Int × (Int × ((List UInt8) × ((List TPart) × Unit))))))))))))))))) → Tr ((Int × (Int × ((List TPart) × ((List THeap) × ((List THeap) × (Int × (Int × (Int × (Int × (Int × (Int × (Int × (Int × (Int × (Int × ((List UInt8) × ((List TPart) × Unit))))))))))))))))) ⊕ ((Int × Unit) ⊕ ((List THeap) × ((List THeap) × (Int × (Int × (Int × (Int × (Int × (Int × (Int × (Int × (Int × ((List UInt8) × ((List TPart) × Unit))))))))))))))) :=
  fun (a0, a1, a2, a3, a4, a5, a6, a7, a8, a9, a10, a11, a12, a13, a14, a15, a16, _) =>
  .ite (decide (a0 < a8)) (
   .grd (decide ((0 : Int) ≤ a0)) (
   .opt (β := TPart) (a2[Int.toNat a0]?) (fun r0 =>
   .opt (β := ((List TPart) × ((List THeap) × ((List THeap) × (Int × (Int × (Int × (Int × (Int × (Int × (Bool × (Int × (Int × (Int × (Int × (Int × (Int × ((List UInt8) × ((List TPart) × (Int × ((List UInt8) × (Bool × Unit)))))))))))))))))))))) (Tr.eval (α := ((List TPart) × ((List THeap) × ((List THeap) × (Int × (Int × (Int × (Int × (Int × (Int × (Bool × (Int × (Int × (Int × (Int × (Int × (Int × ((List UInt8) × ((List TPart) × (Int × ((List UInt8) × (Bool × Unit)))))))))))))))))))))) (
     .ite (!decide (r0.data = [])) (
      .ite (decide (a1 ≤ r0.at')) (
       .grd (true) (
       .ite (decide (Int.tmod r0.at' (8 : Int) = (0 : Int))) (
        .ite (decide (r0.at' ≤ (65515 : Int))) (
         .ret (a2, (a3, (a4, (a5, (a6, (a7, (a8, (a0, (a0, (decide (IntKind.wrap IntKind.i64 (r0.at' + (↑(List.length r0.data) : Int)) ≤ (65515 : Int)), (a9, (a10, (a11, (a12, (a13, (a14, (a15, (a16, (r0.at', (r0.data, (r0.last, ())))))))))))))))))))))) (
         .ret (a2, (a3, (a4, (a5, (a6, (a7, (a8, (a0, (a0, (false, (a9, (a10, (a11, (a12, (a13, (a14, (a15, (a16, (r0.at', (r0.data, (r0.last, ()))))))))))))))))))))))) (
        .ret (a2, (a3, (a4, (a5, (a6, (a7, (a8, (a0, (a0, (false, (a9, (a10, (a11, (a12, (a13, (a14, (a15, (a16, (r0.at', (r0.data, (r0.last, ())))))))))))))))))))))))) (
       .ret (a2, (a3, (a4, (a5, (a6, (a7, (a8, (a0, (a0, (false, (a9, (a10, (a11, (a12, (a13, (a14, (a15, (a16, (r0.at', (r0.data, (r0.last, ()))))))))))))))))))))))) (
      .ret (a2, (a3, (a4, (a5, (a6, (a7, (a8, (a0, (a0, (false, (a9, (a10, (a11, (a12, (a13, (a14, (a15, (a16, (r0.at', (r0.data, (r0.last, ())))))))))))))))))))))))) (fun r1 =>
   .opt (β := (Bool × ((List TPart) × ((List THeap) × ((List THeap) × (Int × (Int × (Int × (Int × (Int × (Int × (Int × (Int × (Int × (Int × (Int × ((List UInt8) × ((List TPart) × (Int × ((List UInt8) × (Bool × Unit))))))))))))))))))))) (Tr.eval (α := (Bool × ((List TPart) × ((List THeap) × ((List THeap) × (Int × (Int × (Int × (Int × (Int × (Int × (Int × (Int × (Int × (Int × (Int × ((List UInt8) × ((List TPart) × (Int × ((List UInt8) × (Bool × Unit))))))))))))))))))))) (
     .ite (!r1.2.2.2.2.2.2.2.2.2.1) (
      .ret (true, (r1.1, (r1.2.1, (r1.2.2.1, (r1.2.2.2.1, (r1.2.2.2.2.1, (r1.2.2.2.2.2.1, (r1.2.2.2.2.2.2.1, (r1.2.2.2.2.2.2.2.1, (r1.2.2.2.2.2.2.2.2.2.2.1, (r1.2.2.2.2.2.2.2.2.2.2.2.1, (r1.2.2.2.2.2.2.2.2.2.2.2.2.1, (r1.2.2.2.2.2.2.2.2.2.2.2.2.2.1, (r1.2.2.2.2.2.2.2.2.2.2.2.2.2.2.1, (r1.2.2.2.2.2.2.2.2.2.2.2.2.2.2.2.1, (r1.2.2.2.2.2.2.2.2.2.2.2.2.2.2.2.2.1, (r1.2.2.2.2.2.2.2.2.2.2.2.2.2.2.2.2.2.1, (r1.2.2.2.2.2.2.2.2.2.2.2.2.2.2.2.2.2.2.1, (r1.2.2.2.2.2.2.2.2.2.2.2.2.2.2.2.2.2.2.2.1, (r1.2.2.2.2.2.2.2.2.2.2.2.2.2.2.2.2.2.2.2.2.1, ()))))))))))))))))))))) (
      .ite (r1.2.2.2.2.2.2.2.2.2.2.2.2.2.2.2.2.2.2.2.2.1) (
       .ite (decide (IntKind.wrap IntKind.i64 (r1.2.2.2.2.2.2.2.2.1 + (1 : Int)) < (↑(List.length r1.2.2.2.2.2.2.2.2.2.2.2.2.2.2.2.2.2.1) : Int))) (
        .ret (true, (r1.1, (r1.2.1, (r1.2.2.1, (r1.2.2.2.1, (r1.2.2.2.2.1, (r1.2.2.2.2.2.1, (r1.2.2.2.2.2.2.1, (r1.2.2.2.2.2.2.2.1, (r1.2.2.2.2.2.2.2.2.2.2.1, (r1.2.2.2.2.2.2.2.2.2.2.2.1, (r1.2.2.2.2.2.2.2.2.2.2.2.2.1, (r1.2.2.2.2.2.2.2.2.2.2.2.2.2.1, (r1.2.2.2.2.2.2.2.2.2.2.2.2.2.2.1, (r1.2.2.2.2.2.2.2.2.2.2.2.2.2.2.2.1, (r1.2.2.2.2.2.2.2.2.2.2.2.2.2.2.2.2.1, (r1.2.2.2.2.2.2.2.2.2.2.2.2.2.2.2.2.2.1, (r1.2.2.2.2.2.2.2.2.2.2.2.2.2.2.2.2.2.2.1, (r1.2.2.2.2.2.2.2.2.2.2.2.2.2.2.2.2.2.2.2.1, (r1.2.2.2.2.2.2.2.2.2.2.2.2.2.2.2.2.2.2.2.2.1, ()))))))))))))))))))))) (
        .ite (!r1.2.2.2.2.2.2.2.2.2.2.2.2.2.2.2.2.2.2.2.2.1) (
         .grd (true) (
         .ret (decide ((0 : Int) < Int.tmod (↑(List.length r1.2.2.2.2.2.2.2.2.2.2.2.2.2.2.2.2.2.2.2.1) : Int) (8 : Int)), (r1.1, (r1.2.1, (r1.2.2.1, (r1.2.2.2.1, (r1.2.2.2.2.1, (r1.2.2.2.2.2.1, (r1.2.2.2.2.2.2.1, (r1.2.2.2.2.2.2.2.1, (r1.2.2.2.2.2.2.2.2.2.2.1, (r1.2.2.2.2.2.2.2.2.2.2.2.1, (r1.2.2.2.2.2.2.2.2.2.2.2.2.1, (r1.2.2.2.2.2.2.2.2.2.2.2.2.2.1, (r1.2.2.2.2.2.2.2.2.2.2.2.2.2.2.1, (r1.2.2.2.2.2.2.2.2.2.2.2.2.2.2.2.1, (r1.2.2.2.2.2.2.2.2.2.2.2.2.2.2.2.2.1, (r1.2.2.2.2.2.2.2.2.2.2.2.2.2.2.2.2.2.1, (r1.2.2.2.2.2.2.2.2.2.2.2.2.2.2.2.2.2.2.1, (r1.2.2.2.2.2.2.2.2.2.2.2.2.2.2.2.2.2.2.2.1, (r1.2.2.2.2.2.2.2.2.2.2.2.2.2.2.2.2.2.2.2.2.1, ())))))))))))))))))))))) (
         .ret (false, (r1.1, (r1.2.1, (r1.2.2.1, (r1.2.2.2.1, (r1.2.2.2.2.1, (r1.2.2.2.2.2.1, (r1.2.2.2.2.2.2.1, (r1.2.2.2.2.2.2.2.1, (r1.2.2.2.2.2.2.2.2.2.2.1, (r1.2.2.2.2.2.2.2.2.2.2.2.1, (r1.2.2.2.2.2.2.2.2.2.2.2.2.1, (r1.2.2.2.2.2.2.2.2.2.2.2.2.2.1, (r1.2.2.2.2.2.2.2.2.2.2.2.2.2.2.1, (r1.2.2.2.2.2.2.2.2.2.2.2.2.2.2.2.1, (r1.2.2.2.2.2.2.2.2.2.2.2.2.2.2.2.2.1, (r1.2.2.2.2.2.2.2.2.2.2.2.2.2.2.2.2.2.1, (r1.2.2.2.2.2.2.2.2.2.2.2.2.2.2.2.2.2.2.1, (r1.2.2.2.2.2.2.2.2.2.2.2.2.2.2.2.2.2.2.2.1, (r1.2.2.2.2.2.2.2.2.2.2.2.2.2.2.2.2.2.2.2.2.1, ()))))))))))))))))))))))) (
       .ite (!r1.2.2.2.2.2.2.2.2.2.2.2.2.2.2.2.2.2.2.2.2.1) (
        .grd (true) (
        .ret (decide ((0 : Int) < Int.tmod (↑(List.length r1.2.2.2.2.2.2.2.2.2.2.2.2.2.2.2.2.2.2.2.1) : Int) (8 : Int)), (r1.1, (r1.2.1, (r1.2.2.1, (r1.2.2.2.1, (r1.2.2.2.2.1, (r1.2.2.2.2.2.1, (r1.2.2.2.2.2.2.1, (r1.2.2.2.2.2.2.2.1, (r1.2.2.2.2.2.2.2.2.2.2.1, (r1.2.2.2.2.2.2.2.2.2.2.2.1, (r1.2.2.2.2.2.2.2.2.2.2.2.2.1, (r1.2.2.2.2.2.2.2.2.2.2.2.2.2.1, (r1.2.2.2.2.2.2.2.2.2.2.2.2.2.2.1, (r1.2.2.2.2.2.2.2.2.2.2.2.2.2.2.2.1, (r1.2.2.2.2.2.2.2.2.2.2.2.2.2.2.2.2.1, (r1.2.2.2.2.2.2.2.2.2.2.2.2.2.2.2.2.2.1, (r1.2.2.2.2.2.2.2.2.2.2.2.2.2.2.2.2.2.2.1, (r1.2.2.2.2.2.2.2.2.2.2.2.2.2.2.2.2.2.2.2.1, (r1.2.2.2.2.2.2.2.2.2.2.2.2.2.2.2.2.2.2.2.2.1, ())))))))))))))))))))))) (
        .ret (false, (r1.1, (r1.2.1, (r1.2.2.1, (r1.2.2.2.1, (r1.2.2.2.2.1, (r1.2.2.2.2.2.1, (r1.2.2.2.2.2.2.1, (r1.2.2.2.2.2.2.2.1, (r1.2.2.2.2.2.2.2.2.2.2.1, (r1.2.2.2.2.2.2.2.2.2.2.2.1, (r1.2.2.2.2.2.2.2.2.2.2.2.2.1, (r1.2.2.2.2.2.2.2.2.2.2.2.2.2.1, (r1.2.2.2.2.2.2.2.2.2.2.2.2.2.2.1, (r1.2.2.2.2.2.2.2.2.2.2.2.2.2.2.2.1, (r1.2.2.2.2.2.2.2.2.2.2.2.2.2.2.2.2.1, (r1.2.2.2.2.2.2.2.2.2.2.2.2.2.2.2.2.2.1, (r1.2.2.2.2.2.2.2.2.2.2.2.2.2.2.2.2.2.2.1, (r1.2.2.2.2.2.2.2.2.2.2.2.2.2.2.2.2.2.2.2.1, (r1.2.2.2.2.2.2.2.2.2.2.2.2.2.2.2.2.2.2.2.2.1, ()))))))))))))))))))))))))) (fun r2 =>
   .ite (r2.1) (
    .ret (Sum.inr (Sum.inl ((4 : Int), ())))) (
    .ret (Sum.inl (IntKind.wrap IntKind.i64 (r2.2.2.2.2.2.2.2.2.1 + (1 : Int)), (IntKind.wrap IntKind.i64 (r2.2.2.2.2.2.2.2.2.2.2.2.2.2.2.2.2.2.1 + (↑(List.length r2.2.2.2.2.2.2.2.2.2.2.2.2.2.2.2.2.2.2.1) : Int)), (r2.2.1, (r2.2.2.1, (r2.2.2.2.1, (r2.2.2.2.2.1, (r2.2.2.2.2.2.1, (r2.2.2.2.2.2.2.1, (r2.2.2.2.2.2.2.2.1, (r2.2.2.2.2.2.2.2.2.2.1, (r2.2.2.2.2.2.2.2.2.2.2.1, (r2.2.2.2.2.2.2.2.2.2.2.2.1, (r2.2.2.2.2.2.2.2.2.2.2.2.2.1, (r2.2.2.2.2.2.2.2.2.2.2.2.2.2.1, (r2.2.2.2.2.2.2.2.2.2.2.2.2.2.2.1, (r2.2.2.2.2.2.2.2.2.2.2.2.2.2.2.2.1, (r2.2.2.2.2.2.2.2.2.2.2.2.2.2.2.2.2.1, ())))))))))))))))))))))))) (
   .ret (Sum.inr (Sum.inr (a3, (a4, (a5, (a6, (a7, (a9, (a10, (a11, (a12, (a13, (a14, (a15, (a16, ()))))))))))))))))
def poolRight_loop32_8 (x : (Int × (Int × ((List TPart) × ((List THeap) × ((List THeap) × (Int × (Int × (Int × (Int × (Int × (Int × (Int × (Int × (Int × (Int × ((List UInt8) × ((List TPart) × Unit)))))))))))))))))) : Option ((Int × Unit) ⊕ ((List THeap) × ((List THeap) × (Int × (Int × (Int × (Int × (Int × (Int × (Int × (Int × (Int × ((List UInt8) × ((List TPart) × Unit)))))))))))))) := loopO 320008 (fun x => (poolRight_step32_8 x).eval) 18446744073709551616 x
def poolRight_L32_4 : LS := ⟨4, [], ⟨158, [(20, .v (.one (.i .i64))), (0, .v (.one (.st 6 false))), (18, .v (.one (.st 6 false))), (19, .v (.one (.i .i64)))], []⟩, [⟨none, [], ⟨158, [(2, .v (.one (.i .i64)))], []⟩⟩, ⟨some 0, [], ⟨158, [], []⟩⟩], []⟩
def poolRight_step32_4 : (Int × ((List THeap) × ((List THeap) × (Int × Unit)))) → Tr ((Int × ((List THeap) × ((List THeap) × (Int × Unit)))) ⊕ ((Int × Unit) ⊕ Unit)) :=
  fun (a0, a1, a2, a3, _) =>
  .ite (decide (a0 < a3)) (
   .grd (decide ((0 : Int) ≤ a0)) (
   .opt (β := THeap) (a2[Int.toNat a0]?) (fun r0 =>
   .opt (β := ((Int × Unit) ⊕ ((List THeap) × ((List THeap) × (Int × (Int × (Int × (Int × (Int × (Int × (Int × (Int × (Int × ((List UInt8) × ((List TPart) × Unit))))))))))))))) ((poolRight_loop32_8 ((0 : Int), ((0 : Int), (r0.parts, (a1, (a2, (a3, (a0, (a0, ((↑(List.length r0.parts) : Int), (r0.from', (r0.to, (r0.proto, (r0.id, (r0.tos, (r0.life, (r0.options, (r0.parts, ()))))))))))))))))))) (fun r1 =>
   .sum (β := (Int × Unit)) (γ := ((List THeap) × ((List THeap) × (Int × (Int × (Int × (Int × (Int × (Int × (Int × (Int × (Int × ((List UInt8) × ((List TPart) × Unit)))))))))))))) (r1) (fun r2 =>
    .ret (Sum.inr (Sum.inl (r2.1, ())))) (fun r2 =>
    .opt (β := (Bool × ((List THeap) × ((List THeap) × (Int × (Int × (Int × (Int × (Int × (Int × (Int × (Int × (Int × ((List UInt8) × ((List TPart) × Unit))))))))))))))) (Tr.eval (α := (Bool × ((List THeap) × ((List THeap) × (Int × (Int × (Int × (Int × (Int × (Int × (Int × (Int × (Int × ((List UInt8) × ((List TPart) × Unit))))))))))))))) (
      .ite (decide ((↑(List.length r2.2.2.2.2.2.2.2.2.2.2.2.2.1) : Int) = (0 : Int))) (
       .ret (true, (r2.1, (r2.2.1, (r2.2.2.1, (r2.2.2.2.1, (r2.2.2.2.2.1, (r2.2.2.2.2.2.1, (r2.2.2.2.2.2.2.1, (r2.2.2.2.2.2.2.2.1, (r2.2.2.2.2.2.2.2.2.1, (r2.2.2.2.2.2.2.2.2.2.1, (r2.2.2.2.2.2.2.2.2.2.2.1, (r2.2.2.2.2.2.2.2.2.2.2.2.1, (r2.2.2.2.2.2.2.2.2.2.2.2.2.1, ()))))))))))))))) (
       .grd (true) (
       .opt (β := TPart) (r2.2.2.2.2.2.2.2.2.2.2.2.2.1[(0 : Nat)]?) (fun r3 =>
       .ite (decide ((0 : Int) < r3.at')) (
        .ite (!decide (r2.2.2.2.2.2.2.2.2.2.1 = (0 : Int))) (
         .ret (true, (r2.1, (r2.2.1, (r2.2.2.1, (r2.2.2.2.1, (r2.2.2.2.2.1, (r2.2.2.2.2.2.1, (r2.2.2.2.2.2.2.1, (r2.2.2.2.2.2.2.2.1, (r2.2.2.2.2.2.2.2.2.1, (r2.2.2.2.2.2.2.2.2.2.1, (r2.2.2.2.2.2.2.2.2.2.2.1, (r2.2.2.2.2.2.2.2.2.2.2.2.1, (r2.2.2.2.2.2.2.2.2.2.2.2.2.1, ()))))))))))))))) (
         .ite (!decide (r2.2.2.2.2.2.2.2.2.2.2.1 = (0 : Int))) (
          .ret (true, (r2.1, (r2.2.1, (r2.2.2.1, (r2.2.2.2.1, (r2.2.2.2.2.1, (r2.2.2.2.2.2.1, (r2.2.2.2.2.2.2.1, (r2.2.2.2.2.2.2.2.1, (r2.2.2.2.2.2.2.2.2.1, (r2.2.2.2.2.2.2.2.2.2.1, (r2.2.2.2.2.2.2.2.2.2.2.1, (r2.2.2.2.2.2.2.2.2.2.2.2.1, (r2.2.2.2.2.2.2.2.2.2.2.2.2.1, ()))))))))))))))) (
          .ret (!decide (r2.2.2.2.2.2.2.2.2.2.2.2.1 = []), (r2.1, (r2.2.1, (r2.2.2.1, (r2.2.2.2.1, (r2.2.2.2.2.1, (r2.2.2.2.2.2.1, (r2.2.2.2.2.2.2.1, (r2.2.2.2.2.2.2.2.1, (r2.2.2.2.2.2.2.2.2.1, (r2.2.2.2.2.2.2.2.2.2.1, (r2.2.2.2.2.2.2.2.2.2.2.1, (r2.2.2.2.2.2.2.2.2.2.2.2.1, (r2.2.2.2.2.2.2.2.2.2.2.2.2.1, ()))))))))))))))))) (
        .ret (false, (r2.1, (r2.2.1, (r2.2.2.1, (r2.2.2.2.1, (r2.2.2.2.2.1, (r2.2.2.2.2.2.1, (r2.2.2.2.2.2.2.1, (r2.2.2.2.2.2.2.2.1, (r2.2.2.2.2.2.2.2.2.1, (r2.2.2.2.2.2.2.2.2.2.1, (r2.2.2.2.2.2.2.2.2.2.2.1, (r2.2.2.2.2.2.2.2.2.2.2.2.1, (r2.2.2.2.2.2.2.2.2.2.2.2.2.1, ())))))))))))))))))))) (fun r3 =>
    .ite (r3.1) (
     .ret (Sum.inr (Sum.inl ((4 : Int), ())))) (
     .grd (decide ((0 : Int) ≤ (0 : Int) ∧ (0 : Int) ≤ r3.2.2.2.2.2.1 ∧ r3.2.2.2.2.2.1 ≤ (↑(List.length r3.2.1) : Int))) (
     .opt (β := ((Int × Unit) ⊕ ((List THeap) × ((List THeap) × (Int × (Int × Unit)))))) ((poolRight_loop32_18 ((0 : Int), (List.drop (0 : Nat) (List.take (Int.toNat r3.2.2.2.2.2.1) r3.2.1), (r3.2.1, (r3.2.2.1, (r3.2.2.2.1, (r3.2.2.2.2.1, ((↑(List.length (List.drop (0 : Nat) (List.take (Int.toNat r3.2.2.2.2.2.1) r3.2.1))) : Int), (r3.2.2.2.2.2.2.1, (r3.2.2.2.2.2.2.2.1, (r3.2.2.2.2.2.2.2.2.1, (r3.2.2.2.2.2.2.2.2.2.1, (r3.2.2.2.2.2.2.2.2.2.2.1, (r3.2.2.2.2.2.2.2.2.2.2.2.1, (r3.2.2.2.2.2.2.2.2.2.2.2.2.1, (r3.2.2.2.2.2.2.2.2.2.2.2.2.2.1, ()))))))))))))))))) (fun r4 =>
     .sum (β := (Int × Unit)) (γ := ((List THeap) × ((List THeap) × (Int × (Int × Unit))))) (r4) (fun r5 =>
      .ret (Sum.inr (Sum.inl (r5.1, ())))) (fun r5 =>
      .ret (Sum.inl (IntKind.wrap IntKind.i64 (r5.2.2.2.1 + (1 : Int)), (r5.1, (r5.2.1, (r5.2.2.1, ()))))))))))))))) (
   .ret (Sum.inr (Sum.inr ())))
def poolRight_loop32_4 (x : (Int × ((List THeap) × ((List THeap) × (Int × Unit))))) : Option ((Int × Unit) ⊕ Unit) := loopO 320004 (fun x => (poolRight_step32_4 x).eval) 18446744073709551616 x
def poolRight_L57_2 : LS := ⟨2, [], ⟨19, [(8, .v (.one (.i .i64))), (0, .v (.one (.st 6 false))), (1, .v (.one (.clo 64 []))), (7, .v (.one (.i .i64)))], []⟩, [⟨none, [], ⟨19, [(4, .v (.one (.i .i64)))], []⟩⟩, ⟨some 0, [], ⟨19, [], []⟩⟩], []⟩
def poolRight_step57_2 : (Int × ((List THeap) × (Int × Unit))) → Tr ((Int × ((List THeap) × (Int × Unit))) ⊕ ((Int × Unit) ⊕ Unit)) :=
  fun (a0, a1, a2, _) =>
  .ite (decide (a0 < a2)) (
   .grd (decide ((0 : Int) ≤ a0)) (
   .opt (β := THeap) (a1[Int.toNat a0]?) (fun r0 =>
   .ite (decide ((64 : Int) < (↑(List.length r0.parts) : Int))) (
    .ret (Sum.inr (Sum.inl (a0, ())))) (
    .ret (Sum.inl (IntKind.wrap IntKind.i64 (a0 + (1 : Int)), (a1, (a2, ())))))))) (
   .ret (Sum.inr (Sum.inr ())))
def poolRight_loop57_2 (x : (Int × ((List THeap) × (Int × Unit)))) : Option ((Int × Unit) ⊕ Unit) := loopO 570002 (fun x => (poolRight_step57_2 x).eval) 18446744073709551616 x
def poolRight_L32_100020 : LS := ⟨100020, [], ⟨0, [], []⟩, [⟨some 9998, [(4, 4)], ⟨158, [(155, .v (.one (.b))), (4, .v (.one (.ptr 4 0))), (124, .v (.one (.st 6 false))), (0, .v (.one (.st 6 false))), (18, .v (.one (.st 6 false))), (19, .v (.one (.i .i64))), (20, .v (.one (.i .i64))), (125, .v (.one (.i .i64))), (126, .v (.one (.i .i64)))], [(4, .cells [.i .u32, .i .u32, .i .i64, .i .i64, .i .i64, .i .i64, .s, .st 5 false])]⟩⟩], []⟩
def poolRight_L32_100015 : LS := ⟨100015, [], ⟨0, [], []⟩, [⟨some 9998, [(4, 4)], ⟨158, [(121, .v (.one (.b))), (4, .v (.one (.ptr 4 0))), (0, .v (.one (.st 6 false))), (18, .v (.one (.st 6 false))), (19, .v (.one (.i .i64))), (20, .v (.one (.i .i64))), (3, .v (.one (.i .i64)))], [(4, .cells [.i .u32, .i .u32, .i .i64, .i .i64, .i .i64, .i .i64, .s, .st 5 false])]⟩⟩], []⟩
def poolRight_L32_100011 : LS := ⟨100011, [], ⟨0, [], []⟩, [⟨some 9998, [(4, 4), (7, 7)], ⟨158, [(87, .v (.one (.b))), (4, .v (.one (.ptr 4 0))), (26, .v (.one (.st 5 false))), (0, .v (.one (.st 6 false))), (18, .v (.one (.st 6 false))), (19, .v (.one (.i .i64))), (20, .v (.one (.i .i64))), (3, .v (.one (.i .i64))), (27, .v (.one (.i .i64))), (28, .v (.one (.i .i64))), (7, .v (.one (.ptr 7 0)))], [(4, .cells [.i .u32, .i .u32, .i .i64, .i .i64, .i .i64, .i .i64, .s, .st 5 false]), (7, .cells [.i .i64, .s, .b])]⟩⟩], []⟩
def poolRight_L32_100010 : LS := ⟨100010, [], ⟨0, [], []⟩, [⟨some 9998, [(4, 4), (7, 7)], ⟨158, [(4, .v (.one (.ptr 4 0))), (26, .v (.one (.st 5 false))), (0, .v (.one (.st 6 false))), (18, .v (.one (.st 6 false))), (19, .v (.one (.i .i64))), (20, .v (.one (.i .i64))), (3, .v (.one (.i .i64))), (27, .v (.one (.i .i64))), (28, .v (.one (.i .i64))), (7, .v (.one (.ptr 7 0))), (6, .v (.one (.i .i64))), (8, .v (.one (.b)))], [(4, .cells [.i .u32, .i .u32, .i .i64, .i .i64, .i .i64, .i .i64, .s, .st 5 false]), (7, .cells [.i .i64, .s, .b])]⟩⟩], []⟩
def poolRight_ap : List VP1 := [.one (.st 6 false)]
def poolRight_rp : SP := ⟨1, [(0, .v (.one (.i .i64)))], []⟩
def poolRight_tree : ((List THeap) × Unit) → Tr (Int × Unit) :=
  fun (a0, _) =>
  .ite (decide ((16 : Int) < (↑(List.length a0) : Int))) (
   .ret ((2 : Int), ())) (
   .opt (β := ((Int × Unit) ⊕ Unit)) ((poolRight_loop57_2 ((0 : Int), (a0, ((↑(List.length a0) : Int), ()))))) (fun r0 =>
   .sum (β := (Int × Unit)) (γ := Unit) (r0) (fun r1 =>
    .ite (decide ((0 : Int) ≤ r1.1)) (
     .ret ((2 : Int), ())) (
     .opt (β := ((Int × Unit) ⊕ Unit)) ((poolRight_loop32_4 ((0 : Int), (a0, (a0, ((↑(List.length a0) : Int), ())))))) (fun r2 =>
     .sum (β := (Int × Unit)) (γ := Unit) (r2) (fun r3 =>
      .ret (r3.1, ())) (fun r3 =>
      .ret ((0 : Int), ()))))) (fun r1 =>
    .ite (false) (
     .ret ((2 : Int), ())) (
     .opt (β := ((Int × Unit) ⊕ Unit)) ((poolRight_loop32_4 ((0 : Int), (a0, (a0, ((↑(List.length a0) : Int), ())))))) (fun r2 =>
     .sum (β := (Int × Unit)) (γ := Unit) (r2) (fun r3 =>
      .ret (r3.1, ())) (fun r3 =>
      .ret ((0 : Int), ())))))))
theorem poolRight_eq (x : ((List THeap) × Unit)) : fnTr Try.prog cod [FS.pf sumFold, FS.pf sumAdd, FS.pf sumOf, FS.pf ipByt, FS.pf ipRefused, FS.pf ipWord, FS.pf ipLong, FS.pf ipWrite, FS.pf fragSplit, FS.pf fragLives, FS.pf fEnd, FS.pf fRightPart, FS.pf fSameKey, FS.pf fRightHeap, FS.pf fCheck, FS.pf fRefused, clParts, GS.pf fOwn, GS.pf fDel, pfIns, GS.pf fPut, bWritePF, bStringPF, bLenPF, FS.pf fWhole, GS.pf fIdx, FS.pf fFeed] [(32, poolRight_L32_18), (32, poolRight_L32_8), (32, poolRight_L32_4), (57, poolRight_L57_2), (32, poolRight_L32_100020), (32, poolRight_L32_100015), (32, poolRight_L32_100011), (32, poolRight_L32_100010)] 30 32 poolRight_ap poolRight_rp x = poolRight_tree x := by kernel_rfl
def poolRight_fn (x : ((List THeap) × Unit)) : Option (Int × Unit) := (poolRight_tree x).eval
def poolRight : FS Try.prog := ⟨32, poolRight_ap, poolRight_rp, poolRight_fn, fun x r h => fnTr_sound (cod := cod) (Γ := [FS.pf sumFold, FS.pf sumAdd, FS.pf sumOf, FS.pf ipByt, FS.pf ipRefused, FS.pf ipWord, FS.pf ipLong, FS.pf ipWrite, FS.pf fragSplit, FS.pf fragLives, FS.pf fEnd, FS.pf fRightPart, FS.pf fSameKey, FS.pf fRightHeap, FS.pf fCheck, FS.pf fRefused, clParts, GS.pf fOwn, GS.pf fDel, pfIns, GS.pf fPut, bWritePF, bStringPF, bLenPF, FS.pf fWhole, GS.pf fIdx, FS.pf fFeed]) (Λs := [(32, poolRight_L32_18), (32, poolRight_L32_8), (32, poolRight_L32_4), (57, poolRight_L57_2), (32, poolRight_L32_100020), (32, poolRight_L32_100015), (32, poolRight_L32_100011), (32, poolRight_L32_100010)]) (n := 30) ((congrArg Tr.eval (poolRight_eq x)).trans h)⟩
def fragBounds_L10_3 : LS := ⟨3, [], ⟨42, [(10, .v (.one (.i .i64))), (3, .v (.one (.st 6 true))), (8, .v (.one (.st 20 false))), (9, .v (.one (.i .i64)))], []⟩, [⟨none, [], ⟨42, [(2, .v (.one (.b)))], []⟩⟩, ⟨some 0, [], ⟨42, [], []⟩⟩], []⟩
def fragBounds_step10_3 : (Int × ((List THeap) × ((List TPacket) × (Int × Unit)))) → Tr ((Int × ((List THeap) × ((List TPacket) × (Int × Unit)))) ⊕ ((Bool × Unit) ⊕ Unit)) :=
  fun (a0, a1, a2, a3, _) =>
  .ite (decide (a0 < a3)) (
   .grd (decide ((0 : Int) ≤ a0)) (
   .opt (β := TPacket) (a2[Int.toNat a0]?) (fun r0 =>
   .opt (β := ((List THeap) × (Int × (Int × (Bool × (Bool × (Int × (Int × (Int × (Int × (Int × ((List UInt8) × ((List UInt8) × (Bool × (Int × Unit))))))))))))))) ((fFeed_fn (a1, (r0.tos, (r0.id, (r0.whole, (r0.more, (r0.start, (r0.life, (r0.proto, (r0.from', (r0.to, (r0.options, (r0.data, ())))))))))))))) (fun r1 =>
   .opt (β := (Int × Unit)) ((poolRight_fn (r1.1, ()))) (fun r2 =>
   .ite (!decide (r2.1 = (0 : Int))) (
    .ret (Sum.inr (Sum.inl (false, ())))) (
    .opt (β := (Int × Unit)) ((fCheck_fn (r1.1, ()))) (fun r3 =>
    .ite (!decide (r3.1 = (0 : Int))) (
     .ret (Sum.inr (Sum.inl (false, ())))) (
     .ite (r1.2.2.2.2.2.2.2.2.2.2.2.2.1) (
      .ite (r1.2.2.2.2.1) (
       .ret (Sum.inr (Sum.inl (false, ())))) (
       .ite (!decide (r1.2.2.2.2.2.1 = (0 : Int))) (
        .ret (Sum.inr (Sum.inl (false, ())))) (
        .ret (Sum.inl (IntKind.wrap IntKind.i64 (a0 + (1 : Int)), (r1.1, (a2, (a3, ())))))))) (
      .ret (Sum.inl (IntKind.wrap IntKind.i64 (a0 + (1 : Int)), (r1.1, (a2, (a3, ())))))))))))))) (
   .ret (Sum.inr (Sum.inr ())))
def fragBounds_loop10_3 (x : (Int × ((List THeap) × ((List TPacket) × (Int × Unit))))) : Option ((Bool × Unit) ⊕ Unit) := loopO 100003 (fun x => (fragBounds_step10_3 x).eval) 18446744073709551616 x
def fragBounds_ap : List VP1 := [.one (.st 20 false)]
def fragBounds_rp : SP := ⟨1, [(0, .v (.one (.b)))], []⟩
def fragBounds_tree : ((List TPacket) × Unit) → Tr (Bool × Unit) :=
  fun (a0, _) =>
  .opt (β := ((Bool × Unit) ⊕ Unit)) ((fragBounds_loop10_3 ((0 : Int), ([], (a0, ((↑(List.length a0) : Int), ())))))) (fun r0 =>
  .sum (β := (Bool × Unit)) (γ := Unit) (r0) (fun r1 =>
   .ret (r1.1, ())) (fun r1 =>
   .opt (β := (Bool × Unit)) ((fragLives_fn ())) (fun r2 =>
   .ret (r2.1, ()))))
theorem fragBounds_eq (x : ((List TPacket) × Unit)) : fnTr Try.prog cod [FS.pf sumFold, FS.pf sumAdd, FS.pf sumOf, FS.pf ipByt, FS.pf ipRefused, FS.pf ipWord, FS.pf ipLong, FS.pf ipWrite, FS.pf fragSplit, FS.pf fragLives, FS.pf fEnd, FS.pf fRightPart, FS.pf fSameKey, FS.pf fRightHeap, FS.pf fCheck, FS.pf fRefused, clParts, GS.pf fOwn, GS.pf fDel, pfIns, GS.pf fPut, bWritePF, bStringPF, bLenPF, FS.pf fWhole, GS.pf fIdx, FS.pf fFeed, FS.pf poolRight] [(10, fragBounds_L10_3)] 30 10 fragBounds_ap fragBounds_rp x = fragBounds_tree x := by kernel_rfl
def fragBounds_fn (x : ((List TPacket) × Unit)) : Option (Bool × Unit) := (fragBounds_tree x).eval
def fragBounds : FS Try.prog := ⟨10, fragBounds_ap, fragBounds_rp, fragBounds_fn, fun x r h => fnTr_sound (cod := cod) (Γ := [FS.pf sumFold, FS.pf sumAdd, FS.pf sumOf, FS.pf ipByt, FS.pf ipRefused, FS.pf ipWord, FS.pf ipLong, FS.pf ipWrite, FS.pf fragSplit, FS.pf fragLives, FS.pf fEnd, FS.pf fRightPart, FS.pf fSameKey, FS.pf fRightHeap, FS.pf fCheck, FS.pf fRefused, clParts, GS.pf fOwn, GS.pf fDel, pfIns, GS.pf fPut, bWritePF, bStringPF, bLenPF, FS.pf fWhole, GS.pf fIdx, FS.pf fFeed, FS.pf poolRight]) (Λs := [(10, fragBounds_L10_3)]) (n := 30) ((congrArg Tr.eval (fragBounds_eq x)).trans h)⟩
def fragBack_L9_16 : LS := ⟨16, [(3, 3)], ⟨106, [(3, .v (.one (.ptr 3 0))), (76, .v (.one (.i .i64))), (7, .v (.one (.st 20 true))), (9, .v (.one (.st 6 true))), (75, .v (.one (.i .i64)))], [(3, .cells [.i .i64, .i .i64, .b, .b, .i .i64, .i .i64, .i .i64, .i .u32, .i .u32, .s, .s])]⟩, [⟨none, [], ⟨106, [(6, .v (.one (.b)))], []⟩⟩, ⟨some 2, [], ⟨106, [], []⟩⟩], []⟩
def fragBack_step9_16 : (Int × ((List TPacket) × ((List THeap) × (Int × (Int × (Int × (Bool × (Bool × (Int × (Int × (Int × (Int × (Int × ((List UInt8) × ((List UInt8) × Unit))))))))))))))) → Tr ((Int × ((List TPacket) × ((List THeap) × (Int × (Int × (Int × (Bool × (Bool × (Int × (Int × (Int × (Int × (Int × ((List UInt8) × ((List UInt8) × Unit))))))))))))))) ⊕ ((Bool × Unit) ⊕ Unit)) :=
  fun (a0, a1, a2, a3, a4, a5, a6, a7, a8, a9, a10, a11, a12, a13, a14, _) =>
  .ite (decide (a0 < a3)) (
   .grd (decide ((0 : Int) ≤ IntKind.wrap IntKind.i64 (IntKind.wrap IntKind.i64 ((↑(List.length a1) : Int) - (1 : Int)) - a0))) (
   .opt (β := TPacket) (a1[Int.toNat (IntKind.wrap IntKind.i64 (IntKind.wrap IntKind.i64 ((↑(List.length a1) : Int) - (1 : Int)) - a0))]?) (fun r0 =>
   .opt (β := ((List THeap) × (Int × (Int × (Bool × (Bool × (Int × (Int × (Int × (Int × (Int × ((List UInt8) × ((List UInt8) × (Bool × (Int × Unit))))))))))))))) ((fFeed_fn (a2, (r0.tos, (r0.id, (r0.whole, (r0.more, (r0.start, (r0.life, (r0.proto, (r0.from', (r0.to, (r0.options, (r0.data, ())))))))))))))) (fun r1 =>
   .ite (!decide (r1.2.2.2.2.2.2.2.2.2.2.2.2.2.1 = (0 : Int))) (
    .ret (Sum.inr (Sum.inl (false, ())))) (
    .ite (r1.2.2.2.2.2.2.2.2.2.2.2.2.1) (
     .ite (decide (r1.2.1 = a4) && (decide (r1.2.2.1 = a5) && (r1.2.2.2.1 == a6 && (r1.2.2.2.2.1 == a7 && (decide (r1.2.2.2.2.2.1 = a8) && (decide (r1.2.2.2.2.2.2.1 = a9) && (decide (r1.2.2.2.2.2.2.2.1 = a10) && (decide (r1.2.2.2.2.2.2.2.2.1 = a11) && (decide (r1.2.2.2.2.2.2.2.2.2.1 = a12) && (decide (r1.2.2.2.2.2.2.2.2.2.2.1 = a13) && (decide (r1.2.2.2.2.2.2.2.2.2.2.2.1 = a14) && true))))))))))) (
      .ret (Sum.inr (Sum.inl (decide ((↑(List.length r1.1) : Int) = (0 : Int)), ())))) (
      .ret (Sum.inr (Sum.inl (false, ()))))) (
     .ret (Sum.inl (IntKind.wrap IntKind.i64 (a0 + (1 : Int)), (a1, (r1.1, (a3, (a4, (a5, (a6, (a7, (a8, (a9, (a10, (a11, (a12, (a13, (a14, ())))))))))))))))))))))) (
   .ret (Sum.inr (Sum.inr ())))
def fragBack_loop9_16 (x : (Int × ((List TPacket) × ((List THeap) × (Int × (Int × (Int × (Bool × (Bool × (Int × (Int × (Int × (Int × (Int × ((List UInt8) × ((List UInt8) × Unit)))))))))))))))) : Option ((Bool × Unit) ⊕ Unit) := loopO 90016 (fun x => (fragBack_step9_16 x).eval) 18446744073709551616 x
def fragBack_L9_7 : LS := ⟨7, [(3, 3)], ⟨106, [(44, .v (.one (.i .i64))), (7, .v (.one (.st 20 true))), (9, .v (.one (.st 6 true))), (42, .v (.one (.st 0 false))), (3, .v (.one (.ptr 3 0))), (43, .v (.one (.i .i64)))], [(3, .cells [.i .i64, .i .i64, .b, .b, .i .i64, .i .i64, .i .i64, .i .u32, .i .u32, .s, .s])]⟩, [⟨none, [], ⟨106, [(6, .v (.one (.b)))], []⟩⟩, ⟨some 0, [(3, 3)], ⟨106, [(3, .v (.one (.ptr 3 0))), (7, .v (.one (.st 20 true))), (9, .v (.one (.st 6 true)))], [(3, .cells [.i .i64, .i .i64, .b, .b, .i .i64, .i .i64, .i .i64, .i .u32, .i .u32, .s, .s])]⟩⟩], []⟩
def fragBack_step9_7 : (Int × ((List TPacket) × ((List THeap) × ((List Int) × (Int × (Int × (Int × (Bool × (Bool × (Int × (Int × (Int × (Int × (Int × ((List UInt8) × ((List UInt8) × Unit)))))))))))))))) → Tr ((Int × ((List TPacket) × ((List THeap) × ((List Int) × (Int × (Int × (Int × (Bool × (Bool × (Int × (Int × (Int × (Int × (Int × ((List UInt8) × ((List UInt8) × Unit)))))))))))))))) ⊕ ((Bool × Unit) ⊕ ((List TPacket) × ((List THeap) × (Int × (Int × (Bool × (Bool × (Int × (Int × (Int × (Int × (Int × ((List UInt8) × ((List UInt8) × Unit))))))))))))))) :=
  fun (a0, a1, a2, a3, a4, a5, a6, a7, a8, a9, a10, a11, a12, a13, a14, a15, _) =>
  .ite (decide (a0 < a4)) (
   .grd (decide ((0 : Int) ≤ a0)) (
   .opt (β := Int) (a3[Int.toNat a0]?) (fun r0 =>
   .ite (decide (r0 < (0 : Int))) (
    .ret (Sum.inl (IntKind.wrap IntKind.i64 (a0 + (1 : Int)), (a1, (a2, (a3, (a4, (a5, (a6, (a7, (a8, (a9, (a10, (a11, (a12, (a13, (a14, (a15, ())))))))))))))))))) (
    .ite (decide (IntKind.wrap IntKind.i64 ((↑(List.length a1) : Int) - (1 : Int)) ≤ r0)) (
     .ret (Sum.inl (IntKind.wrap IntKind.i64 (a0 + (1 : Int)), (a1, (a2, (a3, (a4, (a5, (a6, (a7, (a8, (a9, (a10, (a11, (a12, (a13, (a14, (a15, ())))))))))))))))))) (
     .grd (decide ((0 : Int) ≤ r0)) (
     .opt (β := TPacket) (a1[Int.toNat r0]?) (fun r1 =>
     .opt (β := ((List THeap) × (Int × (Int × (Bool × (Bool × (Int × (Int × (Int × (Int × (Int × ((List UInt8) × ((List UInt8) × (Bool × (Int × Unit))))))))))))))) ((fFeed_fn (a2, (r1.tos, (r1.id, (r1.whole, (r1.more, (r1.start, (r1.life, (r1.proto, (r1.from', (r1.to, (r1.options, (r1.data, ())))))))))))))) (fun r2 =>
     .ite (r2.2.2.2.2.2.2.2.2.2.2.2.2.1) (
      .ret (Sum.inr (Sum.inl (false, ())))) (
      .ite (!decide (r2.2.2.2.2.2.2.2.2.2.2.2.2.2.1 = (0 : Int))) (
       .ret (Sum.inr (Sum.inl (false, ())))) (
       .ret (Sum.inl (IntKind.wrap IntKind.i64 (a0 + (1 : Int)), (a1, (r2.1, (a3, (a4, (a5, (a6, (a7, (a8, (a9, (a10, (a11, (a12, (a13, (a14, (a15, ()))))))))))))))))))))))))))) (
   .ret (Sum.inr (Sum.inr (a1, (a2, (a5, (a6, (a7, (a8, (a9, (a10, (a11, (a12, (a13, (a14, (a15, ()))))))))))))))))
def fragBack_loop9_7 (x : (Int × ((List TPacket) × ((List THeap) × ((List Int) × (Int × (Int × (Int × (Bool × (Bool × (Int × (Int × (Int × (Int × (Int × ((List UInt8) × ((List UInt8) × Unit))))))))))))))))) : Option ((Bool × Unit) ⊕ ((List TPacket) × ((List THeap) × (Int × (Int × (Bool × (Bool × (Int × (Int × (Int × (Int × (Int × ((List UInt8) × ((List UInt8) × Unit)))))))))))))) := loopO 90007 (fun x => (fragBack_step9_7 x).eval) 18446744073709551616 x
def fragBack_ap : List VP1 := [.agg [.i .i64, .i .i64, .b, .b, .i .i64, .i .i64, .i .i64, .i .u32, .i .u32, .s, .s], .one (.i .i64), .one (.st 0 false)]
def fragBack_rp : SP := ⟨1, [(0, .v (.one (.b)))], []⟩
def fragBack_tree : (Int × (Int × (Bool × (Bool × (Int × (Int × (Int × (Int × (Int × ((List UInt8) × ((List UInt8) × (Int × ((List Int) × Unit))))))))))))) → Tr (Bool × Unit) :=
  fun (a0, a1, a2, a3, a4, a5, a6, a7, a8, a9, a10, a11, a12, _) =>
  .opt (β := ((List TPacket) × (Int × Unit))) ((fragSplit_fn (a0, (a1, (false, (false, ((0 : Int), (a5, (a6, (a7, (a8, (a9, (a10, (a11, ())))))))))))))) (fun r0 =>
  .opt (β := (Bool × Unit)) ((fragLives_fn ())) (fun r1 =>
  .ite (!r1.1) (
   .opt (β := (Bool × Unit)) ((fragLives_fn ())) (fun r2 =>
   .ret (r2.1, ()))) (
   .ite (!decide (r0.2.1 = (0 : Int))) (
    .opt (β := (Bool × Unit)) ((fragLives_fn ())) (fun r2 =>
    .ret (r2.1, ()))) (
    .ite (decide ((64 : Int) < (↑(List.length r0.1) : Int))) (
     .opt (β := (Bool × Unit)) ((fragLives_fn ())) (fun r2 =>
     .ret (r2.1, ()))) (
     .ite (decide ((↑(List.length r0.1) : Int) < (2 : Int))) (
      .opt (β := (Bool × Unit)) ((fragLives_fn ())) (fun r2 =>
      .ret (r2.1, ()))) (
      .opt (β := ((Bool × Unit) ⊕ ((List TPacket) × ((List THeap) × (Int × (Int × (Bool × (Bool × (Int × (Int × (Int × (Int × (Int × ((List UInt8) × ((List UInt8) × Unit))))))))))))))) ((fragBack_loop9_7 ((0 : Int), (r0.1, ([], (a12, ((↑(List.length a12) : Int), (a0, (a1, (false, (false, ((0 : Int), (a5, (a6, (a7, (a8, (a9, (a10, ())))))))))))))))))) (fun r2 =>
      .sum (β := (Bool × Unit)) (γ := ((List TPacket) × ((List THeap) × (Int × (Int × (Bool × (Bool × (Int × (Int × (Int × (Int × (Int × ((List UInt8) × ((List UInt8) × Unit)))))))))))))) (r2) (fun r3 =>
       .ret (r3.1, ())) (fun r3 =>
       .opt (β := ((Bool × Unit) ⊕ Unit)) ((fragBack_loop9_16 ((0 : Int), (r3.1, (r3.2.1, ((↑(List.length r3.1) : Int), (r3.2.2.1, (r3.2.2.2.1, (r3.2.2.2.2.1, (r3.2.2.2.2.2.1, (r3.2.2.2.2.2.2.1, (r3.2.2.2.2.2.2.2.1, (r3.2.2.2.2.2.2.2.2.1, (r3.2.2.2.2.2.2.2.2.2.1, (r3.2.2.2.2.2.2.2.2.2.2.1, (r3.2.2.2.2.2.2.2.2.2.2.2.1, (r3.2.2.2.2.2.2.2.2.2.2.2.2.1, ()))))))))))))))))) (fun r4 =>
       .sum (β := (Bool × Unit)) (γ := Unit) (r4) (fun r5 =>
        .ret (r5.1, ())) (fun r5 =>
        .ret (false, ())))))))))))
theorem fragBack_eq (x : (Int × (Int × (Bool × (Bool × (Int × (Int × (Int × (Int × (Int × ((List UInt8) × ((List UInt8) × (Int × ((List Int) × Unit)))))))))))))) : fnTr Try.prog cod [FS.pf sumFold, FS.pf sumAdd, FS.pf sumOf, FS.pf ipByt, FS.pf ipRefused, FS.pf ipWord, FS.pf ipLong, FS.pf ipWrite, FS.pf fragSplit, FS.pf fragLives, FS.pf fEnd, FS.pf fRightPart, FS.pf fSameKey, FS.pf fRightHeap, FS.pf fCheck, FS.pf fRefused, clParts, GS.pf fOwn, GS.pf fDel, pfIns, GS.pf fPut, bWritePF, bStringPF, bLenPF, FS.pf fWhole, GS.pf fIdx, FS.pf fFeed, FS.pf poolRight, FS.pf fragBounds] [(9, fragBack_L9_16), (9, fragBack_L9_7)] 30 9 fragBack_ap fragBack_rp x = fragBack_tree x := by kernel_rfl
def fragBack_fn (x : (Int × (Int × (Bool × (Bool × (Int × (Int × (Int × (Int × (Int × ((List UInt8) × ((List UInt8) × (Int × ((List Int) × Unit)))))))))))))) : Option (Bool × Unit) := (fragBack_tree x).eval
def fragBack : FS Try.prog := ⟨9, fragBack_ap, fragBack_rp, fragBack_fn, fun x r h => fnTr_sound (cod := cod) (Γ := [FS.pf sumFold, FS.pf sumAdd, FS.pf sumOf, FS.pf ipByt, FS.pf ipRefused, FS.pf ipWord, FS.pf ipLong, FS.pf ipWrite, FS.pf fragSplit, FS.pf fragLives, FS.pf fEnd, FS.pf fRightPart, FS.pf fSameKey, FS.pf fRightHeap, FS.pf fCheck, FS.pf fRefused, clParts, GS.pf fOwn, GS.pf fDel, pfIns, GS.pf fPut, bWritePF, bStringPF, bLenPF, FS.pf fWhole, GS.pf fIdx, FS.pf fFeed, FS.pf poolRight, FS.pf fragBounds]) (Λs := [(9, fragBack_L9_16), (9, fragBack_L9_7)]) (n := 30) ((congrArg Tr.eval (fragBack_eq x)).trans h)⟩
end Go.Proofs.Ythnijeclidpooaa.X
