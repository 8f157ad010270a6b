/- Functions of the program, as trees (printed by a program of mine: tool/XTool, xg.py), each with the proof that the machine comes to what its tree says. Conditions: none. -/
import Derived.Test.YtjfloicmoelkmaaDoorCod
import Derived.KernelRfl
import Derived.Test.YtjfloicmoelkmaaDoorGLine
namespace Go.Proofs.YtjfloicmoelkmaaDoor.X
open Go Go.RowKit Go.Proofs.YtjfloicmoelkmaaDoor.Abs
set_option maxRecDepth 100000
set_option linter.unusedVariables false
def cRead_L8_10 : LS := ⟨10, [(9, 9), (2, 2), (6, 6), (5, 5), (960576, 960576), (960326, 960326)], ⟨91, [(29, .v (.one (.i .i64))), (9, .v (.one (.ptr 9 0))), (27, .v (.one (.st 3 false))), (2, .v (.one (.ptr 2 0))), (6, .v (.one (.own 6))), (5, .v (.one (.ptr 5 0))), (19, .v (.one (.st 3 false))), (20, .v (.one (.i .i64))), (21, .v (.one (.i .i64))), (7, .v (.one (.i .i64))), (28, .v (.one (.i .i64)))], [(9, .cells [.own 960576, .b]), (2, .cells [.i .u32, .i .i64, .i .i64, .i .i64, .i .i64, .i .i64, .nil, .b]), (6, .row 9 3 true true), (5, .cells [.i .u32, .i .i64, .i .i64, .i .i64, .i .i64, .i .i64, .own 960326, .b]), (960576, .row 9 3 true true), (960326, .row 59 10 true true)]⟩, [⟨some 2, [(2, 2), (6, 6), (5, 5), (9, 9), (960326, 960326), (960576, 960576)], ⟨91, [(2, .v (.one (.ptr 2 0))), (6, .v (.one (.own 6))), (5, .v (.one (.ptr 5 0))), (19, .v (.one (.st 3 false))), (20, .v (.one (.i .i64))), (21, .v (.one (.i .i64))), (7, .v (.one (.i .i64))), (9, .v (.one (.ptr 9 0)))], [(2, .cells [.i .u32, .i .i64, .i .i64, .i .i64, .i .i64, .i .i64, .nil, .b]), (6, .row 9 3 true true), (5, .cells [.i .u32, .i .i64, .i .i64, .i .i64, .i .i64, .i .i64, .own 960326, .b]), (9, .cells [.own 960576, .b]), (960326, .row 59 10 true true), (960576, .row 9 3 true true)]⟩⟩], [(1000576, 9, 3)]⟩
def cRead_step8_10 : (Int × ((List (List UInt8)) × ((List (List UInt8)) × (Int × (Int × (Int × (Int × (Bool × (Int × (Int × (Int × (Int × (Int × (Int × (Bool × ((List (List UInt8)) × (Int × (Int × (Int × (Int × (Int × (Int × (Bool × ((List (List UInt8)) × ((List TRule) × Unit))))))))))))))))))))))))) → Tr ((Int × ((List (List UInt8)) × ((List (List UInt8)) × (Int × (Int × (Int × (Int × (Bool × (Int × (Int × (Int × (Int × (Int × (Int × (Bool × ((List (List UInt8)) × (Int × (Int × (Int × (Int × (Int × (Int × (Bool × ((List (List UInt8)) × ((List TRule) × Unit))))))))))))))))))))))))) ⊕ ((List (List UInt8)) × (Int × (Int × (Int × (Int × (Int × (Int × (Int × (Int × (Int × (Bool × ((List (List UInt8)) × (Int × (Int × (Int × (Int × (Int × (Int × (Bool × (Bool × ((List TRule) × ((List (List UInt8)) × Unit))))))))))))))))))))))) :=
  fun (a0, a1, a2, a3, a4, a5, a6, a7, a8, a9, a10, a11, a12, a13, a14, a15, a16, a17, a18, a19, a20, a21, a22, a23, a24, _) =>
  .ite (decide (a0 < a6)) (
   .grd (decide ((0 : Int) ≤ a0)) (
   .opt (β := (List UInt8)) (a1[Int.toNat a0]?) (fun r0 =>
   .ite (!decide (r0 = [])) (
    .grd (decide ((List.length a23 + List.length [r0]) * (16 : Nat) ≤ (140737488355328 : Nat) ∧ List.length a23 + List.length [r0] ≤ (9223372036854775807 : Nat))) (
    .grd (decide (List.length a15 = List.length a15)) (
    .grd (decide (List.length (a23 ++ [r0]) = List.length (a23 ++ [r0]))) (
    .grd (decide (List.length a24 = List.length a24)) (
    .ret (Sum.inl (IntKind.wrap IntKind.i64 (a0 + (1 : Int)), (a1, (a2, (a3, (a4, (a5, (a6, (a7, (a8, (a9, (a10, (a11, (a12, (a13, (a14, (a15, (a16, (a17, (a18, (a19, (a20, (a21, (a22, (a23 ++ [r0], (a24, ()))))))))))))))))))))))))))))))) (
    .grd (decide (List.length a15 = List.length a15)) (
    .grd (decide (List.length a23 = List.length a23)) (
    .grd (decide (List.length a24 = List.length a24)) (
    .ret (Sum.inl (IntKind.wrap IntKind.i64 (a0 + (1 : Int)), (a1, (a2, (a3, (a4, (a5, (a6, (a7, (a8, (a9, (a10, (a11, (a12, (a13, (a14, (a15, (a16, (a17, (a18, (a19, (a20, (a21, (a22, (a23, (a24, ()))))))))))))))))))))))))))))))))) (
   .grd (decide (List.length a15 = List.length a15)) (
   .grd (decide (List.length a24 = List.length a24)) (
   .grd (decide (List.length a23 = List.length a23)) (
   .ret (Sum.inr (a2, (a3, (a4, (a5, (a8, (a9, (a10, (a11, (a12, (a13, (a14, (a15, (a16, (a17, (a18, (a19, (a20, (a21, (a22, (a7, (a24, (a23, ())))))))))))))))))))))))))))
def cRead_loop8_10 (x : (Int × ((List (List UInt8)) × ((List (List UInt8)) × (Int × (Int × (Int × (Int × (Bool × (Int × (Int × (Int × (Int × (Int × (Int × (Bool × ((List (List UInt8)) × (Int × (Int × (Int × (Int × (Int × (Int × (Bool × ((List (List UInt8)) × ((List TRule) × Unit)))))))))))))))))))))))))) : Option ((List (List UInt8)) × (Int × (Int × (Int × (Int × (Int × (Int × (Int × (Int × (Int × (Bool × ((List (List UInt8)) × (Int × (Int × (Int × (Int × (Int × (Int × (Bool × (Bool × ((List TRule) × ((List (List UInt8)) × Unit)))))))))))))))))))))) := loopO 80010 (fun x => (cRead_step8_10 x).eval) 18446744073709551616 x
def cRead_L8_6 : LS := ⟨6, [(2, 2), (6, 6), (5, 5), (960326, 960326)], ⟨91, [(21, .v (.one (.i .i64))), (2, .v (.one (.ptr 2 0))), (6, .v (.one (.own 6))), (5, .v (.one (.ptr 5 0))), (19, .v (.one (.st 3 false))), (20, .v (.one (.i .i64)))], [(2, .cells [.i .u32, .i .i64, .i .i64, .i .i64, .i .i64, .i .i64, .nil, .b]), (6, .row 9 3 true true), (5, .cells [.i .u32, .i .i64, .i .i64, .i .i64, .i .i64, .i .i64, .own 960326, .b]), (960326, .row 59 10 true true)]⟩, [⟨none, [(2, 2)], ⟨91, [(2, .v (.one (.ptr 2 0))), (3, .v (.one (.i .i64))), (4, .v (.one (.i .i64)))], [(2, .cells [.i .u32, .i .i64, .i .i64, .i .i64, .i .i64, .i .i64, .nil, .b])]⟩⟩, ⟨some 0, [(2, 2), (5, 5), (6, 6), (960326, 960326)], ⟨91, [(2, .v (.one (.ptr 2 0))), (5, .v (.one (.ptr 5 0))), (6, .v (.one (.own 6)))], [(2, .cells [.i .u32, .i .i64, .i .i64, .i .i64, .i .i64, .i .i64, .nil, .b]), (5, .cells [.i .u32, .i .i64, .i .i64, .i .i64, .i .i64, .i .i64, .own 960326, .b]), (6, .row 9 3 true true), (960326, .row 59 10 true true)]⟩⟩], [(6, 9, 3), (1000326, 59, 10)]⟩
def cRead_step8_6 : (Int × ((List (List UInt8)) × (Int × (Int × (Int × (Int × (Int × (Int × (Int × (Bool × ((List (List UInt8)) × (Int × (Int × (Int × (Int × (Int × (Int × (Bool × ((List TRule) × Unit))))))))))))))))))) → Tr ((Int × ((List (List UInt8)) × (Int × (Int × (Int × (Int × (Int × (Int × (Int × (Bool × ((List (List UInt8)) × (Int × (Int × (Int × (Int × (Int × (Int × (Bool × ((List TRule) × Unit))))))))))))))))))) ⊕ ((Int × (Int × (Int × (Int × (Int × (Int × (Int × (Int × (Bool × Unit))))))))) ⊕ (Int × (Int × (Int × (Int × (Int × (Int × (Bool × (Int × (Int × (Int × (Int × (Int × (Int × (Bool × ((List (List UInt8)) × ((List TRule) × Unit)))))))))))))))))) :=
  fun (a0, a1, a2, a3, a4, a5, a6, a7, a8, a9, a10, a11, a12, a13, a14, a15, a16, a17, a18, _) =>
  .ite (decide (a0 < a2)) (
   .grd (decide ((0 : Int) ≤ a0)) (
   .opt (β := (List UInt8)) (a1[Int.toNat a0]?) (fun r0 =>
   .grd (decide (List.length r0 < (4294967281 : Nat) ∧ (1 : Nat) ≤ List.length [(32 : UInt8)])) (
   .grd (decide (List.length a10 = List.length a10)) (
   .grd (true) (
   .grd (decide (List.length a18 = List.length a18)) (
   .opt (β := ((List (List UInt8)) × (Int × (Int × (Int × (Int × (Int × (Int × (Int × (Int × (Int × (Bool × ((List (List UInt8)) × (Int × (Int × (Int × (Int × (Int × (Int × (Bool × (Bool × ((List TRule) × ((List (List UInt8)) × Unit))))))))))))))))))))))) ((cRead_loop8_10 ((0 : Int), (splitL r0 [(32 : UInt8)], (a1, (a2, (a0, (a0, ((↑(List.length (splitL r0 [(32 : UInt8)])) : Int), (false, (a3, (a4, (a5, (a6, (a7, (a8, (a9, (a10, (a11, (a12, (a13, (a14, (a15, (a16, (a17, ([], (a18, ()))))))))))))))))))))))))))) (fun r1 =>
   .ite (decide ((↑(List.length r1.2.2.2.2.2.2.2.2.2.2.2.2.2.2.2.2.2.2.2.2.2.fst) : Int) = (0 : Int))) (
    .grd (decide (List.length r1.2.2.2.2.2.2.2.2.2.2.2.fst = List.length r1.2.2.2.2.2.2.2.2.2.2.2.1)) (
    .grd (decide (List.length r1.2.2.2.2.2.2.2.2.2.2.2.2.2.2.2.2.2.2.2.2.fst = List.length r1.2.2.2.2.2.2.2.2.2.2.2.2.2.2.2.2.2.2.2.2.1)) (
    .ret (Sum.inl (IntKind.wrap IntKind.i64 (r1.2.2.1 + (1 : Int)), (r1.1, (r1.2.1, (r1.2.2.2.2.1, (r1.2.2.2.2.2.1, (r1.2.2.2.2.2.2.1, (r1.2.2.2.2.2.2.2.1, (r1.2.2.2.2.2.2.2.2.1, (r1.2.2.2.2.2.2.2.2.2.1, (r1.2.2.2.2.2.2.2.2.2.2.1, (r1.2.2.2.2.2.2.2.2.2.2.2.1, (r1.2.2.2.2.2.2.2.2.2.2.2.2.1, (r1.2.2.2.2.2.2.2.2.2.2.2.2.2.1, (r1.2.2.2.2.2.2.2.2.2.2.2.2.2.2.1, (r1.2.2.2.2.2.2.2.2.2.2.2.2.2.2.2.1, (r1.2.2.2.2.2.2.2.2.2.2.2.2.2.2.2.2.1, (r1.2.2.2.2.2.2.2.2.2.2.2.2.2.2.2.2.2.1, (r1.2.2.2.2.2.2.2.2.2.2.2.2.2.2.2.2.2.2.1, (r1.2.2.2.2.2.2.2.2.2.2.2.2.2.2.2.2.2.2.2.2.1, ()))))))))))))))))))))))) (
    .grd (decide ((0 : Int) ≤ (0 : Int) ∧ (0 : Int) < (↑(List.length r1.2.2.2.2.2.2.2.2.2.2.2.2.2.2.2.2.2.2.2.2.2.fst) : Int))) (
    .opt (β := (List UInt8)) (r1.2.2.2.2.2.2.2.2.2.2.2.2.2.2.2.2.2.2.2.2.2.1[(0 : Nat)]?) (fun r2 =>
    .grd (decide ((0 : Int) ≤ (0 : Int) ∧ (0 : Int) < (↑(List.length r2) : Int))) (
    .ite (decide ((↑(UInt8.toNat (List.getD r2 (0 : Nat) (0 : UInt8))) : Int) = (35 : Int))) (
     .grd (decide (List.length r1.2.2.2.2.2.2.2.2.2.2.2.fst = List.length r1.2.2.2.2.2.2.2.2.2.2.2.1)) (
     .grd (decide (List.length r1.2.2.2.2.2.2.2.2.2.2.2.2.2.2.2.2.2.2.2.2.fst = List.length r1.2.2.2.2.2.2.2.2.2.2.2.2.2.2.2.2.2.2.2.2.1)) (
     .ret (Sum.inl (IntKind.wrap IntKind.i64 (r1.2.2.1 + (1 : Int)), (r1.1, (r1.2.1, (r1.2.2.2.2.1, (r1.2.2.2.2.2.1, (r1.2.2.2.2.2.2.1, (r1.2.2.2.2.2.2.2.1, (r1.2.2.2.2.2.2.2.2.1, (r1.2.2.2.2.2.2.2.2.2.1, (r1.2.2.2.2.2.2.2.2.2.2.1, (r1.2.2.2.2.2.2.2.2.2.2.2.1, (r1.2.2.2.2.2.2.2.2.2.2.2.2.1, (r1.2.2.2.2.2.2.2.2.2.2.2.2.2.1, (r1.2.2.2.2.2.2.2.2.2.2.2.2.2.2.1, (r1.2.2.2.2.2.2.2.2.2.2.2.2.2.2.2.1, (r1.2.2.2.2.2.2.2.2.2.2.2.2.2.2.2.2.1, (r1.2.2.2.2.2.2.2.2.2.2.2.2.2.2.2.2.2.1, (r1.2.2.2.2.2.2.2.2.2.2.2.2.2.2.2.2.2.2.1, (r1.2.2.2.2.2.2.2.2.2.2.2.2.2.2.2.2.2.2.2.2.1, ()))))))))))))))))))))))) (
     .grd (decide (List.length r1.2.2.2.2.2.2.2.2.2.2.2.2.2.2.2.2.2.2.2.2.fst = List.length r1.2.2.2.2.2.2.2.2.2.2.2.2.2.2.2.2.2.2.2.2.1)) (
     .opt (β := ((List UInt8) × (Int × (Int × (Int × (Int × (Int × (Int × (Bool × (Nat × (Nat × (Bool × ((List TRule) × ((List (List UInt8)) × Unit)))))))))))))) ((cLine_fn (r1.2.2.2.2.2.2.2.2.2.2.2.2.1, (r1.2.2.2.2.2.2.2.2.2.2.2.2.2.1, (r1.2.2.2.2.2.2.2.2.2.2.2.2.2.2.1, (r1.2.2.2.2.2.2.2.2.2.2.2.2.2.2.2.1, (r1.2.2.2.2.2.2.2.2.2.2.2.2.2.2.2.2.1, (r1.2.2.2.2.2.2.2.2.2.2.2.2.2.2.2.2.2.1, (r1.2.2.2.2.2.2.2.2.2.2.2.2.2.2.2.2.2.2.1, ((0 : Nat), (List.length r1.2.2.2.2.2.2.2.2.2.2.2.2.2.2.2.2.2.2.2.2.2.fst, (r1.2.2.2.2.2.2.2.2.2.2.2.2.2.2.2.2.2.2.2.1, (r1.2.2.2.2.2.2.2.2.2.2.2.2.2.2.2.2.2.2.2.2.1, (r1.2.2.2.2.2.2.2.2.2.2.2.2.2.2.2.2.2.2.2.2.2.1, ())))))))))))))) (fun r3 =>
     .ite (r3.2.2.2.2.2.2.2.2.2.2.1) (
      .ret (Sum.inr (Sum.inl (IntKind.wrap IntKind.i64 (r1.2.2.2.1 + (1 : Int)), ((10 : Int), ((0 : Int), ((0 : Int), ((0 : Int), ((0 : Int), ((0 : Int), ((0 : Int), (false, ())))))))))))) (
      .ite (decide (r3.1 = [(112 : UInt8), (97 : UInt8), (115 : UInt8), (115 : UInt8)])) (
       .grd (decide (List.length r1.2.2.2.2.2.2.2.2.2.2.2.fst = List.length r1.2.2.2.2.2.2.2.2.2.2.2.1)) (
       .grd (decide (List.length r3.2.2.2.2.2.2.2.2.2.2.2.fst = List.length r3.2.2.2.2.2.2.2.2.2.2.2.1)) (
       .ret (Sum.inl (IntKind.wrap IntKind.i64 (r1.2.2.1 + (1 : Int)), (r1.1, (r1.2.1, (r1.2.2.2.2.1, (r1.2.2.2.2.2.1, (r1.2.2.2.2.2.2.1, (r1.2.2.2.2.2.2.2.1, (r1.2.2.2.2.2.2.2.2.1, (r1.2.2.2.2.2.2.2.2.2.1, (r1.2.2.2.2.2.2.2.2.2.2.1, (r1.2.2.2.2.2.2.2.2.2.2.2.1, (r3.2.1, (r3.2.2.1, (r3.2.2.2.1, (r3.2.2.2.2.1, (r3.2.2.2.2.2.1, (r3.2.2.2.2.2.2.1, (r3.2.2.2.2.2.2.2.1, (r3.2.2.2.2.2.2.2.2.2.2.2.1, ()))))))))))))))))))))))) (
       .ite (decide (r3.1 = [(100 : UInt8), (114 : UInt8), (111 : UInt8), (112 : UInt8)])) (
        .grd (decide (List.length r1.2.2.2.2.2.2.2.2.2.2.2.fst = List.length r1.2.2.2.2.2.2.2.2.2.2.2.1)) (
        .grd (decide (List.length r3.2.2.2.2.2.2.2.2.2.2.2.fst = List.length r3.2.2.2.2.2.2.2.2.2.2.2.1)) (
        .ret (Sum.inl (IntKind.wrap IntKind.i64 (r1.2.2.1 + (1 : Int)), (r1.1, (r1.2.1, (r1.2.2.2.2.1, (r1.2.2.2.2.2.1, (r1.2.2.2.2.2.2.1, (r1.2.2.2.2.2.2.2.1, (r1.2.2.2.2.2.2.2.2.1, (r1.2.2.2.2.2.2.2.2.2.1, (r1.2.2.2.2.2.2.2.2.2.2.1, (r1.2.2.2.2.2.2.2.2.2.2.2.1, (r3.2.1, (r3.2.2.1, (r3.2.2.2.1, (r3.2.2.2.2.1, (r3.2.2.2.2.2.1, (r3.2.2.2.2.2.2.1, (r3.2.2.2.2.2.2.2.1, (r3.2.2.2.2.2.2.2.2.2.2.2.1, ()))))))))))))))))))))))) (
        .opt (β := (Bool × Unit)) ((contS_fn (r1.2.2.2.2.2.2.2.2.2.2.2.1, (r3.1, ())))) (fun r4 =>
        .ite (r4.1) (
         .ret (Sum.inr (Sum.inl (IntKind.wrap IntKind.i64 (r1.2.2.2.1 + (1 : Int)), ((8 : Int), ((0 : Int), ((0 : Int), ((0 : Int), ((0 : Int), ((0 : Int), ((0 : Int), (false, ())))))))))))) (
         .grd (decide ((List.length r1.2.2.2.2.2.2.2.2.2.2.2.1 + List.length [r3.1]) * (16 : Nat) ≤ (140737488355328 : Nat) ∧ List.length r1.2.2.2.2.2.2.2.2.2.2.2.1 + List.length [r3.1] ≤ (9223372036854775807 : Nat))) (
         .grd (decide (List.length (r1.2.2.2.2.2.2.2.2.2.2.2.1 ++ [r3.1]) = List.length (r1.2.2.2.2.2.2.2.2.2.2.2.1 ++ [r3.1]))) (
         .grd (decide (List.length r3.2.2.2.2.2.2.2.2.2.2.2.fst = List.length r3.2.2.2.2.2.2.2.2.2.2.2.1)) (
         .ret (Sum.inl (IntKind.wrap IntKind.i64 (r1.2.2.1 + (1 : Int)), (r1.1, (r1.2.1, (r1.2.2.2.2.1, (r1.2.2.2.2.2.1, (r1.2.2.2.2.2.2.1, (r1.2.2.2.2.2.2.2.1, (r1.2.2.2.2.2.2.2.2.1, (r1.2.2.2.2.2.2.2.2.2.1, (r1.2.2.2.2.2.2.2.2.2.2.1, (r1.2.2.2.2.2.2.2.2.2.2.2.1 ++ [r3.1], (r3.2.1, (r3.2.2.1, (r3.2.2.2.1, (r3.2.2.2.2.1, (r3.2.2.2.2.2.1, (r3.2.2.2.2.2.2.1, (r3.2.2.2.2.2.2.2.1, (r3.2.2.2.2.2.2.2.2.2.2.2.1, ()))))))))))))))))))))))))))))))))))))))))))) (
   .grd (decide (List.length a10 = List.length a10)) (
   .grd (decide (List.length a18 = List.length a18)) (
   .ret (Sum.inr (Sum.inr (a3, (a4, (a5, (a6, (a7, (a8, (a9, (a11, (a12, (a13, (a14, (a15, (a16, (a17, (a10, (a18, ())))))))))))))))))))))
def cRead_loop8_6 (x : (Int × ((List (List UInt8)) × (Int × (Int × (Int × (Int × (Int × (Int × (Int × (Bool × ((List (List UInt8)) × (Int × (Int × (Int × (Int × (Int × (Int × (Bool × ((List TRule) × Unit)))))))))))))))))))) : Option ((Int × (Int × (Int × (Int × (Int × (Int × (Int × (Int × (Bool × Unit))))))))) ⊕ (Int × (Int × (Int × (Int × (Int × (Int × (Bool × (Int × (Int × (Int × (Int × (Int × (Int × (Bool × ((List (List UInt8)) × ((List TRule) × Unit))))))))))))))))) := loopO 80006 (fun x => (cRead_step8_6 x).eval) 18446744073709551616 x
def cRead_ap : List VP1 := [.one (.s)]
def cRead_rp : SP := ⟨1, [(0, .tup [.agg [.i .u32, .i .i64, .i .i64, .i .i64, .i .i64, .i .i64, .st 10 true, .b], .one (.i .i64), .one (.i .i64)])], []⟩
def cRead_tree : ((List UInt8) × Unit) → Tr (Int × (Int × (Int × (Int × (Int × (Int × ((List TRule) × (Bool × (Int × (Int × Unit)))))))))) :=
  fun (a0, _) =>
  .ite (decide ((20000 : Int) < (↑(List.length a0) : Int))) (
   .ret ((0 : Int), ((0 : Int), ((0 : Int), ((0 : Int), ((0 : Int), ((0 : Int), ([], (false, ((0 : Int), ((2 : Int), ()))))))))))) (
   .grd (decide (List.length a0 < (4294967281 : Nat) ∧ (1 : Nat) ≤ List.length [(10 : UInt8)])) (
   .grd (true) (
   .grd (true) (
   .opt (β := ((Int × (Int × (Int × (Int × (Int × (Int × (Int × (Int × (Bool × Unit))))))))) ⊕ (Int × (Int × (Int × (Int × (Int × (Int × (Bool × (Int × (Int × (Int × (Int × (Int × (Int × (Bool × ((List (List UInt8)) × ((List TRule) × Unit)))))))))))))))))) ((cRead_loop8_6 ((0 : Int), (splitL a0 [(10 : UInt8)], ((↑(List.length (splitL a0 [(10 : UInt8)])) : Int), ((0 : Int), ((0 : Int), ((0 : Int), ((0 : Int), ((0 : Int), ((0 : Int), (false, ([], ((0 : Int), ((0 : Int), ((0 : Int), ((0 : Int), ((0 : Int), ((0 : Int), (false, ([], ()))))))))))))))))))))) (fun r0 =>
   .sum (β := (Int × (Int × (Int × (Int × (Int × (Int × (Int × (Int × (Bool × Unit)))))))))) (γ := (Int × (Int × (Int × (Int × (Int × (Int × (Bool × (Int × (Int × (Int × (Int × (Int × (Int × (Bool × ((List (List UInt8)) × ((List TRule) × Unit))))))))))))))))) (r0) (fun r1 =>
    .ret (r1.2.2.1, (r1.2.2.2.1, (r1.2.2.2.2.1, (r1.2.2.2.2.2.1, (r1.2.2.2.2.2.2.1, (r1.2.2.2.2.2.2.2.1, ([], (r1.2.2.2.2.2.2.2.2.1, (r1.1, (r1.2.1, ()))))))))))) (fun r1 =>
    .ite (decide ((↑(List.length r1.2.2.2.2.2.2.2.2.2.2.2.2.2.2.fst) : Int) < (5 : Int))) (
     .ret ((0 : Int), ((0 : Int), ((0 : Int), ((0 : Int), ((0 : Int), ((0 : Int), ([], (false, ((0 : Int), ((7 : Int), ()))))))))))) (
     .opt (β := (Int × Unit)) ((confCheck_fn (r1.2.2.2.2.2.2.2.1, (r1.2.2.2.2.2.2.2.2.1, (r1.2.2.2.2.2.2.2.2.2.1, (r1.2.2.2.2.2.2.2.2.2.2.1, (r1.2.2.2.2.2.2.2.2.2.2.2.1, (r1.2.2.2.2.2.2.2.2.2.2.2.2.1, (r1.2.2.2.2.2.2.2.2.2.2.2.2.2.2.2.1, (r1.2.2.2.2.2.2.2.2.2.2.2.2.2.1, ())))))))))) (fun r2 =>
     .ite (!decide (r2.1 = (0 : Int))) (
      .ret ((0 : Int), ((0 : Int), ((0 : Int), ((0 : Int), ((0 : Int), ((0 : Int), ([], (false, ((0 : Int), (r2.1, ()))))))))))) (
      .ret (r1.2.2.2.2.2.2.2.1, (r1.2.2.2.2.2.2.2.2.1, (r1.2.2.2.2.2.2.2.2.2.1, (r1.2.2.2.2.2.2.2.2.2.2.1, (r1.2.2.2.2.2.2.2.2.2.2.2.1, (r1.2.2.2.2.2.2.2.2.2.2.2.2.1, (r1.2.2.2.2.2.2.2.2.2.2.2.2.2.2.2.1, (r1.2.2.2.2.2.2.2.2.2.2.2.2.2.1, ((0 : Int), ((0 : Int), ())))))))))))))))))))
theorem cRead_eq (x : ((List UInt8) × Unit)) : fnTr Tryd.prog cod [itoaStr, joinStr, splitStr, parseS8, parseS64, fmtUStr, cutStr, FS.pf ipShow, FS.pf ipParse, GS.pf wNext, GS.pf wValue, GS.pf wNumber, GS.pf wPair, GS.pf wAddr, GS.pf wNet, GS.pf wBounds, GS.pf wVerdict, FS.pf ruNet, FS.pf ruBounds, FS.pf ruRight, FS.pf ruCheck, FS.pf poCheck, FS.pf confCheck, FS.pf idxS, FS.pf contS, GS.pf cLine] [(8, cRead_L8_10), (8, cRead_L8_6)] 30 8 cRead_ap cRead_rp x = cRead_tree x := by kernel_rfl
def cRead_fn (x : ((List UInt8) × Unit)) : Option (Int × (Int × (Int × (Int × (Int × (Int × ((List TRule) × (Bool × (Int × (Int × Unit)))))))))) := (cRead_tree x).eval
def cRead : FS Tryd.prog := ⟨8, cRead_ap, cRead_rp, cRead_fn, fun x r h => fnTr_sound (cod := cod) (Γ := [itoaStr, joinStr, splitStr, parseS8, parseS64, fmtUStr, cutStr, FS.pf ipShow, FS.pf ipParse, GS.pf wNext, GS.pf wValue, GS.pf wNumber, GS.pf wPair, GS.pf wAddr, GS.pf wNet, GS.pf wBounds, GS.pf wVerdict, FS.pf ruNet, FS.pf ruBounds, FS.pf ruRight, FS.pf ruCheck, FS.pf poCheck, FS.pf confCheck, FS.pf idxS, FS.pf contS, GS.pf cLine]) (Λs := [(8, cRead_L8_10), (8, cRead_L8_6)]) (n := 30) ((congrArg Tr.eval (cRead_eq x)).trans h)⟩
end Go.Proofs.YtjfloicmoelkmaaDoor.X
