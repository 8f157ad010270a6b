/- Functions of the program, as trees (printed by a program of mine: tool/XTool, xg.py), each with the proof that the machine comes to what its tree says. Conditions: none. -/
import Derived.Test.YtjfloicmoelkmaaDoorCod
import Derived.KernelRfl
import Derived.Test.YtjfloicmoelkmaaDoorLBack
import Derived.Test.YtjfloicmoelkmaaDoorConfA
namespace Go.Proofs.YtjfloicmoelkmaaDoor.X
open Go Go.RowKit Go.Proofs.YtjfloicmoelkmaaDoor.Abs
set_option maxRecDepth 100000
set_option linter.unusedVariables false
def kConfOrder_ap : List VP1 := [.agg [.i .u32, .i .i64, .i .i64, .i .i64, .i .i64, .i .i64, .st 10 false, .b], .one (.i .i64)]
def kConfOrder_rp : SP := ⟨1, [(0, .v (.one (.b)))], []⟩
def kConfOrder_tree : (Int × (Int × (Int × (Int × (Int × (Int × ((List TRule) × (Bool × (Int × Unit))))))))) → Tr (Bool × Unit) :=
  fun (a0, a1, a2, a3, a4, a5, a6, a7, a8, _) =>
  .opt (β := ((List UInt8) × (Int × Unit))) ((cWrite_fn (a0, (a1, (a2, (a3, (a4, (a5, (a6, (a7, ())))))))))) (fun r0 =>
  .opt (β := (Bool × Unit)) ((confLives_fn ())) (fun r1 =>
  .ite (!r1.1) (
   .opt (β := (Bool × Unit)) ((confLives_fn ())) (fun r2 =>
   .ret (r2.1, ()))) (
   .ite (!decide (r0.2.1 = (0 : Int))) (
    .opt (β := (Bool × Unit)) ((confLives_fn ())) (fun r2 =>
    .ret (r2.1, ()))) (
    .ite (decide ((20000 : Int) < (↑(List.length r0.1) : Int))) (
     .opt (β := (Bool × Unit)) ((confLives_fn ())) (fun r2 =>
     .ret (r2.1, ()))) (
     .grd (decide (List.length r0.1 ≤ (9223372036854775807 : Nat))) (
     .grd (decide (List.length (Lib.trimSuffix r0.1 [(10 : UInt8)]) < (4294967281 : Nat) ∧ (1 : Nat) ≤ List.length [(10 : UInt8)])) (
     .ite (decide (a8 < (0 : Int))) (
      .ret (true, ())) (
      .ite (decide ((3 : Int) < a8)) (
       .ret (true, ())) (
       .grd (decide ((0 : Int) ≤ (0 : Int) ∧ (0 : Int) ≤ a8 ∧ a8 ≤ (↑(List.length (splitL (Lib.trimSuffix r0.1 [(10 : UInt8)]) [(10 : UInt8)])) : Int))) (
       .grd (decide (((0 : Nat) + List.length (List.drop (0 : Nat) (List.take (Int.toNat a8) (splitL (Lib.trimSuffix r0.1 [(10 : UInt8)]) [(10 : UInt8)])))) * (16 : Nat) ≤ (140737488355328 : Nat) ∧ (0 : Nat) + List.length (List.drop (0 : Nat) (List.take (Int.toNat a8) (splitL (Lib.trimSuffix r0.1 [(10 : UInt8)]) [(10 : UInt8)]))) ≤ (9223372036854775807 : Nat))) (
       .grd (decide ((0 : Int) ≤ IntKind.wrap IntKind.i64 (a8 + (1 : Int)) ∧ IntKind.wrap IntKind.i64 (a8 + (1 : Int)) ≤ (↑(List.length (splitL (Lib.trimSuffix r0.1 [(10 : UInt8)]) [(10 : UInt8)])) : Int) ∧ (↑(List.length (splitL (Lib.trimSuffix r0.1 [(10 : UInt8)]) [(10 : UInt8)])) : Int) ≤ (↑(List.length (splitL (Lib.trimSuffix r0.1 [(10 : UInt8)]) [(10 : UInt8)])) : Int))) (
       .grd (decide ((List.length ([] ++ List.drop (0 : Nat) (List.take (Int.toNat a8) (splitL (Lib.trimSuffix r0.1 [(10 : UInt8)]) [(10 : UInt8)]))) + List.length (List.drop (Int.toNat (IntKind.wrap IntKind.i64 (a8 + (1 : Int)))) (List.take (Int.toNat (↑(List.length (splitL (Lib.trimSuffix r0.1 [(10 : UInt8)]) [(10 : UInt8)])) : Int)) (splitL (Lib.trimSuffix r0.1 [(10 : UInt8)]) [(10 : UInt8)])))) * (16 : Nat) ≤ (140737488355328 : Nat) ∧ List.length ([] ++ List.drop (0 : Nat) (List.take (Int.toNat a8) (splitL (Lib.trimSuffix r0.1 [(10 : UInt8)]) [(10 : UInt8)]))) + List.length (List.drop (Int.toNat (IntKind.wrap IntKind.i64 (a8 + (1 : Int)))) (List.take (Int.toNat (↑(List.length (splitL (Lib.trimSuffix r0.1 [(10 : UInt8)]) [(10 : UInt8)])) : Int)) (splitL (Lib.trimSuffix r0.1 [(10 : UInt8)]) [(10 : UInt8)]))) ≤ (9223372036854775807 : Nat))) (
       .grd (decide ((0 : Int) ≤ a8)) (
       .opt (β := (List UInt8)) ((splitL (Lib.trimSuffix r0.1 [(10 : UInt8)]) [(10 : UInt8)])[Int.toNat a8]?) (fun r2 =>
       .grd (decide ((List.length ([] ++ List.drop (0 : Nat) (List.take (Int.toNat a8) (splitL (Lib.trimSuffix r0.1 [(10 : UInt8)]) [(10 : UInt8)])) ++ List.drop (Int.toNat (IntKind.wrap IntKind.i64 (a8 + (1 : Int)))) (List.take (Int.toNat (↑(List.length (splitL (Lib.trimSuffix r0.1 [(10 : UInt8)]) [(10 : UInt8)])) : Int)) (splitL (Lib.trimSuffix r0.1 [(10 : UInt8)]) [(10 : UInt8)]))) + List.length [r2]) * (16 : Nat) ≤ (140737488355328 : Nat) ∧ List.length ([] ++ List.drop (0 : Nat) (List.take (Int.toNat a8) (splitL (Lib.trimSuffix r0.1 [(10 : UInt8)]) [(10 : UInt8)])) ++ List.drop (Int.toNat (IntKind.wrap IntKind.i64 (a8 + (1 : Int)))) (List.take (Int.toNat (↑(List.length (splitL (Lib.trimSuffix r0.1 [(10 : UInt8)]) [(10 : UInt8)])) : Int)) (splitL (Lib.trimSuffix r0.1 [(10 : UInt8)]) [(10 : UInt8)]))) + List.length [r2] ≤ (9223372036854775807 : Nat))) (
       .grd (decide (List.length ([] ++ List.drop (0 : Nat) (List.take (Int.toNat a8) (splitL (Lib.trimSuffix r0.1 [(10 : UInt8)]) [(10 : UInt8)])) ++ List.drop (Int.toNat (IntKind.wrap IntKind.i64 (a8 + (1 : Int)))) (List.take (Int.toNat (↑(List.length (splitL (Lib.trimSuffix r0.1 [(10 : UInt8)]) [(10 : UInt8)])) : Int)) (splitL (Lib.trimSuffix r0.1 [(10 : UInt8)]) [(10 : UInt8)])) ++ [r2]) ≤ (140737488355328 : Nat) ∧ List.length (Lib.join ([] ++ List.drop (0 : Nat) (List.take (Int.toNat a8) (splitL (Lib.trimSuffix r0.1 [(10 : UInt8)]) [(10 : UInt8)])) ++ List.drop (Int.toNat (IntKind.wrap IntKind.i64 (a8 + (1 : Int)))) (List.take (Int.toNat (↑(List.length (splitL (Lib.trimSuffix r0.1 [(10 : UInt8)]) [(10 : UInt8)])) : Int)) (splitL (Lib.trimSuffix r0.1 [(10 : UInt8)]) [(10 : UInt8)])) ++ [r2]) [(10 : UInt8)]) ≤ (140737488355328 : Nat))) (
       .opt (β := (Int × (Int × (Int × (Int × (Int × (Int × ((List TRule) × (Bool × (Int × (Int × Unit))))))))))) ((cRead_fn (Lib.join ([] ++ List.drop (0 : Nat) (List.take (Int.toNat a8) (splitL (Lib.trimSuffix r0.1 [(10 : UInt8)]) [(10 : UInt8)])) ++ List.drop (Int.toNat (IntKind.wrap IntKind.i64 (a8 + (1 : Int)))) (List.take (Int.toNat (↑(List.length (splitL (Lib.trimSuffix r0.1 [(10 : UInt8)]) [(10 : UInt8)])) : Int)) (splitL (Lib.trimSuffix r0.1 [(10 : UInt8)]) [(10 : UInt8)])) ++ [r2]) [(10 : UInt8)], ()))) (fun r3 =>
       .ite (decide (r3.2.2.2.2.2.2.2.2.2.1 = (0 : Int))) (
        .opt (β := (Bool × Unit)) ((samePlan_fn (r3.1, (r3.2.1, (r3.2.2.1, (r3.2.2.2.1, (r3.2.2.2.2.1, (r3.2.2.2.2.2.1, (r3.2.2.2.2.2.2.1, (r3.2.2.2.2.2.2.2.1, (a0, (a1, (a2, (a3, (a4, (a5, (a6, (a7, ())))))))))))))))))) (fun r4 =>
        .ret (r4.1, ()))) (
        .ret (false, ()))))))))))))))))))))
theorem kConfOrder_eq (x : (Int × (Int × (Int × (Int × (Int × (Int × ((List TRule) × (Bool × (Int × Unit)))))))))) : fnTr Tryd.prog cod [itoaStr, joinStr, splitStr, parseS8, parseS64, fmtUStr, cutStr, FS.pf ipShow, FS.pf ipParse, GS.pf wNext, GS.pf wValue, GS.pf wNumber, GS.pf wPair, GS.pf wAddr, GS.pf wNet, GS.pf wBounds, GS.pf wVerdict, FS.pf ruNet, FS.pf ruBounds, FS.pf ruRight, FS.pf ruCheck, FS.pf poCheck, FS.pf confCheck, FS.pf idxS, FS.pf contS, GS.pf cLine, FS.pf cRead, bWritePF, bStringPF, bLenPF, FS.pf cfVerdict, FS.pf cfNet, FS.pf cfBounds, FS.pf cWrite, FS.pf eqRule, FS.pf samePlan, FS.pf confLives, FS.pf kConfBack, trimStr] [] 30 4 kConfOrder_ap kConfOrder_rp x = kConfOrder_tree x := by kernel_rfl
def kConfOrder_fn (x : (Int × (Int × (Int × (Int × (Int × (Int × ((List TRule) × (Bool × (Int × Unit)))))))))) : Option (Bool × Unit) := (kConfOrder_tree x).eval
def kConfOrder : FS Tryd.prog := ⟨4, kConfOrder_ap, kConfOrder_rp, kConfOrder_fn, fun x r h => fnTr_sound (cod := cod) (Γ := [itoaStr, joinStr, splitStr, parseS8, parseS64, fmtUStr, cutStr, FS.pf ipShow, FS.pf ipParse, GS.pf wNext, GS.pf wValue, GS.pf wNumber, GS.pf wPair, GS.pf wAddr, GS.pf wNet, GS.pf wBounds, GS.pf wVerdict, FS.pf ruNet, FS.pf ruBounds, FS.pf ruRight, FS.pf ruCheck, FS.pf poCheck, FS.pf confCheck, FS.pf idxS, FS.pf contS, GS.pf cLine, FS.pf cRead, bWritePF, bStringPF, bLenPF, FS.pf cfVerdict, FS.pf cfNet, FS.pf cfBounds, FS.pf cWrite, FS.pf eqRule, FS.pf samePlan, FS.pf confLives, FS.pf kConfBack, trimStr]) (Λs := []) (n := 30) ((congrArg Tr.eval (kConfOrder_eq x)).trans h)⟩
end Go.Proofs.YtjfloicmoelkmaaDoor.X
