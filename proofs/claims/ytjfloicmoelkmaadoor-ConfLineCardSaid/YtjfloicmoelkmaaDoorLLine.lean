/- Functions of the program, as trees (printed by a program of mine: tool/XTool, xg.py), each with the proof that the machine comes to what its tree says. Conditions: none. -/
import Derived.Test.YtjfloicmoelkmaaDoorCod
import Derived.KernelRfl
import Derived.Test.YtjfloicmoelkmaaDoorLBack
import Derived.Test.YtjfloicmoelkmaaDoorConfA
import Derived.Test.YtjfloicmoelkmaaDoorSplitO
namespace Go.Proofs.YtjfloicmoelkmaaDoor.X
open Go Go.RowKit Go.Proofs.YtjfloicmoelkmaaDoor.Abs
set_option maxRecDepth 100000
set_option linter.unusedVariables false
def kConfLine_ap : List VP1 := [.agg [.i .u32, .i .i64, .i .i64, .i .i64, .i .i64, .i .i64, .st 10 false, .b], .one (.i .i64), .one (.s)]
def kConfLine_rp : SP := ⟨1, [(0, .v (.one (.b)))], []⟩
def kConfLine_tree : (Int × (Int × (Int × (Int × (Int × (Int × ((List TRule) × (Bool × (Int × ((List UInt8) × Unit)))))))))) → Tr (Bool × Unit) :=
  fun (a0, a1, a2, a3, a4, a5, a6, a7, a8, a9, _) =>
  .opt (β := ((List UInt8) × (Int × Unit))) ((cWrite_fn (a0, (a1, (a2, (a3, (a4, (a5, (a6, (a7, ())))))))))) (fun r0 =>
  .opt (β := (Bool × Unit)) ((confLives_fn ())) (fun r1 =>
  .ite (!r1.1) (
   .opt (β := (Bool × Unit)) ((confLives_fn ())) (fun r2 =>
   .ret (r2.1, ()))) (
   .ite (!decide (r0.2.1 = (0 : Int))) (
    .opt (β := (Bool × Unit)) ((confLives_fn ())) (fun r2 =>
    .ret (r2.1, ()))) (
    .ite (decide ((19000 : Int) < IntKind.wrap IntKind.i64 ((↑(List.length r0.1) : Int) + (↑(List.length a9) : Int)))) (
     .opt (β := (Bool × Unit)) ((confLives_fn ())) (fun r2 =>
     .ret (r2.1, ()))) (
     .grd (decide (List.length r0.1 ≤ (9223372036854775807 : Nat))) (
     .grd (decide (List.length (Lib.trimSuffix r0.1 [(10 : UInt8)]) < (4294967281 : Nat) ∧ (1 : Nat) ≤ List.length [(10 : UInt8)])) (
     .ite (decide (a8 < (0 : Int))) (
      .ret (true, ())) (
      .ite (decide ((↑(List.length (splitL (Lib.trimSuffix r0.1 [(10 : UInt8)]) [(10 : UInt8)])) : Int) ≤ a8)) (
       .ret (true, ())) (
       .grd (decide ((0 : Int) ≤ a8 ∧ a8 < (↑(List.length (splitL (Lib.trimSuffix r0.1 [(10 : UInt8)]) [(10 : UInt8)])) : Int))) (
       .opt (β := (List UInt8)) ((splitL (Lib.trimSuffix r0.1 [(10 : UInt8)]) [(10 : UInt8)])[Int.toNat a8]?) (fun r2 =>
       .grd (decide (List.length r2 + List.length [(32 : UInt8), (120 : UInt8)] ≤ (9223372036854775807 : Nat))) (
       .grd (decide ((0 : Int) ≤ a8 ∧ a8 < (↑(List.length (splitL (Lib.trimSuffix r0.1 [(10 : UInt8)]) [(10 : UInt8)])) : Int))) (
       .opt (β := (List UInt8)) ((splitL (Lib.trimSuffix r0.1 [(10 : UInt8)]) [(10 : UInt8)])[Int.toNat a8]?) (fun r3 =>
       .grd (decide (List.length (List.set (splitL (Lib.trimSuffix r0.1 [(10 : UInt8)]) [(10 : UInt8)]) (Int.toNat a8) (r2 ++ [(32 : UInt8), (120 : UInt8)])) ≤ (140737488355328 : Nat) ∧ List.length (Lib.join (List.set (splitL (Lib.trimSuffix r0.1 [(10 : UInt8)]) [(10 : UInt8)]) (Int.toNat a8) (r2 ++ [(32 : UInt8), (120 : UInt8)])) [(10 : UInt8)]) ≤ (140737488355328 : Nat))) (
       .grd (decide (List.length (Lib.join (List.set (splitL (Lib.trimSuffix r0.1 [(10 : UInt8)]) [(10 : UInt8)]) (Int.toNat a8) (r2 ++ [(32 : UInt8), (120 : UInt8)])) [(10 : UInt8)]) + List.length [(10 : UInt8)] ≤ (9223372036854775807 : Nat))) (
       .grd (decide (List.length (Lib.join (List.set (splitL (Lib.trimSuffix r0.1 [(10 : UInt8)]) [(10 : UInt8)]) (Int.toNat a8) (r2 ++ [(32 : UInt8), (120 : UInt8)])) [(10 : UInt8)] ++ [(10 : UInt8)]) + List.length a9 ≤ (9223372036854775807 : Nat))) (
       .opt (β := (Int × (Int × (Int × (Int × (Int × (Int × ((List TRule) × (Bool × (Int × (Int × Unit))))))))))) ((cRead_fn (Lib.join (List.set (splitL (Lib.trimSuffix r0.1 [(10 : UInt8)]) [(10 : UInt8)]) (Int.toNat a8) (r2 ++ [(32 : UInt8), (120 : UInt8)])) [(10 : UInt8)] ++ [(10 : UInt8)] ++ a9, ()))) (fun r4 =>
       .ite (decide (r4.2.2.2.2.2.2.2.2.2.1 = (10 : Int))) (
        .ite (decide (r4.2.2.2.2.2.2.2.2.1 = IntKind.wrap IntKind.i64 (a8 + (1 : Int)))) (
         .opt (β := (Bool × Unit)) ((samePlan_fn (r4.1, (r4.2.1, (r4.2.2.1, (r4.2.2.2.1, (r4.2.2.2.2.1, (r4.2.2.2.2.2.1, (r4.2.2.2.2.2.2.1, (r4.2.2.2.2.2.2.2.1, ((0 : Int), ((0 : Int), ((0 : Int), ((0 : Int), ((0 : Int), ((0 : Int), ([], (false, ())))))))))))))))))) (fun r5 =>
         .ret (r5.1, ()))) (
         .ret (false, ()))) (
        .ret (false, ()))))))))))))))))))))
theorem kConfLine_eq (x : (Int × (Int × (Int × (Int × (Int × (Int × ((List TRule) × (Bool × (Int × ((List UInt8) × Unit))))))))))) : fnTr Tryd.prog cod [itoaStr, joinStr, parseS8, parseS64, fmtUStr, cutStr, FS.pf ipShow, FS.pf ipParse, GS.pf wNext, GS.pf wValue, GS.pf wNumber, GS.pf wPair, GS.pf wAddr, GS.pf wNet, GS.pf wBounds, GS.pf wVerdict, FS.pf ruNet, FS.pf ruBounds, FS.pf ruRight, FS.pf ruCheck, FS.pf poCheck, FS.pf confCheck, FS.pf idxS, FS.pf contS, GS.pf cLine, FS.pf cRead, bWritePF, bStringPF, bLenPF, FS.pf cfVerdict, FS.pf cfNet, FS.pf cfBounds, FS.pf cWrite, FS.pf eqRule, FS.pf samePlan, FS.pf confLives, FS.pf kConfBack, trimStr, splitOwn] [] 30 5 kConfLine_ap kConfLine_rp x = kConfLine_tree x := by kernel_rfl
def kConfLine_fn (x : (Int × (Int × (Int × (Int × (Int × (Int × ((List TRule) × (Bool × (Int × ((List UInt8) × Unit))))))))))) : Option (Bool × Unit) := (kConfLine_tree x).eval
def kConfLine : FS Tryd.prog := ⟨5, kConfLine_ap, kConfLine_rp, kConfLine_fn, fun x r h => fnTr_sound (cod := cod) (Γ := [itoaStr, joinStr, parseS8, parseS64, fmtUStr, cutStr, FS.pf ipShow, FS.pf ipParse, GS.pf wNext, GS.pf wValue, GS.pf wNumber, GS.pf wPair, GS.pf wAddr, GS.pf wNet, GS.pf wBounds, GS.pf wVerdict, FS.pf ruNet, FS.pf ruBounds, FS.pf ruRight, FS.pf ruCheck, FS.pf poCheck, FS.pf confCheck, FS.pf idxS, FS.pf contS, GS.pf cLine, FS.pf cRead, bWritePF, bStringPF, bLenPF, FS.pf cfVerdict, FS.pf cfNet, FS.pf cfBounds, FS.pf cWrite, FS.pf eqRule, FS.pf samePlan, FS.pf confLives, FS.pf kConfBack, trimStr, splitOwn]) (Λs := []) (n := 30) ((congrArg Tr.eval (kConfLine_eq x)).trans h)⟩
end Go.Proofs.YtjfloicmoelkmaaDoor.X
