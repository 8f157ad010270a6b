/- Functions of the program, as trees (printed by a program of mine: tool/XTool, xg.py), each with the proof that the machine comes to what its tree says. Conditions: none. -/
import Derived.Test.YtjfloicmoelkmaaDoorCod
import Derived.KernelRfl
import Derived.Test.YtjfloicmoelkmaaDoorLBack
import Derived.Test.YtjfloicmoelkmaaDoorConfA
import Derived.Test.YtjfloicmoelkmaaDoorContains
namespace Go.Proofs.YtjfloicmoelkmaaDoor.X
open Go Go.RowKit Go.Proofs.YtjfloicmoelkmaaDoor.Abs
set_option maxRecDepth 100000
set_option linter.unusedVariables false
def kConfPlain_L6_5 : LS := ⟨5, [(5, 5), (950005, 950005)], ⟨84, [(34, .v (.one (.i .i64))), (5, .v (.one (.ptr 5 0))), (1, .v (.one (.s))), (32, .v (.one (.st 3 false))), (0, .v (.one (.s))), (33, .v (.one (.i .i64)))], [(5, .bx 44 950005), (950005, .buf 5)]⟩, [⟨some 0, [(5, 5), (950005, 950005)], ⟨84, [(5, .v (.one (.ptr 5 0))), (0, .v (.one (.s)))], [(5, .bx 44 950005), (950005, .buf 5)]⟩⟩], []⟩
def kConfPlain_step6_5 : (Int × ((List UInt8) × ((List (List UInt8)) × ((List UInt8) × (Int × ((List UInt8) × Unit)))))) → Tr ((Int × ((List UInt8) × ((List (List UInt8)) × ((List UInt8) × (Int × ((List UInt8) × Unit)))))) ⊕ ((List UInt8) × ((List UInt8) × Unit))) :=
  fun (a0, a1, a2, a3, a4, a5, _) =>
  .ite (decide (a0 < a4)) (
   .grd (decide ((0 : Int) ≤ a0)) (
   .opt (β := (List UInt8)) (a2[Int.toNat a0]?) (fun r0 =>
   .grd (decide (List.length r0 < (4294967281 : Nat) ∧ (1 : Nat) ≤ List.length [(32 : UInt8)] ∧ List.length r0 + cntL r0 [(32 : UInt8)] * List.length [(32 : UInt8), (32 : UInt8), (32 : UInt8)] ≤ (140737488355328 : Nat))) (
   .grd (decide (List.length [(32 : UInt8), (32 : UInt8)] + List.length (Lib.replaceAll r0 [(32 : UInt8)] [(32 : UInt8), (32 : UInt8), (32 : UInt8)]) ≤ (9223372036854775807 : Nat))) (
   .grd (decide (List.length ([(32 : UInt8), (32 : UInt8)] ++ Lib.replaceAll r0 [(32 : UInt8)] [(32 : UInt8), (32 : UInt8), (32 : UInt8)]) + List.length [(32 : UInt8), (10 : UInt8), (35 : UInt8)] ≤ (9223372036854775807 : Nat))) (
   .grd (decide (List.length ([(32 : UInt8), (32 : UInt8)] ++ Lib.replaceAll r0 [(32 : UInt8)] [(32 : UInt8), (32 : UInt8), (32 : UInt8)] ++ [(32 : UInt8), (10 : UInt8), (35 : UInt8)]) + List.length a1 ≤ (9223372036854775807 : Nat))) (
   .grd (decide (List.length ([(32 : UInt8), (32 : UInt8)] ++ Lib.replaceAll r0 [(32 : UInt8)] [(32 : UInt8), (32 : UInt8), (32 : UInt8)] ++ [(32 : UInt8), (10 : UInt8), (35 : UInt8)] ++ a1) + List.length [(10 : UInt8)] ≤ (9223372036854775807 : Nat))) (
   .grd (decide (blen a5 ([(32 : UInt8), (32 : UInt8)] ++ Lib.replaceAll r0 [(32 : UInt8)] [(32 : UInt8), (32 : UInt8), (32 : UInt8)] ++ [(32 : UInt8), (10 : UInt8), (35 : UInt8)] ++ a1 ++ [(10 : UInt8)]) ≤ (140737488355328 : Nat))) (
   .ret (Sum.inl (IntKind.wrap IntKind.i64 (a0 + (1 : Int)), (a1, (a2, (a3, (a4, (bcat a5 ([(32 : UInt8), (32 : UInt8)] ++ Lib.replaceAll r0 [(32 : UInt8)] [(32 : UInt8), (32 : UInt8), (32 : UInt8)] ++ [(32 : UInt8), (10 : UInt8), (35 : UInt8)] ++ a1 ++ [(10 : UInt8)]), ())))))))))))))))) (
   .ret (Sum.inr (a3, (a5, ()))))
def kConfPlain_loop6_5 (x : (Int × ((List UInt8) × ((List (List UInt8)) × ((List UInt8) × (Int × ((List UInt8) × Unit))))))) : Option ((List UInt8) × ((List UInt8) × Unit)) := loopO 60005 (fun x => (kConfPlain_step6_5 x).eval) 18446744073709551616 x
def kConfPlain_ap : List VP1 := [.one (.s), .one (.s)]
def kConfPlain_rp : SP := ⟨1, [(0, .v (.one (.b)))], []⟩
def kConfPlain_tree : ((List UInt8) × ((List UInt8) × Unit)) → Tr (Bool × Unit) :=
  fun (a0, a1, _) =>
  .opt (β := (Bool × Unit)) ((confLives_fn ())) (fun r0 =>
  .ite (!r0.1) (
   .opt (β := (Bool × Unit)) ((confLives_fn ())) (fun r1 =>
   .ret (r1.1, ()))) (
   .ite (decide ((2000 : Int) < (↑(List.length a0) : Int))) (
    .opt (β := (Bool × Unit)) ((confLives_fn ())) (fun r1 =>
    .ret (r1.1, ()))) (
    .ite (decide ((50 : Int) < (↑(List.length a1) : Int))) (
     .opt (β := (Bool × Unit)) ((confLives_fn ())) (fun r1 =>
     .ret (r1.1, ()))) (
     .grd (decide (List.length a1 < (4294967281 : Nat))) (
     .ite (Lib.contains a1 [(10 : UInt8)]) (
      .opt (β := (Bool × Unit)) ((confLives_fn ())) (fun r1 =>
      .ret (r1.1, ()))) (
      .grd (decide (List.length a0 < (4294967281 : Nat) ∧ (1 : Nat) ≤ List.length [(10 : UInt8)])) (
      .opt (β := ((List UInt8) × ((List UInt8) × Unit))) ((kConfPlain_loop6_5 ((0 : Int), (a1, (splitL a0 [(10 : UInt8)], (a0, ((↑(List.length (splitL a0 [(10 : UInt8)])) : Int), ([], ())))))))) (fun r1 =>
      .opt (β := (Int × (Int × (Int × (Int × (Int × (Int × ((List TRule) × (Bool × (Int × (Int × Unit))))))))))) ((cRead_fn (r1.1, ()))) (fun r2 =>
      .opt (β := (Int × (Int × (Int × (Int × (Int × (Int × ((List TRule) × (Bool × (Int × (Int × Unit))))))))))) ((cRead_fn (r1.2.1, ()))) (fun r3 =>
      .ite (decide ((20000 : Int) < (↑(List.length r1.2.1) : Int))) (
       .ret (true, ())) (
       .ite (decide (r2.2.2.2.2.2.2.2.2.2.1 = r3.2.2.2.2.2.2.2.2.2.1)) (
        .opt (β := (Bool × Unit)) ((samePlan_fn (r2.1, (r2.2.1, (r2.2.2.1, (r2.2.2.2.1, (r2.2.2.2.2.1, (r2.2.2.2.2.2.1, (r2.2.2.2.2.2.2.1, (r2.2.2.2.2.2.2.2.1, (r3.1, (r3.2.1, (r3.2.2.1, (r3.2.2.2.1, (r3.2.2.2.2.1, (r3.2.2.2.2.2.1, (r3.2.2.2.2.2.2.1, (r3.2.2.2.2.2.2.2.1, ())))))))))))))))))) (fun r4 =>
        .ite (r4.1) (
         .ite (decide (r2.2.2.2.2.2.2.2.2.1 = (0 : Int))) (
          .ite (decide (r3.2.2.2.2.2.2.2.2.1 = (0 : Int))) (
           .ret (true, ())) (
           .ret (decide (r3.2.2.2.2.2.2.2.2.1 = IntKind.wrap IntKind.i64 (IntKind.wrap IntKind.i64 ((2 : Int) * r2.2.2.2.2.2.2.2.2.1) - (1 : Int))), ()))) (
          .ret (decide (r3.2.2.2.2.2.2.2.2.1 = IntKind.wrap IntKind.i64 (IntKind.wrap IntKind.i64 ((2 : Int) * r2.2.2.2.2.2.2.2.2.1) - (1 : Int))), ()))) (
         .ret (false, ())))) (
        .ret (false, ())))))))))))))
theorem kConfPlain_eq (x : ((List UInt8) × ((List UInt8) × Unit))) : fnTr Tryd.prog cod [itoaStr, joinStr, splitStr, parseS8, parseS64, fmtUStr, cutStr, FS.pf ipShow, FS.pf ipParse, GS.pf wNext, GS.pf wValue, GS.pf wNumber, GS.pf wPair, GS.pf wAddr, GS.pf wNet, GS.pf wBounds, GS.pf wVerdict, FS.pf ruNet, FS.pf ruBounds, FS.pf ruRight, FS.pf ruCheck, FS.pf poCheck, FS.pf confCheck, FS.pf idxS, FS.pf contS, GS.pf cLine, FS.pf cRead, bWritePF, bStringPF, bLenPF, FS.pf cfVerdict, FS.pf cfNet, FS.pf cfBounds, FS.pf cWrite, FS.pf eqRule, FS.pf samePlan, FS.pf confLives, FS.pf kConfBack, replStr, strContains] [(6, kConfPlain_L6_5)] 30 6 kConfPlain_ap kConfPlain_rp x = kConfPlain_tree x := by kernel_rfl
def kConfPlain_fn (x : ((List UInt8) × ((List UInt8) × Unit))) : Option (Bool × Unit) := (kConfPlain_tree x).eval
def kConfPlain : FS Tryd.prog := ⟨6, kConfPlain_ap, kConfPlain_rp, kConfPlain_fn, fun x r h => fnTr_sound (cod := cod) (Γ := [itoaStr, joinStr, splitStr, parseS8, parseS64, fmtUStr, cutStr, FS.pf ipShow, FS.pf ipParse, GS.pf wNext, GS.pf wValue, GS.pf wNumber, GS.pf wPair, GS.pf wAddr, GS.pf wNet, GS.pf wBounds, GS.pf wVerdict, FS.pf ruNet, FS.pf ruBounds, FS.pf ruRight, FS.pf ruCheck, FS.pf poCheck, FS.pf confCheck, FS.pf idxS, FS.pf contS, GS.pf cLine, FS.pf cRead, bWritePF, bStringPF, bLenPF, FS.pf cfVerdict, FS.pf cfNet, FS.pf cfBounds, FS.pf cWrite, FS.pf eqRule, FS.pf samePlan, FS.pf confLives, FS.pf kConfBack, replStr, strContains]) (Λs := [(6, kConfPlain_L6_5)]) (n := 30) ((congrArg Tr.eval (kConfPlain_eq x)).trans h)⟩
end Go.Proofs.YtjfloicmoelkmaaDoor.X
