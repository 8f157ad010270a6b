/- Functions of the program, as trees (printed by a program of mine: tool/XTool, xg.py), each with the proof that the machine comes to what its tree says. Conditions: none. -/
import Derived.Test.YtjfloicmoelkmaaDoorCod
import Derived.KernelRfl
import Derived.Test.YtjfloicmoelkmaaDoorGRead
import Derived.Test.YtjfloicmoelkmaaDoorGWrite
namespace Go.Proofs.YtjfloicmoelkmaaDoor.X
open Go Go.RowKit Go.Proofs.YtjfloicmoelkmaaDoor.Abs
set_option maxRecDepth 100000
set_option linter.unusedVariables false
def eqRule_L28_4 : LS := ⟨4, [], ⟨26, [(13, .v (.one (.i .i64))), (1, .v (.one (.st 10 false))), (0, .v (.one (.st 10 false))), (12, .v (.one (.i .i64)))], []⟩, [⟨none, [], ⟨26, [(4, .v (.one (.b)))], []⟩⟩, ⟨some 0, [], ⟨26, [], []⟩⟩], []⟩
def eqRule_step28_4 : (Int × ((List TRule) × ((List TRule) × (Int × Unit)))) → Tr ((Int × ((List TRule) × ((List TRule) × (Int × Unit)))) ⊕ ((Bool × Unit) ⊕ Unit)) :=
  fun (a0, a1, a2, a3, _) =>
  .ite (decide (a0 < a3)) (
   .grd (decide ((0 : Int) ≤ a0)) (
   .opt (β := TRule) (a2[Int.toNat a0]?) (fun r0 =>
   .grd (decide ((0 : Int) ≤ a0)) (
   .opt (β := TRule) (a1[Int.toNat a0]?) (fun r1 =>
   .ite (!(decide (r0.fromAddr = r1.fromAddr) && (decide (r0.fromLong = r1.fromLong) && true) && (decide (r0.toAddr = r1.toAddr) && (decide (r0.toLong = r1.toLong) && true) && (decide (r0.proto = r1.proto) && (decide (r0.fromLow = r1.fromLow) && (decide (r0.fromHigh = r1.fromHigh) && (decide (r0.toLow = r1.toLow) && (decide (r0.toHigh = r1.toHigh) && (r0.pass == r1.pass && true))))))))) (
    .ret (Sum.inr (Sum.inl (false, ())))) (
    .ret (Sum.inl (IntKind.wrap IntKind.i64 (a0 + (1 : Int)), (a1, (a2, (a3, ()))))))))))) (
   .ret (Sum.inr (Sum.inr ())))
def eqRule_loop28_4 (x : (Int × ((List TRule) × ((List TRule) × (Int × Unit))))) : Option ((Bool × Unit) ⊕ Unit) := loopO 280004 (fun x => (eqRule_step28_4 x).eval) 18446744073709551616 x
def eqRule_ap : List VP1 := [.one (.st 10 false), .one (.st 10 false)]
def eqRule_rp : SP := ⟨1, [(0, .v (.one (.b)))], []⟩
def eqRule_tree : ((List TRule) × ((List TRule) × Unit)) → Tr (Bool × Unit) :=
  fun (a0, a1, _) =>
  .ite (!decide ((↑(List.length a0) : Int) = (↑(List.length a1) : Int))) (
   .ret (false, ())) (
   .opt (β := ((Bool × Unit) ⊕ Unit)) ((eqRule_loop28_4 ((0 : Int), (a1, (a0, ((↑(List.length a0) : Int), ())))))) (fun r0 =>
   .sum (β := (Bool × Unit)) (γ := Unit) (r0) (fun r1 =>
    .ret (r1.1, ())) (fun r1 =>
    .ret (true, ()))))
theorem eqRule_eq (x : ((List TRule) × ((List TRule) × Unit))) : fnTr Tryd.prog cod [itoaStr, joinStr, splitStr, parseS8, parseS64, fmtUStr, cutStr, FS.pf ipShow, FS.pf ipParse, GS.pf wNext, GS.pf wValue, GS.pf wNumber, GS.pf wPair, GS.pf wAddr, GS.pf wNet, GS.pf wBounds, GS.pf wVerdict, FS.pf ruNet, FS.pf ruBounds, FS.pf ruRight, FS.pf ruCheck, FS.pf poCheck, FS.pf confCheck, FS.pf idxS, FS.pf contS, GS.pf cLine, FS.pf cRead, bWritePF, bStringPF, bLenPF, FS.pf cfVerdict, FS.pf cfNet, FS.pf cfBounds, FS.pf cWrite] [(28, eqRule_L28_4)] 30 28 eqRule_ap eqRule_rp x = eqRule_tree x := by kernel_rfl
def eqRule_fn (x : ((List TRule) × ((List TRule) × Unit))) : Option (Bool × Unit) := (eqRule_tree x).eval
def eqRule : FS Tryd.prog := ⟨28, eqRule_ap, eqRule_rp, eqRule_fn, fun x r h => fnTr_sound (cod := cod) (Γ := [itoaStr, joinStr, splitStr, parseS8, parseS64, fmtUStr, cutStr, FS.pf ipShow, FS.pf ipParse, GS.pf wNext, GS.pf wValue, GS.pf wNumber, GS.pf wPair, GS.pf wAddr, GS.pf wNet, GS.pf wBounds, GS.pf wVerdict, FS.pf ruNet, FS.pf ruBounds, FS.pf ruRight, FS.pf ruCheck, FS.pf poCheck, FS.pf confCheck, FS.pf idxS, FS.pf contS, GS.pf cLine, FS.pf cRead, bWritePF, bStringPF, bLenPF, FS.pf cfVerdict, FS.pf cfNet, FS.pf cfBounds, FS.pf cWrite]) (Λs := [(28, eqRule_L28_4)]) (n := 30) ((congrArg Tr.eval (eqRule_eq x)).trans h)⟩
def samePlan_ap : List VP1 := [.agg [.i .u32, .i .i64, .i .i64, .i .i64, .i .i64, .i .i64, .st 10 false, .b], .agg [.i .u32, .i .i64, .i .i64, .i .i64, .i .i64, .i .i64, .st 10 false, .b]]
def samePlan_rp : SP := ⟨1, [(0, .v (.one (.b)))], []⟩
def samePlan_tree : (Int × (Int × (Int × (Int × (Int × (Int × ((List TRule) × (Bool × (Int × (Int × (Int × (Int × (Int × (Int × ((List TRule) × (Bool × Unit)))))))))))))))) → Tr (Bool × Unit) :=
  fun (a0, a1, a2, a3, a4, a5, a6, a7, a8, a9, a10, a11, a12, a13, a14, a15, _) =>
  .ite (decide (a0 = a8)) (
   .ite (decide (a1 = a9)) (
    .ite (decide (a2 = a10)) (
     .ite (decide (a3 = a11)) (
      .ite (decide (a4 = a12)) (
       .ite (decide (a5 = a13)) (
        .ite (a7 == a15) (
         .opt (β := (Bool × Unit)) ((eqRule_fn (a6, (a14, ())))) (fun r0 =>
         .ret (r0.1, ()))) (
         .ret (false, ()))) (
        .ret (false, ()))) (
       .ret (false, ()))) (
      .ret (false, ()))) (
     .ret (false, ()))) (
    .ret (false, ()))) (
   .ret (false, ()))
theorem samePlan_eq (x : (Int × (Int × (Int × (Int × (Int × (Int × ((List TRule) × (Bool × (Int × (Int × (Int × (Int × (Int × (Int × ((List TRule) × (Bool × Unit))))))))))))))))) : fnTr Tryd.prog cod [itoaStr, joinStr, splitStr, parseS8, parseS64, fmtUStr, cutStr, FS.pf ipShow, FS.pf ipParse, GS.pf wNext, GS.pf wValue, GS.pf wNumber, GS.pf wPair, GS.pf wAddr, GS.pf wNet, GS.pf wBounds, GS.pf wVerdict, FS.pf ruNet, FS.pf ruBounds, FS.pf ruRight, FS.pf ruCheck, FS.pf poCheck, FS.pf confCheck, FS.pf idxS, FS.pf contS, GS.pf cLine, FS.pf cRead, bWritePF, bStringPF, bLenPF, FS.pf cfVerdict, FS.pf cfNet, FS.pf cfBounds, FS.pf cWrite, FS.pf eqRule] [] 30 9 samePlan_ap samePlan_rp x = samePlan_tree x := by kernel_rfl
def samePlan_fn (x : (Int × (Int × (Int × (Int × (Int × (Int × ((List TRule) × (Bool × (Int × (Int × (Int × (Int × (Int × (Int × ((List TRule) × (Bool × Unit))))))))))))))))) : Option (Bool × Unit) := (samePlan_tree x).eval
def samePlan : FS Tryd.prog := ⟨9, samePlan_ap, samePlan_rp, samePlan_fn, fun x r h => fnTr_sound (cod := cod) (Γ := [itoaStr, joinStr, splitStr, parseS8, parseS64, fmtUStr, cutStr, FS.pf ipShow, FS.pf ipParse, GS.pf wNext, GS.pf wValue, GS.pf wNumber, GS.pf wPair, GS.pf wAddr, GS.pf wNet, GS.pf wBounds, GS.pf wVerdict, FS.pf ruNet, FS.pf ruBounds, FS.pf ruRight, FS.pf ruCheck, FS.pf poCheck, FS.pf confCheck, FS.pf idxS, FS.pf contS, GS.pf cLine, FS.pf cRead, bWritePF, bStringPF, bLenPF, FS.pf cfVerdict, FS.pf cfNet, FS.pf cfBounds, FS.pf cWrite, FS.pf eqRule]) (Λs := []) (n := 30) ((congrArg Tr.eval (samePlan_eq x)).trans h)⟩
def confLives_ap : List VP1 := []
def confLives_rp : SP := ⟨1, [(0, .v (.one (.b)))], []⟩
def confLives_tree : Unit → Tr (Bool × Unit) :=
  fun (_) =>
  .opt (β := (Int × (Int × (Int × (Int × (Int × (Int × ((List TRule) × (Bool × (Int × (Int × Unit))))))))))) ((cRead_fn ([(108 : UInt8), (105 : UInt8), (102 : UInt8), (101 : UInt8), (32 : UInt8), (53 : UInt8), (10 : UInt8), (111 : UInt8), (117 : UInt8), (116 : UInt8), (115 : UInt8), (105 : UInt8), (100 : UInt8), (101 : UInt8), (32 : UInt8), (49 : UInt8), (46 : UInt8), (50 : UInt8), (46 : UInt8), (51 : UInt8), (46 : UInt8), (52 : UInt8), (10 : UInt8), (35 : UInt8), (32 : UInt8), (114 : UInt8), (101 : UInt8), (109 : UInt8), (97 : UInt8), (114 : UInt8), (107 : UInt8), (10 : UInt8), (112 : UInt8), (111 : UInt8), (114 : UInt8), (116 : UInt8), (115 : UInt8), (32 : UInt8), (49 : UInt8), (48 : UInt8), (50 : UInt8), (52 : UInt8), (32 : UInt8), (50 : UInt8), (48 : UInt8), (52 : UInt8), (56 : UInt8), (10 : UInt8), (114 : UInt8), (97 : UInt8), (116 : UInt8), (101 : UInt8), (32 : UInt8), (55 : UInt8), (32 : UInt8), (57 : UInt8), (10 : UInt8), (101 : UInt8), (108 : UInt8), (115 : UInt8), (101 : UInt8), (32 : UInt8), (112 : UInt8), (97 : UInt8), (115 : UInt8), (115 : UInt8), (10 : UInt8)], ()))) (fun r0 =>
  .ite (decide (r0.2.2.2.2.2.2.2.2.2.1 = (0 : Int))) (
   .ite (decide (r0.2.2.2.2.2.2.2.2.1 = (0 : Int))) (
    .ite (decide (r0.1 = (16909060 : Int))) (
     .ite (decide (r0.2.1 = (1024 : Int))) (
      .ite (decide (r0.2.2.2.2.2.1 = (9 : Int))) (
       .ret (r0.2.2.2.2.2.2.2.1, ())) (
       .ret (false, ()))) (
      .ret (false, ()))) (
     .ret (false, ()))) (
    .ret (false, ()))) (
   .ret (false, ())))
theorem confLives_eq (x : Unit) : fnTr Tryd.prog cod [itoaStr, joinStr, splitStr, parseS8, parseS64, fmtUStr, cutStr, FS.pf ipShow, FS.pf ipParse, GS.pf wNext, GS.pf wValue, GS.pf wNumber, GS.pf wPair, GS.pf wAddr, GS.pf wNet, GS.pf wBounds, GS.pf wVerdict, FS.pf ruNet, FS.pf ruBounds, FS.pf ruRight, FS.pf ruCheck, FS.pf poCheck, FS.pf confCheck, FS.pf idxS, FS.pf contS, GS.pf cLine, FS.pf cRead, bWritePF, bStringPF, bLenPF, FS.pf cfVerdict, FS.pf cfNet, FS.pf cfBounds, FS.pf cWrite, FS.pf eqRule, FS.pf samePlan] [] 30 10 confLives_ap confLives_rp x = confLives_tree x := by kernel_rfl
def confLives_fn (x : Unit) : Option (Bool × Unit) := (confLives_tree x).eval
def confLives : FS Tryd.prog := ⟨10, confLives_ap, confLives_rp, confLives_fn, fun x r h => fnTr_sound (cod := cod) (Γ := [itoaStr, joinStr, splitStr, parseS8, parseS64, fmtUStr, cutStr, FS.pf ipShow, FS.pf ipParse, GS.pf wNext, GS.pf wValue, GS.pf wNumber, GS.pf wPair, GS.pf wAddr, GS.pf wNet, GS.pf wBounds, GS.pf wVerdict, FS.pf ruNet, FS.pf ruBounds, FS.pf ruRight, FS.pf ruCheck, FS.pf poCheck, FS.pf confCheck, FS.pf idxS, FS.pf contS, GS.pf cLine, FS.pf cRead, bWritePF, bStringPF, bLenPF, FS.pf cfVerdict, FS.pf cfNet, FS.pf cfBounds, FS.pf cWrite, FS.pf eqRule, FS.pf samePlan]) (Λs := []) (n := 30) ((congrArg Tr.eval (confLives_eq x)).trans h)⟩
def kConfBack_ap : List VP1 := [.agg [.i .u32, .i .i64, .i .i64, .i .i64, .i .i64, .i .i64, .st 10 false, .b], .one (.s)]
def kConfBack_rp : SP := ⟨1, [(0, .v (.one (.b)))], []⟩
def kConfBack_tree : (Int × (Int × (Int × (Int × (Int × (Int × ((List TRule) × (Bool × ((List UInt8) × Unit))))))))) → Tr (Bool × Unit) :=
  fun (a0, a1, a2, a3, a4, a5, a6, a7, a8, _) =>
  .opt (β := ((List UInt8) × (Int × Unit))) ((cWrite_fn (a0, (a1, (a2, (a3, (a4, (a5, (a6, (a7, ())))))))))) (fun r0 =>
  .ite (decide (r0.2.1 = (0 : Int))) (
   .ite (decide ((↑(List.length r0.1) : Int) ≤ (20000 : Int))) (
    .opt (β := (Int × (Int × (Int × (Int × (Int × (Int × ((List TRule) × (Bool × (Int × (Int × Unit))))))))))) ((cRead_fn (r0.1, ()))) (fun r1 =>
    .ite (!decide (r1.2.2.2.2.2.2.2.2.2.1 = (0 : Int))) (
     .ret (false, ())) (
     .ite (!decide (r1.2.2.2.2.2.2.2.2.1 = (0 : Int))) (
      .ret (false, ())) (
      .opt (β := (Bool × Unit)) ((samePlan_fn (r1.1, (r1.2.1, (r1.2.2.1, (r1.2.2.2.1, (r1.2.2.2.2.1, (r1.2.2.2.2.2.1, (r1.2.2.2.2.2.2.1, (r1.2.2.2.2.2.2.2.1, (a0, (a1, (a2, (a3, (a4, (a5, (a6, (a7, ())))))))))))))))))) (fun r2 =>
      .ite (!r2.1) (
       .ret (false, ())) (
       .opt (β := (Int × (Int × (Int × (Int × (Int × (Int × ((List TRule) × (Bool × (Int × (Int × Unit))))))))))) ((cRead_fn (a8, ()))) (fun r3 =>
       .opt (β := (Bool × Unit)) ((confLives_fn ())) (fun r4 =>
       .ite (!r4.1) (
        .opt (β := (Bool × Unit)) ((confLives_fn ())) (fun r5 =>
        .ite (r5.1) (
         .opt (β := (Bool × Unit)) ((samePlan_fn (r3.1, (r3.2.1, (r3.2.2.1, (r3.2.2.2.1, (r3.2.2.2.2.1, (r3.2.2.2.2.2.1, (r3.2.2.2.2.2.2.1, (r3.2.2.2.2.2.2.2.1, ((0 : Int), ((0 : Int), ((0 : Int), ((0 : Int), ((0 : Int), ((0 : Int), ([], (false, ())))))))))))))))))) (fun r6 =>
         .ret (r6.1, ()))) (
         .ret (false, ())))) (
        .ite (!decide (r3.2.2.2.2.2.2.2.2.2.1 = (0 : Int))) (
         .opt (β := (Bool × Unit)) ((confLives_fn ())) (fun r5 =>
         .ite (r5.1) (
          .opt (β := (Bool × Unit)) ((samePlan_fn (r3.1, (r3.2.1, (r3.2.2.1, (r3.2.2.2.1, (r3.2.2.2.2.1, (r3.2.2.2.2.2.1, (r3.2.2.2.2.2.2.1, (r3.2.2.2.2.2.2.2.1, ((0 : Int), ((0 : Int), ((0 : Int), ((0 : Int), ((0 : Int), ((0 : Int), ([], (false, ())))))))))))))))))) (fun r6 =>
          .ret (r6.1, ()))) (
          .ret (false, ())))) (
         .opt (β := ((List UInt8) × (Int × Unit))) ((cWrite_fn (r3.1, (r3.2.1, (r3.2.2.1, (r3.2.2.2.1, (r3.2.2.2.2.1, (r3.2.2.2.2.2.1, (r3.2.2.2.2.2.2.1, (r3.2.2.2.2.2.2.2.1, ())))))))))) (fun r5 =>
         .opt (β := (Int × (Int × (Int × (Int × (Int × (Int × ((List TRule) × (Bool × (Int × (Int × Unit))))))))))) ((cRead_fn (r5.1, ()))) (fun r6 =>
         .ite (decide (r5.2.1 = (0 : Int))) (
          .ite (decide ((20000 : Int) < (↑(List.length r5.1) : Int))) (
           .ret (true, ())) (
           .ite (decide (r6.2.2.2.2.2.2.2.2.2.1 = (0 : Int))) (
            .opt (β := (Bool × Unit)) ((samePlan_fn (r6.1, (r6.2.1, (r6.2.2.1, (r6.2.2.2.1, (r6.2.2.2.2.1, (r6.2.2.2.2.2.1, (r6.2.2.2.2.2.2.1, (r6.2.2.2.2.2.2.2.1, (r3.1, (r3.2.1, (r3.2.2.1, (r3.2.2.2.1, (r3.2.2.2.2.1, (r3.2.2.2.2.2.1, (r3.2.2.2.2.2.2.1, (r3.2.2.2.2.2.2.2.1, ())))))))))))))))))) (fun r7 =>
            .ret (r7.1, ()))) (
            .ret (false, ())))) (
          .ret (false, ())))))))))))))) (
    .opt (β := (Int × (Int × (Int × (Int × (Int × (Int × ((List TRule) × (Bool × (Int × (Int × Unit))))))))))) ((cRead_fn (a8, ()))) (fun r1 =>
    .opt (β := (Bool × Unit)) ((confLives_fn ())) (fun r2 =>
    .ite (!r2.1) (
     .opt (β := (Bool × Unit)) ((confLives_fn ())) (fun r3 =>
     .ite (r3.1) (
      .opt (β := (Bool × Unit)) ((samePlan_fn (r1.1, (r1.2.1, (r1.2.2.1, (r1.2.2.2.1, (r1.2.2.2.2.1, (r1.2.2.2.2.2.1, (r1.2.2.2.2.2.2.1, (r1.2.2.2.2.2.2.2.1, ((0 : Int), ((0 : Int), ((0 : Int), ((0 : Int), ((0 : Int), ((0 : Int), ([], (false, ())))))))))))))))))) (fun r4 =>
      .ret (r4.1, ()))) (
      .ret (false, ())))) (
     .ite (!decide (r1.2.2.2.2.2.2.2.2.2.1 = (0 : Int))) (
      .opt (β := (Bool × Unit)) ((confLives_fn ())) (fun r3 =>
      .ite (r3.1) (
       .opt (β := (Bool × Unit)) ((samePlan_fn (r1.1, (r1.2.1, (r1.2.2.1, (r1.2.2.2.1, (r1.2.2.2.2.1, (r1.2.2.2.2.2.1, (r1.2.2.2.2.2.2.1, (r1.2.2.2.2.2.2.2.1, ((0 : Int), ((0 : Int), ((0 : Int), ((0 : Int), ((0 : Int), ((0 : Int), ([], (false, ())))))))))))))))))) (fun r4 =>
       .ret (r4.1, ()))) (
       .ret (false, ())))) (
      .opt (β := ((List UInt8) × (Int × Unit))) ((cWrite_fn (r1.1, (r1.2.1, (r1.2.2.1, (r1.2.2.2.1, (r1.2.2.2.2.1, (r1.2.2.2.2.2.1, (r1.2.2.2.2.2.2.1, (r1.2.2.2.2.2.2.2.1, ())))))))))) (fun r3 =>
      .opt (β := (Int × (Int × (Int × (Int × (Int × (Int × ((List TRule) × (Bool × (Int × (Int × Unit))))))))))) ((cRead_fn (r3.1, ()))) (fun r4 =>
      .ite (decide (r3.2.1 = (0 : Int))) (
       .ite (decide ((20000 : Int) < (↑(List.length r3.1) : Int))) (
        .ret (true, ())) (
        .ite (decide (r4.2.2.2.2.2.2.2.2.2.1 = (0 : Int))) (
         .opt (β := (Bool × Unit)) ((samePlan_fn (r4.1, (r4.2.1, (r4.2.2.1, (r4.2.2.2.1, (r4.2.2.2.2.1, (r4.2.2.2.2.2.1, (r4.2.2.2.2.2.2.1, (r4.2.2.2.2.2.2.2.1, (r1.1, (r1.2.1, (r1.2.2.1, (r1.2.2.2.1, (r1.2.2.2.2.1, (r1.2.2.2.2.2.1, (r1.2.2.2.2.2.2.1, (r1.2.2.2.2.2.2.2.1, ())))))))))))))))))) (fun r5 =>
         .ret (r5.1, ()))) (
         .ret (false, ())))) (
       .ret (false, ())))))))))) (
   .opt (β := (Int × (Int × (Int × (Int × (Int × (Int × ((List TRule) × (Bool × (Int × (Int × Unit))))))))))) ((cRead_fn (a8, ()))) (fun r1 =>
   .opt (β := (Bool × Unit)) ((confLives_fn ())) (fun r2 =>
   .ite (!r2.1) (
    .opt (β := (Bool × Unit)) ((confLives_fn ())) (fun r3 =>
    .ite (r3.1) (
     .opt (β := (Bool × Unit)) ((samePlan_fn (r1.1, (r1.2.1, (r1.2.2.1, (r1.2.2.2.1, (r1.2.2.2.2.1, (r1.2.2.2.2.2.1, (r1.2.2.2.2.2.2.1, (r1.2.2.2.2.2.2.2.1, ((0 : Int), ((0 : Int), ((0 : Int), ((0 : Int), ((0 : Int), ((0 : Int), ([], (false, ())))))))))))))))))) (fun r4 =>
     .ret (r4.1, ()))) (
     .ret (false, ())))) (
    .ite (!decide (r1.2.2.2.2.2.2.2.2.2.1 = (0 : Int))) (
     .opt (β := (Bool × Unit)) ((confLives_fn ())) (fun r3 =>
     .ite (r3.1) (
      .opt (β := (Bool × Unit)) ((samePlan_fn (r1.1, (r1.2.1, (r1.2.2.1, (r1.2.2.2.1, (r1.2.2.2.2.1, (r1.2.2.2.2.2.1, (r1.2.2.2.2.2.2.1, (r1.2.2.2.2.2.2.2.1, ((0 : Int), ((0 : Int), ((0 : Int), ((0 : Int), ((0 : Int), ((0 : Int), ([], (false, ())))))))))))))))))) (fun r4 =>
      .ret (r4.1, ()))) (
      .ret (false, ())))) (
     .opt (β := ((List UInt8) × (Int × Unit))) ((cWrite_fn (r1.1, (r1.2.1, (r1.2.2.1, (r1.2.2.2.1, (r1.2.2.2.2.1, (r1.2.2.2.2.2.1, (r1.2.2.2.2.2.2.1, (r1.2.2.2.2.2.2.2.1, ())))))))))) (fun r3 =>
     .opt (β := (Int × (Int × (Int × (Int × (Int × (Int × ((List TRule) × (Bool × (Int × (Int × Unit))))))))))) ((cRead_fn (r3.1, ()))) (fun r4 =>
     .ite (decide (r3.2.1 = (0 : Int))) (
      .ite (decide ((20000 : Int) < (↑(List.length r3.1) : Int))) (
       .ret (true, ())) (
       .ite (decide (r4.2.2.2.2.2.2.2.2.2.1 = (0 : Int))) (
        .opt (β := (Bool × Unit)) ((samePlan_fn (r4.1, (r4.2.1, (r4.2.2.1, (r4.2.2.2.1, (r4.2.2.2.2.1, (r4.2.2.2.2.2.1, (r4.2.2.2.2.2.2.1, (r4.2.2.2.2.2.2.2.1, (r1.1, (r1.2.1, (r1.2.2.1, (r1.2.2.2.1, (r1.2.2.2.2.1, (r1.2.2.2.2.2.1, (r1.2.2.2.2.2.2.1, (r1.2.2.2.2.2.2.2.1, ())))))))))))))))))) (fun r5 =>
        .ret (r5.1, ()))) (
        .ret (false, ())))) (
      .ret (false, ()))))))))))
theorem kConfBack_eq (x : (Int × (Int × (Int × (Int × (Int × (Int × ((List TRule) × (Bool × ((List UInt8) × Unit)))))))))) : fnTr Tryd.prog cod [itoaStr, joinStr, splitStr, parseS8, parseS64, fmtUStr, cutStr, FS.pf ipShow, FS.pf ipParse, GS.pf wNext, GS.pf wValue, GS.pf wNumber, GS.pf wPair, GS.pf wAddr, GS.pf wNet, GS.pf wBounds, GS.pf wVerdict, FS.pf ruNet, FS.pf ruBounds, FS.pf ruRight, FS.pf ruCheck, FS.pf poCheck, FS.pf confCheck, FS.pf idxS, FS.pf contS, GS.pf cLine, FS.pf cRead, bWritePF, bStringPF, bLenPF, FS.pf cfVerdict, FS.pf cfNet, FS.pf cfBounds, FS.pf cWrite, FS.pf eqRule, FS.pf samePlan, FS.pf confLives] [] 30 3 kConfBack_ap kConfBack_rp x = kConfBack_tree x := by kernel_rfl
def kConfBack_fn (x : (Int × (Int × (Int × (Int × (Int × (Int × ((List TRule) × (Bool × ((List UInt8) × Unit)))))))))) : Option (Bool × Unit) := (kConfBack_tree x).eval
def kConfBack : FS Tryd.prog := ⟨3, kConfBack_ap, kConfBack_rp, kConfBack_fn, fun x r h => fnTr_sound (cod := cod) (Γ := [itoaStr, joinStr, splitStr, parseS8, parseS64, fmtUStr, cutStr, FS.pf ipShow, FS.pf ipParse, GS.pf wNext, GS.pf wValue, GS.pf wNumber, GS.pf wPair, GS.pf wAddr, GS.pf wNet, GS.pf wBounds, GS.pf wVerdict, FS.pf ruNet, FS.pf ruBounds, FS.pf ruRight, FS.pf ruCheck, FS.pf poCheck, FS.pf confCheck, FS.pf idxS, FS.pf contS, GS.pf cLine, FS.pf cRead, bWritePF, bStringPF, bLenPF, FS.pf cfVerdict, FS.pf cfNet, FS.pf cfBounds, FS.pf cWrite, FS.pf eqRule, FS.pf samePlan, FS.pf confLives]) (Λs := []) (n := 30) ((congrArg Tr.eval (kConfBack_eq x)).trans h)⟩
end Go.Proofs.YtjfloicmoelkmaaDoor.X
