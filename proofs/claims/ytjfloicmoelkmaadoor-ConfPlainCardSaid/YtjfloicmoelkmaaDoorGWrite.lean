/- Functions of the program, as trees (printed by a program of mine: tool/XTool, xg.py), each with the proof that the machine comes to what its tree says. Conditions: none. -/
import Derived.Test.YtjfloicmoelkmaaDoorCod
import Derived.KernelRfl
import Derived.Test.YtjfloicmoelkmaaDoorGLine
import Derived.Test.YtjfloicmoelkmaaDoorBuildP
import Derived.Test.YtjfloicmoelkmaaDoorBuildP
import Derived.Test.YtjfloicmoelkmaaDoorBuildP
namespace Go.Proofs.YtjfloicmoelkmaaDoor.X
open Go Go.RowKit Go.Proofs.YtjfloicmoelkmaaDoor.Abs
set_option maxRecDepth 100000
set_option linter.unusedVariables false
def cfVerdict_ap : List VP1 := [.one (.b)]
def cfVerdict_rp : SP := ⟨1, [(0, .v (.one (.s)))], []⟩
def cfVerdict_tree : (Bool × Unit) → Tr ((List UInt8) × Unit) :=
  fun (a0, _) =>
  .ite (a0) (
   .ret ([(112 : UInt8), (97 : UInt8), (115 : UInt8), (115 : UInt8)], ())) (
   .ret ([(100 : UInt8), (114 : UInt8), (111 : UInt8), (112 : UInt8)], ()))
theorem cfVerdict_eq (x : (Bool × Unit)) : fnTr Tryd.prog cod [itoaStr, joinStr, splitStr, parseS8, parseS64, fmtUStr, cutStr, FS.pf ipShow, FS.pf ipParse, GS.pf wNext, GS.pf wValue, GS.pf wNumber, GS.pf wPair, GS.pf wAddr, GS.pf wNet, GS.pf wBounds, GS.pf wVerdict, FS.pf ruNet, FS.pf ruBounds, FS.pf ruRight, FS.pf ruCheck, FS.pf poCheck, FS.pf confCheck, FS.pf idxS, FS.pf contS, GS.pf cLine, bWritePF, bStringPF, bLenPF] [] 30 23 cfVerdict_ap cfVerdict_rp x = cfVerdict_tree x := by kernel_rfl
def cfVerdict_fn (x : (Bool × Unit)) : Option ((List UInt8) × Unit) := (cfVerdict_tree x).eval
def cfVerdict : FS Tryd.prog := ⟨23, cfVerdict_ap, cfVerdict_rp, cfVerdict_fn, fun x r h => fnTr_sound (cod := cod) (Γ := [itoaStr, joinStr, splitStr, parseS8, parseS64, fmtUStr, cutStr, FS.pf ipShow, FS.pf ipParse, GS.pf wNext, GS.pf wValue, GS.pf wNumber, GS.pf wPair, GS.pf wAddr, GS.pf wNet, GS.pf wBounds, GS.pf wVerdict, FS.pf ruNet, FS.pf ruBounds, FS.pf ruRight, FS.pf ruCheck, FS.pf poCheck, FS.pf confCheck, FS.pf idxS, FS.pf contS, GS.pf cLine, bWritePF, bStringPF, bLenPF]) (Λs := []) (n := 30) ((congrArg Tr.eval (cfVerdict_eq x)).trans h)⟩
def cfNet_ap : List VP1 := [.agg [.i .u32, .i .i64]]
def cfNet_rp : SP := ⟨1, [(0, .v (.one (.s)))], []⟩
def cfNet_tree : (Int × (Int × Unit)) → Tr ((List UInt8) × Unit) :=
  fun (a0, a1, _) =>
  .opt (β := ((List UInt8) × Unit)) ((ipShow_fn (a0, ()))) (fun r0 =>
  .grd (decide (List.length r0.1 + List.length [(47 : UInt8)] ≤ (9223372036854775807 : Nat))) (
  .grd (decide ((-9223372036854775808 : Int) ≤ a1 ∧ a1 ≤ (9223372036854775807 : Int))) (
  .grd (decide (List.length (r0.1 ++ [(47 : UInt8)]) + List.length (Lib.itoa a1) ≤ (9223372036854775807 : Nat))) (
  .ret (r0.1 ++ [(47 : UInt8)] ++ Lib.itoa a1, ())))))
theorem cfNet_eq (x : (Int × (Int × Unit))) : fnTr Tryd.prog cod [itoaStr, joinStr, splitStr, parseS8, parseS64, fmtUStr, cutStr, FS.pf ipShow, FS.pf ipParse, GS.pf wNext, GS.pf wValue, GS.pf wNumber, GS.pf wPair, GS.pf wAddr, GS.pf wNet, GS.pf wBounds, GS.pf wVerdict, FS.pf ruNet, FS.pf ruBounds, FS.pf ruRight, FS.pf ruCheck, FS.pf poCheck, FS.pf confCheck, FS.pf idxS, FS.pf contS, GS.pf cLine, bWritePF, bStringPF, bLenPF, FS.pf cfVerdict] [] 30 24 cfNet_ap cfNet_rp x = cfNet_tree x := by kernel_rfl
def cfNet_fn (x : (Int × (Int × Unit))) : Option ((List UInt8) × Unit) := (cfNet_tree x).eval
def cfNet : FS Tryd.prog := ⟨24, cfNet_ap, cfNet_rp, cfNet_fn, fun x r h => fnTr_sound (cod := cod) (Γ := [itoaStr, joinStr, splitStr, parseS8, parseS64, fmtUStr, cutStr, FS.pf ipShow, FS.pf ipParse, GS.pf wNext, GS.pf wValue, GS.pf wNumber, GS.pf wPair, GS.pf wAddr, GS.pf wNet, GS.pf wBounds, GS.pf wVerdict, FS.pf ruNet, FS.pf ruBounds, FS.pf ruRight, FS.pf ruCheck, FS.pf poCheck, FS.pf confCheck, FS.pf idxS, FS.pf contS, GS.pf cLine, bWritePF, bStringPF, bLenPF, FS.pf cfVerdict]) (Λs := []) (n := 30) ((congrArg Tr.eval (cfNet_eq x)).trans h)⟩
def cfBounds_ap : List VP1 := [.one (.i .i64), .one (.i .i64)]
def cfBounds_rp : SP := ⟨1, [(0, .v (.one (.s)))], []⟩
def cfBounds_tree : (Int × (Int × Unit)) → Tr ((List UInt8) × Unit) :=
  fun (a0, a1, _) =>
  .grd (decide ((-9223372036854775808 : Int) ≤ a0 ∧ a0 ≤ (9223372036854775807 : Int))) (
  .grd (decide (List.length (Lib.itoa a0) + List.length [(45 : UInt8)] ≤ (9223372036854775807 : Nat))) (
  .grd (decide ((-9223372036854775808 : Int) ≤ a1 ∧ a1 ≤ (9223372036854775807 : Int))) (
  .grd (decide (List.length (Lib.itoa a0 ++ [(45 : UInt8)]) + List.length (Lib.itoa a1) ≤ (9223372036854775807 : Nat))) (
  .ret (Lib.itoa a0 ++ [(45 : UInt8)] ++ Lib.itoa a1, ())))))
theorem cfBounds_eq (x : (Int × (Int × Unit))) : fnTr Tryd.prog cod [itoaStr, joinStr, splitStr, parseS8, parseS64, fmtUStr, cutStr, FS.pf ipShow, FS.pf ipParse, GS.pf wNext, GS.pf wValue, GS.pf wNumber, GS.pf wPair, GS.pf wAddr, GS.pf wNet, GS.pf wBounds, GS.pf wVerdict, FS.pf ruNet, FS.pf ruBounds, FS.pf ruRight, FS.pf ruCheck, FS.pf poCheck, FS.pf confCheck, FS.pf idxS, FS.pf contS, GS.pf cLine, bWritePF, bStringPF, bLenPF, FS.pf cfVerdict, FS.pf cfNet] [] 30 25 cfBounds_ap cfBounds_rp x = cfBounds_tree x := by kernel_rfl
def cfBounds_fn (x : (Int × (Int × Unit))) : Option ((List UInt8) × Unit) := (cfBounds_tree x).eval
def cfBounds : FS Tryd.prog := ⟨25, cfBounds_ap, cfBounds_rp, cfBounds_fn, fun x r h => fnTr_sound (cod := cod) (Γ := [itoaStr, joinStr, splitStr, parseS8, parseS64, fmtUStr, cutStr, FS.pf ipShow, FS.pf ipParse, GS.pf wNext, GS.pf wValue, GS.pf wNumber, GS.pf wPair, GS.pf wAddr, GS.pf wNet, GS.pf wBounds, GS.pf wVerdict, FS.pf ruNet, FS.pf ruBounds, FS.pf ruRight, FS.pf ruCheck, FS.pf poCheck, FS.pf confCheck, FS.pf idxS, FS.pf contS, GS.pf cLine, bWritePF, bStringPF, bLenPF, FS.pf cfVerdict, FS.pf cfNet]) (Λs := []) (n := 30) ((congrArg Tr.eval (cfBounds_eq x)).trans h)⟩
def cWrite_L7_11 : LS := ⟨11, [(5, 5), (1, 1), (950005, 950005)], ⟨85, [(48, .v (.one (.i .i64))), (6, .v (.one (.clp 20 [(5, 0)]))), (46, .v (.one (.st 10 false))), (5, .v (.one (.ptr 5 0))), (1, .v (.one (.ptr 1 0))), (47, .v (.one (.i .i64)))], [(5, .bx 44 950005), (1, .cells [.i .u32, .i .i64, .i .i64, .i .i64, .i .i64, .i .i64, .st 10 false, .b]), (950005, .buf 5)]⟩, [⟨some 0, [(5, 5), (1, 1), (950005, 950005)], ⟨85, [(5, .v (.one (.ptr 5 0))), (1, .v (.one (.ptr 1 0))), (6, .v (.one (.clp 20 [(5, 0)])))], [(5, .bx 44 950005), (1, .cells [.i .u32, .i .i64, .i .i64, .i .i64, .i .i64, .i .i64, .st 10 false, .b]), (950005, .buf 5)]⟩⟩], []⟩
def cWrite_step7_11 : (Int × ((List TRule) × (Int × (Int × (Int × (Int × (Int × (Int × (Int × ((List TRule) × (Bool × ((List UInt8) × Unit)))))))))))) → Tr ((Int × ((List TRule) × (Int × (Int × (Int × (Int × (Int × (Int × (Int × ((List TRule) × (Bool × ((List UInt8) × Unit)))))))))))) ⊕ (Int × (Int × (Int × (Int × (Int × (Int × ((List TRule) × (Bool × ((List UInt8) × Unit)))))))))) :=
  fun (a0, a1, a2, a3, a4, a5, a6, a7, a8, a9, a10, a11, _) =>
  .ite (decide (a0 < a2)) (
   .grd (decide ((0 : Int) ≤ a0)) (
   .opt (β := TRule) (a1[Int.toNat a0]?) (fun r0 =>
   .opt (β := ((List UInt8) × Unit)) ((cfVerdict_fn (r0.pass, ()))) (fun r1 =>
   .opt (β := ((List UInt8) × Unit)) ((cfNet_fn (r0.fromAddr, (r0.fromLong, ())))) (fun r2 =>
   .opt (β := ((List UInt8) × Unit)) ((cfNet_fn (r0.toAddr, (r0.toLong, ())))) (fun r3 =>
   .grd (decide ((-9223372036854775808 : Int) ≤ r0.proto ∧ r0.proto ≤ (9223372036854775807 : Int))) (
   .opt (β := ((List UInt8) × Unit)) ((cfBounds_fn (r0.fromLow, (r0.fromHigh, ())))) (fun r4 =>
   .opt (β := ((List UInt8) × Unit)) ((cfBounds_fn (r0.toLow, (r0.toHigh, ())))) (fun r5 =>
   .grd (decide (List.length [r1.1, r2.1, r3.1, Lib.itoa r0.proto, r4.1, r5.1] ≤ (140737488355328 : Nat) ∧ List.length (Lib.join [r1.1, r2.1, r3.1, Lib.itoa r0.proto, r4.1, r5.1] [(32 : UInt8)]) ≤ (140737488355328 : Nat))) (
   .grd (decide (List.length (Lib.join [r1.1, r2.1, r3.1, Lib.itoa r0.proto, r4.1, r5.1] [(32 : UInt8)]) + List.length [(10 : UInt8)] ≤ (9223372036854775807 : Nat))) (
   .grd (decide (blen a11 (Lib.join [r1.1, r2.1, r3.1, Lib.itoa r0.proto, r4.1, r5.1] [(32 : UInt8)] ++ [(10 : UInt8)]) ≤ (140737488355328 : Nat))) (
   .ret (Sum.inl (IntKind.wrap IntKind.i64 (a0 + (1 : Int)), (a1, (a2, (a3, (a4, (a5, (a6, (a7, (a8, (a9, (a10, (bcat a11 (Lib.join [r1.1, r2.1, r3.1, Lib.itoa r0.proto, r4.1, r5.1] [(32 : UInt8)] ++ [(10 : UInt8)]), ()))))))))))))))))))))))))) (
   .ret (Sum.inr (a3, (a4, (a5, (a6, (a7, (a8, (a9, (a10, (a11, ())))))))))))
def cWrite_loop7_11 (x : (Int × ((List TRule) × (Int × (Int × (Int × (Int × (Int × (Int × (Int × ((List TRule) × (Bool × ((List UInt8) × Unit))))))))))))) : Option (Int × (Int × (Int × (Int × (Int × (Int × ((List TRule) × (Bool × ((List UInt8) × Unit))))))))) := loopO 70011 (fun x => (cWrite_step7_11 x).eval) 18446744073709551616 x
def cWrite_ap : List VP1 := [.agg [.i .u32, .i .i64, .i .i64, .i .i64, .i .i64, .i .i64, .st 10 false, .b]]
def cWrite_rp : SP := ⟨1, [(0, .tup [.one (.s), .one (.i .i64)])], []⟩
def cWrite_tree : (Int × (Int × (Int × (Int × (Int × (Int × ((List TRule) × (Bool × Unit)))))))) → Tr ((List UInt8) × (Int × Unit)) :=
  fun (a0, a1, a2, a3, a4, a5, a6, a7, _) =>
  .opt (β := (Int × Unit)) ((confCheck_fn (a0, (a1, (a2, (a3, (a4, (a5, (a6, (a7, ())))))))))) (fun r0 =>
  .ite (!decide (r0.1 = (0 : Int))) (
   .ret ([], (r0.1, ()))) (
   .opt (β := ((List UInt8) × Unit)) ((ipShow_fn (a0, ()))) (fun r1 =>
   .grd (decide (List.length [[(111 : UInt8), (117 : UInt8), (116 : UInt8), (115 : UInt8), (105 : UInt8), (100 : UInt8), (101 : UInt8)], r1.1] ≤ (140737488355328 : Nat) ∧ List.length (Lib.join [[(111 : UInt8), (117 : UInt8), (116 : UInt8), (115 : UInt8), (105 : UInt8), (100 : UInt8), (101 : UInt8)], r1.1] [(32 : UInt8)]) ≤ (140737488355328 : Nat))) (
   .grd (decide (List.length (Lib.join [[(111 : UInt8), (117 : UInt8), (116 : UInt8), (115 : UInt8), (105 : UInt8), (100 : UInt8), (101 : UInt8)], r1.1] [(32 : UInt8)]) + List.length [(10 : UInt8)] ≤ (9223372036854775807 : Nat))) (
   .grd (decide (blen [] (Lib.join [[(111 : UInt8), (117 : UInt8), (116 : UInt8), (115 : UInt8), (105 : UInt8), (100 : UInt8), (101 : UInt8)], r1.1] [(32 : UInt8)] ++ [(10 : UInt8)]) ≤ (140737488355328 : Nat))) (
   .grd (decide ((-9223372036854775808 : Int) ≤ a1 ∧ a1 ≤ (9223372036854775807 : Int))) (
   .grd (decide ((-9223372036854775808 : Int) ≤ a2 ∧ a2 ≤ (9223372036854775807 : Int))) (
   .grd (decide (List.length [[(112 : UInt8), (111 : UInt8), (114 : UInt8), (116 : UInt8), (115 : UInt8)], Lib.itoa a1, Lib.itoa a2] ≤ (140737488355328 : Nat) ∧ List.length (Lib.join [[(112 : UInt8), (111 : UInt8), (114 : UInt8), (116 : UInt8), (115 : UInt8)], Lib.itoa a1, Lib.itoa a2] [(32 : UInt8)]) ≤ (140737488355328 : Nat))) (
   .grd (decide (List.length (Lib.join [[(112 : UInt8), (111 : UInt8), (114 : UInt8), (116 : UInt8), (115 : UInt8)], Lib.itoa a1, Lib.itoa a2] [(32 : UInt8)]) + List.length [(10 : UInt8)] ≤ (9223372036854775807 : Nat))) (
   .grd (decide (blen (bcat [] (Lib.join [[(111 : UInt8), (117 : UInt8), (116 : UInt8), (115 : UInt8), (105 : UInt8), (100 : UInt8), (101 : UInt8)], r1.1] [(32 : UInt8)] ++ [(10 : UInt8)])) (Lib.join [[(112 : UInt8), (111 : UInt8), (114 : UInt8), (116 : UInt8), (115 : UInt8)], Lib.itoa a1, Lib.itoa a2] [(32 : UInt8)] ++ [(10 : UInt8)]) ≤ (140737488355328 : Nat))) (
   .grd (decide ((-9223372036854775808 : Int) ≤ a3 ∧ a3 ≤ (9223372036854775807 : Int))) (
   .grd (decide (List.length [[(108 : UInt8), (105 : UInt8), (102 : UInt8), (101 : UInt8)], Lib.itoa a3] ≤ (140737488355328 : Nat) ∧ List.length (Lib.join [[(108 : UInt8), (105 : UInt8), (102 : UInt8), (101 : UInt8)], Lib.itoa a3] [(32 : UInt8)]) ≤ (140737488355328 : Nat))) (
   .grd (decide (List.length (Lib.join [[(108 : UInt8), (105 : UInt8), (102 : UInt8), (101 : UInt8)], Lib.itoa a3] [(32 : UInt8)]) + List.length [(10 : UInt8)] ≤ (9223372036854775807 : Nat))) (
   .grd (decide (blen (bcat (bcat [] (Lib.join [[(111 : UInt8), (117 : UInt8), (116 : UInt8), (115 : UInt8), (105 : UInt8), (100 : UInt8), (101 : UInt8)], r1.1] [(32 : UInt8)] ++ [(10 : UInt8)])) (Lib.join [[(112 : UInt8), (111 : UInt8), (114 : UInt8), (116 : UInt8), (115 : UInt8)], Lib.itoa a1, Lib.itoa a2] [(32 : UInt8)] ++ [(10 : UInt8)])) (Lib.join [[(108 : UInt8), (105 : UInt8), (102 : UInt8), (101 : UInt8)], Lib.itoa a3] [(32 : UInt8)] ++ [(10 : UInt8)]) ≤ (140737488355328 : Nat))) (
   .grd (decide ((-9223372036854775808 : Int) ≤ a4 ∧ a4 ≤ (9223372036854775807 : Int))) (
   .grd (decide ((-9223372036854775808 : Int) ≤ a5 ∧ a5 ≤ (9223372036854775807 : Int))) (
   .grd (decide (List.length [[(114 : UInt8), (97 : UInt8), (116 : UInt8), (101 : UInt8)], Lib.itoa a4, Lib.itoa a5] ≤ (140737488355328 : Nat) ∧ List.length (Lib.join [[(114 : UInt8), (97 : UInt8), (116 : UInt8), (101 : UInt8)], Lib.itoa a4, Lib.itoa a5] [(32 : UInt8)]) ≤ (140737488355328 : Nat))) (
   .grd (decide (List.length (Lib.join [[(114 : UInt8), (97 : UInt8), (116 : UInt8), (101 : UInt8)], Lib.itoa a4, Lib.itoa a5] [(32 : UInt8)]) + List.length [(10 : UInt8)] ≤ (9223372036854775807 : Nat))) (
   .grd (decide (blen (bcat (bcat (bcat [] (Lib.join [[(111 : UInt8), (117 : UInt8), (116 : UInt8), (115 : UInt8), (105 : UInt8), (100 : UInt8), (101 : UInt8)], r1.1] [(32 : UInt8)] ++ [(10 : UInt8)])) (Lib.join [[(112 : UInt8), (111 : UInt8), (114 : UInt8), (116 : UInt8), (115 : UInt8)], Lib.itoa a1, Lib.itoa a2] [(32 : UInt8)] ++ [(10 : UInt8)])) (Lib.join [[(108 : UInt8), (105 : UInt8), (102 : UInt8), (101 : UInt8)], Lib.itoa a3] [(32 : UInt8)] ++ [(10 : UInt8)])) (Lib.join [[(114 : UInt8), (97 : UInt8), (116 : UInt8), (101 : UInt8)], Lib.itoa a4, Lib.itoa a5] [(32 : UInt8)] ++ [(10 : UInt8)]) ≤ (140737488355328 : Nat))) (
   .opt (β := (Int × (Int × (Int × (Int × (Int × (Int × ((List TRule) × (Bool × ((List UInt8) × Unit)))))))))) ((cWrite_loop7_11 ((0 : Int), (a6, ((↑(List.length a6) : Int), (a0, (a1, (a2, (a3, (a4, (a5, (a6, (a7, (bcat (bcat (bcat (bcat [] (Lib.join [[(111 : UInt8), (117 : UInt8), (116 : UInt8), (115 : UInt8), (105 : UInt8), (100 : UInt8), (101 : UInt8)], r1.1] [(32 : UInt8)] ++ [(10 : UInt8)])) (Lib.join [[(112 : UInt8), (111 : UInt8), (114 : UInt8), (116 : UInt8), (115 : UInt8)], Lib.itoa a1, Lib.itoa a2] [(32 : UInt8)] ++ [(10 : UInt8)])) (Lib.join [[(108 : UInt8), (105 : UInt8), (102 : UInt8), (101 : UInt8)], Lib.itoa a3] [(32 : UInt8)] ++ [(10 : UInt8)])) (Lib.join [[(114 : UInt8), (97 : UInt8), (116 : UInt8), (101 : UInt8)], Lib.itoa a4, Lib.itoa a5] [(32 : UInt8)] ++ [(10 : UInt8)]), ())))))))))))))) (fun r2 =>
   .opt (β := ((List UInt8) × Unit)) ((cfVerdict_fn (r2.2.2.2.2.2.2.2.1, ()))) (fun r3 =>
   .grd (decide (List.length [[(101 : UInt8), (108 : UInt8), (115 : UInt8), (101 : UInt8)], r3.1] ≤ (140737488355328 : Nat) ∧ List.length (Lib.join [[(101 : UInt8), (108 : UInt8), (115 : UInt8), (101 : UInt8)], r3.1] [(32 : UInt8)]) ≤ (140737488355328 : Nat))) (
   .grd (decide (List.length (Lib.join [[(101 : UInt8), (108 : UInt8), (115 : UInt8), (101 : UInt8)], r3.1] [(32 : UInt8)]) + List.length [(10 : UInt8)] ≤ (9223372036854775807 : Nat))) (
   .grd (decide (blen r2.2.2.2.2.2.2.2.2.1 (Lib.join [[(101 : UInt8), (108 : UInt8), (115 : UInt8), (101 : UInt8)], r3.1] [(32 : UInt8)] ++ [(10 : UInt8)]) ≤ (140737488355328 : Nat))) (
   .ret (bcat r2.2.2.2.2.2.2.2.2.1 (Lib.join [[(101 : UInt8), (108 : UInt8), (115 : UInt8), (101 : UInt8)], r3.1] [(32 : UInt8)] ++ [(10 : UInt8)]), ((0 : Int), ())))))))))))))))))))))))))))
theorem cWrite_eq (x : (Int × (Int × (Int × (Int × (Int × (Int × ((List TRule) × (Bool × Unit))))))))) : fnTr Tryd.prog cod [itoaStr, joinStr, splitStr, parseS8, parseS64, fmtUStr, cutStr, FS.pf ipShow, FS.pf ipParse, GS.pf wNext, GS.pf wValue, GS.pf wNumber, GS.pf wPair, GS.pf wAddr, GS.pf wNet, GS.pf wBounds, GS.pf wVerdict, FS.pf ruNet, FS.pf ruBounds, FS.pf ruRight, FS.pf ruCheck, FS.pf poCheck, FS.pf confCheck, FS.pf idxS, FS.pf contS, GS.pf cLine, bWritePF, bStringPF, bLenPF, FS.pf cfVerdict, FS.pf cfNet, FS.pf cfBounds] [(7, cWrite_L7_11)] 30 7 cWrite_ap cWrite_rp x = cWrite_tree x := by kernel_rfl
def cWrite_fn (x : (Int × (Int × (Int × (Int × (Int × (Int × ((List TRule) × (Bool × Unit))))))))) : Option ((List UInt8) × (Int × Unit)) := (cWrite_tree x).eval
def cWrite : FS Tryd.prog := ⟨7, cWrite_ap, cWrite_rp, cWrite_fn, fun x r h => fnTr_sound (cod := cod) (Γ := [itoaStr, joinStr, splitStr, parseS8, parseS64, fmtUStr, cutStr, FS.pf ipShow, FS.pf ipParse, GS.pf wNext, GS.pf wValue, GS.pf wNumber, GS.pf wPair, GS.pf wAddr, GS.pf wNet, GS.pf wBounds, GS.pf wVerdict, FS.pf ruNet, FS.pf ruBounds, FS.pf ruRight, FS.pf ruCheck, FS.pf poCheck, FS.pf confCheck, FS.pf idxS, FS.pf contS, GS.pf cLine, bWritePF, bStringPF, bLenPF, FS.pf cfVerdict, FS.pf cfNet, FS.pf cfBounds]) (Λs := [(7, cWrite_L7_11)]) (n := 30) ((congrArg Tr.eval (cWrite_eq x)).trans h)⟩
end Go.Proofs.YtjfloicmoelkmaaDoor.X
