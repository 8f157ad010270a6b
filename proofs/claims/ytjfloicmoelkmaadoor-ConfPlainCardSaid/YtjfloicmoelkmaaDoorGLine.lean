/- Functions of the program, as trees (printed by a program of mine: tool/XTool, xg.py), each with the proof that the machine comes to what its tree says. Conditions: none. -/
import Derived.Test.YtjfloicmoelkmaaDoorCod
import Derived.KernelRfl
import Derived.Test.YtjfloicmoelkmaaDoorGWord
namespace Go.Proofs.YtjfloicmoelkmaaDoor.X
open Go Go.RowKit Go.Proofs.YtjfloicmoelkmaaDoor.Abs
set_option maxRecDepth 100000
set_option linter.unusedVariables false
def ruNet_ap : List VP1 := [.agg [.i .u32, .i .i64]]
def ruNet_rp : SP := ⟨1, [(0, .v (.one (.b)))], []⟩
def ruNet_tree : (Int × (Int × Unit)) → Tr (Bool × Unit) :=
  fun (a0, a1, _) =>
  .ite (decide ((0 : Int) ≤ a1)) (
   .ite (decide (a1 ≤ (32 : Int))) (
    .grd (decide ((0 : Int) ≤ a1)) (
    .ret (decide (IntKind.wrap IntKind.u32 (a0 * (2 : Int) ^ min (Int.toNat a1) (32 : Nat)) = (0 : Int)), ()))) (
    .ret (false, ()))) (
   .ret (false, ()))
theorem ruNet_eq (x : (Int × (Int × Unit))) : fnTr Tryd.prog cod [itoaStr, joinStr, splitStr, parseS8, parseS64, fmtUStr, cutStr, FS.pf ipShow, FS.pf ipParse, GS.pf wNext, GS.pf wValue, GS.pf wNumber, GS.pf wPair, GS.pf wAddr, GS.pf wNet, GS.pf wBounds, GS.pf wVerdict] [] 30 65 ruNet_ap ruNet_rp x = ruNet_tree x := by kernel_rfl
def ruNet_fn (x : (Int × (Int × Unit))) : Option (Bool × Unit) := (ruNet_tree x).eval
def ruNet : FS Tryd.prog := ⟨65, ruNet_ap, ruNet_rp, ruNet_fn, fun x r h => fnTr_sound (cod := cod) (Γ := [itoaStr, joinStr, splitStr, parseS8, parseS64, fmtUStr, cutStr, FS.pf ipShow, FS.pf ipParse, GS.pf wNext, GS.pf wValue, GS.pf wNumber, GS.pf wPair, GS.pf wAddr, GS.pf wNet, GS.pf wBounds, GS.pf wVerdict]) (Λs := []) (n := 30) ((congrArg Tr.eval (ruNet_eq x)).trans h)⟩
def ruBounds_ap : List VP1 := [.one (.i .i64), .one (.i .i64)]
def ruBounds_rp : SP := ⟨1, [(0, .v (.one (.b)))], []⟩
def ruBounds_tree : (Int × (Int × Unit)) → Tr (Bool × Unit) :=
  fun (a0, a1, _) =>
  .ite (decide ((0 : Int) ≤ a0)) (
   .ite (decide (a0 ≤ a1)) (
    .ret (decide (a1 ≤ (65535 : Int)), ())) (
    .ret (false, ()))) (
   .ret (false, ()))
theorem ruBounds_eq (x : (Int × (Int × Unit))) : fnTr Tryd.prog cod [itoaStr, joinStr, splitStr, parseS8, parseS64, fmtUStr, cutStr, FS.pf ipShow, FS.pf ipParse, GS.pf wNext, GS.pf wValue, GS.pf wNumber, GS.pf wPair, GS.pf wAddr, GS.pf wNet, GS.pf wBounds, GS.pf wVerdict, FS.pf ruNet] [] 30 66 ruBounds_ap ruBounds_rp x = ruBounds_tree x := by kernel_rfl
def ruBounds_fn (x : (Int × (Int × Unit))) : Option (Bool × Unit) := (ruBounds_tree x).eval
def ruBounds : FS Tryd.prog := ⟨66, ruBounds_ap, ruBounds_rp, ruBounds_fn, fun x r h => fnTr_sound (cod := cod) (Γ := [itoaStr, joinStr, splitStr, parseS8, parseS64, fmtUStr, cutStr, FS.pf ipShow, FS.pf ipParse, GS.pf wNext, GS.pf wValue, GS.pf wNumber, GS.pf wPair, GS.pf wAddr, GS.pf wNet, GS.pf wBounds, GS.pf wVerdict, FS.pf ruNet]) (Λs := []) (n := 30) ((congrArg Tr.eval (ruBounds_eq x)).trans h)⟩
def ruRight_ap : List VP1 := [.agg [.i .u32, .i .i64, .i .u32, .i .i64, .i .i64, .i .i64, .i .i64, .i .i64, .i .i64, .b]]
def ruRight_rp : SP := ⟨1, [(0, .v (.one (.b)))], []⟩
def ruRight_tree : (Int × (Int × (Int × (Int × (Int × (Int × (Int × (Int × (Int × (Bool × Unit)))))))))) → Tr (Bool × Unit) :=
  fun (a0, a1, a2, a3, a4, a5, a6, a7, a8, a9, _) =>
  .opt (β := (Bool × Unit)) ((ruNet_fn (a0, (a1, ())))) (fun r0 =>
  .ite (r0.1) (
   .opt (β := (Bool × Unit)) ((ruNet_fn (a2, (a3, ())))) (fun r1 =>
   .ite (r1.1) (
    .ite (decide ((0 : Int) ≤ a4)) (
     .ite (decide (a4 ≤ (255 : Int))) (
      .opt (β := (Bool × Unit)) ((ruBounds_fn (a5, (a6, ())))) (fun r2 =>
      .ite (r2.1) (
       .opt (β := (Bool × Unit)) ((ruBounds_fn (a7, (a8, ())))) (fun r3 =>
       .ret (r3.1, ()))) (
       .ret (false, ())))) (
      .ret (false, ()))) (
     .ret (false, ()))) (
    .ret (false, ())))) (
   .ret (false, ())))
theorem ruRight_eq (x : (Int × (Int × (Int × (Int × (Int × (Int × (Int × (Int × (Int × (Bool × Unit))))))))))) : fnTr Tryd.prog cod [itoaStr, joinStr, splitStr, parseS8, parseS64, fmtUStr, cutStr, FS.pf ipShow, FS.pf ipParse, GS.pf wNext, GS.pf wValue, GS.pf wNumber, GS.pf wPair, GS.pf wAddr, GS.pf wNet, GS.pf wBounds, GS.pf wVerdict, FS.pf ruNet, FS.pf ruBounds] [] 30 52 ruRight_ap ruRight_rp x = ruRight_tree x := by kernel_rfl
def ruRight_fn (x : (Int × (Int × (Int × (Int × (Int × (Int × (Int × (Int × (Int × (Bool × Unit))))))))))) : Option (Bool × Unit) := (ruRight_tree x).eval
def ruRight : FS Tryd.prog := ⟨52, ruRight_ap, ruRight_rp, ruRight_fn, fun x r h => fnTr_sound (cod := cod) (Γ := [itoaStr, joinStr, splitStr, parseS8, parseS64, fmtUStr, cutStr, FS.pf ipShow, FS.pf ipParse, GS.pf wNext, GS.pf wValue, GS.pf wNumber, GS.pf wPair, GS.pf wAddr, GS.pf wNet, GS.pf wBounds, GS.pf wVerdict, FS.pf ruNet, FS.pf ruBounds]) (Λs := []) (n := 30) ((congrArg Tr.eval (ruRight_eq x)).trans h)⟩
def ruCheck_L36_4 : LS := ⟨4, [], ⟨18, [(10, .v (.one (.i .i64))), (8, .v (.one (.st 10 false))), (9, .v (.one (.i .i64)))], []⟩, [⟨none, [], ⟨18, [(2, .v (.one (.i .i64)))], []⟩⟩, ⟨some 0, [], ⟨18, [], []⟩⟩], []⟩
def ruCheck_step36_4 : (Int × ((List TRule) × (Int × Unit))) → Tr ((Int × ((List TRule) × (Int × Unit))) ⊕ ((Int × Unit) ⊕ Unit)) :=
  fun (a0, a1, a2, _) =>
  .ite (decide (a0 < a2)) (
   .grd (decide ((0 : Int) ≤ a0)) (
   .opt (β := TRule) (a1[Int.toNat a0]?) (fun r0 =>
   .opt (β := (Bool × Unit)) ((ruRight_fn (r0.fromAddr, (r0.fromLong, (r0.toAddr, (r0.toLong, (r0.proto, (r0.fromLow, (r0.fromHigh, (r0.toLow, (r0.toHigh, (r0.pass, ())))))))))))) (fun r1 =>
   .ite (!r1.1) (
    .ret (Sum.inr (Sum.inl ((4 : Int), ())))) (
    .ret (Sum.inl (IntKind.wrap IntKind.i64 (a0 + (1 : Int)), (a1, (a2, ()))))))))) (
   .ret (Sum.inr (Sum.inr ())))
def ruCheck_loop36_4 (x : (Int × ((List TRule) × (Int × Unit)))) : Option ((Int × Unit) ⊕ Unit) := loopO 360004 (fun x => (ruCheck_step36_4 x).eval) 18446744073709551616 x
def ruCheck_ap : List VP1 := [.one (.st 10 false)]
def ruCheck_rp : SP := ⟨1, [(0, .v (.one (.i .i64)))], []⟩
def ruCheck_tree : ((List TRule) × Unit) → Tr (Int × Unit) :=
  fun (a0, _) =>
  .ite (decide ((64 : Int) < (↑(List.length a0) : Int))) (
   .ret ((2 : Int), ())) (
   .opt (β := ((Int × Unit) ⊕ Unit)) ((ruCheck_loop36_4 ((0 : Int), (a0, ((↑(List.length a0) : Int), ()))))) (fun r0 =>
   .sum (β := (Int × Unit)) (γ := Unit) (r0) (fun r1 =>
    .ret (r1.1, ())) (fun r1 =>
    .ret ((0 : Int), ()))))
theorem ruCheck_eq (x : ((List TRule) × Unit)) : fnTr Tryd.prog cod [itoaStr, joinStr, splitStr, parseS8, parseS64, fmtUStr, cutStr, FS.pf ipShow, FS.pf ipParse, GS.pf wNext, GS.pf wValue, GS.pf wNumber, GS.pf wPair, GS.pf wAddr, GS.pf wNet, GS.pf wBounds, GS.pf wVerdict, FS.pf ruNet, FS.pf ruBounds, FS.pf ruRight] [(36, ruCheck_L36_4)] 30 36 ruCheck_ap ruCheck_rp x = ruCheck_tree x := by kernel_rfl
def ruCheck_fn (x : ((List TRule) × Unit)) : Option (Int × Unit) := (ruCheck_tree x).eval
def ruCheck : FS Tryd.prog := ⟨36, ruCheck_ap, ruCheck_rp, ruCheck_fn, fun x r h => fnTr_sound (cod := cod) (Γ := [itoaStr, joinStr, splitStr, parseS8, parseS64, fmtUStr, cutStr, FS.pf ipShow, FS.pf ipParse, GS.pf wNext, GS.pf wValue, GS.pf wNumber, GS.pf wPair, GS.pf wAddr, GS.pf wNet, GS.pf wBounds, GS.pf wVerdict, FS.pf ruNet, FS.pf ruBounds, FS.pf ruRight]) (Λs := [(36, ruCheck_L36_4)]) (n := 30) ((congrArg Tr.eval (ruCheck_eq x)).trans h)⟩
def poCheck_ap : List VP1 := [.agg [.i .i64, .i .u64]]
def poCheck_rp : SP := ⟨1, [(0, .v (.one (.i .i64)))], []⟩
def poCheck_tree : (Int × (Int × Unit)) → Tr (Int × Unit) :=
  fun (a0, a1, _) =>
  .ite (decide (a0 < (64 : Int))) (
   .ret ((1 : Int), ())) (
   .ite (decide ((65472 : Int) < a0)) (
    .ret ((1 : Int), ())) (
    .grd (true) (
    .ite (!decide (Int.tmod a0 (64 : Int) = (0 : Int))) (
     .ret ((1 : Int), ())) (
     .ret ((0 : Int), ())))))
theorem poCheck_eq (x : (Int × (Int × Unit))) : fnTr Tryd.prog cod [itoaStr, joinStr, splitStr, parseS8, parseS64, fmtUStr, cutStr, FS.pf ipShow, FS.pf ipParse, GS.pf wNext, GS.pf wValue, GS.pf wNumber, GS.pf wPair, GS.pf wAddr, GS.pf wNet, GS.pf wBounds, GS.pf wVerdict, FS.pf ruNet, FS.pf ruBounds, FS.pf ruRight, FS.pf ruCheck] [] 30 35 poCheck_ap poCheck_rp x = poCheck_tree x := by kernel_rfl
def poCheck_fn (x : (Int × (Int × Unit))) : Option (Int × Unit) := (poCheck_tree x).eval
def poCheck : FS Tryd.prog := ⟨35, poCheck_ap, poCheck_rp, poCheck_fn, fun x r h => fnTr_sound (cod := cod) (Γ := [itoaStr, joinStr, splitStr, parseS8, parseS64, fmtUStr, cutStr, FS.pf ipShow, FS.pf ipParse, GS.pf wNext, GS.pf wValue, GS.pf wNumber, GS.pf wPair, GS.pf wAddr, GS.pf wNet, GS.pf wBounds, GS.pf wVerdict, FS.pf ruNet, FS.pf ruBounds, FS.pf ruRight, FS.pf ruCheck]) (Λs := []) (n := 30) ((congrArg Tr.eval (poCheck_eq x)).trans h)⟩
def confCheck_ap : List VP1 := [.agg [.i .u32, .i .i64, .i .i64, .i .i64, .i .i64, .i .i64, .st 10 false, .b]]
def confCheck_rp : SP := ⟨1, [(0, .v (.one (.i .i64)))], []⟩
def confCheck_tree : (Int × (Int × (Int × (Int × (Int × (Int × ((List TRule) × (Bool × Unit)))))))) → Tr (Int × Unit) :=
  fun (a0, a1, a2, a3, a4, a5, a6, a7, _) =>
  .opt (β := (Int × Unit)) ((poCheck_fn (a1, ((0 : Int), ())))) (fun r0 =>
  .ite (!decide (r0.1 = (0 : Int))) (
   .ret ((1 : Int), ())) (
   .opt (β := (Int × Unit)) ((poCheck_fn (a2, ((0 : Int), ())))) (fun r1 =>
   .ite (!decide (r1.1 = (0 : Int))) (
    .ret ((1 : Int), ())) (
    .ite (decide (a3 < (1 : Int))) (
     .ret ((1 : Int), ())) (
     .ite (decide ((1000000 : Int) < a3)) (
      .ret ((1 : Int), ())) (
      .ite (decide (a4 < (0 : Int))) (
       .ret ((1 : Int), ())) (
       .ite (decide ((1000000 : Int) < a4)) (
        .ret ((1 : Int), ())) (
        .ite (decide (a5 < (1 : Int))) (
         .ret ((1 : Int), ())) (
         .ite (decide ((1000000000 : Int) < a5)) (
          .ret ((1 : Int), ())) (
          .opt (β := (Int × Unit)) ((ruCheck_fn (a6, ()))) (fun r2 =>
          .ret (r2.1, ()))))))))))))
theorem confCheck_eq (x : (Int × (Int × (Int × (Int × (Int × (Int × ((List TRule) × (Bool × Unit))))))))) : fnTr Tryd.prog cod [itoaStr, joinStr, splitStr, parseS8, parseS64, fmtUStr, cutStr, FS.pf ipShow, FS.pf ipParse, GS.pf wNext, GS.pf wValue, GS.pf wNumber, GS.pf wPair, GS.pf wAddr, GS.pf wNet, GS.pf wBounds, GS.pf wVerdict, FS.pf ruNet, FS.pf ruBounds, FS.pf ruRight, FS.pf ruCheck, FS.pf poCheck] [] 30 19 confCheck_ap confCheck_rp x = confCheck_tree x := by kernel_rfl
def confCheck_fn (x : (Int × (Int × (Int × (Int × (Int × (Int × ((List TRule) × (Bool × Unit))))))))) : Option (Int × Unit) := (confCheck_tree x).eval
def confCheck : FS Tryd.prog := ⟨19, confCheck_ap, confCheck_rp, confCheck_fn, fun x r h => fnTr_sound (cod := cod) (Γ := [itoaStr, joinStr, splitStr, parseS8, parseS64, fmtUStr, cutStr, FS.pf ipShow, FS.pf ipParse, GS.pf wNext, GS.pf wValue, GS.pf wNumber, GS.pf wPair, GS.pf wAddr, GS.pf wNet, GS.pf wBounds, GS.pf wVerdict, FS.pf ruNet, FS.pf ruBounds, FS.pf ruRight, FS.pf ruCheck, FS.pf poCheck]) (Λs := []) (n := 30) ((congrArg Tr.eval (confCheck_eq x)).trans h)⟩
def idxS_L44_2 : LS := ⟨2, [], ⟨19, [(8, .v (.one (.i .i64))), (0, .v (.one (.st 3 false))), (1, .v (.one (.s))), (7, .v (.one (.i .i64)))], []⟩, [⟨none, [], ⟨19, [(4, .v (.one (.i .i64)))], []⟩⟩, ⟨some 0, [], ⟨19, [], []⟩⟩], []⟩
def idxS_step44_2 : (Int × ((List (List UInt8)) × ((List UInt8) × (Int × Unit)))) → Tr ((Int × ((List (List UInt8)) × ((List UInt8) × (Int × Unit)))) ⊕ ((Int × Unit) ⊕ Unit)) :=
  fun (a0, a1, a2, a3, _) =>
  .ite (decide (a0 < a3)) (
   .grd (decide ((0 : Int) ≤ a0)) (
   .opt (β := (List UInt8)) (a1[Int.toNat a0]?) (fun r0 =>
   .ite (decide (a2 = r0)) (
    .ret (Sum.inr (Sum.inl (a0, ())))) (
    .ret (Sum.inl (IntKind.wrap IntKind.i64 (a0 + (1 : Int)), (a1, (a2, (a3, ()))))))))) (
   .ret (Sum.inr (Sum.inr ())))
def idxS_loop44_2 (x : (Int × ((List (List UInt8)) × ((List UInt8) × (Int × Unit))))) : Option ((Int × Unit) ⊕ Unit) := loopO 440002 (fun x => (idxS_step44_2 x).eval) 18446744073709551616 x
def idxS_ap : List VP1 := [.one (.st 3 false), .one (.s)]
def idxS_rp : SP := ⟨1, [(0, .v (.one (.i .i64)))], []⟩
def idxS_tree : ((List (List UInt8)) × ((List UInt8) × Unit)) → Tr (Int × Unit) :=
  fun (a0, a1, _) =>
  .opt (β := ((Int × Unit) ⊕ Unit)) ((idxS_loop44_2 ((0 : Int), (a0, (a1, ((↑(List.length a0) : Int), ())))))) (fun r0 =>
  .sum (β := (Int × Unit)) (γ := Unit) (r0) (fun r1 =>
   .ret (r1.1, ())) (fun r1 =>
   .ret ((-1 : Int), ())))
theorem idxS_eq (x : ((List (List UInt8)) × ((List UInt8) × Unit))) : fnTr Tryd.prog cod [itoaStr, joinStr, splitStr, parseS8, parseS64, fmtUStr, cutStr, FS.pf ipShow, FS.pf ipParse, GS.pf wNext, GS.pf wValue, GS.pf wNumber, GS.pf wPair, GS.pf wAddr, GS.pf wNet, GS.pf wBounds, GS.pf wVerdict, FS.pf ruNet, FS.pf ruBounds, FS.pf ruRight, FS.pf ruCheck, FS.pf poCheck, FS.pf confCheck] [(44, idxS_L44_2)] 30 44 idxS_ap idxS_rp x = idxS_tree x := by kernel_rfl
def idxS_fn (x : ((List (List UInt8)) × ((List UInt8) × Unit))) : Option (Int × Unit) := (idxS_tree x).eval
def idxS : FS Tryd.prog := ⟨44, idxS_ap, idxS_rp, idxS_fn, fun x r h => fnTr_sound (cod := cod) (Γ := [itoaStr, joinStr, splitStr, parseS8, parseS64, fmtUStr, cutStr, FS.pf ipShow, FS.pf ipParse, GS.pf wNext, GS.pf wValue, GS.pf wNumber, GS.pf wPair, GS.pf wAddr, GS.pf wNet, GS.pf wBounds, GS.pf wVerdict, FS.pf ruNet, FS.pf ruBounds, FS.pf ruRight, FS.pf ruCheck, FS.pf poCheck, FS.pf confCheck]) (Λs := [(44, idxS_L44_2)]) (n := 30) ((congrArg Tr.eval (idxS_eq x)).trans h)⟩
def contS_ap : List VP1 := [.one (.st 3 false), .one (.s)]
def contS_rp : SP := ⟨1, [(0, .v (.one (.b)))], []⟩
def contS_tree : ((List (List UInt8)) × ((List UInt8) × Unit)) → Tr (Bool × Unit) :=
  fun (a0, a1, _) =>
  .opt (β := (Int × Unit)) ((idxS_fn (a0, (a1, ())))) (fun r0 =>
  .ret (decide ((0 : Int) ≤ r0.1), ()))
theorem contS_eq (x : ((List (List UInt8)) × ((List UInt8) × Unit))) : fnTr Tryd.prog cod [itoaStr, joinStr, splitStr, parseS8, parseS64, fmtUStr, cutStr, FS.pf ipShow, FS.pf ipParse, GS.pf wNext, GS.pf wValue, GS.pf wNumber, GS.pf wPair, GS.pf wAddr, GS.pf wNet, GS.pf wBounds, GS.pf wVerdict, FS.pf ruNet, FS.pf ruBounds, FS.pf ruRight, FS.pf ruCheck, FS.pf poCheck, FS.pf confCheck, FS.pf idxS] [] 30 27 contS_ap contS_rp x = contS_tree x := by kernel_rfl
def contS_fn (x : ((List (List UInt8)) × ((List UInt8) × Unit))) : Option (Bool × Unit) := (contS_tree x).eval
def contS : FS Tryd.prog := ⟨27, contS_ap, contS_rp, contS_fn, fun x r h => fnTr_sound (cod := cod) (Γ := [itoaStr, joinStr, splitStr, parseS8, parseS64, fmtUStr, cutStr, FS.pf ipShow, FS.pf ipParse, GS.pf wNext, GS.pf wValue, GS.pf wNumber, GS.pf wPair, GS.pf wAddr, GS.pf wNet, GS.pf wBounds, GS.pf wVerdict, FS.pf ruNet, FS.pf ruBounds, FS.pf ruRight, FS.pf ruCheck, FS.pf poCheck, FS.pf confCheck, FS.pf idxS]) (Λs := []) (n := 30) ((congrArg Tr.eval (contS_eq x)).trans h)⟩
def cLine_ap : SP := ⟨112, [(0, .v (.one (.ptr 1000000 0))), (1, .v (.one (.ptr 1000001 0)))], [(1000000, .cells [.i .u32, .i .i64, .i .i64, .i .i64, .i .i64, .i .i64, .own 1000100, .b]), (1000001, .cells [.sub 1000101 1, .b]), (1000100, .row 59 10 true true), (1000101, .row 9 3 true true)]⟩
def cLine_rp : SP := ⟨1, [(0, .v (.one (.s)))], [(1000000, .cells [.i .u32, .i .i64, .i .i64, .i .i64, .i .i64, .i .i64, .own 1000100, .b]), (1000001, .cells [.sub 1000101 1, .b]), (1000100, .row 59 10 true true), (1000101, .row 9 3 true true)]⟩
def cLine_tree : (Int × (Int × (Int × (Int × (Int × (Int × (Bool × (Nat × (Nat × (Bool × ((List TRule) × ((List (List UInt8)) × Unit)))))))))))) → Tr ((List UInt8) × (Int × (Int × (Int × (Int × (Int × (Int × (Bool × (Nat × (Nat × (Bool × ((List TRule) × ((List (List UInt8)) × Unit))))))))))))) :=
  fun (a0, a1, a2, a3, a4, a5, a6, a7, a8, a9, a10, a11, _) =>
  .opt (β := ((List UInt8) × (Nat × (Nat × (Bool × ((List (List UInt8)) × Unit)))))) ((wNext_fn (a7, (a8, (a9, (a11, ())))))) (fun r0 =>
  .ite (decide (r0.1 = [(111 : UInt8), (117 : UInt8), (116 : UInt8), (115 : UInt8), (105 : UInt8), (100 : UInt8), (101 : UInt8)])) (
   .opt (β := ((List UInt8) × (Nat × (Nat × (Bool × ((List (List UInt8)) × Unit)))))) ((wNext_fn (r0.2.1, (r0.2.2.1, (r0.2.2.2.1, (r0.2.2.2.2.1, ())))))) (fun r1 =>
   .opt (β := (Int × (Nat × (Nat × (Bool × ((List (List UInt8)) × Unit)))))) ((wAddr_fn (r1.1, (r1.2.1, (r1.2.2.1, (r1.2.2.2.1, (r1.2.2.2.2.1, ()))))))) (fun r2 =>
   .ite (r2.2.2.2.1) (
    .grd (decide (List.length a10 = List.length a10)) (
    .ret (r0.1, (r2.1, (a1, (a2, (a3, (a4, (a5, (a6, (r2.2.1, (r2.2.2.1, (true, (a10, (r2.2.2.2.2.1, ()))))))))))))))) (
    .grd (decide (List.length a10 = List.length a10)) (
    .ret (r0.1, (r2.1, (a1, (a2, (a3, (a4, (a5, (a6, (r2.2.1, (r2.2.2.1, (decide ((0 : Int) < (↑r2.2.2.1 : Int)), (a10, (r2.2.2.2.2.1, ())))))))))))))))))) (
   .ite (decide (r0.1 = [(112 : UInt8), (111 : UInt8), (114 : UInt8), (116 : UInt8), (115 : UInt8)])) (
    .opt (β := (Int × (Nat × (Nat × (Bool × ((List (List UInt8)) × Unit)))))) ((wNumber_fn (r0.2.1, (r0.2.2.1, (r0.2.2.2.1, (r0.2.2.2.2.1, ())))))) (fun r1 =>
    .opt (β := (Int × (Nat × (Nat × (Bool × ((List (List UInt8)) × Unit)))))) ((wNumber_fn (r1.2.1, (r1.2.2.1, (r1.2.2.2.1, (r1.2.2.2.2.1, ())))))) (fun r2 =>
    .ite (r2.2.2.2.1) (
     .grd (decide (List.length a10 = List.length a10)) (
     .ret (r0.1, (a0, (r1.1, (r2.1, (a3, (a4, (a5, (a6, (r2.2.1, (r2.2.2.1, (true, (a10, (r2.2.2.2.2.1, ()))))))))))))))) (
     .grd (decide (List.length a10 = List.length a10)) (
     .ret (r0.1, (a0, (r1.1, (r2.1, (a3, (a4, (a5, (a6, (r2.2.1, (r2.2.2.1, (decide ((0 : Int) < (↑r2.2.2.1 : Int)), (a10, (r2.2.2.2.2.1, ())))))))))))))))))) (
    .ite (decide (r0.1 = [(108 : UInt8), (105 : UInt8), (102 : UInt8), (101 : UInt8)])) (
     .opt (β := (Int × (Nat × (Nat × (Bool × ((List (List UInt8)) × Unit)))))) ((wNumber_fn (r0.2.1, (r0.2.2.1, (r0.2.2.2.1, (r0.2.2.2.2.1, ())))))) (fun r1 =>
     .ite (r1.2.2.2.1) (
      .grd (decide (List.length a10 = List.length a10)) (
      .ret (r0.1, (a0, (a1, (a2, (r1.1, (a4, (a5, (a6, (r1.2.1, (r1.2.2.1, (true, (a10, (r1.2.2.2.2.1, ()))))))))))))))) (
      .grd (decide (List.length a10 = List.length a10)) (
      .ret (r0.1, (a0, (a1, (a2, (r1.1, (a4, (a5, (a6, (r1.2.1, (r1.2.2.1, (decide ((0 : Int) < (↑r1.2.2.1 : Int)), (a10, (r1.2.2.2.2.1, ()))))))))))))))))) (
     .ite (decide (r0.1 = [(114 : UInt8), (97 : UInt8), (116 : UInt8), (101 : UInt8)])) (
      .opt (β := (Int × (Nat × (Nat × (Bool × ((List (List UInt8)) × Unit)))))) ((wNumber_fn (r0.2.1, (r0.2.2.1, (r0.2.2.2.1, (r0.2.2.2.2.1, ())))))) (fun r1 =>
      .opt (β := (Int × (Nat × (Nat × (Bool × ((List (List UInt8)) × Unit)))))) ((wNumber_fn (r1.2.1, (r1.2.2.1, (r1.2.2.2.1, (r1.2.2.2.2.1, ())))))) (fun r2 =>
      .ite (r2.2.2.2.1) (
       .grd (decide (List.length a10 = List.length a10)) (
       .ret (r0.1, (a0, (a1, (a2, (a3, (r1.1, (r2.1, (a6, (r2.2.1, (r2.2.2.1, (true, (a10, (r2.2.2.2.2.1, ()))))))))))))))) (
       .grd (decide (List.length a10 = List.length a10)) (
       .ret (r0.1, (a0, (a1, (a2, (a3, (r1.1, (r2.1, (a6, (r2.2.1, (r2.2.2.1, (decide ((0 : Int) < (↑r2.2.2.1 : Int)), (a10, (r2.2.2.2.2.1, ())))))))))))))))))) (
      .ite (decide (r0.1 = [(101 : UInt8), (108 : UInt8), (115 : UInt8), (101 : UInt8)])) (
       .opt (β := ((List UInt8) × (Nat × (Nat × (Bool × ((List (List UInt8)) × Unit)))))) ((wNext_fn (r0.2.1, (r0.2.2.1, (r0.2.2.2.1, (r0.2.2.2.2.1, ())))))) (fun r1 =>
       .opt (β := (Bool × (Nat × (Nat × (Bool × ((List (List UInt8)) × Unit)))))) ((wVerdict_fn (r1.1, (r1.2.1, (r1.2.2.1, (r1.2.2.2.1, (r1.2.2.2.2.1, ()))))))) (fun r2 =>
       .ite (r2.2.2.2.1) (
        .grd (decide (List.length a10 = List.length a10)) (
        .ret (r0.1, (a0, (a1, (a2, (a3, (a4, (a5, (r2.1, (r2.2.1, (r2.2.2.1, (true, (a10, (r2.2.2.2.2.1, ()))))))))))))))) (
        .grd (decide (List.length a10 = List.length a10)) (
        .ret (r0.1, (a0, (a1, (a2, (a3, (a4, (a5, (r2.1, (r2.2.1, (r2.2.2.1, (decide ((0 : Int) < (↑r2.2.2.1 : Int)), (a10, (r2.2.2.2.2.1, ())))))))))))))))))) (
       .opt (β := (Bool × (Nat × (Nat × (Bool × ((List (List UInt8)) × Unit)))))) ((wVerdict_fn (r0.1, (r0.2.1, (r0.2.2.1, (r0.2.2.2.1, (r0.2.2.2.2.1, ()))))))) (fun r1 =>
       .opt (β := (Int × (Int × (Nat × (Nat × (Bool × ((List (List UInt8)) × Unit))))))) ((wNet_fn (r1.2.1, (r1.2.2.1, (r1.2.2.2.1, (r1.2.2.2.2.1, ())))))) (fun r2 =>
       .opt (β := (Int × (Int × (Nat × (Nat × (Bool × ((List (List UInt8)) × Unit))))))) ((wNet_fn (r2.2.2.1, (r2.2.2.2.1, (r2.2.2.2.2.1, (r2.2.2.2.2.2.1, ())))))) (fun r3 =>
       .opt (β := (Int × (Nat × (Nat × (Bool × ((List (List UInt8)) × Unit)))))) ((wNumber_fn (r3.2.2.1, (r3.2.2.2.1, (r3.2.2.2.2.1, (r3.2.2.2.2.2.1, ())))))) (fun r4 =>
       .opt (β := (Int × (Int × (Nat × (Nat × (Bool × ((List (List UInt8)) × Unit))))))) ((wBounds_fn (r4.2.1, (r4.2.2.1, (r4.2.2.2.1, (r4.2.2.2.2.1, ())))))) (fun r5 =>
       .opt (β := (Int × (Int × (Nat × (Nat × (Bool × ((List (List UInt8)) × Unit))))))) ((wBounds_fn (r5.2.2.1, (r5.2.2.2.1, (r5.2.2.2.2.1, (r5.2.2.2.2.2.1, ())))))) (fun r6 =>
       .grd (decide ((List.length a10 + List.length [TRule.mk r2.1 r2.2.1 r3.1 r3.2.1 r4.1 r5.1 r5.2.1 r6.1 r6.2.1 r1.1]) * (80 : Nat) ≤ (140737488355328 : Nat) ∧ List.length a10 + List.length [TRule.mk r2.1 r2.2.1 r3.1 r3.2.1 r4.1 r5.1 r5.2.1 r6.1 r6.2.1 r1.1] ≤ (9223372036854775807 : Nat))) (
       .ite (r6.2.2.2.2.1) (
        .grd (decide (List.length (a10 ++ [TRule.mk r2.1 r2.2.1 r3.1 r3.2.1 r4.1 r5.1 r5.2.1 r6.1 r6.2.1 r1.1]) = List.length (a10 ++ [TRule.mk r2.1 r2.2.1 r3.1 r3.2.1 r4.1 r5.1 r5.2.1 r6.1 r6.2.1 r1.1]))) (
        .ret (r0.1, (a0, (a1, (a2, (a3, (a4, (a5, (a6, (r6.2.2.1, (r6.2.2.2.1, (true, (a10 ++ [TRule.mk r2.1 r2.2.1 r3.1 r3.2.1 r4.1 r5.1 r5.2.1 r6.1 r6.2.1 r1.1], (r6.2.2.2.2.2.1, ()))))))))))))))) (
        .grd (decide (List.length (a10 ++ [TRule.mk r2.1 r2.2.1 r3.1 r3.2.1 r4.1 r5.1 r5.2.1 r6.1 r6.2.1 r1.1]) = List.length (a10 ++ [TRule.mk r2.1 r2.2.1 r3.1 r3.2.1 r4.1 r5.1 r5.2.1 r6.1 r6.2.1 r1.1]))) (
        .ret (r0.1, (a0, (a1, (a2, (a3, (a4, (a5, (a6, (r6.2.2.1, (r6.2.2.2.1, (decide ((0 : Int) < (↑r6.2.2.2.1 : Int)), (a10 ++ [TRule.mk r2.1 r2.2.1 r3.1 r3.2.1 r4.1 r5.1 r5.2.1 r6.1 r6.2.1 r1.1], (r6.2.2.2.2.2.1, ()))))))))))))))))))))))))))))
theorem cLine_eq (x : (Int × (Int × (Int × (Int × (Int × (Int × (Bool × (Nat × (Nat × (Bool × ((List TRule) × ((List (List UInt8)) × Unit))))))))))))) : gsTr Tryd.prog cod [itoaStr, joinStr, splitStr, parseS8, parseS64, fmtUStr, cutStr, FS.pf ipShow, FS.pf ipParse, GS.pf wNext, GS.pf wValue, GS.pf wNumber, GS.pf wPair, GS.pf wAddr, GS.pf wNet, GS.pf wBounds, GS.pf wVerdict, FS.pf ruNet, FS.pf ruBounds, FS.pf ruRight, FS.pf ruCheck, FS.pf poCheck, FS.pf confCheck, FS.pf idxS, FS.pf contS] [] 30 26 cLine_ap cLine_rp x = cLine_tree x := by kernel_rfl
def cLine_fn (x : (Int × (Int × (Int × (Int × (Int × (Int × (Bool × (Nat × (Nat × (Bool × ((List TRule) × ((List (List UInt8)) × Unit))))))))))))) : Option ((List UInt8) × (Int × (Int × (Int × (Int × (Int × (Int × (Bool × (Nat × (Nat × (Bool × ((List TRule) × ((List (List UInt8)) × Unit))))))))))))) := (cLine_tree x).eval
def cLine : GS Tryd.prog := ⟨26, [1, 3], cLine_ap, cLine_rp, cLine_fn, fun x r h ys m g he hg => gs_sound (cod := cod) (Γ := [itoaStr, joinStr, splitStr, parseS8, parseS64, fmtUStr, cutStr, FS.pf ipShow, FS.pf ipParse, GS.pf wNext, GS.pf wValue, GS.pf wNumber, GS.pf wPair, GS.pf wAddr, GS.pf wNet, GS.pf wBounds, GS.pf wVerdict, FS.pf ruNet, FS.pf ruBounds, FS.pf ruRight, FS.pf ruCheck, FS.pf poCheck, FS.pf confCheck, FS.pf idxS, FS.pf contS]) (Λs := []) (n := 30) ((congrArg Tr.eval (cLine_eq x)).trans h) he hg⟩
end Go.Proofs.YtjfloicmoelkmaaDoor.X
