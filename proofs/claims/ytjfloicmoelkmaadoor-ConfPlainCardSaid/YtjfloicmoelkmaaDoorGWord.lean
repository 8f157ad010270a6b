/- Functions of the program, as trees (printed by a program of mine: tool/XTool, xg.py), each with the proof that the machine comes to what its tree says. Conditions: none. -/
import Derived.Test.YtjfloicmoelkmaaDoorCod
import Derived.KernelRfl
import Derived.Test.YtjfloicmoelkmaaDoorShow
import Derived.Test.YtjfloicmoelkmaaDoorShow
import Derived.Test.YtjfloicmoelkmaaDoorSplit
import Derived.Test.YtjfloicmoelkmaaDoorConfA
import Derived.Test.YtjfloicmoelkmaaDoorConfA
import Derived.Test.YtjfloicmoelkmaaDoorConfA
import Derived.Test.YtjfloicmoelkmaaDoorConfA
namespace Go.Proofs.YtjfloicmoelkmaaDoor.X
open Go Go.RowKit Go.Proofs.YtjfloicmoelkmaaDoor.Abs
set_option maxRecDepth 100000
set_option linter.unusedVariables false
def ipShow_L21_3 : LS := ⟨3, [(3, 3)], ⟨20, [(4, .v (.one (.i .i64))), (0, .v (.one (.i .u32))), (3, .v (.one (.own 3)))], [(3, .row 9 3 true true)]⟩, [⟨some 0, [(3, 3)], ⟨20, [(3, .v (.one (.own 3)))], [(3, .row 9 3 true true)]⟩⟩], [(3, 9, 3)]⟩
def ipShow_step21_3 : (Int × (Int × ((List (List UInt8)) × Unit))) → Tr ((Int × (Int × ((List (List UInt8)) × Unit))) ⊕ ((List (List UInt8)) × Unit)) :=
  fun (a0, a1, a2, _) =>
  .ite (decide ((0 : Int) ≤ a0)) (
   .grd (decide ((0 : Int) ≤ a0)) (
   .grd (decide ((-9223372036854775808 : Int) ≤ IntKind.wrap IntKind.i64 (bits BinOp.and IntKind.u32 (Int.fdiv a1 ((2 : Int) ^ min (Int.toNat a0) (32 : Nat))) (255 : Int)) ∧ IntKind.wrap IntKind.i64 (bits BinOp.and IntKind.u32 (Int.fdiv a1 ((2 : Int) ^ min (Int.toNat a0) (32 : Nat))) (255 : Int)) ≤ (9223372036854775807 : Int))) (
   .grd (decide ((List.length a2 + List.length [Lib.itoa (IntKind.wrap IntKind.i64 (bits BinOp.and IntKind.u32 (Int.fdiv a1 ((2 : Int) ^ min (Int.toNat a0) (32 : Nat))) (255 : Int)))]) * (16 : Nat) ≤ (140737488355328 : Nat) ∧ List.length a2 + List.length [Lib.itoa (IntKind.wrap IntKind.i64 (bits BinOp.and IntKind.u32 (Int.fdiv a1 ((2 : Int) ^ min (Int.toNat a0) (32 : Nat))) (255 : Int)))] ≤ (9223372036854775807 : Nat))) (
   .grd (decide (List.length (a2 ++ [Lib.itoa (IntKind.wrap IntKind.i64 (bits BinOp.and IntKind.u32 (Int.fdiv a1 ((2 : Int) ^ min (Int.toNat a0) (32 : Nat))) (255 : Int)))]) = List.length (a2 ++ [Lib.itoa (IntKind.wrap IntKind.i64 (bits BinOp.and IntKind.u32 (Int.fdiv a1 ((2 : Int) ^ min (Int.toNat a0) (32 : Nat))) (255 : Int)))]))) (
   .ret (Sum.inl (IntKind.wrap IntKind.i64 (a0 - (8 : Int)), (a1, (a2 ++ [Lib.itoa (IntKind.wrap IntKind.i64 (bits BinOp.and IntKind.u32 (Int.fdiv a1 ((2 : Int) ^ min (Int.toNat a0) (32 : Nat))) (255 : Int)))], ()))))))))) (
   .grd (decide (List.length a2 = List.length a2)) (
   .ret (Sum.inr (a2, ()))))
def ipShow_loop21_3 (x : (Int × (Int × ((List (List UInt8)) × Unit)))) : Option ((List (List UInt8)) × Unit) := loopO 210003 (fun x => (ipShow_step21_3 x).eval) 18446744073709551616 x
def ipShow_ap : List VP1 := [.one (.i .u32)]
def ipShow_rp : SP := ⟨1, [(0, .v (.one (.s)))], []⟩
def ipShow_tree : (Int × Unit) → Tr ((List UInt8) × Unit) :=
  fun (a0, _) =>
  .grd (true) (
  .opt (β := ((List (List UInt8)) × Unit)) ((ipShow_loop21_3 ((24 : Int), (a0, ([], ()))))) (fun r0 =>
  .grd (decide (List.length r0.1 ≤ (140737488355328 : Nat) ∧ List.length (Lib.join r0.1 [(46 : UInt8)]) ≤ (140737488355328 : Nat))) (
  .ret (Lib.join r0.1 [(46 : UInt8)], ()))))
theorem ipShow_eq (x : (Int × Unit)) : fnTr Tryd.prog cod [itoaStr, joinStr, splitStr, parseS8, parseS64, fmtUStr, cutStr] [(21, ipShow_L21_3)] 30 21 ipShow_ap ipShow_rp x = ipShow_tree x := by kernel_rfl
def ipShow_fn (x : (Int × Unit)) : Option ((List UInt8) × Unit) := (ipShow_tree x).eval
def ipShow : FS Tryd.prog := ⟨21, ipShow_ap, ipShow_rp, ipShow_fn, fun x r h => fnTr_sound (cod := cod) (Γ := [itoaStr, joinStr, splitStr, parseS8, parseS64, fmtUStr, cutStr]) (Λs := [(21, ipShow_L21_3)]) (n := 30) ((congrArg Tr.eval (ipShow_eq x)).trans h)⟩
def ipParse_L54_4 : LS := ⟨4, [], ⟨36, [(14, .v (.one (.i .i64))), (4, .v (.one (.i .u32))), (12, .v (.one (.st 3 false))), (0, .v (.one (.s))), (13, .v (.one (.i .i64)))], []⟩, [⟨none, [], ⟨36, [(2, .v (.one (.i .u32))), (3, .v (.one (.i .i64)))], []⟩⟩, ⟨some 0, [], ⟨36, [(4, .v (.one (.i .u32))), (0, .v (.one (.s)))], []⟩⟩], []⟩
def ipParse_step54_4 : (Int × (Int × ((List (List UInt8)) × ((List UInt8) × (Int × Unit))))) → Tr ((Int × (Int × ((List (List UInt8)) × ((List UInt8) × (Int × Unit))))) ⊕ ((Int × (Int × Unit)) ⊕ (Int × ((List UInt8) × Unit)))) :=
  fun (a0, a1, a2, a3, a4, _) =>
  .ite (decide (a0 < a4)) (
   .grd (decide ((0 : Int) ≤ a0)) (
   .opt (β := (List UInt8)) (a2[Int.toNat a0]?) (fun r0 =>
   .grd (decide (List.length r0 ≤ (140737488355328 : Nat))) (
   .ite (parseOk (8 : Nat) r0) (
    .ite (false) (
     .ret (Sum.inr (Sum.inl ((0 : Int), ((10 : Int), ()))))) (
     .grd (true) (
     .ret (Sum.inl (IntKind.wrap IntKind.i64 (a0 + (1 : Int)), (bits BinOp.or IntKind.u32 (IntKind.wrap IntKind.u32 (a1 * (2 : Int) ^ (8 : Nat))) (IntKind.wrap IntKind.u32 (parseN (8 : Nat) r0)), (a2, (a3, (a4, ()))))))))) (
    .ite (true) (
     .ret (Sum.inr (Sum.inl ((0 : Int), ((10 : Int), ()))))) (
     .grd (true) (
     .ret (Sum.inl (IntKind.wrap IntKind.i64 (a0 + (1 : Int)), (bits BinOp.or IntKind.u32 (IntKind.wrap IntKind.u32 (a1 * (2 : Int) ^ (8 : Nat))) (IntKind.wrap IntKind.u32 (parseN (8 : Nat) r0)), (a2, (a3, (a4, ()))))))))))))) (
   .ret (Sum.inr (Sum.inr (a1, (a3, ())))))
def ipParse_loop54_4 (x : (Int × (Int × ((List (List UInt8)) × ((List UInt8) × (Int × Unit)))))) : Option ((Int × (Int × Unit)) ⊕ (Int × ((List UInt8) × Unit))) := loopO 540004 (fun x => (ipParse_step54_4 x).eval) 18446744073709551616 x
def ipParse_ap : List VP1 := [.one (.s)]
def ipParse_rp : SP := ⟨1, [(0, .tup [.one (.i .u32), .one (.i .i64)])], []⟩
def ipParse_tree : ((List UInt8) × Unit) → Tr (Int × (Int × Unit)) :=
  fun (a0, _) =>
  .grd (decide (List.length a0 < (4294967281 : Nat) ∧ (1 : Nat) ≤ List.length [(46 : UInt8)])) (
  .opt (β := ((Int × (Int × Unit)) ⊕ (Int × ((List UInt8) × Unit)))) ((ipParse_loop54_4 ((0 : Int), ((0 : Int), (splitL a0 [(46 : UInt8)], (a0, ((↑(List.length (splitL a0 [(46 : UInt8)])) : Int), ()))))))) (fun r0 =>
  .sum (β := (Int × (Int × Unit))) (γ := (Int × ((List UInt8) × Unit))) (r0) (fun r1 =>
   .ret (r1.1, (r1.2.1, ()))) (fun r1 =>
   .opt (β := ((List UInt8) × Unit)) ((ipShow_fn (r1.1, ()))) (fun r2 =>
   .ite (!decide (r2.1 = r1.2.1)) (
    .ret ((0 : Int), ((10 : Int), ()))) (
    .ret (r1.1, ((0 : Int), ())))))))
theorem ipParse_eq (x : ((List UInt8) × Unit)) : fnTr Tryd.prog cod [itoaStr, joinStr, splitStr, parseS8, parseS64, fmtUStr, cutStr, FS.pf ipShow] [(54, ipParse_L54_4)] 30 54 ipParse_ap ipParse_rp x = ipParse_tree x := by kernel_rfl
def ipParse_fn (x : ((List UInt8) × Unit)) : Option (Int × (Int × Unit)) := (ipParse_tree x).eval
def ipParse : FS Tryd.prog := ⟨54, ipParse_ap, ipParse_rp, ipParse_fn, fun x r h => fnTr_sound (cod := cod) (Γ := [itoaStr, joinStr, splitStr, parseS8, parseS64, fmtUStr, cutStr, FS.pf ipShow]) (Λs := [(54, ipParse_L54_4)]) (n := 30) ((congrArg Tr.eval (ipParse_eq x)).trans h)⟩
def wNext_ap : SP := ⟨28, [(0, .v (.one (.ptr 1000000 0)))], [(1000000, .cells [.sub 1000100 1, .b]), (1000100, .row 9 3 true true)]⟩
def wNext_rp : SP := ⟨1, [(0, .v (.one (.s)))], [(1000000, .cells [.sub 1000100 1, .b]), (1000100, .row 9 3 true true)]⟩
def wNext_tree : (Nat × (Nat × (Bool × ((List (List UInt8)) × Unit)))) → Tr ((List UInt8) × (Nat × (Nat × (Bool × ((List (List UInt8)) × Unit))))) :=
  fun (a0, a1, a2, a3, _) =>
  .ite (decide ((↑a1 : Int) = (0 : Int))) (
   .ret ([], (a0, (a1, (true, (a3, ())))))) (
   .grd (decide ((0 : Int) ≤ (0 : Int) ∧ (0 : Int) < (↑a1 : Int))) (
   .opt (β := (List UInt8)) (a3[a0 + (0 : Nat)]?) (fun r0 =>
   .grd (decide ((0 : Int) ≤ (1 : Int) ∧ (1 : Int) ≤ (↑a1 : Int) ∧ (↑a1 : Int) ≤ (↑a1 : Int))) (
   .ret (r0, (a0 + (1 : Nat), (Int.toNat ((↑a1 : Int) - (1 : Int)), (a2, (a3, ())))))))))
theorem wNext_eq (x : (Nat × (Nat × (Bool × ((List (List UInt8)) × Unit))))) : gsTr Tryd.prog cod [itoaStr, joinStr, splitStr, parseS8, parseS64, fmtUStr, cutStr, FS.pf ipShow, FS.pf ipParse] [] 30 38 wNext_ap wNext_rp x = wNext_tree x := by kernel_rfl
def wNext_fn (x : (Nat × (Nat × (Bool × ((List (List UInt8)) × Unit))))) : Option ((List UInt8) × (Nat × (Nat × (Bool × ((List (List UInt8)) × Unit))))) := (wNext_tree x).eval
def wNext : GS Tryd.prog := ⟨38, [3], wNext_ap, wNext_rp, wNext_fn, fun x r h ys m g he hg => gs_sound (cod := cod) (Γ := [itoaStr, joinStr, splitStr, parseS8, parseS64, fmtUStr, cutStr, FS.pf ipShow, FS.pf ipParse]) (Λs := []) (n := 30) ((congrArg Tr.eval (wNext_eq x)).trans h) he hg⟩
def wValue_ap : SP := ⟨36, [(0, .v (.one (.ptr 1000000 0))), (1, .v (.one (.s)))], [(1000000, .cells [.sub 1000100 1, .b]), (1000100, .row 9 3 true true)]⟩
def wValue_rp : SP := ⟨1, [(0, .v (.one (.i .i64)))], [(1000000, .cells [.sub 1000100 1, .b]), (1000100, .row 9 3 true true)]⟩
def wValue_tree : ((List UInt8) × (Nat × (Nat × (Bool × ((List (List UInt8)) × Unit))))) → Tr (Int × (Nat × (Nat × (Bool × ((List (List UInt8)) × Unit))))) :=
  fun (a0, a1, a2, a3, a4, _) =>
  .grd (decide (List.length a0 ≤ (140737488355328 : Nat))) (
  .ite (parseOk (64 : Nat) a0) (
   .ite (a3) (
    .ret (IntKind.wrap IntKind.i64 (parseN (64 : Nat) a0), (a1, (a2, (true, (a4, ())))))) (
    .ite (false) (
     .ret (IntKind.wrap IntKind.i64 (parseN (64 : Nat) a0), (a1, (a2, (true, (a4, ())))))) (
     .ite (decide ((10 : Int) < (↑(List.length a0) : Int))) (
      .ret (IntKind.wrap IntKind.i64 (parseN (64 : Nat) a0), (a1, (a2, (true, (a4, ())))))) (
      .grd (decide ((0 : Int) ≤ parseN (64 : Nat) a0 ∧ parseN (64 : Nat) a0 < (18446744073709551616 : Int))) (
      .ret (IntKind.wrap IntKind.i64 (parseN (64 : Nat) a0), (a1, (a2, (!decide (Lib.decDigits (Int.toNat (parseN (64 : Nat) a0)) = a0), (a4, ())))))))))) (
   .ite (a3) (
    .ret (IntKind.wrap IntKind.i64 (parseN (64 : Nat) a0), (a1, (a2, (true, (a4, ())))))) (
    .ite (true) (
     .ret (IntKind.wrap IntKind.i64 (parseN (64 : Nat) a0), (a1, (a2, (true, (a4, ())))))) (
     .ite (decide ((10 : Int) < (↑(List.length a0) : Int))) (
      .ret (IntKind.wrap IntKind.i64 (parseN (64 : Nat) a0), (a1, (a2, (true, (a4, ())))))) (
      .grd (decide ((0 : Int) ≤ parseN (64 : Nat) a0 ∧ parseN (64 : Nat) a0 < (18446744073709551616 : Int))) (
      .ret (IntKind.wrap IntKind.i64 (parseN (64 : Nat) a0), (a1, (a2, (!decide (Lib.decDigits (Int.toNat (parseN (64 : Nat) a0)) = a0), (a4, ())))))))))))
theorem wValue_eq (x : ((List UInt8) × (Nat × (Nat × (Bool × ((List (List UInt8)) × Unit)))))) : gsTr Tryd.prog cod [itoaStr, joinStr, splitStr, parseS8, parseS64, fmtUStr, cutStr, FS.pf ipShow, FS.pf ipParse, GS.pf wNext] [] 30 55 wValue_ap wValue_rp x = wValue_tree x := by kernel_rfl
def wValue_fn (x : ((List UInt8) × (Nat × (Nat × (Bool × ((List (List UInt8)) × Unit)))))) : Option (Int × (Nat × (Nat × (Bool × ((List (List UInt8)) × Unit))))) := (wValue_tree x).eval
def wValue : GS Tryd.prog := ⟨55, [3, 0], wValue_ap, wValue_rp, wValue_fn, fun x r h ys m g he hg => gs_sound (cod := cod) (Γ := [itoaStr, joinStr, splitStr, parseS8, parseS64, fmtUStr, cutStr, FS.pf ipShow, FS.pf ipParse, GS.pf wNext]) (Λs := []) (n := 30) ((congrArg Tr.eval (wValue_eq x)).trans h) he hg⟩
def wNumber_ap : SP := ⟨7, [(0, .v (.one (.ptr 1000000 0)))], [(1000000, .cells [.sub 1000100 1, .b]), (1000100, .row 9 3 true true)]⟩
def wNumber_rp : SP := ⟨1, [(0, .v (.one (.i .i64)))], [(1000000, .cells [.sub 1000100 1, .b]), (1000100, .row 9 3 true true)]⟩
def wNumber_tree : (Nat × (Nat × (Bool × ((List (List UInt8)) × Unit)))) → Tr (Int × (Nat × (Nat × (Bool × ((List (List UInt8)) × Unit))))) :=
  fun (a0, a1, a2, a3, _) =>
  .opt (β := ((List UInt8) × (Nat × (Nat × (Bool × ((List (List UInt8)) × Unit)))))) ((wNext_fn (a0, (a1, (a2, (a3, ())))))) (fun r0 =>
  .opt (β := (Int × (Nat × (Nat × (Bool × ((List (List UInt8)) × Unit)))))) ((wValue_fn (r0.1, (r0.2.1, (r0.2.2.1, (r0.2.2.2.1, (r0.2.2.2.2.1, ()))))))) (fun r1 =>
  .ret (r1.1, (r1.2.1, (r1.2.2.1, (r1.2.2.2.1, (r1.2.2.2.2.1, ())))))))
theorem wNumber_eq (x : (Nat × (Nat × (Bool × ((List (List UInt8)) × Unit))))) : gsTr Tryd.prog cod [itoaStr, joinStr, splitStr, parseS8, parseS64, fmtUStr, cutStr, FS.pf ipShow, FS.pf ipParse, GS.pf wNext, GS.pf wValue] [] 30 40 wNumber_ap wNumber_rp x = wNumber_tree x := by kernel_rfl
def wNumber_fn (x : (Nat × (Nat × (Bool × ((List (List UInt8)) × Unit))))) : Option (Int × (Nat × (Nat × (Bool × ((List (List UInt8)) × Unit))))) := (wNumber_tree x).eval
def wNumber : GS Tryd.prog := ⟨40, [3], wNumber_ap, wNumber_rp, wNumber_fn, fun x r h ys m g he hg => gs_sound (cod := cod) (Γ := [itoaStr, joinStr, splitStr, parseS8, parseS64, fmtUStr, cutStr, FS.pf ipShow, FS.pf ipParse, GS.pf wNext, GS.pf wValue]) (Λs := []) (n := 30) ((congrArg Tr.eval (wNumber_eq x)).trans h) he hg⟩
def wPair_ap : SP := ⟨30, [(0, .v (.one (.ptr 1000000 0))), (1, .v (.one (.s)))], [(1000000, .cells [.sub 1000100 1, .b]), (1000100, .row 9 3 true true)]⟩
def wPair_rp : SP := ⟨1, [(0, .tup [.one (.s), .one (.s)])], [(1000000, .cells [.sub 1000100 1, .b]), (1000100, .row 9 3 true true)]⟩
def wPair_tree : ((List UInt8) × (Nat × (Nat × (Bool × ((List (List UInt8)) × Unit))))) → Tr ((List UInt8) × ((List UInt8) × (Nat × (Nat × (Bool × ((List (List UInt8)) × Unit)))))) :=
  fun (a0, a1, a2, a3, a4, _) =>
  .opt (β := ((List UInt8) × (Nat × (Nat × (Bool × ((List (List UInt8)) × Unit)))))) ((wNext_fn (a1, (a2, (a3, (a4, ())))))) (fun r0 =>
  .grd (decide (List.length r0.1 < (4294967281 : Nat))) (
  .ite (r0.2.2.2.1) (
   .ret ((Lib.cut r0.1 a0).fst, ((Lib.cut r0.1 a0).snd.fst, (r0.2.1, (r0.2.2.1, (true, (r0.2.2.2.2.1, ()))))))) (
   .ret ((Lib.cut r0.1 a0).fst, ((Lib.cut r0.1 a0).snd.fst, (r0.2.1, (r0.2.2.1, (!(Lib.cut r0.1 a0).snd.snd, (r0.2.2.2.2.1, ())))))))))
theorem wPair_eq (x : ((List UInt8) × (Nat × (Nat × (Bool × ((List (List UInt8)) × Unit)))))) : gsTr Tryd.prog cod [itoaStr, joinStr, splitStr, parseS8, parseS64, fmtUStr, cutStr, FS.pf ipShow, FS.pf ipParse, GS.pf wNext, GS.pf wValue, GS.pf wNumber] [] 30 56 wPair_ap wPair_rp x = wPair_tree x := by kernel_rfl
def wPair_fn (x : ((List UInt8) × (Nat × (Nat × (Bool × ((List (List UInt8)) × Unit)))))) : Option ((List UInt8) × ((List UInt8) × (Nat × (Nat × (Bool × ((List (List UInt8)) × Unit)))))) := (wPair_tree x).eval
def wPair : GS Tryd.prog := ⟨56, [3, 0], wPair_ap, wPair_rp, wPair_fn, fun x r h ys m g he hg => gs_sound (cod := cod) (Γ := [itoaStr, joinStr, splitStr, parseS8, parseS64, fmtUStr, cutStr, FS.pf ipShow, FS.pf ipParse, GS.pf wNext, GS.pf wValue, GS.pf wNumber]) (Λs := []) (n := 30) ((congrArg Tr.eval (wPair_eq x)).trans h) he hg⟩
def wAddr_ap : SP := ⟨24, [(0, .v (.one (.ptr 1000000 0))), (1, .v (.one (.s)))], [(1000000, .cells [.sub 1000100 1, .b]), (1000100, .row 9 3 true true)]⟩
def wAddr_rp : SP := ⟨1, [(0, .v (.one (.i .u32)))], [(1000000, .cells [.sub 1000100 1, .b]), (1000100, .row 9 3 true true)]⟩
def wAddr_tree : ((List UInt8) × (Nat × (Nat × (Bool × ((List (List UInt8)) × Unit))))) → Tr (Int × (Nat × (Nat × (Bool × ((List (List UInt8)) × Unit))))) :=
  fun (a0, a1, a2, a3, a4, _) =>
  .opt (β := (Int × (Int × Unit))) ((ipParse_fn (a0, ()))) (fun r0 =>
  .ite (a3) (
   .ret (r0.1, (a1, (a2, (true, (a4, ())))))) (
   .ret (r0.1, (a1, (a2, (!decide (r0.2.1 = (0 : Int)), (a4, ())))))))
theorem wAddr_eq (x : ((List UInt8) × (Nat × (Nat × (Bool × ((List (List UInt8)) × Unit)))))) : gsTr Tryd.prog cod [itoaStr, joinStr, splitStr, parseS8, parseS64, fmtUStr, cutStr, FS.pf ipShow, FS.pf ipParse, GS.pf wNext, GS.pf wValue, GS.pf wNumber, GS.pf wPair] [] 30 39 wAddr_ap wAddr_rp x = wAddr_tree x := by kernel_rfl
def wAddr_fn (x : ((List UInt8) × (Nat × (Nat × (Bool × ((List (List UInt8)) × Unit)))))) : Option (Int × (Nat × (Nat × (Bool × ((List (List UInt8)) × Unit))))) := (wAddr_tree x).eval
def wAddr : GS Tryd.prog := ⟨39, [3, 0], wAddr_ap, wAddr_rp, wAddr_fn, fun x r h ys m g he hg => gs_sound (cod := cod) (Γ := [itoaStr, joinStr, splitStr, parseS8, parseS64, fmtUStr, cutStr, FS.pf ipShow, FS.pf ipParse, GS.pf wNext, GS.pf wValue, GS.pf wNumber, GS.pf wPair]) (Λs := []) (n := 30) ((congrArg Tr.eval (wAddr_eq x)).trans h) he hg⟩
def wNet_ap : SP := ⟨17, [(0, .v (.one (.ptr 1000000 0)))], [(1000000, .cells [.sub 1000100 1, .b]), (1000100, .row 9 3 true true)]⟩
def wNet_rp : SP := ⟨1, [(0, .v (.agg [.i .u32, .i .i64]))], [(1000000, .cells [.sub 1000100 1, .b]), (1000100, .row 9 3 true true)]⟩
def wNet_tree : (Nat × (Nat × (Bool × ((List (List UInt8)) × Unit)))) → Tr (Int × (Int × (Nat × (Nat × (Bool × ((List (List UInt8)) × Unit)))))) :=
  fun (a0, a1, a2, a3, _) =>
  .opt (β := ((List UInt8) × ((List UInt8) × (Nat × (Nat × (Bool × ((List (List UInt8)) × Unit))))))) ((wPair_fn ([(47 : UInt8)], (a0, (a1, (a2, (a3, ()))))))) (fun r0 =>
  .opt (β := (Int × (Nat × (Nat × (Bool × ((List (List UInt8)) × Unit)))))) ((wAddr_fn (r0.1, (r0.2.2.1, (r0.2.2.2.1, (r0.2.2.2.2.1, (r0.2.2.2.2.2.1, ()))))))) (fun r1 =>
  .opt (β := (Int × (Nat × (Nat × (Bool × ((List (List UInt8)) × Unit)))))) ((wValue_fn (r0.2.1, (r1.2.1, (r1.2.2.1, (r1.2.2.2.1, (r1.2.2.2.2.1, ()))))))) (fun r2 =>
  .ret (r1.1, (r2.1, (r2.2.1, (r2.2.2.1, (r2.2.2.2.1, (r2.2.2.2.2.1, ())))))))))
theorem wNet_eq (x : (Nat × (Nat × (Bool × ((List (List UInt8)) × Unit))))) : gsTr Tryd.prog cod [itoaStr, joinStr, splitStr, parseS8, parseS64, fmtUStr, cutStr, FS.pf ipShow, FS.pf ipParse, GS.pf wNext, GS.pf wValue, GS.pf wNumber, GS.pf wPair, GS.pf wAddr] [] 30 42 wNet_ap wNet_rp x = wNet_tree x := by kernel_rfl
def wNet_fn (x : (Nat × (Nat × (Bool × ((List (List UInt8)) × Unit))))) : Option (Int × (Int × (Nat × (Nat × (Bool × ((List (List UInt8)) × Unit)))))) := (wNet_tree x).eval
def wNet : GS Tryd.prog := ⟨42, [3], wNet_ap, wNet_rp, wNet_fn, fun x r h ys m g he hg => gs_sound (cod := cod) (Γ := [itoaStr, joinStr, splitStr, parseS8, parseS64, fmtUStr, cutStr, FS.pf ipShow, FS.pf ipParse, GS.pf wNext, GS.pf wValue, GS.pf wNumber, GS.pf wPair, GS.pf wAddr]) (Λs := []) (n := 30) ((congrArg Tr.eval (wNet_eq x)).trans h) he hg⟩
def wBounds_ap : SP := ⟨17, [(0, .v (.one (.ptr 1000000 0)))], [(1000000, .cells [.sub 1000100 1, .b]), (1000100, .row 9 3 true true)]⟩
def wBounds_rp : SP := ⟨1, [(0, .tup [.one (.i .i64), .one (.i .i64)])], [(1000000, .cells [.sub 1000100 1, .b]), (1000100, .row 9 3 true true)]⟩
def wBounds_tree : (Nat × (Nat × (Bool × ((List (List UInt8)) × Unit)))) → Tr (Int × (Int × (Nat × (Nat × (Bool × ((List (List UInt8)) × Unit)))))) :=
  fun (a0, a1, a2, a3, _) =>
  .opt (β := ((List UInt8) × ((List UInt8) × (Nat × (Nat × (Bool × ((List (List UInt8)) × Unit))))))) ((wPair_fn ([(45 : UInt8)], (a0, (a1, (a2, (a3, ()))))))) (fun r0 =>
  .opt (β := (Int × (Nat × (Nat × (Bool × ((List (List UInt8)) × Unit)))))) ((wValue_fn (r0.1, (r0.2.2.1, (r0.2.2.2.1, (r0.2.2.2.2.1, (r0.2.2.2.2.2.1, ()))))))) (fun r1 =>
  .opt (β := (Int × (Nat × (Nat × (Bool × ((List (List UInt8)) × Unit)))))) ((wValue_fn (r0.2.1, (r1.2.1, (r1.2.2.1, (r1.2.2.2.1, (r1.2.2.2.2.1, ()))))))) (fun r2 =>
  .ret (r1.1, (r2.1, (r2.2.1, (r2.2.2.1, (r2.2.2.2.1, (r2.2.2.2.2.1, ())))))))))
theorem wBounds_eq (x : (Nat × (Nat × (Bool × ((List (List UInt8)) × Unit))))) : gsTr Tryd.prog cod [itoaStr, joinStr, splitStr, parseS8, parseS64, fmtUStr, cutStr, FS.pf ipShow, FS.pf ipParse, GS.pf wNext, GS.pf wValue, GS.pf wNumber, GS.pf wPair, GS.pf wAddr, GS.pf wNet] [] 30 43 wBounds_ap wBounds_rp x = wBounds_tree x := by kernel_rfl
def wBounds_fn (x : (Nat × (Nat × (Bool × ((List (List UInt8)) × Unit))))) : Option (Int × (Int × (Nat × (Nat × (Bool × ((List (List UInt8)) × Unit)))))) := (wBounds_tree x).eval
def wBounds : GS Tryd.prog := ⟨43, [3], wBounds_ap, wBounds_rp, wBounds_fn, fun x r h ys m g he hg => gs_sound (cod := cod) (Γ := [itoaStr, joinStr, splitStr, parseS8, parseS64, fmtUStr, cutStr, FS.pf ipShow, FS.pf ipParse, GS.pf wNext, GS.pf wValue, GS.pf wNumber, GS.pf wPair, GS.pf wAddr, GS.pf wNet]) (Λs := []) (n := 30) ((congrArg Tr.eval (wBounds_eq x)).trans h) he hg⟩
def wVerdict_ap : SP := ⟨22, [(0, .v (.one (.ptr 1000000 0))), (1, .v (.one (.s)))], [(1000000, .cells [.sub 1000100 1, .b]), (1000100, .row 9 3 true true)]⟩
def wVerdict_rp : SP := ⟨1, [(0, .v (.one (.b)))], [(1000000, .cells [.sub 1000100 1, .b]), (1000100, .row 9 3 true true)]⟩
def wVerdict_tree : ((List UInt8) × (Nat × (Nat × (Bool × ((List (List UInt8)) × Unit))))) → Tr (Bool × (Nat × (Nat × (Bool × ((List (List UInt8)) × Unit))))) :=
  fun (a0, a1, a2, a3, a4, _) =>
  .ite (a3) (
   .ret (decide (a0 = [(112 : UInt8), (97 : UInt8), (115 : UInt8), (115 : UInt8)]), (a1, (a2, (true, (a4, ())))))) (
   .ite (!decide (a0 = [(112 : UInt8), (97 : UInt8), (115 : UInt8), (115 : UInt8)])) (
    .ret (decide (a0 = [(112 : UInt8), (97 : UInt8), (115 : UInt8), (115 : UInt8)]), (a1, (a2, (!decide (a0 = [(100 : UInt8), (114 : UInt8), (111 : UInt8), (112 : UInt8)]), (a4, ())))))) (
    .ret (decide (a0 = [(112 : UInt8), (97 : UInt8), (115 : UInt8), (115 : UInt8)]), (a1, (a2, (false, (a4, ())))))))
theorem wVerdict_eq (x : ((List UInt8) × (Nat × (Nat × (Bool × ((List (List UInt8)) × Unit)))))) : gsTr Tryd.prog cod [itoaStr, joinStr, splitStr, parseS8, parseS64, fmtUStr, cutStr, FS.pf ipShow, FS.pf ipParse, GS.pf wNext, GS.pf wValue, GS.pf wNumber, GS.pf wPair, GS.pf wAddr, GS.pf wNet, GS.pf wBounds] [] 30 41 wVerdict_ap wVerdict_rp x = wVerdict_tree x := by kernel_rfl
def wVerdict_fn (x : ((List UInt8) × (Nat × (Nat × (Bool × ((List (List UInt8)) × Unit)))))) : Option (Bool × (Nat × (Nat × (Bool × ((List (List UInt8)) × Unit))))) := (wVerdict_tree x).eval
def wVerdict : GS Tryd.prog := ⟨41, [3, 0], wVerdict_ap, wVerdict_rp, wVerdict_fn, fun x r h ys m g he hg => gs_sound (cod := cod) (Γ := [itoaStr, joinStr, splitStr, parseS8, parseS64, fmtUStr, cutStr, FS.pf ipShow, FS.pf ipParse, GS.pf wNext, GS.pf wValue, GS.pf wNumber, GS.pf wPair, GS.pf wAddr, GS.pf wNet, GS.pf wBounds]) (Λs := []) (n := 30) ((congrArg Tr.eval (wVerdict_eq x)).trans h) he hg⟩
end Go.Proofs.YtjfloicmoelkmaaDoor.X
