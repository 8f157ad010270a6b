/- Functions of the program, as trees (printed by a program of mine: tool/XTool, xg.py), each with the proof that the machine comes to what its tree says. Conditions: none. -/
import Derived.Test.YtkfpdgibaadmbaaDoorCod
import Derived.KernelRfl
import Derived.Test.YtkfpdgibaadmbaaDoorGIp
import Derived.Test.YtkfpdgibaadmbaaDoorShow
import Derived.Test.YtkfpdgibaadmbaaDoorShow
import Derived.Test.YtkfpdgibaadmbaaDoorSplit
import Derived.Test.YtkfpdgibaadmbaaDoorSplit
namespace Go.Proofs.YtkfpdgibaadmbaaDoor.X
open Go Go.RowKit Go.Proofs.YtkfpdgibaadmbaaDoor.Abs
set_option maxRecDepth 100000
set_option linter.unusedVariables false
def ipShow_L12_3 : LS := ⟨3, [(3, 3)], ⟨20, [(4, .v (.one (.i .i64))), (0, .v (.one (.i .u32))), (3, .v (.one (.own 3)))], [(3, .row 9 3 true true)]⟩, [⟨some 0, [(3, 3)], ⟨20, [(3, .v (.one (.own 3)))], [(3, .row 9 3 true true)]⟩⟩], [(3, 9, 3)]⟩
def ipShow_step12_3 : (Int × (Int × ((List (List UInt8)) × Unit))) → Tr ((Int × (Int × ((List (List UInt8)) × Unit))) ⊕ ((List (List UInt8)) × Unit)) :=
  fun (a0, a1, a2, _) =>
  .ite (decide ((0 : Int) ≤ a0)) (
   .grd (decide ((0 : Int) ≤ a0)) (
   .grd (decide ((-9223372036854775808 : Int) ≤ IntKind.wrap IntKind.i64 (bits BinOp.and IntKind.u32 (Int.fdiv a1 ((2 : Int) ^ min (Int.toNat a0) (32 : Nat))) (255 : Int)) ∧ IntKind.wrap IntKind.i64 (bits BinOp.and IntKind.u32 (Int.fdiv a1 ((2 : Int) ^ min (Int.toNat a0) (32 : Nat))) (255 : Int)) ≤ (9223372036854775807 : Int))) (
   .grd (decide ((List.length a2 + List.length [Lib.itoa (IntKind.wrap IntKind.i64 (bits BinOp.and IntKind.u32 (Int.fdiv a1 ((2 : Int) ^ min (Int.toNat a0) (32 : Nat))) (255 : Int)))]) * (16 : Nat) ≤ (140737488355328 : Nat) ∧ List.length a2 + List.length [Lib.itoa (IntKind.wrap IntKind.i64 (bits BinOp.and IntKind.u32 (Int.fdiv a1 ((2 : Int) ^ min (Int.toNat a0) (32 : Nat))) (255 : Int)))] ≤ (9223372036854775807 : Nat))) (
   .grd (decide (List.length (a2 ++ [Lib.itoa (IntKind.wrap IntKind.i64 (bits BinOp.and IntKind.u32 (Int.fdiv a1 ((2 : Int) ^ min (Int.toNat a0) (32 : Nat))) (255 : Int)))]) = List.length (a2 ++ [Lib.itoa (IntKind.wrap IntKind.i64 (bits BinOp.and IntKind.u32 (Int.fdiv a1 ((2 : Int) ^ min (Int.toNat a0) (32 : Nat))) (255 : Int)))]))) (
   .ret (Sum.inl (IntKind.wrap IntKind.i64 (a0 - (8 : Int)), (a1, (a2 ++ [Lib.itoa (IntKind.wrap IntKind.i64 (bits BinOp.and IntKind.u32 (Int.fdiv a1 ((2 : Int) ^ min (Int.toNat a0) (32 : Nat))) (255 : Int)))], ()))))))))) (
   .grd (decide (List.length a2 = List.length a2)) (
   .ret (Sum.inr (a2, ()))))
def ipShow_loop12_3 (x : (Int × (Int × ((List (List UInt8)) × Unit)))) : Option ((List (List UInt8)) × Unit) := loopO 120003 (fun x => (ipShow_step12_3 x).eval) 18446744073709551616 x
def ipShow_ap : List VP1 := [.one (.i .u32)]
def ipShow_rp : SP := ⟨1, [(0, .v (.one (.s)))], []⟩
def ipShow_tree : (Int × Unit) → Tr ((List UInt8) × Unit) :=
  fun (a0, _) =>
  .grd (true) (
  .opt (β := ((List (List UInt8)) × Unit)) ((ipShow_loop12_3 ((24 : Int), (a0, ([], ()))))) (fun r0 =>
  .grd (decide (List.length r0.1 ≤ (140737488355328 : Nat) ∧ List.length (Lib.join r0.1 [(46 : UInt8)]) ≤ (140737488355328 : Nat))) (
  .ret (Lib.join r0.1 [(46 : UInt8)], ()))))
theorem ipShow_eq (x : (Int × Unit)) : fnTr Tryd.prog cod [FS.pf sumFold, FS.pf sumAdd, FS.pf sumOf, FS.pf sumRight, FS.pf sumFix, FS.pf ipWordAt, FS.pf ipLongAt, FS.pf ipByt, FS.pf ipRefused, FS.pf ipWord, FS.pf ipLong, FS.pf ipWrite, FS.pf ipRead, itoaStr, joinStr, splitStr, parseU8] [(12, ipShow_L12_3)] 30 12 ipShow_ap ipShow_rp x = ipShow_tree x := by kernel_rfl
def ipShow_fn (x : (Int × Unit)) : Option ((List UInt8) × Unit) := (ipShow_tree x).eval
def ipShow : FS Tryd.prog := ⟨12, ipShow_ap, ipShow_rp, ipShow_fn, fun x r h => fnTr_sound (cod := cod) (Γ := [FS.pf sumFold, FS.pf sumAdd, FS.pf sumOf, FS.pf sumRight, FS.pf sumFix, FS.pf ipWordAt, FS.pf ipLongAt, FS.pf ipByt, FS.pf ipRefused, FS.pf ipWord, FS.pf ipLong, FS.pf ipWrite, FS.pf ipRead, itoaStr, joinStr, splitStr, parseU8]) (Λs := [(12, ipShow_L12_3)]) (n := 30) ((congrArg Tr.eval (ipShow_eq x)).trans h)⟩
def ipLives_ap : List VP1 := []
def ipLives_rp : SP := ⟨1, [(0, .v (.one (.b)))], []⟩
def ipLives_tree : Unit → Tr (Bool × Unit) :=
  fun (_) =>
  .opt (β := ((List UInt8) × (Int × Unit))) ((ipWrite_fn ((0 : Int), ((0 : Int), (true, (false, ((0 : Int), ((64 : Int), ((17 : Int), ((3232235521 : Int), ((3232235719 : Int), ([], ([(120 : UInt8)], ()))))))))))))) (fun r0 =>
  .opt (β := (Int × (Int × (Bool × (Bool × (Int × (Int × (Int × (Int × (Int × ((List UInt8) × ((List UInt8) × (Int × Unit))))))))))))) ((ipRead_fn (r0.1, ()))) (fun r1 =>
  .ite (decide (r0.2.1 = (0 : Int))) (
   .ite (decide (r1.2.2.2.2.2.2.2.2.2.2.2.1 = (0 : Int))) (
    .ite (decide ((↑(List.length r0.1) : Int) = (21 : Int))) (
     .grd (decide ((0 : Int) ≤ (0 : Int) ∧ (0 : Int) ≤ (2 : Int) ∧ (2 : Int) ≤ (↑(List.length r0.1) : Int))) (
     .ite (decide (List.drop (0 : Nat) (List.take (2 : Nat) r0.1) = [(69 : UInt8), (0 : UInt8)])) (
      .grd (decide ((0 : Int) ≤ (0 : Int) ∧ (0 : Int) ≤ (20 : Int) ∧ (20 : Int) ≤ (↑(List.length r0.1) : Int))) (
      .opt (β := (Bool × Unit)) ((sumRight_fn (List.drop (0 : Nat) (List.take (20 : Nat) r0.1), ()))) (fun r2 =>
      .ite (r2.1) (
       .ite (decide (r1.2.2.2.2.2.1 = (64 : Int))) (
        .opt (β := ((List UInt8) × Unit)) ((ipShow_fn (r1.2.2.2.2.2.2.2.2.1, ()))) (fun r3 =>
        .ret (decide (r3.1 = [(49 : UInt8), (57 : UInt8), (50 : UInt8), (46 : UInt8), (49 : UInt8), (54 : UInt8), (56 : UInt8), (46 : UInt8), (48 : UInt8), (46 : UInt8), (49 : UInt8), (57 : UInt8), (57 : UInt8)]), ()))) (
        .ret (false, ()))) (
       .ret (false, ()))))) (
      .ret (false, ())))) (
     .ret (false, ()))) (
    .ret (false, ()))) (
   .ret (false, ()))))
theorem ipLives_eq (x : Unit) : fnTr Tryd.prog cod [FS.pf sumFold, FS.pf sumAdd, FS.pf sumOf, FS.pf sumRight, FS.pf sumFix, FS.pf ipWordAt, FS.pf ipLongAt, FS.pf ipByt, FS.pf ipRefused, FS.pf ipWord, FS.pf ipLong, FS.pf ipWrite, FS.pf ipRead, itoaStr, joinStr, splitStr, parseU8, FS.pf ipShow] [] 30 7 ipLives_ap ipLives_rp x = ipLives_tree x := by kernel_rfl
def ipLives_fn (x : Unit) : Option (Bool × Unit) := (ipLives_tree x).eval
def ipLives : FS Tryd.prog := ⟨7, ipLives_ap, ipLives_rp, ipLives_fn, fun x r h => fnTr_sound (cod := cod) (Γ := [FS.pf sumFold, FS.pf sumAdd, FS.pf sumOf, FS.pf sumRight, FS.pf sumFix, FS.pf ipWordAt, FS.pf ipLongAt, FS.pf ipByt, FS.pf ipRefused, FS.pf ipWord, FS.pf ipLong, FS.pf ipWrite, FS.pf ipRead, itoaStr, joinStr, splitStr, parseU8, FS.pf ipShow]) (Λs := []) (n := 30) ((congrArg Tr.eval (ipLives_eq x)).trans h)⟩
def ipParse_L11_4 : LS := ⟨4, [], ⟨36, [(14, .v (.one (.i .i64))), (4, .v (.one (.i .u32))), (12, .v (.one (.st 3 false))), (0, .v (.one (.s))), (13, .v (.one (.i .i64)))], []⟩, [⟨none, [], ⟨36, [(2, .v (.one (.i .u32))), (3, .v (.one (.i .i64)))], []⟩⟩, ⟨some 0, [], ⟨36, [(4, .v (.one (.i .u32))), (0, .v (.one (.s)))], []⟩⟩], []⟩
def ipParse_step11_4 : (Int × (Int × ((List (List UInt8)) × ((List UInt8) × (Int × Unit))))) → Tr ((Int × (Int × ((List (List UInt8)) × ((List UInt8) × (Int × Unit))))) ⊕ ((Int × (Int × Unit)) ⊕ (Int × ((List UInt8) × Unit)))) :=
  fun (a0, a1, a2, a3, a4, _) =>
  .ite (decide (a0 < a4)) (
   .grd (decide ((0 : Int) ≤ a0)) (
   .opt (β := (List UInt8)) (a2[Int.toNat a0]?) (fun r0 =>
   .grd (decide (List.length r0 ≤ (140737488355328 : Nat))) (
   .opt (β := Nat) (okNum (Lib.parseUintB (8 : Nat) r0)) (fun r1 =>
   .ite (false) (
    .ret (Sum.inr (Sum.inl ((0 : Int), ((10 : Int), ()))))) (
    .grd (true) (
    .ret (Sum.inl (IntKind.wrap IntKind.i64 (a0 + (1 : Int)), (bits BinOp.or IntKind.u32 (IntKind.wrap IntKind.u32 (a1 * (2 : Int) ^ (8 : Nat))) (IntKind.wrap IntKind.u32 (↑r1 : Int)), (a2, (a3, (a4, ()))))))))))))) (
   .ret (Sum.inr (Sum.inr (a1, (a3, ())))))
def ipParse_loop11_4 (x : (Int × (Int × ((List (List UInt8)) × ((List UInt8) × (Int × Unit)))))) : Option ((Int × (Int × Unit)) ⊕ (Int × ((List UInt8) × Unit))) := loopO 110004 (fun x => (ipParse_step11_4 x).eval) 18446744073709551616 x
def ipParse_ap : List VP1 := [.one (.s)]
def ipParse_rp : SP := ⟨1, [(0, .tup [.one (.i .u32), .one (.i .i64)])], []⟩
def ipParse_tree : ((List UInt8) × Unit) → Tr (Int × (Int × Unit)) :=
  fun (a0, _) =>
  .grd (decide (List.length a0 < (4294967281 : Nat) ∧ (1 : Nat) ≤ List.length [(46 : UInt8)])) (
  .opt (β := ((Int × (Int × Unit)) ⊕ (Int × ((List UInt8) × Unit)))) ((ipParse_loop11_4 ((0 : Int), ((0 : Int), (splitL a0 [(46 : UInt8)], (a0, ((↑(List.length (splitL a0 [(46 : UInt8)])) : Int), ()))))))) (fun r0 =>
  .sum (β := (Int × (Int × Unit))) (γ := (Int × ((List UInt8) × Unit))) (r0) (fun r1 =>
   .ret (r1.1, (r1.2.1, ()))) (fun r1 =>
   .opt (β := ((List UInt8) × Unit)) ((ipShow_fn (r1.1, ()))) (fun r2 =>
   .ite (!decide (r2.1 = r1.2.1)) (
    .ret ((0 : Int), ((10 : Int), ()))) (
    .ret (r1.1, ((0 : Int), ())))))))
theorem ipParse_eq (x : ((List UInt8) × Unit)) : fnTr Tryd.prog cod [FS.pf sumFold, FS.pf sumAdd, FS.pf sumOf, FS.pf sumRight, FS.pf sumFix, FS.pf ipWordAt, FS.pf ipLongAt, FS.pf ipByt, FS.pf ipRefused, FS.pf ipWord, FS.pf ipLong, FS.pf ipWrite, FS.pf ipRead, itoaStr, joinStr, splitStr, parseU8, FS.pf ipShow, FS.pf ipLives] [(11, ipParse_L11_4)] 30 11 ipParse_ap ipParse_rp x = ipParse_tree x := by kernel_rfl
def ipParse_fn (x : ((List UInt8) × Unit)) : Option (Int × (Int × Unit)) := (ipParse_tree x).eval
def ipParse : FS Tryd.prog := ⟨11, ipParse_ap, ipParse_rp, ipParse_fn, fun x r h => fnTr_sound (cod := cod) (Γ := [FS.pf sumFold, FS.pf sumAdd, FS.pf sumOf, FS.pf sumRight, FS.pf sumFix, FS.pf ipWordAt, FS.pf ipLongAt, FS.pf ipByt, FS.pf ipRefused, FS.pf ipWord, FS.pf ipLong, FS.pf ipWrite, FS.pf ipRead, itoaStr, joinStr, splitStr, parseU8, FS.pf ipShow, FS.pf ipLives]) (Λs := [(11, ipParse_L11_4)]) (n := 30) ((congrArg Tr.eval (ipParse_eq x)).trans h)⟩
def ipBack_ap : List VP1 := [.agg [.i .i64, .i .i64, .b, .b, .i .i64, .i .i64, .i .i64, .i .u32, .i .u32, .s, .s], .one (.s), .one (.i .u32)]
def ipBack_rp : SP := ⟨1, [(0, .v (.one (.b)))], []⟩
def ipBack_tree : (Int × (Int × (Bool × (Bool × (Int × (Int × (Int × (Int × (Int × ((List UInt8) × ((List UInt8) × ((List UInt8) × (Int × Unit))))))))))))) → Tr (Bool × Unit) :=
  fun (a0, a1, a2, a3, a4, a5, a6, a7, a8, a9, a10, a11, a12, _) =>
  .opt (β := ((List UInt8) × (Int × Unit))) ((ipWrite_fn (a0, (a1, (a2, (a3, (a4, (a5, (a6, (a7, (a8, (a9, (a10, ()))))))))))))) (fun r0 =>
  .ite (decide (r0.2.1 = (0 : Int))) (
   .opt (β := (Int × (Int × (Bool × (Bool × (Int × (Int × (Int × (Int × (Int × ((List UInt8) × ((List UInt8) × (Int × Unit))))))))))))) ((ipRead_fn (r0.1, ()))) (fun r1 =>
   .grd (decide (List.length r0.1 + List.length a11 ≤ (9223372036854775807 : Nat))) (
   .opt (β := (Int × (Int × (Bool × (Bool × (Int × (Int × (Int × (Int × (Int × ((List UInt8) × ((List UInt8) × (Int × Unit))))))))))))) ((ipRead_fn (r0.1 ++ a11, ()))) (fun r2 =>
   .ite (!decide (r1.2.2.2.2.2.2.2.2.2.2.2.1 = (0 : Int))) (
    .ret (false, ())) (
    .ite (!(decide (r1.1 = a0) && (decide (r1.2.1 = a1) && (r1.2.2.1 == a2 && (r1.2.2.2.1 == a3 && (decide (r1.2.2.2.2.1 = a4) && (decide (r1.2.2.2.2.2.1 = a5) && (decide (r1.2.2.2.2.2.2.1 = a6) && (decide (r1.2.2.2.2.2.2.2.1 = a7) && (decide (r1.2.2.2.2.2.2.2.2.1 = a8) && (decide (r1.2.2.2.2.2.2.2.2.2.1 = a9) && (decide (r1.2.2.2.2.2.2.2.2.2.2.1 = a10) && true)))))))))))) (
     .ret (false, ())) (
     .ite (!decide (r2.2.2.2.2.2.2.2.2.2.2.2.1 = (0 : Int))) (
      .ret (false, ())) (
      .ite (!(decide (r2.1 = a0) && (decide (r2.2.1 = a1) && (r2.2.2.1 == a2 && (r2.2.2.2.1 == a3 && (decide (r2.2.2.2.2.1 = a4) && (decide (r2.2.2.2.2.2.1 = a5) && (decide (r2.2.2.2.2.2.2.1 = a6) && (decide (r2.2.2.2.2.2.2.2.1 = a7) && (decide (r2.2.2.2.2.2.2.2.2.1 = a8) && (decide (r2.2.2.2.2.2.2.2.2.2.1 = a9) && (decide (r2.2.2.2.2.2.2.2.2.2.2.1 = a10) && true)))))))))))) (
       .ret (false, ())) (
       .grd (decide ((0 : Int) ≤ (0 : Int) ∧ (0 : Int) ≤ IntKind.wrap IntKind.i64 ((20 : Int) + (↑(List.length a9) : Int)) ∧ IntKind.wrap IntKind.i64 ((20 : Int) + (↑(List.length a9) : Int)) ≤ (↑(List.length r0.1) : Int))) (
       .opt (β := (Bool × Unit)) ((sumRight_fn (List.drop (0 : Nat) (List.take (Int.toNat (IntKind.wrap IntKind.i64 ((20 : Int) + (↑(List.length a9) : Int)))) r0.1), ()))) (fun r3 =>
       .ite (!r3.1) (
        .ret (false, ())) (
        .opt (β := (Int × (Int × (Bool × (Bool × (Int × (Int × (Int × (Int × (Int × ((List UInt8) × ((List UInt8) × (Int × Unit))))))))))))) ((ipRead_fn (a11, ()))) (fun r4 =>
        .ite (decide (r4.2.2.2.2.2.2.2.2.2.2.2.1 = (0 : Int))) (
         .opt (β := ((List UInt8) × (Int × Unit))) ((ipWrite_fn (r4.1, (r4.2.1, (r4.2.2.1, (r4.2.2.2.1, (r4.2.2.2.2.1, (r4.2.2.2.2.2.1, (r4.2.2.2.2.2.2.1, (r4.2.2.2.2.2.2.2.1, (r4.2.2.2.2.2.2.2.2.1, (r4.2.2.2.2.2.2.2.2.2.1, (r4.2.2.2.2.2.2.2.2.2.2.1, ()))))))))))))) (fun r5 =>
         .opt (β := (Int × (Int × (Bool × (Bool × (Int × (Int × (Int × (Int × (Int × ((List UInt8) × ((List UInt8) × (Int × Unit))))))))))))) ((ipRead_fn (r5.1, ()))) (fun r6 =>
         .ite (!decide (r5.2.1 = (0 : Int))) (
          .ret (false, ())) (
          .ite (!decide (r6.2.2.2.2.2.2.2.2.2.2.2.1 = (0 : Int))) (
           .ret (false, ())) (
           .ite (!(decide (r6.1 = r4.1) && (decide (r6.2.1 = r4.2.1) && (r6.2.2.1 == r4.2.2.1 && (r6.2.2.2.1 == r4.2.2.2.1 && (decide (r6.2.2.2.2.1 = r4.2.2.2.2.1) && (decide (r6.2.2.2.2.2.1 = r4.2.2.2.2.2.1) && (decide (r6.2.2.2.2.2.2.1 = r4.2.2.2.2.2.2.1) && (decide (r6.2.2.2.2.2.2.2.1 = r4.2.2.2.2.2.2.2.1) && (decide (r6.2.2.2.2.2.2.2.2.1 = r4.2.2.2.2.2.2.2.2.1) && (decide (r6.2.2.2.2.2.2.2.2.2.1 = r4.2.2.2.2.2.2.2.2.2.1) && (decide (r6.2.2.2.2.2.2.2.2.2.2.1 = r4.2.2.2.2.2.2.2.2.2.2.1) && true)))))))))))) (
            .ret (false, ())) (
            .ite (decide ((↑(List.length a11) : Int) < (↑(List.length r5.1) : Int))) (
             .ret (false, ())) (
             .grd (decide ((0 : Int) ≤ (0 : Int) ∧ (0 : Int) ≤ (10 : Int) ∧ (10 : Int) ≤ (↑(List.length r5.1) : Int))) (
             .grd (decide ((0 : Int) ≤ (0 : Int) ∧ (0 : Int) ≤ (10 : Int) ∧ (10 : Int) ≤ (↑(List.length a11) : Int))) (
             .ite (!decide (List.drop (0 : Nat) (List.take (10 : Nat) r5.1) = List.drop (0 : Nat) (List.take (10 : Nat) a11))) (
              .ret (false, ())) (
              .grd (decide ((0 : Int) ≤ (12 : Int) ∧ (12 : Int) ≤ (↑(List.length r5.1) : Int) ∧ (↑(List.length r5.1) : Int) ≤ (↑(List.length r5.1) : Int))) (
              .grd (decide ((0 : Int) ≤ (12 : Int) ∧ (12 : Int) ≤ (↑(List.length r5.1) : Int) ∧ (↑(List.length r5.1) : Int) ≤ (↑(List.length a11) : Int))) (
              .ite (!decide (List.drop (12 : Nat) (List.take (Int.toNat (↑(List.length r5.1) : Int)) r5.1) = List.drop (12 : Nat) (List.take (Int.toNat (↑(List.length r5.1) : Int)) a11))) (
               .ret (false, ())) (
               .opt (β := ((List UInt8) × Unit)) ((ipShow_fn (a12, ()))) (fun r7 =>
               .opt (β := (Int × (Int × Unit))) ((ipParse_fn (r7.1, ()))) (fun r8 =>
               .opt (β := (Bool × Unit)) ((ipLives_fn ())) (fun r9 =>
               .ite (r9.1) (
                .ite (decide (r8.2.1 = (0 : Int))) (
                 .ret (decide (r8.1 = a12), ())) (
                 .ret (false, ()))) (
                .ret (false, ())))))))))))))))))) (
         .opt (β := ((List UInt8) × Unit)) ((ipShow_fn (a12, ()))) (fun r5 =>
         .opt (β := (Int × (Int × Unit))) ((ipParse_fn (r5.1, ()))) (fun r6 =>
         .opt (β := (Bool × Unit)) ((ipLives_fn ())) (fun r7 =>
         .ite (r7.1) (
          .ite (decide (r6.2.1 = (0 : Int))) (
           .ret (decide (r6.1 = a12), ())) (
           .ret (false, ()))) (
          .ret (false, ())))))))))))))))))) (
   .opt (β := (Int × (Int × (Bool × (Bool × (Int × (Int × (Int × (Int × (Int × ((List UInt8) × ((List UInt8) × (Int × Unit))))))))))))) ((ipRead_fn (a11, ()))) (fun r1 =>
   .ite (decide (r1.2.2.2.2.2.2.2.2.2.2.2.1 = (0 : Int))) (
    .opt (β := ((List UInt8) × (Int × Unit))) ((ipWrite_fn (r1.1, (r1.2.1, (r1.2.2.1, (r1.2.2.2.1, (r1.2.2.2.2.1, (r1.2.2.2.2.2.1, (r1.2.2.2.2.2.2.1, (r1.2.2.2.2.2.2.2.1, (r1.2.2.2.2.2.2.2.2.1, (r1.2.2.2.2.2.2.2.2.2.1, (r1.2.2.2.2.2.2.2.2.2.2.1, ()))))))))))))) (fun r2 =>
    .opt (β := (Int × (Int × (Bool × (Bool × (Int × (Int × (Int × (Int × (Int × ((List UInt8) × ((List UInt8) × (Int × Unit))))))))))))) ((ipRead_fn (r2.1, ()))) (fun r3 =>
    .ite (!decide (r2.2.1 = (0 : Int))) (
     .ret (false, ())) (
     .ite (!decide (r3.2.2.2.2.2.2.2.2.2.2.2.1 = (0 : Int))) (
      .ret (false, ())) (
      .ite (!(decide (r3.1 = r1.1) && (decide (r3.2.1 = r1.2.1) && (r3.2.2.1 == r1.2.2.1 && (r3.2.2.2.1 == r1.2.2.2.1 && (decide (r3.2.2.2.2.1 = r1.2.2.2.2.1) && (decide (r3.2.2.2.2.2.1 = r1.2.2.2.2.2.1) && (decide (r3.2.2.2.2.2.2.1 = r1.2.2.2.2.2.2.1) && (decide (r3.2.2.2.2.2.2.2.1 = r1.2.2.2.2.2.2.2.1) && (decide (r3.2.2.2.2.2.2.2.2.1 = r1.2.2.2.2.2.2.2.2.1) && (decide (r3.2.2.2.2.2.2.2.2.2.1 = r1.2.2.2.2.2.2.2.2.2.1) && (decide (r3.2.2.2.2.2.2.2.2.2.2.1 = r1.2.2.2.2.2.2.2.2.2.2.1) && true)))))))))))) (
       .ret (false, ())) (
       .ite (decide ((↑(List.length a11) : Int) < (↑(List.length r2.1) : Int))) (
        .ret (false, ())) (
        .grd (decide ((0 : Int) ≤ (0 : Int) ∧ (0 : Int) ≤ (10 : Int) ∧ (10 : Int) ≤ (↑(List.length r2.1) : Int))) (
        .grd (decide ((0 : Int) ≤ (0 : Int) ∧ (0 : Int) ≤ (10 : Int) ∧ (10 : Int) ≤ (↑(List.length a11) : Int))) (
        .ite (!decide (List.drop (0 : Nat) (List.take (10 : Nat) r2.1) = List.drop (0 : Nat) (List.take (10 : Nat) a11))) (
         .ret (false, ())) (
         .grd (decide ((0 : Int) ≤ (12 : Int) ∧ (12 : Int) ≤ (↑(List.length r2.1) : Int) ∧ (↑(List.length r2.1) : Int) ≤ (↑(List.length r2.1) : Int))) (
         .grd (decide ((0 : Int) ≤ (12 : Int) ∧ (12 : Int) ≤ (↑(List.length r2.1) : Int) ∧ (↑(List.length r2.1) : Int) ≤ (↑(List.length a11) : Int))) (
         .ite (!decide (List.drop (12 : Nat) (List.take (Int.toNat (↑(List.length r2.1) : Int)) r2.1) = List.drop (12 : Nat) (List.take (Int.toNat (↑(List.length r2.1) : Int)) a11))) (
          .ret (false, ())) (
          .opt (β := ((List UInt8) × Unit)) ((ipShow_fn (a12, ()))) (fun r4 =>
          .opt (β := (Int × (Int × Unit))) ((ipParse_fn (r4.1, ()))) (fun r5 =>
          .opt (β := (Bool × Unit)) ((ipLives_fn ())) (fun r6 =>
          .ite (r6.1) (
           .ite (decide (r5.2.1 = (0 : Int))) (
            .ret (decide (r5.1 = a12), ())) (
            .ret (false, ()))) (
           .ret (false, ())))))))))))))))))) (
    .opt (β := ((List UInt8) × Unit)) ((ipShow_fn (a12, ()))) (fun r2 =>
    .opt (β := (Int × (Int × Unit))) ((ipParse_fn (r2.1, ()))) (fun r3 =>
    .opt (β := (Bool × Unit)) ((ipLives_fn ())) (fun r4 =>
    .ite (r4.1) (
     .ite (decide (r3.2.1 = (0 : Int))) (
      .ret (decide (r3.1 = a12), ())) (
      .ret (false, ()))) (
     .ret (false, ())))))))))
theorem ipBack_eq (x : (Int × (Int × (Bool × (Bool × (Int × (Int × (Int × (Int × (Int × ((List UInt8) × ((List UInt8) × ((List UInt8) × (Int × Unit)))))))))))))) : fnTr Tryd.prog cod [FS.pf sumFold, FS.pf sumAdd, FS.pf sumOf, FS.pf sumRight, FS.pf sumFix, FS.pf ipWordAt, FS.pf ipLongAt, FS.pf ipByt, FS.pf ipRefused, FS.pf ipWord, FS.pf ipLong, FS.pf ipWrite, FS.pf ipRead, itoaStr, joinStr, splitStr, parseU8, FS.pf ipShow, FS.pf ipLives, FS.pf ipParse] [] 30 5 ipBack_ap ipBack_rp x = ipBack_tree x := by kernel_rfl
def ipBack_fn (x : (Int × (Int × (Bool × (Bool × (Int × (Int × (Int × (Int × (Int × ((List UInt8) × ((List UInt8) × ((List UInt8) × (Int × Unit)))))))))))))) : Option (Bool × Unit) := (ipBack_tree x).eval
def ipBack : FS Tryd.prog := ⟨5, ipBack_ap, ipBack_rp, ipBack_fn, fun x r h => fnTr_sound (cod := cod) (Γ := [FS.pf sumFold, FS.pf sumAdd, FS.pf sumOf, FS.pf sumRight, FS.pf sumFix, FS.pf ipWordAt, FS.pf ipLongAt, FS.pf ipByt, FS.pf ipRefused, FS.pf ipWord, FS.pf ipLong, FS.pf ipWrite, FS.pf ipRead, itoaStr, joinStr, splitStr, parseU8, FS.pf ipShow, FS.pf ipLives, FS.pf ipParse]) (Λs := []) (n := 30) ((congrArg Tr.eval (ipBack_eq x)).trans h)⟩
end Go.Proofs.YtkfpdgibaadmbaaDoor.X
