/- Functions of the program, as trees (printed by a program of mine: tool/XTool, xg.py), each with the proof that the machine comes to what its tree says. Conditions: none. -/
import Derived.Test.YtkfpdgibaadmbaaDoorCod
import Derived.KernelRfl
import Derived.Test.YtkfpdgibaadmbaaDoorGIp
import Derived.Test.YtkfpdgibaadmbaaDoorShow
import Derived.Test.YtkfpdgibaadmbaaDoorShow
namespace Go.Proofs.YtkfpdgibaadmbaaDoor.X
open Go Go.RowKit Go.Proofs.YtkfpdgibaadmbaaDoor.Abs
set_option maxRecDepth 100000
set_option linter.unusedVariables false
def ipHop_ap : List VP1 := [.one (.s)]
def ipHop_rp : SP := ⟨1, [(0, .tup [.one (.s), .one (.i .i64)])], []⟩
def ipHop_tree : ((List UInt8) × Unit) → Tr ((List UInt8) × (Int × Unit)) :=
  fun (a0, _) =>
  .opt (β := (Int × (Int × (Bool × (Bool × (Int × (Int × (Int × (Int × (Int × ((List UInt8) × ((List UInt8) × (Int × Unit))))))))))))) ((ipRead_fn (a0, ()))) (fun r0 =>
  .ite (!decide (r0.2.2.2.2.2.2.2.2.2.2.2.1 = (0 : Int))) (
   .ret ([], (r0.2.2.2.2.2.2.2.2.2.2.2.1, ()))) (
   .ite (decide (r0.2.2.2.2.2.1 < (2 : Int))) (
    .ret ([], ((7 : Int), ()))) (
    .opt (β := (Int × Unit)) ((ipWordAt_fn (a0, ((8 : Int), ())))) (fun r1 =>
    .grd (true) (
    .opt (β := (Int × Unit)) ((ipWordAt_fn (a0, ((10 : Int), ())))) (fun r2 =>
    .opt (β := (Int × Unit)) ((sumFix_fn (IntKind.wrap IntKind.u16 r2.1, (IntKind.wrap IntKind.u16 r1.1, (IntKind.wrap IntKind.u16 (bits BinOp.or IntKind.i64 (IntKind.wrap IntKind.i64 (IntKind.wrap IntKind.i64 (r0.2.2.2.2.2.1 - (1 : Int)) * (2 : Int) ^ (8 : Nat))) r0.2.2.2.2.2.2.1), ()))))) (fun r3 =>
    .grd (decide ((0 : Int) ≤ (0 : Int) ∧ (0 : Int) ≤ (8 : Int) ∧ (8 : Int) ≤ (↑(List.length a0) : Int))) (
    .opt (β := ((List UInt8) × Unit)) ((ipWord_fn (IntKind.wrap IntKind.i64 (IntKind.wrap IntKind.u16 (bits BinOp.or IntKind.i64 (IntKind.wrap IntKind.i64 (IntKind.wrap IntKind.i64 (r0.2.2.2.2.2.1 - (1 : Int)) * (2 : Int) ^ (8 : Nat))) r0.2.2.2.2.2.2.1)), ()))) (fun r4 =>
    .grd (decide (List.length (List.drop (0 : Nat) (List.take (8 : Nat) a0)) + List.length r4.1 ≤ (9223372036854775807 : Nat))) (
    .opt (β := ((List UInt8) × Unit)) ((ipWord_fn (IntKind.wrap IntKind.i64 r3.1, ()))) (fun r5 =>
    .grd (decide (List.length (List.drop (0 : Nat) (List.take (8 : Nat) a0) ++ r4.1) + List.length r5.1 ≤ (9223372036854775807 : Nat))) (
    .opt (β := (Int × Unit)) ((ipWordAt_fn (a0, ((2 : Int), ())))) (fun r6 =>
    .grd (decide ((0 : Int) ≤ (12 : Int) ∧ (12 : Int) ≤ r6.1 ∧ r6.1 ≤ (↑(List.length a0) : Int))) (
    .grd (decide (List.length (List.drop (0 : Nat) (List.take (8 : Nat) a0) ++ r4.1 ++ r5.1) + List.length (List.drop (12 : Nat) (List.take (Int.toNat r6.1) a0)) ≤ (9223372036854775807 : Nat))) (
    .ret (List.drop (0 : Nat) (List.take (8 : Nat) a0) ++ r4.1 ++ r5.1 ++ List.drop (12 : Nat) (List.take (Int.toNat r6.1) a0), ((0 : Int), ())))))))))))))))))
theorem ipHop_eq (x : ((List UInt8) × Unit)) : fnTr Tryd.prog cod [FS.pf sumFold, FS.pf sumAdd, FS.pf sumOf, FS.pf sumRight, FS.pf sumFix, FS.pf ipWordAt, FS.pf ipLongAt, FS.pf ipByt, FS.pf ipRefused, FS.pf ipWord, FS.pf ipLong, FS.pf ipWrite, FS.pf ipRead, itoaStr, joinStr] [] 30 9 ipHop_ap ipHop_rp x = ipHop_tree x := by kernel_rfl
def ipHop_fn (x : ((List UInt8) × Unit)) : Option ((List UInt8) × (Int × Unit)) := (ipHop_tree x).eval
def ipHop : FS Tryd.prog := ⟨9, ipHop_ap, ipHop_rp, ipHop_fn, fun x r h => fnTr_sound (cod := cod) (Γ := [FS.pf sumFold, FS.pf sumAdd, FS.pf sumOf, FS.pf sumRight, FS.pf sumFix, FS.pf ipWordAt, FS.pf ipLongAt, FS.pf ipByt, FS.pf ipRefused, FS.pf ipWord, FS.pf ipLong, FS.pf ipWrite, FS.pf ipRead, itoaStr, joinStr]) (Λs := []) (n := 30) ((congrArg Tr.eval (ipHop_eq x)).trans h)⟩
def ipShow_L12_3 : LS := ⟨3, [(3, 3)], ⟨20, [(4, .v (.one (.i .i64))), (0, .v (.one (.i .u32))), (3, .v (.one (.own 3)))], [(3, .row 9 3 true true)]⟩, [⟨some 0, [(3, 3)], ⟨20, [(3, .v (.one (.own 3)))], [(3, .row 9 3 true true)]⟩⟩], [(3, 9, 3)]⟩
def ipShow_step12_3 : (Int × (Int × ((List (List UInt8)) × Unit))) → Tr ((Int × (Int × ((List (List UInt8)) × Unit))) ⊕ ((List (List UInt8)) × Unit)) :=
  fun (a0, a1, a2, _) =>
  .ite (decide ((0 : Int) ≤ a0)) (
   .grd (decide ((0 : Int) ≤ a0)) (
   .grd (decide ((-9223372036854775808 : Int) ≤ IntKind.wrap IntKind.i64 (bits BinOp.and IntKind.u32 (Int.fdiv a1 ((2 : Int) ^ min (Int.toNat a0) (32 : Nat))) (255 : Int)) ∧ IntKind.wrap IntKind.i64 (bits BinOp.and IntKind.u32 (Int.fdiv a1 ((2 : Int) ^ min (Int.toNat a0) (32 : Nat))) (255 : Int)) ≤ (9223372036854775807 : Int))) (
   .grd (decide ((List.length a2 + List.length [Lib.itoa (IntKind.wrap IntKind.i64 (bits BinOp.and IntKind.u32 (Int.fdiv a1 ((2 : Int) ^ min (Int.toNat a0) (32 : Nat))) (255 : Int)))]) * (16 : Nat) ≤ (140737488355328 : Nat) ∧ List.length a2 + List.length [Lib.itoa (IntKind.wrap IntKind.i64 (bits BinOp.and IntKind.u32 (Int.fdiv a1 ((2 : Int) ^ min (Int.toNat a0) (32 : Nat))) (255 : Int)))] ≤ (9223372036854775807 : Nat))) (
   .grd (decide (List.length (a2 ++ [Lib.itoa (IntKind.wrap IntKind.i64 (bits BinOp.and IntKind.u32 (Int.fdiv a1 ((2 : Int) ^ min (Int.toNat a0) (32 : Nat))) (255 : Int)))]) = List.length (a2 ++ [Lib.itoa (IntKind.wrap IntKind.i64 (bits BinOp.and IntKind.u32 (Int.fdiv a1 ((2 : Int) ^ min (Int.toNat a0) (32 : Nat))) (255 : Int)))]))) (
   .ret (Sum.inl (IntKind.wrap IntKind.i64 (a0 - (8 : Int)), (a1, (a2 ++ [Lib.itoa (IntKind.wrap IntKind.i64 (bits BinOp.and IntKind.u32 (Int.fdiv a1 ((2 : Int) ^ min (Int.toNat a0) (32 : Nat))) (255 : Int)))], ()))))))))) (
   .grd (decide (List.length a2 = List.length a2)) (
   .ret (Sum.inr (a2, ()))))
def ipShow_loop12_3 (x : (Int × (Int × ((List (List UInt8)) × Unit)))) : Option ((List (List UInt8)) × Unit) := loopO 120003 (fun x => (ipShow_step12_3 x).eval) 18446744073709551616 x
def ipShow_ap : List VP1 := [.one (.i .u32)]
def ipShow_rp : SP := ⟨1, [(0, .v (.one (.s)))], []⟩
def ipShow_tree : (Int × Unit) → Tr ((List UInt8) × Unit) :=
  fun (a0, _) =>
  .grd (true) (
  .opt (β := ((List (List UInt8)) × Unit)) ((ipShow_loop12_3 ((24 : Int), (a0, ([], ()))))) (fun r0 =>
  .grd (decide (List.length r0.1 ≤ (140737488355328 : Nat) ∧ List.length (Lib.join r0.1 [(46 : UInt8)]) ≤ (140737488355328 : Nat))) (
  .ret (Lib.join r0.1 [(46 : UInt8)], ()))))
theorem ipShow_eq (x : (Int × Unit)) : fnTr Tryd.prog cod [FS.pf sumFold, FS.pf sumAdd, FS.pf sumOf, FS.pf sumRight, FS.pf sumFix, FS.pf ipWordAt, FS.pf ipLongAt, FS.pf ipByt, FS.pf ipRefused, FS.pf ipWord, FS.pf ipLong, FS.pf ipWrite, FS.pf ipRead, itoaStr, joinStr, FS.pf ipHop] [(12, ipShow_L12_3)] 30 12 ipShow_ap ipShow_rp x = ipShow_tree x := by kernel_rfl
def ipShow_fn (x : (Int × Unit)) : Option ((List UInt8) × Unit) := (ipShow_tree x).eval
def ipShow : FS Tryd.prog := ⟨12, ipShow_ap, ipShow_rp, ipShow_fn, fun x r h => fnTr_sound (cod := cod) (Γ := [FS.pf sumFold, FS.pf sumAdd, FS.pf sumOf, FS.pf sumRight, FS.pf sumFix, FS.pf ipWordAt, FS.pf ipLongAt, FS.pf ipByt, FS.pf ipRefused, FS.pf ipWord, FS.pf ipLong, FS.pf ipWrite, FS.pf ipRead, itoaStr, joinStr, FS.pf ipHop]) (Λs := [(12, ipShow_L12_3)]) (n := 30) ((congrArg Tr.eval (ipShow_eq x)).trans h)⟩
def ipLives_ap : List VP1 := []
def ipLives_rp : SP := ⟨1, [(0, .v (.one (.b)))], []⟩
def ipLives_tree : Unit → Tr (Bool × Unit) :=
  fun (_) =>
  .opt (β := ((List UInt8) × (Int × Unit))) ((ipWrite_fn ((0 : Int), ((0 : Int), (true, (false, ((0 : Int), ((64 : Int), ((17 : Int), ((3232235521 : Int), ((3232235719 : Int), ([], ([(120 : UInt8)], ()))))))))))))) (fun r0 =>
  .opt (β := (Int × (Int × (Bool × (Bool × (Int × (Int × (Int × (Int × (Int × ((List UInt8) × ((List UInt8) × (Int × Unit))))))))))))) ((ipRead_fn (r0.1, ()))) (fun r1 =>
  .ite (decide (r0.2.1 = (0 : Int))) (
   .ite (decide (r1.2.2.2.2.2.2.2.2.2.2.2.1 = (0 : Int))) (
    .ite (decide ((↑(List.length r0.1) : Int) = (21 : Int))) (
     .grd (decide ((0 : Int) ≤ (0 : Int) ∧ (0 : Int) ≤ (2 : Int) ∧ (2 : Int) ≤ (↑(List.length r0.1) : Int))) (
     .ite (decide (List.drop (0 : Nat) (List.take (2 : Nat) r0.1) = [(69 : UInt8), (0 : UInt8)])) (
      .grd (decide ((0 : Int) ≤ (0 : Int) ∧ (0 : Int) ≤ (20 : Int) ∧ (20 : Int) ≤ (↑(List.length r0.1) : Int))) (
      .opt (β := (Bool × Unit)) ((sumRight_fn (List.drop (0 : Nat) (List.take (20 : Nat) r0.1), ()))) (fun r2 =>
      .ite (r2.1) (
       .ite (decide (r1.2.2.2.2.2.1 = (64 : Int))) (
        .opt (β := ((List UInt8) × Unit)) ((ipShow_fn (r1.2.2.2.2.2.2.2.2.1, ()))) (fun r3 =>
        .ret (decide (r3.1 = [(49 : UInt8), (57 : UInt8), (50 : UInt8), (46 : UInt8), (49 : UInt8), (54 : UInt8), (56 : UInt8), (46 : UInt8), (48 : UInt8), (46 : UInt8), (49 : UInt8), (57 : UInt8), (57 : UInt8)]), ()))) (
        .ret (false, ()))) (
       .ret (false, ()))))) (
      .ret (false, ())))) (
     .ret (false, ()))) (
    .ret (false, ()))) (
   .ret (false, ()))))
theorem ipLives_eq (x : Unit) : fnTr Tryd.prog cod [FS.pf sumFold, FS.pf sumAdd, FS.pf sumOf, FS.pf sumRight, FS.pf sumFix, FS.pf ipWordAt, FS.pf ipLongAt, FS.pf ipByt, FS.pf ipRefused, FS.pf ipWord, FS.pf ipLong, FS.pf ipWrite, FS.pf ipRead, itoaStr, joinStr, FS.pf ipHop, FS.pf ipShow] [] 30 7 ipLives_ap ipLives_rp x = ipLives_tree x := by kernel_rfl
def ipLives_fn (x : Unit) : Option (Bool × Unit) := (ipLives_tree x).eval
def ipLives : FS Tryd.prog := ⟨7, ipLives_ap, ipLives_rp, ipLives_fn, fun x r h => fnTr_sound (cod := cod) (Γ := [FS.pf sumFold, FS.pf sumAdd, FS.pf sumOf, FS.pf sumRight, FS.pf sumFix, FS.pf ipWordAt, FS.pf ipLongAt, FS.pf ipByt, FS.pf ipRefused, FS.pf ipWord, FS.pf ipLong, FS.pf ipWrite, FS.pf ipRead, itoaStr, joinStr, FS.pf ipHop, FS.pf ipShow]) (Λs := []) (n := 30) ((congrArg Tr.eval (ipLives_eq x)).trans h)⟩
def ipTold_ap : List VP1 := [.agg [.i .i64, .i .i64, .b, .b, .i .i64, .i .i64, .i .i64, .i .u32, .i .u32, .s, .s], .one (.i .i64)]
def ipTold_rp : SP := ⟨1, [(0, .v (.one (.b)))], []⟩
def ipTold_tree : (Int × (Int × (Bool × (Bool × (Int × (Int × (Int × (Int × (Int × ((List UInt8) × ((List UInt8) × (Int × Unit)))))))))))) → Tr (Bool × Unit) :=
  fun (a0, a1, a2, a3, a4, a5, a6, a7, a8, a9, a10, a11, _) =>
  .opt (β := ((List UInt8) × (Int × Unit))) ((ipWrite_fn (a0, (a1, (a2, (a3, (a4, (a5, (a6, (a7, (a8, (a9, (a10, ()))))))))))))) (fun r0 =>
  .opt (β := (Bool × Unit)) ((ipLives_fn ())) (fun r1 =>
  .ite (!r1.1) (
   .opt (β := (Bool × Unit)) ((ipLives_fn ())) (fun r2 =>
   .ret (r2.1, ()))) (
   .ite (!decide (r0.2.1 = (0 : Int))) (
    .opt (β := (Bool × Unit)) ((ipLives_fn ())) (fun r2 =>
    .ret (r2.1, ()))) (
    .ite (decide (a11 < (4 : Int))) (
     .opt (β := (Bool × Unit)) ((ipLives_fn ())) (fun r2 =>
     .ret (r2.1, ()))) (
     .grd (true) (
     .ite (decide ((↑(List.length r0.1) : Int) ≤ IntKind.wrap IntKind.i64 (Int.tdiv a11 (8 : Int)))) (
      .opt (β := (Bool × Unit)) ((ipLives_fn ())) (fun r2 =>
      .ret (r2.1, ()))) (
      .grd (decide (List.length r0.1 ≤ (9223372036854775807 : Nat))) (
      .grd (true) (
      .grd (decide ((0 : Int) ≤ IntKind.wrap IntKind.i64 (Int.tdiv a11 (8 : Int)) ∧ IntKind.wrap IntKind.i64 (Int.tdiv a11 (8 : Int)) < (↑(List.length r0.1) : Int))) (
      .opt (β := UInt8) (r0.1[Int.toNat (IntKind.wrap IntKind.i64 (Int.tdiv a11 (8 : Int)))]?) (fun r2 =>
      .grd (true) (
      .grd (decide ((0 : Int) ≤ Int.tmod a11 (8 : Int))) (
      .grd (decide ((0 : Int) ≤ IntKind.wrap IntKind.i64 (Int.tdiv a11 (8 : Int)) ∧ IntKind.wrap IntKind.i64 (Int.tdiv a11 (8 : Int)) < (↑(List.length r0.1) : Int))) (
      .opt (β := UInt8) (r0.1[Int.toNat (IntKind.wrap IntKind.i64 (Int.tdiv a11 (8 : Int)))]?) (fun r3 =>
      .grd (decide ((0 : Int) ≤ bits BinOp.xor IntKind.u8 (↑(UInt8.toNat r2) : Int) (IntKind.wrap IntKind.u8 ((1 : Int) * (2 : Int) ^ min (Int.toNat (Int.tmod a11 (8 : Int))) (8 : Nat))) ∧ bits BinOp.xor IntKind.u8 (↑(UInt8.toNat r2) : Int) (IntKind.wrap IntKind.u8 ((1 : Int) * (2 : Int) ^ min (Int.toNat (Int.tmod a11 (8 : Int))) (8 : Nat))) < (256 : Int))) (
      .opt (β := (Int × (Int × (Bool × (Bool × (Int × (Int × (Int × (Int × (Int × ((List UInt8) × ((List UInt8) × (Int × Unit))))))))))))) ((ipRead_fn (List.set r0.1 (Int.toNat (IntKind.wrap IntKind.i64 (Int.tdiv a11 (8 : Int)))) (UInt8.ofNat (Int.toNat (bits BinOp.xor IntKind.u8 (↑(UInt8.toNat r2) : Int) (IntKind.wrap IntKind.u8 ((1 : Int) * (2 : Int) ^ min (Int.toNat (Int.tmod a11 (8 : Int))) (8 : Nat)))))), ()))) (fun r4 =>
      .grd (true) (
      .ite (decide (IntKind.wrap IntKind.i64 ((20 : Int) + (↑(List.length a9) : Int)) ≤ IntKind.wrap IntKind.i64 (Int.tdiv a11 (8 : Int)))) (
       .grd (decide ((0 : Int) ≤ IntKind.wrap IntKind.i64 ((20 : Int) + (↑(List.length a9) : Int)) ∧ IntKind.wrap IntKind.i64 ((20 : Int) + (↑(List.length a9) : Int)) ≤ (↑(List.length r0.1) : Int) ∧ (↑(List.length r0.1) : Int) ≤ (↑(List.length r0.1) : Int))) (
       .grd (decide (Int.toNat (IntKind.wrap IntKind.i64 ((20 : Int) + (↑(List.length a9) : Int))) + Int.toNat ((↑(List.length r0.1) : Int) - IntKind.wrap IntKind.i64 ((20 : Int) + (↑(List.length a9) : Int))) ≤ List.length (List.set r0.1 (Int.toNat (IntKind.wrap IntKind.i64 (Int.tdiv a11 (8 : Int)))) (UInt8.ofNat (Int.toNat (bits BinOp.xor IntKind.u8 (↑(UInt8.toNat r2) : Int) (IntKind.wrap IntKind.u8 ((1 : Int) * (2 : Int) ^ min (Int.toNat (Int.tmod a11 (8 : Int))) (8 : Nat))))))))) (
       .ite (decide (r4.2.2.2.2.2.2.2.2.2.2.2.1 = (0 : Int))) (
        .ret (decide (r4.1 = a0) && (decide (r4.2.1 = a1) && (r4.2.2.1 == a2 && (r4.2.2.2.1 == a3 && (decide (r4.2.2.2.2.1 = a4) && (decide (r4.2.2.2.2.2.1 = a5) && (decide (r4.2.2.2.2.2.2.1 = a6) && (decide (r4.2.2.2.2.2.2.2.1 = a7) && (decide (r4.2.2.2.2.2.2.2.2.1 = a8) && (decide (r4.2.2.2.2.2.2.2.2.2.1 = a9) && (decide (r4.2.2.2.2.2.2.2.2.2.2.1 = List.take (Int.toNat ((↑(List.length r0.1) : Int) - IntKind.wrap IntKind.i64 ((20 : Int) + (↑(List.length a9) : Int)))) (List.drop (Int.toNat (IntKind.wrap IntKind.i64 ((20 : Int) + (↑(List.length a9) : Int)))) (List.set r0.1 (Int.toNat (IntKind.wrap IntKind.i64 (Int.tdiv a11 (8 : Int)))) (UInt8.ofNat (Int.toNat (bits BinOp.xor IntKind.u8 (↑(UInt8.toNat r2) : Int) (IntKind.wrap IntKind.u8 ((1 : Int) * (2 : Int) ^ min (Int.toNat (Int.tmod a11 (8 : Int))) (8 : Nat))))))))) && true)))))))))), ())) (
        .ret (false, ()))))) (
       .ite (decide (r4.2.2.2.2.2.2.2.2.2.2.2.1 = (5 : Int))) (
        .ret (true, ())) (
        .ite (decide (r4.2.2.2.2.2.2.2.2.2.2.2.1 = (4 : Int))) (
         .ret (true, ())) (
         .ret (decide (r4.2.2.2.2.2.2.2.2.2.2.2.1 = (3 : Int)), ()))))))))))))))))))))))
theorem ipTold_eq (x : (Int × (Int × (Bool × (Bool × (Int × (Int × (Int × (Int × (Int × ((List UInt8) × ((List UInt8) × (Int × Unit))))))))))))) : fnTr Tryd.prog cod [FS.pf sumFold, FS.pf sumAdd, FS.pf sumOf, FS.pf sumRight, FS.pf sumFix, FS.pf ipWordAt, FS.pf ipLongAt, FS.pf ipByt, FS.pf ipRefused, FS.pf ipWord, FS.pf ipLong, FS.pf ipWrite, FS.pf ipRead, itoaStr, joinStr, FS.pf ipHop, FS.pf ipShow, FS.pf ipLives] [] 30 3 ipTold_ap ipTold_rp x = ipTold_tree x := by kernel_rfl
def ipTold_fn (x : (Int × (Int × (Bool × (Bool × (Int × (Int × (Int × (Int × (Int × ((List UInt8) × ((List UInt8) × (Int × Unit))))))))))))) : Option (Bool × Unit) := (ipTold_tree x).eval
def ipTold : FS Tryd.prog := ⟨3, ipTold_ap, ipTold_rp, ipTold_fn, fun x r h => fnTr_sound (cod := cod) (Γ := [FS.pf sumFold, FS.pf sumAdd, FS.pf sumOf, FS.pf sumRight, FS.pf sumFix, FS.pf ipWordAt, FS.pf ipLongAt, FS.pf ipByt, FS.pf ipRefused, FS.pf ipWord, FS.pf ipLong, FS.pf ipWrite, FS.pf ipRead, itoaStr, joinStr, FS.pf ipHop, FS.pf ipShow, FS.pf ipLives]) (Λs := []) (n := 30) ((congrArg Tr.eval (ipTold_eq x)).trans h)⟩
def ipHopped_L4_6 : LS := ⟨6, [(3, 3)], ⟨76, [(7, .v (.one (.i .i64))), (5, .v (.one (.s))), (3, .v (.one (.ptr 3 0))), (6, .v (.one (.i .i64)))], [(3, .cells [.i .i64, .i .i64, .b, .b, .i .i64, .i .i64, .i .i64, .i .u32, .i .u32, .s, .s])]⟩, [⟨none, [], ⟨76, [(2, .v (.one (.b)))], []⟩⟩, ⟨some 0, [(3, 3)], ⟨76, [(7, .v (.one (.i .i64))), (3, .v (.one (.ptr 3 0))), (6, .v (.one (.i .i64)))], [(3, .cells [.i .i64, .i .i64, .b, .b, .i .i64, .i .i64, .i .i64, .i .u32, .i .u32, .s, .s])]⟩⟩], []⟩
def ipHopped_step4_6 : (Int × ((List UInt8) × (Int × (Int × (Int × (Bool × (Bool × (Int × (Int × (Int × (Int × (Int × ((List UInt8) × ((List UInt8) × Unit)))))))))))))) → Tr ((Int × ((List UInt8) × (Int × (Int × (Int × (Bool × (Bool × (Int × (Int × (Int × (Int × (Int × ((List UInt8) × ((List UInt8) × Unit)))))))))))))) ⊕ ((Bool × Unit) ⊕ (Int × (Int × (Int × (Int × (Bool × (Bool × (Int × (Int × (Int × (Int × (Int × ((List UInt8) × ((List UInt8) × Unit))))))))))))))) :=
  fun (a0, a1, a2, a3, a4, a5, a6, a7, a8, a9, a10, a11, a12, a13, _) =>
  .ite (decide (a2 = (0 : Int))) (
   .ite (decide (a0 < (300 : Int))) (
    .opt (β := (Int × (Int × (Bool × (Bool × (Int × (Int × (Int × (Int × (Int × ((List UInt8) × ((List UInt8) × (Int × Unit))))))))))))) ((ipRead_fn (a1, ()))) (fun r0 =>
    .ite (!decide (r0.2.2.2.2.2.2.2.2.2.2.2.1 = (0 : Int))) (
     .ret (Sum.inr (Sum.inl (false, ())))) (
     .ite (!(decide (r0.1 = a3) && (decide (r0.2.1 = a4) && (r0.2.2.1 == a5 && (r0.2.2.2.1 == a6 && (decide (r0.2.2.2.2.1 = a7) && (decide (r0.2.2.2.2.2.1 = IntKind.wrap IntKind.i64 (a8 - (1 : Int))) && (decide (r0.2.2.2.2.2.2.1 = a9) && (decide (r0.2.2.2.2.2.2.2.1 = a10) && (decide (r0.2.2.2.2.2.2.2.2.1 = a11) && (decide (r0.2.2.2.2.2.2.2.2.2.1 = a12) && (decide (r0.2.2.2.2.2.2.2.2.2.2.1 = a13) && true)))))))))))) (
      .ret (Sum.inr (Sum.inl (false, ())))) (
      .opt (β := ((List UInt8) × (Int × Unit))) ((ipHop_fn (a1, ()))) (fun r1 =>
      .ret (Sum.inl (IntKind.wrap IntKind.i64 (a0 + (1 : Int)), (r1.1, (r1.2.1, (a3, (a4, (a5, (a6, (a7, (IntKind.wrap IntKind.i64 (a8 - (1 : Int)), (a9, (a10, (a11, (a12, (a13, ())))))))))))))))))))) (
    .ret (Sum.inr (Sum.inr (a0, (a2, (a3, (a4, (a5, (a6, (a7, (a8, (a9, (a10, (a11, (a12, (a13, ()))))))))))))))))) (
   .ret (Sum.inr (Sum.inr (a0, (a2, (a3, (a4, (a5, (a6, (a7, (a8, (a9, (a10, (a11, (a12, (a13, ()))))))))))))))))
def ipHopped_loop4_6 (x : (Int × ((List UInt8) × (Int × (Int × (Int × (Bool × (Bool × (Int × (Int × (Int × (Int × (Int × ((List UInt8) × ((List UInt8) × Unit))))))))))))))) : Option ((Bool × Unit) ⊕ (Int × (Int × (Int × (Int × (Bool × (Bool × (Int × (Int × (Int × (Int × (Int × ((List UInt8) × ((List UInt8) × Unit)))))))))))))) := loopO 40006 (fun x => (ipHopped_step4_6 x).eval) 18446744073709551616 x
def ipHopped_ap : List VP1 := [.one (.s)]
def ipHopped_rp : SP := ⟨1, [(0, .v (.one (.b)))], []⟩
def ipHopped_tree : ((List UInt8) × Unit) → Tr (Bool × Unit) :=
  fun (a0, _) =>
  .opt (β := (Int × (Int × (Bool × (Bool × (Int × (Int × (Int × (Int × (Int × ((List UInt8) × ((List UInt8) × (Int × Unit))))))))))))) ((ipRead_fn (a0, ()))) (fun r0 =>
  .opt (β := ((List UInt8) × (Int × Unit))) ((ipHop_fn (a0, ()))) (fun r1 =>
  .opt (β := (Bool × Unit)) ((ipLives_fn ())) (fun r2 =>
  .ite (!r2.1) (
   .opt (β := (Bool × Unit)) ((ipLives_fn ())) (fun r3 =>
   .ite (r3.1) (
    .ite (decide (r1.2.1 = r0.2.2.2.2.2.2.2.2.2.2.2.1)) (
     .ret (decide (r1.1 = []), ())) (
     .ret (false, ()))) (
    .ret (false, ())))) (
   .ite (!decide (r0.2.2.2.2.2.2.2.2.2.2.2.1 = (0 : Int))) (
    .opt (β := (Bool × Unit)) ((ipLives_fn ())) (fun r3 =>
    .ite (r3.1) (
     .ite (decide (r1.2.1 = r0.2.2.2.2.2.2.2.2.2.2.2.1)) (
      .ret (decide (r1.1 = []), ())) (
      .ret (false, ()))) (
     .ret (false, ())))) (
    .opt (β := ((Bool × Unit) ⊕ (Int × (Int × (Int × (Int × (Bool × (Bool × (Int × (Int × (Int × (Int × (Int × ((List UInt8) × ((List UInt8) × Unit))))))))))))))) ((ipHopped_loop4_6 ((0 : Int), (r1.1, (r1.2.1, (r0.1, (r0.2.1, (r0.2.2.1, (r0.2.2.2.1, (r0.2.2.2.2.1, (r0.2.2.2.2.2.1, (r0.2.2.2.2.2.2.1, (r0.2.2.2.2.2.2.2.1, (r0.2.2.2.2.2.2.2.2.1, (r0.2.2.2.2.2.2.2.2.2.1, (r0.2.2.2.2.2.2.2.2.2.2.1, ())))))))))))))))) (fun r3 =>
    .sum (β := (Bool × Unit)) (γ := (Int × (Int × (Int × (Int × (Bool × (Bool × (Int × (Int × (Int × (Int × (Int × ((List UInt8) × ((List UInt8) × Unit)))))))))))))) (r3) (fun r4 =>
     .ret (r4.1, ())) (fun r4 =>
     .ite (decide (r4.2.1 = (7 : Int))) (
      .ite (decide (r4.2.2.2.2.2.2.2.1 ≤ (1 : Int))) (
       .ret (decide (r4.1 < (300 : Int)), ())) (
       .ret (false, ()))) (
      .ret (false, ())))))))))
theorem ipHopped_eq (x : ((List UInt8) × Unit)) : fnTr Tryd.prog cod [FS.pf sumFold, FS.pf sumAdd, FS.pf sumOf, FS.pf sumRight, FS.pf sumFix, FS.pf ipWordAt, FS.pf ipLongAt, FS.pf ipByt, FS.pf ipRefused, FS.pf ipWord, FS.pf ipLong, FS.pf ipWrite, FS.pf ipRead, itoaStr, joinStr, FS.pf ipHop, FS.pf ipShow, FS.pf ipLives, FS.pf ipTold] [(4, ipHopped_L4_6)] 30 4 ipHopped_ap ipHopped_rp x = ipHopped_tree x := by kernel_rfl
def ipHopped_fn (x : ((List UInt8) × Unit)) : Option (Bool × Unit) := (ipHopped_tree x).eval
def ipHopped : FS Tryd.prog := ⟨4, ipHopped_ap, ipHopped_rp, ipHopped_fn, fun x r h => fnTr_sound (cod := cod) (Γ := [FS.pf sumFold, FS.pf sumAdd, FS.pf sumOf, FS.pf sumRight, FS.pf sumFix, FS.pf ipWordAt, FS.pf ipLongAt, FS.pf ipByt, FS.pf ipRefused, FS.pf ipWord, FS.pf ipLong, FS.pf ipWrite, FS.pf ipRead, itoaStr, joinStr, FS.pf ipHop, FS.pf ipShow, FS.pf ipLives, FS.pf ipTold]) (Λs := [(4, ipHopped_L4_6)]) (n := 30) ((congrArg Tr.eval (ipHopped_eq x)).trans h)⟩
end Go.Proofs.YtkfpdgibaadmbaaDoor.X
