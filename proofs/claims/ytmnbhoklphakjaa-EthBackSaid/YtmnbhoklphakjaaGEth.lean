/- Functions of the program, as trees (printed by a program of mine: tool/XTool, xg.py), each with the proof that the machine comes to what its tree says. Conditions: none. -/
import Derived.Test.YtmnbhoklphakjaaCod
import Derived.KernelRfl
namespace Go.Proofs.Ytmnbhoklphakjaa.X
open Go Go.RowKit Go.Proofs.Ytmnbhoklphakjaa.Abs
set_option maxRecDepth 100000
set_option linter.unusedVariables false
def ethWrite_ap : List VP1 := [.agg [.i .u8, .i .u8, .i .u8, .i .u8, .i .u8, .i .u8, .i .u8, .i .u8, .i .u8, .i .u8, .i .u8, .i .u8, .i .i64, .i .i64, .s]]
def ethWrite_rp : SP := ⟨1, [(0, .tup [.one (.s), .one (.i .i64)])], []⟩
def ethWrite_tree : (Int × (Int × (Int × (Int × (Int × (Int × (Int × (Int × (Int × (Int × (Int × (Int × (Int × (Int × ((List UInt8) × Unit))))))))))))))) → Tr ((List UInt8) × (Int × Unit)) :=
  fun (a0, a1, a2, a3, a4, a5, a6, a7, a8, a9, a10, a11, a12, a13, a14, _) =>
  .ite (decide (a12 < (-1 : Int))) (
   .ret ([], ((1 : Int), ()))) (
   .ite (decide ((4095 : Int) < a12)) (
    .ret ([], ((1 : Int), ()))) (
    .ite (decide (a13 < (0 : Int))) (
     .ret ([], ((1 : Int), ()))) (
     .ite (decide ((65535 : Int) < a13)) (
      .ret ([], ((1 : Int), ()))) (
      .ite (decide (a12 = (-1 : Int))) (
       .ite (decide (a13 = (33024 : Int))) (
        .ret ([], ((4 : Int), ()))) (
        .ite (decide ((65535 : Int) < (↑(List.length a14) : Int))) (
         .ret ([], ((2 : Int), ()))) (
         .grd (decide (List.length (List.map (fun n => UInt8.ofNat (Int.toNat n)) [a0, a1, a2, a3, a4, a5]) + List.length (List.map (fun n => UInt8.ofNat (Int.toNat n)) [a6, a7, a8, a9, a10, a11]) ≤ (9223372036854775807 : Nat))) (
         .ite (decide ((0 : Int) ≤ a12)) (
          .grd (true) (
          .grd (true) (
          .grd (true) (
          .grd (true) (
          .grd (decide ((0 : Int) ≤ IntKind.wrap IntKind.u8 (Int.fdiv a12 ((2 : Int) ^ (8 : Nat))) ∧ IntKind.wrap IntKind.u8 (Int.fdiv a12 ((2 : Int) ^ (8 : Nat))) < (256 : Int))) (
          .grd (decide ((0 : Int) ≤ IntKind.wrap IntKind.u8 a12 ∧ IntKind.wrap IntKind.u8 a12 < (256 : Int))) (
          .grd (decide (List.length [UInt8.ofNat (129 : Nat), UInt8.ofNat (0 : Nat)] + List.length [UInt8.ofNat (Int.toNat (IntKind.wrap IntKind.u8 (Int.fdiv a12 ((2 : Int) ^ (8 : Nat))))), UInt8.ofNat (Int.toNat (IntKind.wrap IntKind.u8 a12))] ≤ (9223372036854775807 : Nat))) (
          .grd (decide (List.length (List.map (fun n => UInt8.ofNat (Int.toNat n)) [a0, a1, a2, a3, a4, a5] ++ List.map (fun n => UInt8.ofNat (Int.toNat n)) [a6, a7, a8, a9, a10, a11]) + List.length ([UInt8.ofNat (129 : Nat), UInt8.ofNat (0 : Nat)] ++ [UInt8.ofNat (Int.toNat (IntKind.wrap IntKind.u8 (Int.fdiv a12 ((2 : Int) ^ (8 : Nat))))), UInt8.ofNat (Int.toNat (IntKind.wrap IntKind.u8 a12))]) ≤ (9223372036854775807 : Nat))) (
          .grd (true) (
          .grd (decide ((0 : Int) ≤ IntKind.wrap IntKind.u8 (Int.fdiv a13 ((2 : Int) ^ (8 : Nat))) ∧ IntKind.wrap IntKind.u8 (Int.fdiv a13 ((2 : Int) ^ (8 : Nat))) < (256 : Int))) (
          .grd (decide ((0 : Int) ≤ IntKind.wrap IntKind.u8 a13 ∧ IntKind.wrap IntKind.u8 a13 < (256 : Int))) (
          .grd (decide (List.length (List.map (fun n => UInt8.ofNat (Int.toNat n)) [a0, a1, a2, a3, a4, a5] ++ List.map (fun n => UInt8.ofNat (Int.toNat n)) [a6, a7, a8, a9, a10, a11] ++ ([UInt8.ofNat (129 : Nat), UInt8.ofNat (0 : Nat)] ++ [UInt8.ofNat (Int.toNat (IntKind.wrap IntKind.u8 (Int.fdiv a12 ((2 : Int) ^ (8 : Nat))))), UInt8.ofNat (Int.toNat (IntKind.wrap IntKind.u8 a12))])) + List.length [UInt8.ofNat (Int.toNat (IntKind.wrap IntKind.u8 (Int.fdiv a13 ((2 : Int) ^ (8 : Nat))))), UInt8.ofNat (Int.toNat (IntKind.wrap IntKind.u8 a13))] ≤ (9223372036854775807 : Nat))) (
          .grd (decide (List.length (List.map (fun n => UInt8.ofNat (Int.toNat n)) [a0, a1, a2, a3, a4, a5] ++ List.map (fun n => UInt8.ofNat (Int.toNat n)) [a6, a7, a8, a9, a10, a11] ++ ([UInt8.ofNat (129 : Nat), UInt8.ofNat (0 : Nat)] ++ [UInt8.ofNat (Int.toNat (IntKind.wrap IntKind.u8 (Int.fdiv a12 ((2 : Int) ^ (8 : Nat))))), UInt8.ofNat (Int.toNat (IntKind.wrap IntKind.u8 a12))]) ++ [UInt8.ofNat (Int.toNat (IntKind.wrap IntKind.u8 (Int.fdiv a13 ((2 : Int) ^ (8 : Nat))))), UInt8.ofNat (Int.toNat (IntKind.wrap IntKind.u8 a13))]) + List.length a14 ≤ (9223372036854775807 : Nat))) (
          .ret (List.map (fun n => UInt8.ofNat (Int.toNat n)) [a0, a1, a2, a3, a4, a5] ++ List.map (fun n => UInt8.ofNat (Int.toNat n)) [a6, a7, a8, a9, a10, a11] ++ ([UInt8.ofNat (129 : Nat), UInt8.ofNat (0 : Nat)] ++ [UInt8.ofNat (Int.toNat (IntKind.wrap IntKind.u8 (Int.fdiv a12 ((2 : Int) ^ (8 : Nat))))), UInt8.ofNat (Int.toNat (IntKind.wrap IntKind.u8 a12))]) ++ [UInt8.ofNat (Int.toNat (IntKind.wrap IntKind.u8 (Int.fdiv a13 ((2 : Int) ^ (8 : Nat))))), UInt8.ofNat (Int.toNat (IntKind.wrap IntKind.u8 a13))] ++ a14, ((0 : Int), ())))))))))))))))) (
          .grd (true) (
          .grd (decide ((0 : Int) ≤ IntKind.wrap IntKind.u8 (Int.fdiv a13 ((2 : Int) ^ (8 : Nat))) ∧ IntKind.wrap IntKind.u8 (Int.fdiv a13 ((2 : Int) ^ (8 : Nat))) < (256 : Int))) (
          .grd (decide ((0 : Int) ≤ IntKind.wrap IntKind.u8 a13 ∧ IntKind.wrap IntKind.u8 a13 < (256 : Int))) (
          .grd (decide (List.length (List.map (fun n => UInt8.ofNat (Int.toNat n)) [a0, a1, a2, a3, a4, a5] ++ List.map (fun n => UInt8.ofNat (Int.toNat n)) [a6, a7, a8, a9, a10, a11]) + List.length [UInt8.ofNat (Int.toNat (IntKind.wrap IntKind.u8 (Int.fdiv a13 ((2 : Int) ^ (8 : Nat))))), UInt8.ofNat (Int.toNat (IntKind.wrap IntKind.u8 a13))] ≤ (9223372036854775807 : Nat))) (
          .grd (decide (List.length (List.map (fun n => UInt8.ofNat (Int.toNat n)) [a0, a1, a2, a3, a4, a5] ++ List.map (fun n => UInt8.ofNat (Int.toNat n)) [a6, a7, a8, a9, a10, a11] ++ [UInt8.ofNat (Int.toNat (IntKind.wrap IntKind.u8 (Int.fdiv a13 ((2 : Int) ^ (8 : Nat))))), UInt8.ofNat (Int.toNat (IntKind.wrap IntKind.u8 a13))]) + List.length a14 ≤ (9223372036854775807 : Nat))) (
          .ret (List.map (fun n => UInt8.ofNat (Int.toNat n)) [a0, a1, a2, a3, a4, a5] ++ List.map (fun n => UInt8.ofNat (Int.toNat n)) [a6, a7, a8, a9, a10, a11] ++ [UInt8.ofNat (Int.toNat (IntKind.wrap IntKind.u8 (Int.fdiv a13 ((2 : Int) ^ (8 : Nat))))), UInt8.ofNat (Int.toNat (IntKind.wrap IntKind.u8 a13))] ++ a14, ((0 : Int), ())))))))))))) (
       .ite (decide ((65535 : Int) < (↑(List.length a14) : Int))) (
        .ret ([], ((2 : Int), ()))) (
        .grd (decide (List.length (List.map (fun n => UInt8.ofNat (Int.toNat n)) [a0, a1, a2, a3, a4, a5]) + List.length (List.map (fun n => UInt8.ofNat (Int.toNat n)) [a6, a7, a8, a9, a10, a11]) ≤ (9223372036854775807 : Nat))) (
        .ite (decide ((0 : Int) ≤ a12)) (
         .grd (true) (
         .grd (true) (
         .grd (true) (
         .grd (true) (
         .grd (decide ((0 : Int) ≤ IntKind.wrap IntKind.u8 (Int.fdiv a12 ((2 : Int) ^ (8 : Nat))) ∧ IntKind.wrap IntKind.u8 (Int.fdiv a12 ((2 : Int) ^ (8 : Nat))) < (256 : Int))) (
         .grd (decide ((0 : Int) ≤ IntKind.wrap IntKind.u8 a12 ∧ IntKind.wrap IntKind.u8 a12 < (256 : Int))) (
         .grd (decide (List.length [UInt8.ofNat (129 : Nat), UInt8.ofNat (0 : Nat)] + List.length [UInt8.ofNat (Int.toNat (IntKind.wrap IntKind.u8 (Int.fdiv a12 ((2 : Int) ^ (8 : Nat))))), UInt8.ofNat (Int.toNat (IntKind.wrap IntKind.u8 a12))] ≤ (9223372036854775807 : Nat))) (
         .grd (decide (List.length (List.map (fun n => UInt8.ofNat (Int.toNat n)) [a0, a1, a2, a3, a4, a5] ++ List.map (fun n => UInt8.ofNat (Int.toNat n)) [a6, a7, a8, a9, a10, a11]) + List.length ([UInt8.ofNat (129 : Nat), UInt8.ofNat (0 : Nat)] ++ [UInt8.ofNat (Int.toNat (IntKind.wrap IntKind.u8 (Int.fdiv a12 ((2 : Int) ^ (8 : Nat))))), UInt8.ofNat (Int.toNat (IntKind.wrap IntKind.u8 a12))]) ≤ (9223372036854775807 : Nat))) (
         .grd (true) (
         .grd (decide ((0 : Int) ≤ IntKind.wrap IntKind.u8 (Int.fdiv a13 ((2 : Int) ^ (8 : Nat))) ∧ IntKind.wrap IntKind.u8 (Int.fdiv a13 ((2 : Int) ^ (8 : Nat))) < (256 : Int))) (
         .grd (decide ((0 : Int) ≤ IntKind.wrap IntKind.u8 a13 ∧ IntKind.wrap IntKind.u8 a13 < (256 : Int))) (
         .grd (decide (List.length (List.map (fun n => UInt8.ofNat (Int.toNat n)) [a0, a1, a2, a3, a4, a5] ++ List.map (fun n => UInt8.ofNat (Int.toNat n)) [a6, a7, a8, a9, a10, a11] ++ ([UInt8.ofNat (129 : Nat), UInt8.ofNat (0 : Nat)] ++ [UInt8.ofNat (Int.toNat (IntKind.wrap IntKind.u8 (Int.fdiv a12 ((2 : Int) ^ (8 : Nat))))), UInt8.ofNat (Int.toNat (IntKind.wrap IntKind.u8 a12))])) + List.length [UInt8.ofNat (Int.toNat (IntKind.wrap IntKind.u8 (Int.fdiv a13 ((2 : Int) ^ (8 : Nat))))), UInt8.ofNat (Int.toNat (IntKind.wrap IntKind.u8 a13))] ≤ (9223372036854775807 : Nat))) (
         .grd (decide (List.length (List.map (fun n => UInt8.ofNat (Int.toNat n)) [a0, a1, a2, a3, a4, a5] ++ List.map (fun n => UInt8.ofNat (Int.toNat n)) [a6, a7, a8, a9, a10, a11] ++ ([UInt8.ofNat (129 : Nat), UInt8.ofNat (0 : Nat)] ++ [UInt8.ofNat (Int.toNat (IntKind.wrap IntKind.u8 (Int.fdiv a12 ((2 : Int) ^ (8 : Nat))))), UInt8.ofNat (Int.toNat (IntKind.wrap IntKind.u8 a12))]) ++ [UInt8.ofNat (Int.toNat (IntKind.wrap IntKind.u8 (Int.fdiv a13 ((2 : Int) ^ (8 : Nat))))), UInt8.ofNat (Int.toNat (IntKind.wrap IntKind.u8 a13))]) + List.length a14 ≤ (9223372036854775807 : Nat))) (
         .ret (List.map (fun n => UInt8.ofNat (Int.toNat n)) [a0, a1, a2, a3, a4, a5] ++ List.map (fun n => UInt8.ofNat (Int.toNat n)) [a6, a7, a8, a9, a10, a11] ++ ([UInt8.ofNat (129 : Nat), UInt8.ofNat (0 : Nat)] ++ [UInt8.ofNat (Int.toNat (IntKind.wrap IntKind.u8 (Int.fdiv a12 ((2 : Int) ^ (8 : Nat))))), UInt8.ofNat (Int.toNat (IntKind.wrap IntKind.u8 a12))]) ++ [UInt8.ofNat (Int.toNat (IntKind.wrap IntKind.u8 (Int.fdiv a13 ((2 : Int) ^ (8 : Nat))))), UInt8.ofNat (Int.toNat (IntKind.wrap IntKind.u8 a13))] ++ a14, ((0 : Int), ())))))))))))))))) (
         .grd (true) (
         .grd (decide ((0 : Int) ≤ IntKind.wrap IntKind.u8 (Int.fdiv a13 ((2 : Int) ^ (8 : Nat))) ∧ IntKind.wrap IntKind.u8 (Int.fdiv a13 ((2 : Int) ^ (8 : Nat))) < (256 : Int))) (
         .grd (decide ((0 : Int) ≤ IntKind.wrap IntKind.u8 a13 ∧ IntKind.wrap IntKind.u8 a13 < (256 : Int))) (
         .grd (decide (List.length (List.map (fun n => UInt8.ofNat (Int.toNat n)) [a0, a1, a2, a3, a4, a5] ++ List.map (fun n => UInt8.ofNat (Int.toNat n)) [a6, a7, a8, a9, a10, a11]) + List.length [UInt8.ofNat (Int.toNat (IntKind.wrap IntKind.u8 (Int.fdiv a13 ((2 : Int) ^ (8 : Nat))))), UInt8.ofNat (Int.toNat (IntKind.wrap IntKind.u8 a13))] ≤ (9223372036854775807 : Nat))) (
         .grd (decide (List.length (List.map (fun n => UInt8.ofNat (Int.toNat n)) [a0, a1, a2, a3, a4, a5] ++ List.map (fun n => UInt8.ofNat (Int.toNat n)) [a6, a7, a8, a9, a10, a11] ++ [UInt8.ofNat (Int.toNat (IntKind.wrap IntKind.u8 (Int.fdiv a13 ((2 : Int) ^ (8 : Nat))))), UInt8.ofNat (Int.toNat (IntKind.wrap IntKind.u8 a13))]) + List.length a14 ≤ (9223372036854775807 : Nat))) (
         .ret (List.map (fun n => UInt8.ofNat (Int.toNat n)) [a0, a1, a2, a3, a4, a5] ++ List.map (fun n => UInt8.ofNat (Int.toNat n)) [a6, a7, a8, a9, a10, a11] ++ [UInt8.ofNat (Int.toNat (IntKind.wrap IntKind.u8 (Int.fdiv a13 ((2 : Int) ^ (8 : Nat))))), UInt8.ofNat (Int.toNat (IntKind.wrap IntKind.u8 a13))] ++ a14, ((0 : Int), ())))))))))))))))
theorem ethWrite_eq (x : (Int × (Int × (Int × (Int × (Int × (Int × (Int × (Int × (Int × (Int × (Int × (Int × (Int × (Int × ((List UInt8) × Unit)))))))))))))))) : fnTr Try.prog cod [] [] 30 22 ethWrite_ap ethWrite_rp x = ethWrite_tree x := by kernel_rfl
def ethWrite_fn (x : (Int × (Int × (Int × (Int × (Int × (Int × (Int × (Int × (Int × (Int × (Int × (Int × (Int × (Int × ((List UInt8) × Unit)))))))))))))))) : Option ((List UInt8) × (Int × Unit)) := (ethWrite_tree x).eval
def ethWrite : FS Try.prog := ⟨22, ethWrite_ap, ethWrite_rp, ethWrite_fn, fun x r h => fnTr_sound (cod := cod) (Γ := []) (Λs := []) (n := 30) ((congrArg Tr.eval (ethWrite_eq x)).trans h)⟩
def ethRead_ap : List VP1 := [.one (.s)]
def ethRead_rp : SP := ⟨1, [(0, .tup [.agg [.i .u8, .i .u8, .i .u8, .i .u8, .i .u8, .i .u8, .i .u8, .i .u8, .i .u8, .i .u8, .i .u8, .i .u8, .i .i64, .i .i64, .s], .one (.i .i64)])], []⟩
def ethRead_tree : ((List UInt8) × Unit) → Tr (Int × (Int × (Int × (Int × (Int × (Int × (Int × (Int × (Int × (Int × (Int × (Int × (Int × (Int × ((List UInt8) × (Int × Unit)))))))))))))))) :=
  fun (a0, _) =>
  .ite (decide ((↑(List.length a0) : Int) < (14 : Int))) (
   .ret ((0 : Int), ((0 : Int), ((0 : Int), ((0 : Int), ((0 : Int), ((0 : Int), ((0 : Int), ((0 : Int), ((0 : Int), ((0 : Int), ((0 : Int), ((0 : Int), ((0 : Int), ((0 : Int), ([], ((3 : Int), ()))))))))))))))))) (
   .grd (decide ((0 : Int) ≤ (0 : Int) ∧ (0 : Int) ≤ (6 : Int) ∧ (6 : Int) ≤ (↑(List.length a0) : Int))) (
   .grd (decide (List.length (List.drop (0 : Nat) (List.take (6 : Nat) a0)) ≤ (9223372036854775807 : Nat))) (
   .grd (decide ((6 : Nat) ≤ List.length (List.drop (0 : Nat) (List.take (6 : Nat) a0)))) (
   .grd (decide ((0 : Nat) + (6 : Nat) ≤ List.length (List.drop (0 : Nat) (List.take (6 : Nat) a0)))) (
   .grd (decide ((0 : Int) ≤ (6 : Int) ∧ (6 : Int) ≤ (12 : Int) ∧ (12 : Int) ≤ (↑(List.length a0) : Int))) (
   .grd (decide (List.length (List.drop (6 : Nat) (List.take (12 : Nat) a0)) ≤ (9223372036854775807 : Nat))) (
   .grd (decide ((6 : Nat) ≤ List.length (List.drop (6 : Nat) (List.take (12 : Nat) a0)))) (
   .grd (decide ((0 : Nat) + (6 : Nat) ≤ List.length (List.drop (6 : Nat) (List.take (12 : Nat) a0)))) (
   .grd (decide ((0 : Int) ≤ (12 : Int) ∧ (12 : Int) ≤ (↑(List.length a0) : Int) ∧ (↑(List.length a0) : Int) ≤ (↑(List.length a0) : Int))) (
   .grd (decide ((0 : Int) ≤ (0 : Int) ∧ (0 : Int) < (↑(List.length (List.drop (12 : Nat) (List.take (Int.toNat (↑(List.length a0) : Int)) a0))) : Int))) (
   .grd (true) (
   .grd (decide ((0 : Int) ≤ (1 : Int) ∧ (1 : Int) < (↑(List.length (List.drop (12 : Nat) (List.take (Int.toNat (↑(List.length a0) : Int)) a0))) : Int))) (
   .ite (decide (bits BinOp.or IntKind.i64 (IntKind.wrap IntKind.i64 (IntKind.wrap IntKind.i64 (↑(UInt8.toNat (List.getD (List.drop (12 : Nat) (List.take (Int.toNat (↑(List.length a0) : Int)) a0)) (0 : Nat) (0 : UInt8))) : Int) * (2 : Int) ^ (8 : Nat))) (IntKind.wrap IntKind.i64 (↑(UInt8.toNat (List.getD (List.drop (12 : Nat) (List.take (Int.toNat (↑(List.length a0) : Int)) a0)) (1 : Nat) (0 : UInt8))) : Int)) = (33024 : Int))) (
    .ite (decide ((↑(List.length (List.drop (12 : Nat) (List.take (Int.toNat (↑(List.length a0) : Int)) a0))) : Int) < (6 : Int))) (
     .ret ((0 : Int), ((0 : Int), ((0 : Int), ((0 : Int), ((0 : Int), ((0 : Int), ((0 : Int), ((0 : Int), ((0 : Int), ((0 : Int), ((0 : Int), ((0 : Int), ((0 : Int), ((0 : Int), ([], ((3 : Int), ()))))))))))))))))) (
     .grd (decide ((0 : Int) ≤ (2 : Int) ∧ (2 : Int) < (↑(List.length (List.drop (12 : Nat) (List.take (Int.toNat (↑(List.length a0) : Int)) a0))) : Int))) (
     .grd (true) (
     .grd (decide ((0 : Int) ≤ (3 : Int) ∧ (3 : Int) < (↑(List.length (List.drop (12 : Nat) (List.take (Int.toNat (↑(List.length a0) : Int)) a0))) : Int))) (
     .grd (decide ((0 : Int) ≤ (4 : Int) ∧ (4 : Int) ≤ (↑(List.length (List.drop (12 : Nat) (List.take (Int.toNat (↑(List.length a0) : Int)) a0))) : Int) ∧ (↑(List.length (List.drop (12 : Nat) (List.take (Int.toNat (↑(List.length a0) : Int)) a0))) : Int) ≤ (↑(List.length (List.drop (12 : Nat) (List.take (Int.toNat (↑(List.length a0) : Int)) a0))) : Int))) (
     .grd (decide ((0 : Int) ≤ (0 : Int) ∧ (0 : Int) < (↑(List.length (List.drop (4 : Nat) (List.take (Int.toNat (↑(List.length (List.drop (12 : Nat) (List.take (Int.toNat (↑(List.length a0) : Int)) a0))) : Int)) (List.drop (12 : Nat) (List.take (Int.toNat (↑(List.length a0) : Int)) a0))))) : Int))) (
     .grd (true) (
     .grd (decide ((0 : Int) ≤ (1 : Int) ∧ (1 : Int) < (↑(List.length (List.drop (4 : Nat) (List.take (Int.toNat (↑(List.length (List.drop (12 : Nat) (List.take (Int.toNat (↑(List.length a0) : Int)) a0))) : Int)) (List.drop (12 : Nat) (List.take (Int.toNat (↑(List.length a0) : Int)) a0))))) : Int))) (
     .grd (decide ((0 : Int) ≤ (2 : Int) ∧ (2 : Int) ≤ (↑(List.length (List.drop (4 : Nat) (List.take (Int.toNat (↑(List.length (List.drop (12 : Nat) (List.take (Int.toNat (↑(List.length a0) : Int)) a0))) : Int)) (List.drop (12 : Nat) (List.take (Int.toNat (↑(List.length a0) : Int)) a0))))) : Int) ∧ (↑(List.length (List.drop (4 : Nat) (List.take (Int.toNat (↑(List.length (List.drop (12 : Nat) (List.take (Int.toNat (↑(List.length a0) : Int)) a0))) : Int)) (List.drop (12 : Nat) (List.take (Int.toNat (↑(List.length a0) : Int)) a0))))) : Int) ≤ (↑(List.length (List.drop (4 : Nat) (List.take (Int.toNat (↑(List.length (List.drop (12 : Nat) (List.take (Int.toNat (↑(List.length a0) : Int)) a0))) : Int)) (List.drop (12 : Nat) (List.take (Int.toNat (↑(List.length a0) : Int)) a0))))) : Int))) (
     .ite (decide ((4095 : Int) < bits BinOp.or IntKind.i64 (IntKind.wrap IntKind.i64 (IntKind.wrap IntKind.i64 (↑(UInt8.toNat (List.getD (List.drop (12 : Nat) (List.take (Int.toNat (↑(List.length a0) : Int)) a0)) (2 : Nat) (0 : UInt8))) : Int) * (2 : Int) ^ (8 : Nat))) (IntKind.wrap IntKind.i64 (↑(UInt8.toNat (List.getD (List.drop (12 : Nat) (List.take (Int.toNat (↑(List.length a0) : Int)) a0)) (3 : Nat) (0 : UInt8))) : Int)))) (
      .ret ((0 : Int), ((0 : Int), ((0 : Int), ((0 : Int), ((0 : Int), ((0 : Int), ((0 : Int), ((0 : Int), ((0 : Int), ((0 : Int), ((0 : Int), ((0 : Int), ((0 : Int), ((0 : Int), ([], ((4 : Int), ()))))))))))))))))) (
      .ite (decide ((65535 : Int) < (↑(List.length (List.drop (2 : Nat) (List.take (Int.toNat (↑(List.length (List.drop (4 : Nat) (List.take (Int.toNat (↑(List.length (List.drop (12 : Nat) (List.take (Int.toNat (↑(List.length a0) : Int)) a0))) : Int)) (List.drop (12 : Nat) (List.take (Int.toNat (↑(List.length a0) : Int)) a0))))) : Int)) (List.drop (4 : Nat) (List.take (Int.toNat (↑(List.length (List.drop (12 : Nat) (List.take (Int.toNat (↑(List.length a0) : Int)) a0))) : Int)) (List.drop (12 : Nat) (List.take (Int.toNat (↑(List.length a0) : Int)) a0))))))) : Int))) (
       .ret ((0 : Int), ((0 : Int), ((0 : Int), ((0 : Int), ((0 : Int), ((0 : Int), ((0 : Int), ((0 : Int), ((0 : Int), ((0 : Int), ((0 : Int), ((0 : Int), ((0 : Int), ((0 : Int), ([], ((2 : Int), ()))))))))))))))))) (
       .ret ((↑(UInt8.toNat (List.getD (List.drop (0 : Nat) (List.take (6 : Nat) a0)) ((0 : Nat) + nat_lit 0) (0 : UInt8))) : Int), ((↑(UInt8.toNat (List.getD (List.drop (0 : Nat) (List.take (6 : Nat) a0)) ((0 : Nat) + nat_lit 1) (0 : UInt8))) : Int), ((↑(UInt8.toNat (List.getD (List.drop (0 : Nat) (List.take (6 : Nat) a0)) ((0 : Nat) + nat_lit 2) (0 : UInt8))) : Int), ((↑(UInt8.toNat (List.getD (List.drop (0 : Nat) (List.take (6 : Nat) a0)) ((0 : Nat) + nat_lit 3) (0 : UInt8))) : Int), ((↑(UInt8.toNat (List.getD (List.drop (0 : Nat) (List.take (6 : Nat) a0)) ((0 : Nat) + nat_lit 4) (0 : UInt8))) : Int), ((↑(UInt8.toNat (List.getD (List.drop (0 : Nat) (List.take (6 : Nat) a0)) ((0 : Nat) + nat_lit 5) (0 : UInt8))) : Int), ((↑(UInt8.toNat (List.getD (List.drop (6 : Nat) (List.take (12 : Nat) a0)) ((0 : Nat) + nat_lit 0) (0 : UInt8))) : Int), ((↑(UInt8.toNat (List.getD (List.drop (6 : Nat) (List.take (12 : Nat) a0)) ((0 : Nat) + nat_lit 1) (0 : UInt8))) : Int), ((↑(UInt8.toNat (List.getD (List.drop (6 : Nat) (List.take (12 : Nat) a0)) ((0 : Nat) + nat_lit 2) (0 : UInt8))) : Int), ((↑(UInt8.toNat (List.getD (List.drop (6 : Nat) (List.take (12 : Nat) a0)) ((0 : Nat) + nat_lit 3) (0 : UInt8))) : Int), ((↑(UInt8.toNat (List.getD (List.drop (6 : Nat) (List.take (12 : Nat) a0)) ((0 : Nat) + nat_lit 4) (0 : UInt8))) : Int), ((↑(UInt8.toNat (List.getD (List.drop (6 : Nat) (List.take (12 : Nat) a0)) ((0 : Nat) + nat_lit 5) (0 : UInt8))) : Int), (bits BinOp.or IntKind.i64 (IntKind.wrap IntKind.i64 (IntKind.wrap IntKind.i64 (↑(UInt8.toNat (List.getD (List.drop (12 : Nat) (List.take (Int.toNat (↑(List.length a0) : Int)) a0)) (2 : Nat) (0 : UInt8))) : Int) * (2 : Int) ^ (8 : Nat))) (IntKind.wrap IntKind.i64 (↑(UInt8.toNat (List.getD (List.drop (12 : Nat) (List.take (Int.toNat (↑(List.length a0) : Int)) a0)) (3 : Nat) (0 : UInt8))) : Int)), (bits BinOp.or IntKind.i64 (IntKind.wrap IntKind.i64 (IntKind.wrap IntKind.i64 (↑(UInt8.toNat (List.getD (List.drop (4 : Nat) (List.take (Int.toNat (↑(List.length (List.drop (12 : Nat) (List.take (Int.toNat (↑(List.length a0) : Int)) a0))) : Int)) (List.drop (12 : Nat) (List.take (Int.toNat (↑(List.length a0) : Int)) a0)))) (0 : Nat) (0 : UInt8))) : Int) * (2 : Int) ^ (8 : Nat))) (IntKind.wrap IntKind.i64 (↑(UInt8.toNat (List.getD (List.drop (4 : Nat) (List.take (Int.toNat (↑(List.length (List.drop (12 : Nat) (List.take (Int.toNat (↑(List.length a0) : Int)) a0))) : Int)) (List.drop (12 : Nat) (List.take (Int.toNat (↑(List.length a0) : Int)) a0)))) (1 : Nat) (0 : UInt8))) : Int)), (List.drop (2 : Nat) (List.take (Int.toNat (↑(List.length (List.drop (4 : Nat) (List.take (Int.toNat (↑(List.length (List.drop (12 : Nat) (List.take (Int.toNat (↑(List.length a0) : Int)) a0))) : Int)) (List.drop (12 : Nat) (List.take (Int.toNat (↑(List.length a0) : Int)) a0))))) : Int)) (List.drop (4 : Nat) (List.take (Int.toNat (↑(List.length (List.drop (12 : Nat) (List.take (Int.toNat (↑(List.length a0) : Int)) a0))) : Int)) (List.drop (12 : Nat) (List.take (Int.toNat (↑(List.length a0) : Int)) a0))))), ((0 : Int), ())))))))))))))))))))))))))))) (
    .grd (decide ((0 : Int) ≤ (0 : Int) ∧ (0 : Int) < (↑(List.length (List.drop (12 : Nat) (List.take (Int.toNat (↑(List.length a0) : Int)) a0))) : Int))) (
    .grd (true) (
    .grd (decide ((0 : Int) ≤ (1 : Int) ∧ (1 : Int) < (↑(List.length (List.drop (12 : Nat) (List.take (Int.toNat (↑(List.length a0) : Int)) a0))) : Int))) (
    .grd (decide ((0 : Int) ≤ (2 : Int) ∧ (2 : Int) ≤ (↑(List.length (List.drop (12 : Nat) (List.take (Int.toNat (↑(List.length a0) : Int)) a0))) : Int) ∧ (↑(List.length (List.drop (12 : Nat) (List.take (Int.toNat (↑(List.length a0) : Int)) a0))) : Int) ≤ (↑(List.length (List.drop (12 : Nat) (List.take (Int.toNat (↑(List.length a0) : Int)) a0))) : Int))) (
    .ite (false) (
     .ret ((0 : Int), ((0 : Int), ((0 : Int), ((0 : Int), ((0 : Int), ((0 : Int), ((0 : Int), ((0 : Int), ((0 : Int), ((0 : Int), ((0 : Int), ((0 : Int), ((0 : Int), ((0 : Int), ([], ((4 : Int), ()))))))))))))))))) (
     .ite (decide ((65535 : Int) < (↑(List.length (List.drop (2 : Nat) (List.take (Int.toNat (↑(List.length (List.drop (12 : Nat) (List.take (Int.toNat (↑(List.length a0) : Int)) a0))) : Int)) (List.drop (12 : Nat) (List.take (Int.toNat (↑(List.length a0) : Int)) a0))))) : Int))) (
      .ret ((0 : Int), ((0 : Int), ((0 : Int), ((0 : Int), ((0 : Int), ((0 : Int), ((0 : Int), ((0 : Int), ((0 : Int), ((0 : Int), ((0 : Int), ((0 : Int), ((0 : Int), ((0 : Int), ([], ((2 : Int), ()))))))))))))))))) (
      .ret ((↑(UInt8.toNat (List.getD (List.drop (0 : Nat) (List.take (6 : Nat) a0)) ((0 : Nat) + nat_lit 0) (0 : UInt8))) : Int), ((↑(UInt8.toNat (List.getD (List.drop (0 : Nat) (List.take (6 : Nat) a0)) ((0 : Nat) + nat_lit 1) (0 : UInt8))) : Int), ((↑(UInt8.toNat (List.getD (List.drop (0 : Nat) (List.take (6 : Nat) a0)) ((0 : Nat) + nat_lit 2) (0 : UInt8))) : Int), ((↑(UInt8.toNat (List.getD (List.drop (0 : Nat) (List.take (6 : Nat) a0)) ((0 : Nat) + nat_lit 3) (0 : UInt8))) : Int), ((↑(UInt8.toNat (List.getD (List.drop (0 : Nat) (List.take (6 : Nat) a0)) ((0 : Nat) + nat_lit 4) (0 : UInt8))) : Int), ((↑(UInt8.toNat (List.getD (List.drop (0 : Nat) (List.take (6 : Nat) a0)) ((0 : Nat) + nat_lit 5) (0 : UInt8))) : Int), ((↑(UInt8.toNat (List.getD (List.drop (6 : Nat) (List.take (12 : Nat) a0)) ((0 : Nat) + nat_lit 0) (0 : UInt8))) : Int), ((↑(UInt8.toNat (List.getD (List.drop (6 : Nat) (List.take (12 : Nat) a0)) ((0 : Nat) + nat_lit 1) (0 : UInt8))) : Int), ((↑(UInt8.toNat (List.getD (List.drop (6 : Nat) (List.take (12 : Nat) a0)) ((0 : Nat) + nat_lit 2) (0 : UInt8))) : Int), ((↑(UInt8.toNat (List.getD (List.drop (6 : Nat) (List.take (12 : Nat) a0)) ((0 : Nat) + nat_lit 3) (0 : UInt8))) : Int), ((↑(UInt8.toNat (List.getD (List.drop (6 : Nat) (List.take (12 : Nat) a0)) ((0 : Nat) + nat_lit 4) (0 : UInt8))) : Int), ((↑(UInt8.toNat (List.getD (List.drop (6 : Nat) (List.take (12 : Nat) a0)) ((0 : Nat) + nat_lit 5) (0 : UInt8))) : Int), ((-1 : Int), (bits BinOp.or IntKind.i64 (IntKind.wrap IntKind.i64 (IntKind.wrap IntKind.i64 (↑(UInt8.toNat (List.getD (List.drop (12 : Nat) (List.take (Int.toNat (↑(List.length a0) : Int)) a0)) (0 : Nat) (0 : UInt8))) : Int) * (2 : Int) ^ (8 : Nat))) (IntKind.wrap IntKind.i64 (↑(UInt8.toNat (List.getD (List.drop (12 : Nat) (List.take (Int.toNat (↑(List.length a0) : Int)) a0)) (1 : Nat) (0 : UInt8))) : Int)), (List.drop (2 : Nat) (List.take (Int.toNat (↑(List.length (List.drop (12 : Nat) (List.take (Int.toNat (↑(List.length a0) : Int)) a0))) : Int)) (List.drop (12 : Nat) (List.take (Int.toNat (↑(List.length a0) : Int)) a0))), ((0 : Int), ()))))))))))))))))))))))))))))))))))))
theorem ethRead_eq (x : ((List UInt8) × Unit)) : fnTr Try.prog cod [FS.pf ethWrite] [] 30 20 ethRead_ap ethRead_rp x = ethRead_tree x := by kernel_rfl
def ethRead_fn (x : ((List UInt8) × Unit)) : Option (Int × (Int × (Int × (Int × (Int × (Int × (Int × (Int × (Int × (Int × (Int × (Int × (Int × (Int × ((List UInt8) × (Int × Unit)))))))))))))))) := (ethRead_tree x).eval
def ethRead : FS Try.prog := ⟨20, ethRead_ap, ethRead_rp, ethRead_fn, fun x r h => fnTr_sound (cod := cod) (Γ := [FS.pf ethWrite]) (Λs := []) (n := 30) ((congrArg Tr.eval (ethRead_eq x)).trans h)⟩
def ethLives_ap : List VP1 := []
def ethLives_rp : SP := ⟨1, [(0, .v (.one (.b)))], []⟩
def ethLives_tree : Unit → Tr (Bool × Unit) :=
  fun (_) =>
  .opt (β := ((List UInt8) × (Int × Unit))) ((ethWrite_fn ((1 : Int), ((0 : Int), ((0 : Int), ((0 : Int), ((0 : Int), ((0 : Int), ((2 : Int), ((0 : Int), ((0 : Int), ((0 : Int), ((0 : Int), ((0 : Int), ((5 : Int), ((2048 : Int), ([(120 : UInt8)], ()))))))))))))))))) (fun r0 =>
  .ite (decide (r0.2.1 = (0 : Int))) (
   .ret (decide (r0.1 = [(1 : UInt8), (0 : UInt8), (0 : UInt8), (0 : UInt8), (0 : UInt8), (0 : UInt8), (2 : UInt8), (0 : UInt8), (0 : UInt8), (0 : UInt8), (0 : UInt8), (0 : UInt8), (129 : UInt8), (0 : UInt8), (0 : UInt8), (5 : UInt8), (8 : UInt8), (0 : UInt8), (120 : UInt8)]), ())) (
   .ret (false, ())))
theorem ethLives_eq (x : Unit) : fnTr Try.prog cod [FS.pf ethWrite, FS.pf ethRead] [] 30 21 ethLives_ap ethLives_rp x = ethLives_tree x := by kernel_rfl
def ethLives_fn (x : Unit) : Option (Bool × Unit) := (ethLives_tree x).eval
def ethLives : FS Try.prog := ⟨21, ethLives_ap, ethLives_rp, ethLives_fn, fun x r h => fnTr_sound (cod := cod) (Γ := [FS.pf ethWrite, FS.pf ethRead]) (Λs := []) (n := 30) ((congrArg Tr.eval (ethLives_eq x)).trans h)⟩
def ethRest_ap : List VP1 := [.one (.s), .one (.s)]
def ethRest_rp : SP := ⟨1, [(0, .v (.one (.b)))], []⟩
def ethRest_tree : ((List UInt8) × ((List UInt8) × Unit)) → Tr (Bool × Unit) :=
  fun (a0, a1, _) =>
  .opt (β := (Int × (Int × (Int × (Int × (Int × (Int × (Int × (Int × (Int × (Int × (Int × (Int × (Int × (Int × ((List UInt8) × (Int × Unit))))))))))))))))) ((ethRead_fn (a0, ()))) (fun r0 =>
  .opt (β := (Bool × Unit)) ((ethLives_fn ())) (fun r1 =>
  .ite (!r1.1) (
   .opt (β := (Bool × Unit)) ((ethLives_fn ())) (fun r2 =>
   .ite (r2.1) (
    .ret (decide (r0.1 = (0 : Int)) && (decide (r0.2.1 = (0 : Int)) && (decide (r0.2.2.1 = (0 : Int)) && (decide (r0.2.2.2.1 = (0 : Int)) && (decide (r0.2.2.2.2.1 = (0 : Int)) && (decide (r0.2.2.2.2.2.1 = (0 : Int)) && true))))) && (decide (r0.2.2.2.2.2.2.1 = (0 : Int)) && (decide (r0.2.2.2.2.2.2.2.1 = (0 : Int)) && (decide (r0.2.2.2.2.2.2.2.2.1 = (0 : Int)) && (decide (r0.2.2.2.2.2.2.2.2.2.1 = (0 : Int)) && (decide (r0.2.2.2.2.2.2.2.2.2.2.1 = (0 : Int)) && (decide (r0.2.2.2.2.2.2.2.2.2.2.2.1 = (0 : Int)) && true))))) && (decide (r0.2.2.2.2.2.2.2.2.2.2.2.2.1 = (0 : Int)) && (decide (r0.2.2.2.2.2.2.2.2.2.2.2.2.2.1 = (0 : Int)) && (decide (r0.2.2.2.2.2.2.2.2.2.2.2.2.2.2.1 = []) && true)))), ())) (
    .ret (false, ())))) (
   .ite (!decide (r0.2.2.2.2.2.2.2.2.2.2.2.2.2.2.2.1 = (0 : Int))) (
    .opt (β := (Bool × Unit)) ((ethLives_fn ())) (fun r2 =>
    .ite (r2.1) (
     .ret (decide (r0.1 = (0 : Int)) && (decide (r0.2.1 = (0 : Int)) && (decide (r0.2.2.1 = (0 : Int)) && (decide (r0.2.2.2.1 = (0 : Int)) && (decide (r0.2.2.2.2.1 = (0 : Int)) && (decide (r0.2.2.2.2.2.1 = (0 : Int)) && true))))) && (decide (r0.2.2.2.2.2.2.1 = (0 : Int)) && (decide (r0.2.2.2.2.2.2.2.1 = (0 : Int)) && (decide (r0.2.2.2.2.2.2.2.2.1 = (0 : Int)) && (decide (r0.2.2.2.2.2.2.2.2.2.1 = (0 : Int)) && (decide (r0.2.2.2.2.2.2.2.2.2.2.1 = (0 : Int)) && (decide (r0.2.2.2.2.2.2.2.2.2.2.2.1 = (0 : Int)) && true))))) && (decide (r0.2.2.2.2.2.2.2.2.2.2.2.2.1 = (0 : Int)) && (decide (r0.2.2.2.2.2.2.2.2.2.2.2.2.2.1 = (0 : Int)) && (decide (r0.2.2.2.2.2.2.2.2.2.2.2.2.2.2.1 = []) && true)))), ())) (
     .ret (false, ())))) (
    .grd (decide (List.length a0 + List.length a1 ≤ (9223372036854775807 : Nat))) (
    .opt (β := (Int × (Int × (Int × (Int × (Int × (Int × (Int × (Int × (Int × (Int × (Int × (Int × (Int × (Int × ((List UInt8) × (Int × Unit))))))))))))))))) ((ethRead_fn (a0 ++ a1, ()))) (fun r2 =>
    .grd (decide ((0 : Int) ≤ (0 : Int) ∧ (0 : Int) ≤ IntKind.wrap IntKind.i64 ((↑(List.length a0) : Int) - (↑(List.length r0.2.2.2.2.2.2.2.2.2.2.2.2.2.2.1) : Int)) ∧ IntKind.wrap IntKind.i64 ((↑(List.length a0) : Int) - (↑(List.length r0.2.2.2.2.2.2.2.2.2.2.2.2.2.2.1) : Int)) ≤ (↑(List.length a0) : Int))) (
    .opt (β := (Int × (Int × (Int × (Int × (Int × (Int × (Int × (Int × (Int × (Int × (Int × (Int × (Int × (Int × ((List UInt8) × (Int × Unit))))))))))))))))) ((ethRead_fn (List.drop (0 : Nat) (List.take (Int.toNat (IntKind.wrap IntKind.i64 ((↑(List.length a0) : Int) - (↑(List.length r0.2.2.2.2.2.2.2.2.2.2.2.2.2.2.1) : Int)))) a0), ()))) (fun r3 =>
    .grd (decide ((0 : Int) ≤ (0 : Int) ∧ (0 : Int) ≤ IntKind.wrap IntKind.i64 (IntKind.wrap IntKind.i64 ((↑(List.length a0) : Int) - (↑(List.length r0.2.2.2.2.2.2.2.2.2.2.2.2.2.2.1) : Int)) - (1 : Int)) ∧ IntKind.wrap IntKind.i64 (IntKind.wrap IntKind.i64 ((↑(List.length a0) : Int) - (↑(List.length r0.2.2.2.2.2.2.2.2.2.2.2.2.2.2.1) : Int)) - (1 : Int)) ≤ (↑(List.length a0) : Int))) (
    .opt (β := (Int × (Int × (Int × (Int × (Int × (Int × (Int × (Int × (Int × (Int × (Int × (Int × (Int × (Int × ((List UInt8) × (Int × Unit))))))))))))))))) ((ethRead_fn (List.drop (0 : Nat) (List.take (Int.toNat (IntKind.wrap IntKind.i64 (IntKind.wrap IntKind.i64 ((↑(List.length a0) : Int) - (↑(List.length r0.2.2.2.2.2.2.2.2.2.2.2.2.2.2.1) : Int)) - (1 : Int)))) a0), ()))) (fun r4 =>
    .ite (decide (r2.2.2.2.2.2.2.2.2.2.2.2.2.2.2.2.1 = (2 : Int))) (
     .ite (decide ((65535 : Int) < IntKind.wrap IntKind.i64 ((↑(List.length r0.2.2.2.2.2.2.2.2.2.2.2.2.2.2.1) : Int) + (↑(List.length a1) : Int)))) (
      .ite (decide (r3.2.2.2.2.2.2.2.2.2.2.2.2.2.2.2.1 = (0 : Int))) (
       .ite (decide (r3.1 = r0.1) && (decide (r3.2.1 = r0.2.1) && (decide (r3.2.2.1 = r0.2.2.1) && (decide (r3.2.2.2.1 = r0.2.2.2.1) && (decide (r3.2.2.2.2.1 = r0.2.2.2.2.1) && (decide (r3.2.2.2.2.2.1 = r0.2.2.2.2.2.1) && true))))) && (decide (r3.2.2.2.2.2.2.1 = r0.2.2.2.2.2.2.1) && (decide (r3.2.2.2.2.2.2.2.1 = r0.2.2.2.2.2.2.2.1) && (decide (r3.2.2.2.2.2.2.2.2.1 = r0.2.2.2.2.2.2.2.2.1) && (decide (r3.2.2.2.2.2.2.2.2.2.1 = r0.2.2.2.2.2.2.2.2.2.1) && (decide (r3.2.2.2.2.2.2.2.2.2.2.1 = r0.2.2.2.2.2.2.2.2.2.2.1) && (decide (r3.2.2.2.2.2.2.2.2.2.2.2.1 = r0.2.2.2.2.2.2.2.2.2.2.2.1) && true))))) && (decide (r3.2.2.2.2.2.2.2.2.2.2.2.2.1 = r0.2.2.2.2.2.2.2.2.2.2.2.2.1) && (decide (r3.2.2.2.2.2.2.2.2.2.2.2.2.2.1 = r0.2.2.2.2.2.2.2.2.2.2.2.2.2.1) && (decide (r3.2.2.2.2.2.2.2.2.2.2.2.2.2.2.1 = []) && true))))) (
        .ret (decide (r4.2.2.2.2.2.2.2.2.2.2.2.2.2.2.2.1 = (3 : Int)), ())) (
        .ret (false, ()))) (
       .ret (false, ()))) (
      .ite (decide (r2.2.2.2.2.2.2.2.2.2.2.2.2.2.2.2.1 = (0 : Int))) (
       .grd (decide (List.length r0.2.2.2.2.2.2.2.2.2.2.2.2.2.2.1 + List.length a1 ≤ (9223372036854775807 : Nat))) (
       .ite (decide (r2.2.2.2.2.2.2.2.2.2.2.2.2.2.2.1 = r0.2.2.2.2.2.2.2.2.2.2.2.2.2.2.1 ++ a1)) (
        .ite (decide (r2.2.2.2.2.2.2.2.2.2.2.2.2.2.1 = r0.2.2.2.2.2.2.2.2.2.2.2.2.2.1)) (
         .ite (decide (r3.2.2.2.2.2.2.2.2.2.2.2.2.2.2.2.1 = (0 : Int))) (
          .ite (decide (r3.1 = r0.1) && (decide (r3.2.1 = r0.2.1) && (decide (r3.2.2.1 = r0.2.2.1) && (decide (r3.2.2.2.1 = r0.2.2.2.1) && (decide (r3.2.2.2.2.1 = r0.2.2.2.2.1) && (decide (r3.2.2.2.2.2.1 = r0.2.2.2.2.2.1) && true))))) && (decide (r3.2.2.2.2.2.2.1 = r0.2.2.2.2.2.2.1) && (decide (r3.2.2.2.2.2.2.2.1 = r0.2.2.2.2.2.2.2.1) && (decide (r3.2.2.2.2.2.2.2.2.1 = r0.2.2.2.2.2.2.2.2.1) && (decide (r3.2.2.2.2.2.2.2.2.2.1 = r0.2.2.2.2.2.2.2.2.2.1) && (decide (r3.2.2.2.2.2.2.2.2.2.2.1 = r0.2.2.2.2.2.2.2.2.2.2.1) && (decide (r3.2.2.2.2.2.2.2.2.2.2.2.1 = r0.2.2.2.2.2.2.2.2.2.2.2.1) && true))))) && (decide (r3.2.2.2.2.2.2.2.2.2.2.2.2.1 = r0.2.2.2.2.2.2.2.2.2.2.2.2.1) && (decide (r3.2.2.2.2.2.2.2.2.2.2.2.2.2.1 = r0.2.2.2.2.2.2.2.2.2.2.2.2.2.1) && (decide (r3.2.2.2.2.2.2.2.2.2.2.2.2.2.2.1 = []) && true))))) (
           .ret (decide (r4.2.2.2.2.2.2.2.2.2.2.2.2.2.2.2.1 = (3 : Int)), ())) (
           .ret (false, ()))) (
          .ret (false, ()))) (
         .ret (false, ()))) (
        .ret (false, ())))) (
       .ret (false, ())))) (
     .ite (decide (r2.2.2.2.2.2.2.2.2.2.2.2.2.2.2.2.1 = (0 : Int))) (
      .grd (decide (List.length r0.2.2.2.2.2.2.2.2.2.2.2.2.2.2.1 + List.length a1 ≤ (9223372036854775807 : Nat))) (
      .ite (decide (r2.2.2.2.2.2.2.2.2.2.2.2.2.2.2.1 = r0.2.2.2.2.2.2.2.2.2.2.2.2.2.2.1 ++ a1)) (
       .ite (decide (r2.2.2.2.2.2.2.2.2.2.2.2.2.2.1 = r0.2.2.2.2.2.2.2.2.2.2.2.2.2.1)) (
        .ite (decide (r3.2.2.2.2.2.2.2.2.2.2.2.2.2.2.2.1 = (0 : Int))) (
         .ite (decide (r3.1 = r0.1) && (decide (r3.2.1 = r0.2.1) && (decide (r3.2.2.1 = r0.2.2.1) && (decide (r3.2.2.2.1 = r0.2.2.2.1) && (decide (r3.2.2.2.2.1 = r0.2.2.2.2.1) && (decide (r3.2.2.2.2.2.1 = r0.2.2.2.2.2.1) && true))))) && (decide (r3.2.2.2.2.2.2.1 = r0.2.2.2.2.2.2.1) && (decide (r3.2.2.2.2.2.2.2.1 = r0.2.2.2.2.2.2.2.1) && (decide (r3.2.2.2.2.2.2.2.2.1 = r0.2.2.2.2.2.2.2.2.1) && (decide (r3.2.2.2.2.2.2.2.2.2.1 = r0.2.2.2.2.2.2.2.2.2.1) && (decide (r3.2.2.2.2.2.2.2.2.2.2.1 = r0.2.2.2.2.2.2.2.2.2.2.1) && (decide (r3.2.2.2.2.2.2.2.2.2.2.2.1 = r0.2.2.2.2.2.2.2.2.2.2.2.1) && true))))) && (decide (r3.2.2.2.2.2.2.2.2.2.2.2.2.1 = r0.2.2.2.2.2.2.2.2.2.2.2.2.1) && (decide (r3.2.2.2.2.2.2.2.2.2.2.2.2.2.1 = r0.2.2.2.2.2.2.2.2.2.2.2.2.2.1) && (decide (r3.2.2.2.2.2.2.2.2.2.2.2.2.2.2.1 = []) && true))))) (
          .ret (decide (r4.2.2.2.2.2.2.2.2.2.2.2.2.2.2.2.1 = (3 : Int)), ())) (
          .ret (false, ()))) (
         .ret (false, ()))) (
        .ret (false, ()))) (
       .ret (false, ())))) (
      .ret (false, ())))))))))))))
theorem ethRest_eq (x : ((List UInt8) × ((List UInt8) × Unit))) : fnTr Try.prog cod [FS.pf ethWrite, FS.pf ethRead, FS.pf ethLives] [] 30 8 ethRest_ap ethRest_rp x = ethRest_tree x := by kernel_rfl
def ethRest_fn (x : ((List UInt8) × ((List UInt8) × Unit))) : Option (Bool × Unit) := (ethRest_tree x).eval
def ethRest : FS Try.prog := ⟨8, ethRest_ap, ethRest_rp, ethRest_fn, fun x r h => fnTr_sound (cod := cod) (Γ := [FS.pf ethWrite, FS.pf ethRead, FS.pf ethLives]) (Λs := []) (n := 30) ((congrArg Tr.eval (ethRest_eq x)).trans h)⟩
end Go.Proofs.Ytmnbhoklphakjaa.X
