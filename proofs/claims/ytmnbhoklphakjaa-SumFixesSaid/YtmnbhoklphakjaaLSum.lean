/- Functions of the program, as trees (printed by a program of mine: tool/XTool, xg.py), each with the proof that the machine comes to what its tree says. Conditions: none. -/
import Derived.Test.YtmnbhoklphakjaaCod
import Derived.KernelRfl
import Derived.Test.YtmnbhoklphakjaaCount
import Derived.Test.YtmnbhoklphakjaaGSum
namespace Go.Proofs.Ytmnbhoklphakjaa.X
open Go Go.RowKit Go.Proofs.Ytmnbhoklphakjaa.Abs
set_option maxRecDepth 100000
set_option linter.unusedVariables false
def sumLives_ap : List VP1 := []
def sumLives_rp : SP := ⟨1, [(0, .v (.one (.b)))], []⟩
def sumLives_tree : Unit → Tr (Bool × Unit) :=
  fun (_) =>
  .opt (β := (Int × Unit)) ((sumOf_fn ([(0 : UInt8), (1 : UInt8), (242 : UInt8), (3 : UInt8), (244 : UInt8), (245 : UInt8), (246 : UInt8), (247 : UInt8)], ()))) (fun r0 =>
  .ite (decide (r0.1 = (8717 : Int))) (
   .opt (β := (Bool × Unit)) ((sumRight_fn ([(255 : UInt8), (255 : UInt8)], ()))) (fun r1 =>
   .ite (r1.1) (
    .opt (β := (Bool × Unit)) ((sumRight_fn ([], ()))) (fun r2 =>
    .ite (!r2.1) (
     .opt (β := (Int × Unit)) ((sumFix_fn ((8717 : Int), ((61955 : Int), ((61955 : Int), ()))))) (fun r3 =>
     .ret (decide (r3.1 = (8717 : Int)), ()))) (
     .ret (false, ())))) (
    .ret (false, ())))) (
   .ret (false, ())))
theorem sumLives_eq (x : Unit) : fnTr Try.prog cod [strCount, FS.pf sumFold, FS.pf sumAdd, FS.pf sumOf, FS.pf sumRight, FS.pf sumFix, FS.pf kWord] [] 30 13 sumLives_ap sumLives_rp x = sumLives_tree x := by kernel_rfl
def sumLives_fn (x : Unit) : Option (Bool × Unit) := (sumLives_tree x).eval
def sumLives : FS Try.prog := ⟨13, sumLives_ap, sumLives_rp, sumLives_fn, fun x r h => fnTr_sound (cod := cod) (Γ := [strCount, FS.pf sumFold, FS.pf sumAdd, FS.pf sumOf, FS.pf sumRight, FS.pf sumFix, FS.pf kWord]) (Λs := []) (n := 30) ((congrArg Tr.eval (sumLives_eq x)).trans h)⟩
def sumRests_ap : List VP1 := [.one (.s), .one (.i .u16)]
def sumRests_rp : SP := ⟨1, [(0, .v (.one (.b)))], []⟩
def sumRests_tree : ((List UInt8) × (Int × Unit)) → Tr (Bool × Unit) :=
  fun (a0, a1, _) =>
  .opt (β := (Bool × Unit)) ((sumLives_fn ())) (fun r0 =>
  .ite (!r0.1) (
   .opt (β := (Bool × Unit)) ((sumLives_fn ())) (fun r1 =>
   .ret (r1.1, ()))) (
   .grd (true) (
   .ite (decide (Int.tmod (↑(List.length a0) : Int) (2 : Int) = (1 : Int))) (
    .opt (β := (Bool × Unit)) ((sumLives_fn ())) (fun r1 =>
    .ret (r1.1, ()))) (
    .opt (β := (Int × Unit)) ((sumOf_fn (a0, ()))) (fun r1 =>
    .opt (β := ((List UInt8) × Unit)) ((kWord_fn (a1, ()))) (fun r2 =>
    .grd (decide (List.length a0 + List.length r2.1 ≤ (9223372036854775807 : Nat))) (
    .opt (β := (Bool × Unit)) ((sumRight_fn (a0 ++ r2.1, ()))) (fun r3 =>
    .ite (decide (a1 = r1.1)) (
     .ite (decide ((↑(Lib.countByte a0 (0 : UInt8)) : Int) = (↑(List.length a0) : Int))) (
      .ret (r3.1 == decide (a1 = (65535 : Int)), ())) (
      .opt (β := ((List UInt8) × Unit)) ((kWord_fn (r1.1, ()))) (fun r4 =>
      .grd (decide (List.length a0 + List.length r4.1 ≤ (9223372036854775807 : Nat))) (
      .opt (β := (Bool × Unit)) ((sumRight_fn (a0 ++ r4.1, ()))) (fun r5 =>
      .ite (r5.1) (
       .ret (r3.1 == true, ())) (
       .ret (false, ()))))))) (
     .ite (decide (a1 = (0 : Int))) (
      .ite (decide (r1.1 = (65535 : Int))) (
       .ite (decide ((↑(Lib.countByte a0 (0 : UInt8)) : Int) = (↑(List.length a0) : Int))) (
        .ret (r3.1 == decide (a1 = (65535 : Int)), ())) (
        .opt (β := ((List UInt8) × Unit)) ((kWord_fn (r1.1, ()))) (fun r4 =>
        .grd (decide (List.length a0 + List.length r4.1 ≤ (9223372036854775807 : Nat))) (
        .opt (β := (Bool × Unit)) ((sumRight_fn (a0 ++ r4.1, ()))) (fun r5 =>
        .ite (r5.1) (
         .ret (r3.1 == true, ())) (
         .ret (false, ()))))))) (
       .ite (decide (a1 = (65535 : Int))) (
        .ite (decide ((↑(Lib.countByte a0 (0 : UInt8)) : Int) = (↑(List.length a0) : Int))) (
         .ret (r3.1 == decide (a1 = (65535 : Int)), ())) (
         .opt (β := ((List UInt8) × Unit)) ((kWord_fn (r1.1, ()))) (fun r4 =>
         .grd (decide (List.length a0 + List.length r4.1 ≤ (9223372036854775807 : Nat))) (
         .opt (β := (Bool × Unit)) ((sumRight_fn (a0 ++ r4.1, ()))) (fun r5 =>
         .ite (r5.1) (
          .ret (r3.1 == decide (r1.1 = (0 : Int)), ())) (
          .ret (false, ()))))))) (
        .ite (decide ((↑(Lib.countByte a0 (0 : UInt8)) : Int) = (↑(List.length a0) : Int))) (
         .ret (r3.1 == decide (a1 = (65535 : Int)), ())) (
         .opt (β := ((List UInt8) × Unit)) ((kWord_fn (r1.1, ()))) (fun r4 =>
         .grd (decide (List.length a0 + List.length r4.1 ≤ (9223372036854775807 : Nat))) (
         .opt (β := (Bool × Unit)) ((sumRight_fn (a0 ++ r4.1, ()))) (fun r5 =>
         .ite (r5.1) (
          .ret (r3.1 == false, ())) (
          .ret (false, ()))))))))) (
      .ite (decide (a1 = (65535 : Int))) (
       .ite (decide ((↑(Lib.countByte a0 (0 : UInt8)) : Int) = (↑(List.length a0) : Int))) (
        .ret (r3.1 == decide (a1 = (65535 : Int)), ())) (
        .opt (β := ((List UInt8) × Unit)) ((kWord_fn (r1.1, ()))) (fun r4 =>
        .grd (decide (List.length a0 + List.length r4.1 ≤ (9223372036854775807 : Nat))) (
        .opt (β := (Bool × Unit)) ((sumRight_fn (a0 ++ r4.1, ()))) (fun r5 =>
        .ite (r5.1) (
         .ret (r3.1 == decide (r1.1 = (0 : Int)), ())) (
         .ret (false, ()))))))) (
       .ite (decide ((↑(Lib.countByte a0 (0 : UInt8)) : Int) = (↑(List.length a0) : Int))) (
        .ret (r3.1 == decide (a1 = (65535 : Int)), ())) (
        .opt (β := ((List UInt8) × Unit)) ((kWord_fn (r1.1, ()))) (fun r4 =>
        .grd (decide (List.length a0 + List.length r4.1 ≤ (9223372036854775807 : Nat))) (
        .opt (β := (Bool × Unit)) ((sumRight_fn (a0 ++ r4.1, ()))) (fun r5 =>
        .ite (r5.1) (
         .ret (r3.1 == false, ())) (
         .ret (false, ())))))))))))))))))
theorem sumRests_eq (x : ((List UInt8) × (Int × Unit))) : fnTr Try.prog cod [strCount, FS.pf sumFold, FS.pf sumAdd, FS.pf sumOf, FS.pf sumRight, FS.pf sumFix, FS.pf kWord, FS.pf sumLives] [] 30 11 sumRests_ap sumRests_rp x = sumRests_tree x := by kernel_rfl
def sumRests_fn (x : ((List UInt8) × (Int × Unit))) : Option (Bool × Unit) := (sumRests_tree x).eval
def sumRests : FS Try.prog := ⟨11, sumRests_ap, sumRests_rp, sumRests_fn, fun x r h => fnTr_sound (cod := cod) (Γ := [strCount, FS.pf sumFold, FS.pf sumAdd, FS.pf sumOf, FS.pf sumRight, FS.pf sumFix, FS.pf kWord, FS.pf sumLives]) (Λs := []) (n := 30) ((congrArg Tr.eval (sumRests_eq x)).trans h)⟩
def sumFixes_ap : List VP1 := [.one (.s), .one (.i .i64), .one (.i .u16)]
def sumFixes_rp : SP := ⟨1, [(0, .v (.one (.b)))], []⟩
def sumFixes_tree : ((List UInt8) × (Int × (Int × Unit))) → Tr (Bool × Unit) :=
  fun (a0, a1, a2, _) =>
  .opt (β := (Bool × Unit)) ((sumLives_fn ())) (fun r0 =>
  .ite (!r0.1) (
   .opt (β := (Bool × Unit)) ((sumLives_fn ())) (fun r1 =>
   .ret (r1.1, ()))) (
   .grd (true) (
   .ite (decide (Int.tmod (↑(List.length a0) : Int) (2 : Int) = (1 : Int))) (
    .opt (β := (Bool × Unit)) ((sumLives_fn ())) (fun r1 =>
    .ret (r1.1, ()))) (
    .ite (decide (a1 < (0 : Int))) (
     .opt (β := (Bool × Unit)) ((sumLives_fn ())) (fun r1 =>
     .ret (r1.1, ()))) (
     .grd (true) (
     .ite (decide (Int.tmod a1 (2 : Int) = (1 : Int))) (
      .opt (β := (Bool × Unit)) ((sumLives_fn ())) (fun r1 =>
      .ret (r1.1, ()))) (
      .ite (decide ((↑(List.length a0) : Int) ≤ a1)) (
       .opt (β := (Bool × Unit)) ((sumLives_fn ())) (fun r1 =>
       .ret (r1.1, ()))) (
       .grd (decide ((0 : Int) ≤ a1 ∧ a1 < (↑(List.length a0) : Int))) (
       .grd (true) (
       .grd (decide ((0 : Int) ≤ IntKind.wrap IntKind.i64 (a1 + (1 : Int)) ∧ IntKind.wrap IntKind.i64 (a1 + (1 : Int)) < (↑(List.length a0) : Int))) (
       .grd (decide ((0 : Int) ≤ (0 : Int) ∧ (0 : Int) ≤ a1 ∧ a1 ≤ (↑(List.length a0) : Int))) (
       .opt (β := ((List UInt8) × Unit)) ((kWord_fn (a2, ()))) (fun r1 =>
       .grd (decide (List.length (List.drop (0 : Nat) (List.take (Int.toNat a1) a0)) + List.length r1.1 ≤ (9223372036854775807 : Nat))) (
       .grd (decide ((0 : Int) ≤ IntKind.wrap IntKind.i64 (a1 + (2 : Int)) ∧ IntKind.wrap IntKind.i64 (a1 + (2 : Int)) ≤ (↑(List.length a0) : Int) ∧ (↑(List.length a0) : Int) ≤ (↑(List.length a0) : Int))) (
       .grd (decide (List.length (List.drop (0 : Nat) (List.take (Int.toNat a1) a0) ++ r1.1) + List.length (List.drop (Int.toNat (IntKind.wrap IntKind.i64 (a1 + (2 : Int)))) (List.take (Int.toNat (↑(List.length a0) : Int)) a0)) ≤ (9223372036854775807 : Nat))) (
       .opt (β := (Int × Unit)) ((sumOf_fn (a0, ()))) (fun r2 =>
       .opt (β := (Int × Unit)) ((sumFix_fn (r2.1, (bits BinOp.or IntKind.u16 (IntKind.wrap IntKind.u16 (IntKind.wrap IntKind.u16 (↑(UInt8.toNat (List.getD a0 (Int.toNat a1) (0 : UInt8))) : Int) * (2 : Int) ^ (8 : Nat))) (IntKind.wrap IntKind.u16 (↑(UInt8.toNat (List.getD a0 (Int.toNat (IntKind.wrap IntKind.i64 (a1 + (1 : Int)))) (0 : UInt8))) : Int)), (a2, ()))))) (fun r3 =>
       .ite (decide ((↑(Lib.countByte (List.drop (0 : Nat) (List.take (Int.toNat a1) a0) ++ r1.1 ++ List.drop (Int.toNat (IntKind.wrap IntKind.i64 (a1 + (2 : Int)))) (List.take (Int.toNat (↑(List.length a0) : Int)) a0)) (0 : UInt8)) : Int) = (↑(List.length (List.drop (0 : Nat) (List.take (Int.toNat a1) a0) ++ r1.1 ++ List.drop (Int.toNat (IntKind.wrap IntKind.i64 (a1 + (2 : Int)))) (List.take (Int.toNat (↑(List.length a0) : Int)) a0))) : Int))) (
        .ret (true, ())) (
        .opt (β := ((List UInt8) × Unit)) ((kWord_fn (r3.1, ()))) (fun r4 =>
        .grd (decide (List.length (List.drop (0 : Nat) (List.take (Int.toNat a1) a0) ++ r1.1 ++ List.drop (Int.toNat (IntKind.wrap IntKind.i64 (a1 + (2 : Int)))) (List.take (Int.toNat (↑(List.length a0) : Int)) a0)) + List.length r4.1 ≤ (9223372036854775807 : Nat))) (
        .opt (β := (Bool × Unit)) ((sumRight_fn (List.drop (0 : Nat) (List.take (Int.toNat a1) a0) ++ r1.1 ++ List.drop (Int.toNat (IntKind.wrap IntKind.i64 (a1 + (2 : Int)))) (List.take (Int.toNat (↑(List.length a0) : Int)) a0) ++ r4.1, ()))) (fun r5 =>
        .ret (r5.1, ())))))))))))))))))))))))
theorem sumFixes_eq (x : ((List UInt8) × (Int × (Int × Unit)))) : fnTr Try.prog cod [strCount, FS.pf sumFold, FS.pf sumAdd, FS.pf sumOf, FS.pf sumRight, FS.pf sumFix, FS.pf kWord, FS.pf sumLives, FS.pf sumRests] [] 30 12 sumFixes_ap sumFixes_rp x = sumFixes_tree x := by kernel_rfl
def sumFixes_fn (x : ((List UInt8) × (Int × (Int × Unit)))) : Option (Bool × Unit) := (sumFixes_tree x).eval
def sumFixes : FS Try.prog := ⟨12, sumFixes_ap, sumFixes_rp, sumFixes_fn, fun x r h => fnTr_sound (cod := cod) (Γ := [strCount, FS.pf sumFold, FS.pf sumAdd, FS.pf sumOf, FS.pf sumRight, FS.pf sumFix, FS.pf kWord, FS.pf sumLives, FS.pf sumRests]) (Λs := []) (n := 30) ((congrArg Tr.eval (sumFixes_eq x)).trans h)⟩
end Go.Proofs.Ytmnbhoklphakjaa.X
