/- Functions of the program, as trees (printed by a program of mine: tool/XTool, xg.py), each with the proof that the machine comes to what its tree says. Conditions: none. -/
import Derived.Test.YtjehhmeaigkbnaaCod
import Derived.KernelRfl
import Derived.Test.YtjehhmeaigkbnaaGSip
namespace Go.Proofs.Ytjehhmeaigkbnaa.X
open Go Go.RowKit Go.Proofs.Ytjehhmeaigkbnaa.Abs
set_option maxRecDepth 100000
set_option linter.unusedVariables false
def sipLives_ap : List VP1 := []
def sipLives_rp : SP := ⟨1, [(0, .v (.one (.b)))], []⟩
def sipLives_tree : Unit → Tr (Bool × Unit) :=
  fun (_) =>
  .opt (β := (Int × Unit)) ((sipOf_fn ((506097522914230528 : Int), ((1084818905618843912 : Int), ([], ()))))) (fun r0 =>
  .ite (decide (r0.1 = (8246050544436514353 : Int))) (
   .opt (β := (Int × Unit)) ((sipOf_fn ((506097522914230528 : Int), ((1084818905618843912 : Int), ([(0 : UInt8), (1 : UInt8), (2 : UInt8), (3 : UInt8), (4 : UInt8), (5 : UInt8), (6 : UInt8), (7 : UInt8), (8 : UInt8), (9 : UInt8), (10 : UInt8), (11 : UInt8), (12 : UInt8), (13 : UInt8), (14 : UInt8)], ()))))) (fun r1 =>
   .ret (decide (r1.1 = (11613035633349379557 : Int)), ()))) (
   .ret (false, ())))
theorem sipLives_eq (x : Unit) : fnTr Try.prog cod [rotl, sipCheck, sipBegin, sipNumber, sipMore, sipEnd, sipOf] [] 30 22 sipLives_ap sipLives_rp x = sipLives_tree x := by kernel_rfl
def sipLives_fn (x : Unit) : Option (Bool × Unit) := (sipLives_tree x).eval
def sipLives : FS Try.prog := ⟨22, sipLives_ap, sipLives_rp, sipLives_fn, fun x r h => fnTr_sound (cod := cod) (Γ := [rotl, sipCheck, sipBegin, sipNumber, sipMore, sipEnd, sipOf]) (Λs := []) (n := 30) ((congrArg Tr.eval (sipLives_eq x)).trans h)⟩
def sipCuts_ap : List VP1 := [.agg [.i .u64, .i .u64], .agg [.i .u64, .i .u64, .i .u64, .i .u64, .s, .i .i64], .one (.s), .one (.s)]
def sipCuts_rp : SP := ⟨1, [(0, .v (.one (.b)))], []⟩
def sipCuts_tree : (Int × (Int × (Int × (Int × (Int × (Int × ((List UInt8) × (Int × ((List UInt8) × ((List UInt8) × Unit)))))))))) → Tr (Bool × Unit) :=
  fun (a0, a1, a2, a3, a4, a5, a6, a7, a8, a9, _) =>
  .opt (β := (Bool × Unit)) ((sipLives_fn ())) (fun r0 =>
  .ite (!r0.1) (
   .opt (β := (Bool × Unit)) ((sipLives_fn ())) (fun r1 =>
   .ret (r1.1, ()))) (
   .ite (decide ((4611686018427387904 : Int) < a7)) (
    .opt (β := (Bool × Unit)) ((sipLives_fn ())) (fun r1 =>
    .ret (r1.1, ()))) (
    .opt (β := (Int × (Int × (Int × (Int × ((List UInt8) × (Int × (Int × Unit)))))))) ((sipMore_fn (a2, (a3, (a4, (a5, (a6, (a7, (a8, ()))))))))) (fun r1 =>
    .opt (β := (Int × (Int × (Int × (Int × ((List UInt8) × (Int × (Int × Unit)))))))) ((sipMore_fn (r1.1, (r1.2.1, (r1.2.2.1, (r1.2.2.2.1, (r1.2.2.2.2.1, (r1.2.2.2.2.2.1, (a9, ()))))))))) (fun r2 =>
    .grd (decide (List.length a8 + List.length a9 ≤ (9223372036854775807 : Nat))) (
    .opt (β := (Int × (Int × (Int × (Int × ((List UInt8) × (Int × (Int × Unit)))))))) ((sipMore_fn (a2, (a3, (a4, (a5, (a6, (a7, (a8 ++ a9, ()))))))))) (fun r3 =>
    .ite (decide (r1.2.2.2.2.2.2.1 = (0 : Int))) (
     .ite (!decide (r2.2.2.2.2.2.2.1 = (0 : Int))) (
      .ret (false, ())) (
      .ite (!decide (r3.2.2.2.2.2.2.1 = (0 : Int))) (
       .ret (false, ())) (
       .ite (!(decide (r2.1 = r3.1) && (decide (r2.2.1 = r3.2.1) && (decide (r2.2.2.1 = r3.2.2.1) && (decide (r2.2.2.2.1 = r3.2.2.2.1) && true))) && (decide (r2.2.2.2.2.1 = r3.2.2.2.2.1) && (decide (r2.2.2.2.2.2.1 = r3.2.2.2.2.2.1) && true)))) (
        .ret (false, ())) (
        .opt (β := (Int × (Int × (Int × (Int × ((List UInt8) × (Int × Unit))))))) ((sipBegin_fn (a0, (a1, ())))) (fun r4 =>
        .opt (β := (Int × (Int × (Int × (Int × ((List UInt8) × (Int × (Int × Unit)))))))) ((sipMore_fn (r4.1, (r4.2.1, (r4.2.2.1, (r4.2.2.2.1, (r4.2.2.2.2.1, (r4.2.2.2.2.2.1, (a8, ()))))))))) (fun r5 =>
        .opt (β := (Int × (Int × (Int × (Int × ((List UInt8) × (Int × (Int × Unit)))))))) ((sipMore_fn (r5.1, (r5.2.1, (r5.2.2.1, (r5.2.2.2.1, (r5.2.2.2.2.1, (r5.2.2.2.2.2.1, (a9, ()))))))))) (fun r6 =>
        .opt (β := (Int × (Int × Unit))) ((sipEnd_fn (r6.1, (r6.2.1, (r6.2.2.1, (r6.2.2.2.1, (r6.2.2.2.2.1, (r6.2.2.2.2.2.1, ())))))))) (fun r7 =>
        .ite (decide (r7.2.1 = (0 : Int))) (
         .grd (decide (List.length a8 + List.length a9 ≤ (9223372036854775807 : Nat))) (
         .opt (β := (Int × Unit)) ((sipOf_fn (a0, (a1, (a8 ++ a9, ()))))) (fun r8 =>
         .ret (decide (r7.1 = r8.1), ())))) (
         .ret (false, ())))))))))) (
     .opt (β := (Int × (Int × (Int × (Int × ((List UInt8) × (Int × Unit))))))) ((sipBegin_fn (a0, (a1, ())))) (fun r4 =>
     .opt (β := (Int × (Int × (Int × (Int × ((List UInt8) × (Int × (Int × Unit)))))))) ((sipMore_fn (r4.1, (r4.2.1, (r4.2.2.1, (r4.2.2.2.1, (r4.2.2.2.2.1, (r4.2.2.2.2.2.1, (a8, ()))))))))) (fun r5 =>
     .opt (β := (Int × (Int × (Int × (Int × ((List UInt8) × (Int × (Int × Unit)))))))) ((sipMore_fn (r5.1, (r5.2.1, (r5.2.2.1, (r5.2.2.2.1, (r5.2.2.2.2.1, (r5.2.2.2.2.2.1, (a9, ()))))))))) (fun r6 =>
     .opt (β := (Int × (Int × Unit))) ((sipEnd_fn (r6.1, (r6.2.1, (r6.2.2.1, (r6.2.2.2.1, (r6.2.2.2.2.1, (r6.2.2.2.2.2.1, ())))))))) (fun r7 =>
     .ite (decide (r7.2.1 = (0 : Int))) (
      .grd (decide (List.length a8 + List.length a9 ≤ (9223372036854775807 : Nat))) (
      .opt (β := (Int × Unit)) ((sipOf_fn (a0, (a1, (a8 ++ a9, ()))))) (fun r8 =>
      .ret (decide (r7.1 = r8.1), ())))) (
      .ret (false, ()))))))))))))))
theorem sipCuts_eq (x : (Int × (Int × (Int × (Int × (Int × (Int × ((List UInt8) × (Int × ((List UInt8) × ((List UInt8) × Unit))))))))))) : fnTr Try.prog cod [rotl, sipCheck, sipBegin, sipNumber, sipMore, sipEnd, sipOf, sipLives] [] 30 6 sipCuts_ap sipCuts_rp x = sipCuts_tree x := by kernel_rfl
def sipCuts_fn (x : (Int × (Int × (Int × (Int × (Int × (Int × ((List UInt8) × (Int × ((List UInt8) × ((List UInt8) × Unit))))))))))) : Option (Bool × Unit) := (sipCuts_tree x).eval
def sipCuts : FS Try.prog := ⟨6, sipCuts_ap, sipCuts_rp, sipCuts_fn, fun x r h => fnTr_sound (cod := cod) (Γ := [rotl, sipCheck, sipBegin, sipNumber, sipMore, sipEnd, sipOf, sipLives]) (Λs := []) (n := 30) ((congrArg Tr.eval (sipCuts_eq x)).trans h)⟩
def sipBack_ap : List VP1 := [.agg [.i .u64, .i .u64, .i .u64, .i .u64, .s, .i .i64], .agg [.i .u64, .i .u64, .i .u64, .i .u64, .s, .i .i64], .one (.s)]
def sipBack_rp : SP := ⟨1, [(0, .v (.one (.b)))], []⟩
def sipBack_tree : (Int × (Int × (Int × (Int × ((List UInt8) × (Int × (Int × (Int × (Int × (Int × ((List UInt8) × (Int × ((List UInt8) × Unit))))))))))))) → Tr (Bool × Unit) :=
  fun (a0, a1, a2, a3, a4, a5, a6, a7, a8, a9, a10, a11, a12, _) =>
  .opt (β := (Bool × Unit)) ((sipLives_fn ())) (fun r0 =>
  .ite (!r0.1) (
   .opt (β := (Bool × Unit)) ((sipLives_fn ())) (fun r1 =>
   .ret (r1.1, ()))) (
   .ite (!decide ((↑(List.length a12) : Int) = (8 : Int))) (
    .opt (β := (Bool × Unit)) ((sipLives_fn ())) (fun r1 =>
    .ret (r1.1, ()))) (
    .opt (β := (Int × (Int × (Int × (Int × ((List UInt8) × (Int × (Int × Unit)))))))) ((sipMore_fn (a0, (a1, (a2, (a3, ([], ((0 : Int), (a12, ()))))))))) (fun r1 =>
    .opt (β := (Int × (Int × (Int × (Int × ((List UInt8) × (Int × (Int × Unit)))))))) ((sipMore_fn (a6, (a7, (a8, (a9, ([], ((0 : Int), (a12, ()))))))))) (fun r2 =>
    .ite (decide (r1.2.2.2.2.2.2.1 = (0 : Int))) (
     .ite (decide (r2.2.2.2.2.2.2.1 = (0 : Int))) (
      .ret ((decide (r1.1 = r2.1) && (decide (r1.2.1 = r2.2.1) && (decide (r1.2.2.1 = r2.2.2.1) && (decide (r1.2.2.2.1 = r2.2.2.2.1) && true))) && (decide (r1.2.2.2.2.1 = r2.2.2.2.2.1) && (decide (r1.2.2.2.2.2.1 = r2.2.2.2.2.2.1) && true))) == (decide (a0 = a6) && (decide (a1 = a7) && (decide (a2 = a8) && (decide (a3 = a9) && true))) && true), ())) (
      .ret (false, ()))) (
     .ret (false, ())))))))
theorem sipBack_eq (x : (Int × (Int × (Int × (Int × ((List UInt8) × (Int × (Int × (Int × (Int × (Int × ((List UInt8) × (Int × ((List UInt8) × Unit)))))))))))))) : fnTr Try.prog cod [rotl, sipCheck, sipBegin, sipNumber, sipMore, sipEnd, sipOf, sipLives, sipCuts] [] 30 7 sipBack_ap sipBack_rp x = sipBack_tree x := by kernel_rfl
def sipBack_fn (x : (Int × (Int × (Int × (Int × ((List UInt8) × (Int × (Int × (Int × (Int × (Int × ((List UInt8) × (Int × ((List UInt8) × Unit)))))))))))))) : Option (Bool × Unit) := (sipBack_tree x).eval
def sipBack : FS Try.prog := ⟨7, sipBack_ap, sipBack_rp, sipBack_fn, fun x r h => fnTr_sound (cod := cod) (Γ := [rotl, sipCheck, sipBegin, sipNumber, sipMore, sipEnd, sipOf, sipLives, sipCuts]) (Λs := []) (n := 30) ((congrArg Tr.eval (sipBack_eq x)).trans h)⟩
end Go.Proofs.Ytjehhmeaigkbnaa.X
