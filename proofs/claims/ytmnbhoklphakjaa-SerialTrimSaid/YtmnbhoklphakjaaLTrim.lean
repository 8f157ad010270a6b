/- Functions of the program, as trees (printed by a program of mine: tool/XTool, xg.py), each with the proof that the machine comes to what its tree says. Conditions: none. -/
import Derived.Test.YtmnbhoklphakjaaCod
import Derived.KernelRfl
import Derived.Test.YtmnbhoklphakjaaGTrim
import Derived.Test.YtmnbhoklphakjaaContains
namespace Go.Proofs.Ytmnbhoklphakjaa.X
open Go Go.RowKit Go.Proofs.Ytmnbhoklphakjaa.Abs
set_option maxRecDepth 100000
set_option linter.unusedVariables false
def kSerialTrim_L10_20 : LS := ⟨20, [], ⟨118, [(97, .v (.one (.i .i64))), (3, .v (.one (.i .u32))), (2, .v (.one (.i .u32))), (0, .v (.one (.i .u32))), (15, .v (.one (.b))), (1, .v (.one (.s))), (10, .v (.one (.s))), (96, .v (.one (.i .i64)))], []⟩, [⟨some 2, [], ⟨118, [(1, .v (.one (.s))), (10, .v (.one (.s))), (15, .v (.one (.b)))], []⟩⟩], []⟩
def kSerialTrim_step10_20 : (Int × (Int × (Int × (Int × (Bool × ((List UInt8) × ((List UInt8) × (Int × Unit)))))))) → Tr ((Int × (Int × (Int × (Int × (Bool × ((List UInt8) × ((List UInt8) × (Int × Unit)))))))) ⊕ ((List UInt8) × ((List UInt8) × (Bool × Unit)))) :=
  fun (a0, a1, a2, a3, a4, a5, a6, a7, _) =>
  .ite (decide (a0 < a7)) (
   .ite (a4) (
    .opt (β := (Bool × Unit)) ((seWithin_fn (IntKind.wrap IntKind.u32 (a3 + IntKind.wrap IntKind.u32 a0), (a2, (a1, ()))))) (fun r0 =>
    .ret (Sum.inl (IntKind.wrap IntKind.i64 (a0 + (1 : Int)), (a1, (a2, (a3, (r0.1, (a5, (a6, (a7, ()))))))))))) (
    .ret (Sum.inl (IntKind.wrap IntKind.i64 (a0 + (1 : Int)), (a1, (a2, (a3, (false, (a5, (a6, (a7, ()))))))))))) (
   .ret (Sum.inr (a5, (a6, (a4, ())))))
def kSerialTrim_loop10_20 (x : (Int × (Int × (Int × (Int × (Bool × ((List UInt8) × ((List UInt8) × (Int × Unit))))))))) : Option ((List UInt8) × ((List UInt8) × (Bool × Unit))) := loopO 100020 (fun x => (kSerialTrim_step10_20 x).eval) 18446744073709551616 x
def kSerialTrim_L10_13 : LS := ⟨13, [], ⟨118, [(83, .v (.one (.i .i64))), (3, .v (.one (.i .u32))), (2, .v (.one (.i .u32))), (9, .v (.one (.i .u32))), (0, .v (.one (.i .u32))), (1, .v (.one (.s))), (10, .v (.one (.s))), (82, .v (.one (.i .i64)))], []⟩, [⟨none, [], ⟨118, [(8, .v (.one (.b)))], []⟩⟩, ⟨some 0, [], ⟨118, [(3, .v (.one (.i .u32))), (2, .v (.one (.i .u32))), (0, .v (.one (.i .u32))), (1, .v (.one (.s))), (10, .v (.one (.s)))], []⟩⟩], []⟩
def kSerialTrim_step10_13 : (Int × (Int × (Int × (Int × (Int × ((List UInt8) × ((List UInt8) × (Int × Unit)))))))) → Tr ((Int × (Int × (Int × (Int × (Int × ((List UInt8) × ((List UInt8) × (Int × Unit)))))))) ⊕ ((Bool × Unit) ⊕ (Int × (Int × (Int × ((List UInt8) × ((List UInt8) × Unit))))))) :=
  fun (a0, a1, a2, a3, a4, a5, a6, a7, _) =>
  .ite (decide (a0 < a7)) (
   .opt (β := (Bool × Unit)) ((seWithin_fn (IntKind.wrap IntKind.u32 (a3 + IntKind.wrap IntKind.u32 a0), (a2, (a1, ()))))) (fun r0 =>
   .ite (!r0.1) (
    .ret (Sum.inr (Sum.inl (false, ())))) (
    .ret (Sum.inl (IntKind.wrap IntKind.i64 (a0 + (1 : Int)), (a1, (a2, (a3, (a4, (a5, (a6, (a7, ())))))))))))) (
   .ret (Sum.inr (Sum.inr (a1, (a2, (a4, (a5, (a6, ()))))))))
def kSerialTrim_loop10_13 (x : (Int × (Int × (Int × (Int × (Int × ((List UInt8) × ((List UInt8) × (Int × Unit))))))))) : Option ((Bool × Unit) ⊕ (Int × (Int × (Int × ((List UInt8) × ((List UInt8) × Unit)))))) := loopO 100013 (fun x => (kSerialTrim_step10_13 x).eval) 18446744073709551616 x
def kSerialTrim_ap : List VP1 := [.one (.i .u32), .one (.s), .one (.i .u32), .one (.i .u32)]
def kSerialTrim_rp : SP := ⟨1, [(0, .v (.one (.b)))], []⟩
def kSerialTrim_tree : (Int × ((List UInt8) × (Int × (Int × Unit)))) → Tr (Bool × Unit) :=
  fun (a0, a1, a2, a3, _) =>
  .opt (β := (Int × ((List UInt8) × Unit))) ((seTrim_fn (a0, (a1, (a2, (a3, ())))))) (fun r0 =>
  .opt (β := (Bool × Unit)) ((seLives_fn ())) (fun r1 =>
  .ite (!r1.1) (
   .opt (β := (Bool × Unit)) ((seLives_fn ())) (fun r2 =>
   .ret (r2.1, ()))) (
   .ite (decide ((5000 : Int) < (↑(List.length a1) : Int))) (
    .opt (β := (Bool × Unit)) ((seLives_fn ())) (fun r2 =>
    .ret (r2.1, ()))) (
    .opt (β := (Int × ((List UInt8) × Unit))) ((seTrim_fn (r0.1, (r0.2.1, (a2, (a3, ())))))) (fun r2 =>
    .ite (!decide (r2.1 = r0.1)) (
     .ret (false, ())) (
     .ite (!decide (r2.2.1 = r0.2.1)) (
      .ret (false, ())) (
      .ite (decide (r0.2.1 = [])) (
       .ret (decide (r0.1 = a2), ())) (
       .opt (β := (Int × Unit)) ((rWay_fn (a0, (r0.1, ())))) (fun r3 =>
       .ite (decide ((↑(List.length a1) : Int) < IntKind.wrap IntKind.i64 (r3.1 + (↑(List.length r0.2.1) : Int)))) (
        .ret (false, ())) (
        .grd (decide ((0 : Int) ≤ r3.1 ∧ r3.1 ≤ IntKind.wrap IntKind.i64 (r3.1 + (↑(List.length r0.2.1) : Int)) ∧ IntKind.wrap IntKind.i64 (r3.1 + (↑(List.length r0.2.1) : Int)) ≤ (↑(List.length a1) : Int))) (
        .ite (!decide (List.drop (Int.toNat r3.1) (List.take (Int.toNat (IntKind.wrap IntKind.i64 (r3.1 + (↑(List.length r0.2.1) : Int)))) a1) = r0.2.1)) (
         .ret (false, ())) (
         .grd (decide (List.length a1 < (4294967281 : Nat))) (
         .ite (!Lib.contains a1 r0.2.1) (
          .ret (false, ())) (
          .opt (β := ((Bool × Unit) ⊕ (Int × (Int × (Int × ((List UInt8) × ((List UInt8) × Unit))))))) ((kSerialTrim_loop10_13 ((0 : Int), (a3, (a2, (r0.1, (a0, (a1, (r0.2.1, ((↑(List.length r0.2.1) : Int), ())))))))))) (fun r4 =>
          .sum (β := (Bool × Unit)) (γ := (Int × (Int × (Int × ((List UInt8) × ((List UInt8) × Unit)))))) (r4) (fun r5 =>
           .ret (r5.1, ())) (fun r5 =>
           .opt (β := ((List UInt8) × ((List UInt8) × (Bool × Unit)))) ((kSerialTrim_loop10_20 ((0 : Int), (r5.1, (r5.2.1, (r5.2.2.1, (true, (r5.2.2.2.1, (r5.2.2.2.2.1, ((↑(List.length r5.2.2.2.1) : Int), ())))))))))) (fun r6 =>
           .ite (!r6.2.2.1) (
            .ret (true, ())) (
            .ret (decide (r6.2.1 = r6.1), ())))))))))))))))))))
theorem kSerialTrim_eq (x : (Int × ((List UInt8) × (Int × (Int × Unit))))) : fnTr Try.prog cod [FS.pf seLess, FS.pf seWithin, FS.pf seTrim, FS.pf seLives, FS.pf rWay, strContains] [(10, kSerialTrim_L10_20), (10, kSerialTrim_L10_13)] 30 10 kSerialTrim_ap kSerialTrim_rp x = kSerialTrim_tree x := by kernel_rfl
def kSerialTrim_fn (x : (Int × ((List UInt8) × (Int × (Int × Unit))))) : Option (Bool × Unit) := (kSerialTrim_tree x).eval
def kSerialTrim : FS Try.prog := ⟨10, kSerialTrim_ap, kSerialTrim_rp, kSerialTrim_fn, fun x r h => fnTr_sound (cod := cod) (Γ := [FS.pf seLess, FS.pf seWithin, FS.pf seTrim, FS.pf seLives, FS.pf rWay, strContains]) (Λs := [(10, kSerialTrim_L10_20), (10, kSerialTrim_L10_13)]) (n := 30) ((congrArg Tr.eval (kSerialTrim_eq x)).trans h)⟩
end Go.Proofs.Ytmnbhoklphakjaa.X
