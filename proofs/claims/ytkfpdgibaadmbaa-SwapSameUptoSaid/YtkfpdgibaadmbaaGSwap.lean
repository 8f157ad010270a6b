/- Functions of the program, as trees (printed by a program of mine: tool/XTool, xg.py), each with the proof that the machine comes to what its tree says. Conditions: none. -/
import Derived.Test.YtkfpdgibaadmbaaCod
import Derived.KernelRfl
import Derived.Test.YtkfpdgibaadmbaaGIp
import Derived.Test.YtkfpdgibaadmbaaGTcp
namespace Go.Proofs.Ytkfpdgibaadmbaa.X
open Go Go.RowKit Go.Proofs.Ytkfpdgibaadmbaa.Abs
set_option maxRecDepth 100000
set_option linter.unusedVariables false
def swEnds_ap : List VP1 := [.one (.s)]
def swEnds_rp : SP := ⟨1, [(0, .tup [.agg [.i .u32, .i .u32, .i .i64, .i .i64, .i .i64], .one (.i .i64)])], []⟩
def swEnds_tree : ((List UInt8) × Unit) → Tr (Int × (Int × (Int × (Int × (Int × (Int × Unit)))))) :=
  fun (a0, _) =>
  .opt (β := (Int × (Int × (Bool × (Bool × (Int × (Int × (Int × (Int × (Int × ((List UInt8) × ((List UInt8) × (Int × Unit))))))))))))) ((ipRead_fn (a0, ()))) (fun r0 =>
  .ite (!decide (r0.2.2.2.2.2.2.2.2.2.2.2.1 = (0 : Int))) (
   .ret ((0 : Int), ((0 : Int), ((0 : Int), ((0 : Int), ((0 : Int), (r0.2.2.2.2.2.2.2.2.2.2.2.1, ()))))))) (
   .ite (!decide (r0.2.2.2.2.2.2.1 = (6 : Int))) (
    .ite (!decide (r0.2.2.2.2.2.2.1 = (17 : Int))) (
     .ret ((0 : Int), ((0 : Int), ((0 : Int), ((0 : Int), ((0 : Int), ((7 : Int), ()))))))) (
     .ite (r0.2.2.2.1) (
      .ret ((0 : Int), ((0 : Int), ((0 : Int), ((0 : Int), ((0 : Int), ((9 : Int), ()))))))) (
      .ite (!decide (r0.2.2.2.2.1 = (0 : Int))) (
       .ret ((0 : Int), ((0 : Int), ((0 : Int), ((0 : Int), ((0 : Int), ((9 : Int), ()))))))) (
       .ite (decide (r0.2.2.2.2.2.2.1 = (6 : Int))) (
        .opt (β := (Int × (Int × (Int × (Int × (Int × (Int × (Int × ((List TOption) × ((List UInt8) × (Int × Unit))))))))))) ((tcRead_fn (r0.2.2.2.2.2.2.2.2.2.2.1, (r0.2.2.2.2.2.2.2.1, (r0.2.2.2.2.2.2.2.2.1, ()))))) (fun r1 =>
        .ite (!decide (r1.2.2.2.2.2.2.2.2.2.1 = (0 : Int))) (
         .ret ((0 : Int), ((0 : Int), ((0 : Int), ((0 : Int), ((0 : Int), (r1.2.2.2.2.2.2.2.2.2.1, ()))))))) (
         .ret (r0.2.2.2.2.2.2.2.1, (r0.2.2.2.2.2.2.2.2.1, (r0.2.2.2.2.2.2.1, (r1.1, (r1.2.1, ((0 : Int), ()))))))))) (
        .opt (β := (Int × (Int × ((List UInt8) × (Int × Unit))))) ((dgRead_fn (r0.2.2.2.2.2.2.2.2.2.2.1, (r0.2.2.2.2.2.2.2.1, (r0.2.2.2.2.2.2.2.2.1, ()))))) (fun r1 =>
        .ite (!decide (r1.2.2.2.1 = (0 : Int))) (
         .ret ((0 : Int), ((0 : Int), ((0 : Int), ((0 : Int), ((0 : Int), (r1.2.2.2.1, ()))))))) (
         .ret (r0.2.2.2.2.2.2.2.1, (r0.2.2.2.2.2.2.2.2.1, (r0.2.2.2.2.2.2.1, (r1.1, (r1.2.1, ((0 : Int), ()))))))))))))) (
    .ite (r0.2.2.2.1) (
     .ret ((0 : Int), ((0 : Int), ((0 : Int), ((0 : Int), ((0 : Int), ((9 : Int), ()))))))) (
     .ite (!decide (r0.2.2.2.2.1 = (0 : Int))) (
      .ret ((0 : Int), ((0 : Int), ((0 : Int), ((0 : Int), ((0 : Int), ((9 : Int), ()))))))) (
      .ite (decide (r0.2.2.2.2.2.2.1 = (6 : Int))) (
       .opt (β := (Int × (Int × (Int × (Int × (Int × (Int × (Int × ((List TOption) × ((List UInt8) × (Int × Unit))))))))))) ((tcRead_fn (r0.2.2.2.2.2.2.2.2.2.2.1, (r0.2.2.2.2.2.2.2.1, (r0.2.2.2.2.2.2.2.2.1, ()))))) (fun r1 =>
       .ite (!decide (r1.2.2.2.2.2.2.2.2.2.1 = (0 : Int))) (
        .ret ((0 : Int), ((0 : Int), ((0 : Int), ((0 : Int), ((0 : Int), (r1.2.2.2.2.2.2.2.2.2.1, ()))))))) (
        .ret (r0.2.2.2.2.2.2.2.1, (r0.2.2.2.2.2.2.2.2.1, (r0.2.2.2.2.2.2.1, (r1.1, (r1.2.1, ((0 : Int), ()))))))))) (
       .opt (β := (Int × (Int × ((List UInt8) × (Int × Unit))))) ((dgRead_fn (r0.2.2.2.2.2.2.2.2.2.2.1, (r0.2.2.2.2.2.2.2.1, (r0.2.2.2.2.2.2.2.2.1, ()))))) (fun r1 =>
       .ite (!decide (r1.2.2.2.1 = (0 : Int))) (
        .ret ((0 : Int), ((0 : Int), ((0 : Int), ((0 : Int), ((0 : Int), (r1.2.2.2.1, ()))))))) (
        .ret (r0.2.2.2.2.2.2.2.1, (r0.2.2.2.2.2.2.2.2.1, (r0.2.2.2.2.2.2.1, (r1.1, (r1.2.1, ((0 : Int), ()))))))))))))))
theorem swEnds_eq (x : ((List UInt8) × Unit)) : fnTr Try.prog cod [FS.pf sumFold, FS.pf sumAdd, FS.pf sumOf, FS.pf sumRight, FS.pf sumFix, FS.pf dgWord, FS.pf dgLong, FS.pf dgWordAt, FS.pf dgUnder, FS.pf dgPort, FS.pf dgWrite, FS.pf dgRead, FS.pf ipWordAt, FS.pf ipLongAt, FS.pf ipByt, FS.pf ipRefused, FS.pf ipWord, FS.pf ipLong, FS.pf ipWrite, FS.pf ipRead, FS.pf tcWord, FS.pf tcLong, FS.pf tcWordAt, FS.pf tcLongAt, FS.pf tcWords, FS.pf tcOptions, FS.pf tcWrite, FS.pf tcParse, FS.pf tcRead] [] 30 10 swEnds_ap swEnds_rp x = swEnds_tree x := by kernel_rfl
def swEnds_fn (x : ((List UInt8) × Unit)) : Option (Int × (Int × (Int × (Int × (Int × (Int × Unit)))))) := (swEnds_tree x).eval
def swEnds : FS Try.prog := ⟨10, swEnds_ap, swEnds_rp, swEnds_fn, fun x r h => fnTr_sound (cod := cod) (Γ := [FS.pf sumFold, FS.pf sumAdd, FS.pf sumOf, FS.pf sumRight, FS.pf sumFix, FS.pf dgWord, FS.pf dgLong, FS.pf dgWordAt, FS.pf dgUnder, FS.pf dgPort, FS.pf dgWrite, FS.pf dgRead, FS.pf ipWordAt, FS.pf ipLongAt, FS.pf ipByt, FS.pf ipRefused, FS.pf ipWord, FS.pf ipLong, FS.pf ipWrite, FS.pf ipRead, FS.pf tcWord, FS.pf tcLong, FS.pf tcWordAt, FS.pf tcLongAt, FS.pf tcWords, FS.pf tcOptions, FS.pf tcWrite, FS.pf tcParse, FS.pf tcRead]) (Λs := []) (n := 30) ((congrArg Tr.eval (swEnds_eq x)).trans h)⟩
def swWord_ap : List VP1 := [.one (.st 2 false), .one (.i .i64)]
def swWord_rp : SP := ⟨1, [(0, .v (.one (.i .u16)))], []⟩
def swWord_tree : ((List UInt8) × (Int × Unit)) → Tr (Int × Unit) :=
  fun (a0, a1, _) =>
  .grd (decide ((0 : Int) ≤ a1)) (
  .opt (β := UInt8) (a0[Int.toNat a1]?) (fun r0 =>
  .grd (true) (
  .grd (decide ((0 : Int) ≤ IntKind.wrap IntKind.i64 (a1 + (1 : Int)))) (
  .opt (β := UInt8) (a0[Int.toNat (IntKind.wrap IntKind.i64 (a1 + (1 : Int)))]?) (fun r1 =>
  .ret (bits BinOp.or IntKind.u16 (IntKind.wrap IntKind.u16 (IntKind.wrap IntKind.u16 (↑(UInt8.toNat r0) : Int) * (2 : Int) ^ (8 : Nat))) (IntKind.wrap IntKind.u16 (↑(UInt8.toNat r1) : Int)), ()))))))
theorem swWord_eq (x : ((List UInt8) × (Int × Unit))) : fnTr Try.prog cod [FS.pf sumFold, FS.pf sumAdd, FS.pf sumOf, FS.pf sumRight, FS.pf sumFix, FS.pf dgWord, FS.pf dgLong, FS.pf dgWordAt, FS.pf dgUnder, FS.pf dgPort, FS.pf dgWrite, FS.pf dgRead, FS.pf ipWordAt, FS.pf ipLongAt, FS.pf ipByt, FS.pf ipRefused, FS.pf ipWord, FS.pf ipLong, FS.pf ipWrite, FS.pf ipRead, FS.pf tcWord, FS.pf tcLong, FS.pf tcWordAt, FS.pf tcLongAt, FS.pf tcWords, FS.pf tcOptions, FS.pf tcWrite, FS.pf tcParse, FS.pf tcRead, FS.pf swEnds] [] 30 57 swWord_ap swWord_rp x = swWord_tree x := by kernel_rfl
def swWord_fn (x : ((List UInt8) × (Int × Unit))) : Option (Int × Unit) := (swWord_tree x).eval
def swWord : FS Try.prog := ⟨57, swWord_ap, swWord_rp, swWord_fn, fun x r h => fnTr_sound (cod := cod) (Γ := [FS.pf sumFold, FS.pf sumAdd, FS.pf sumOf, FS.pf sumRight, FS.pf sumFix, FS.pf dgWord, FS.pf dgLong, FS.pf dgWordAt, FS.pf dgUnder, FS.pf dgPort, FS.pf dgWrite, FS.pf dgRead, FS.pf ipWordAt, FS.pf ipLongAt, FS.pf ipByt, FS.pf ipRefused, FS.pf ipWord, FS.pf ipLong, FS.pf ipWrite, FS.pf ipRead, FS.pf tcWord, FS.pf tcLong, FS.pf tcWordAt, FS.pf tcLongAt, FS.pf tcWords, FS.pf tcOptions, FS.pf tcWrite, FS.pf tcParse, FS.pf tcRead, FS.pf swEnds]) (Λs := []) (n := 30) ((congrArg Tr.eval (swWord_eq x)).trans h)⟩
def swPut_ap : SP := ⟨18, [(0, .v (.one (.pre 1500100 1))), (1, .v (.one (.i .i64))), (2, .v (.one (.i .u16)))], [(1500100, .row 5 2 false true)]⟩
def swPut_rp : SP := ⟨1, [(0, .tup [])], [(1500100, .row 5 2 false true)]⟩
def swPut_tree : (Nat × (Int × (Int × ((List UInt8) × Unit)))) → Tr ((List UInt8) × Unit) :=
  fun (a0, a1, a2, a3, _) =>
  .grd (true) (
  .grd (decide ((0 : Int) ≤ a1 ∧ a1 < (↑a0 : Int))) (
  .opt (β := UInt8) (a3[(0 : Nat) + Int.toNat a1]?) (fun r0 =>
  .grd (decide ((0 : Int) ≤ IntKind.wrap IntKind.u8 (Int.fdiv a2 ((2 : Int) ^ (8 : Nat))) ∧ IntKind.wrap IntKind.u8 (Int.fdiv a2 ((2 : Int) ^ (8 : Nat))) < (256 : Int))) (
  .grd (decide ((0 : Int) ≤ IntKind.wrap IntKind.i64 (a1 + (1 : Int)) ∧ IntKind.wrap IntKind.i64 (a1 + (1 : Int)) < (↑a0 : Int))) (
  .opt (β := UInt8) ((List.set a3 ((0 : Nat) + Int.toNat a1) (UInt8.ofNat (Int.toNat (IntKind.wrap IntKind.u8 (Int.fdiv a2 ((2 : Int) ^ (8 : Nat)))))))[(0 : Nat) + Int.toNat (IntKind.wrap IntKind.i64 (a1 + (1 : Int)))]?) (fun r1 =>
  .grd (decide ((0 : Int) ≤ IntKind.wrap IntKind.u8 a2 ∧ IntKind.wrap IntKind.u8 a2 < (256 : Int))) (
  .ret (List.set (List.set a3 ((0 : Nat) + Int.toNat a1) (UInt8.ofNat (Int.toNat (IntKind.wrap IntKind.u8 (Int.fdiv a2 ((2 : Int) ^ (8 : Nat))))))) ((0 : Nat) + Int.toNat (IntKind.wrap IntKind.i64 (a1 + (1 : Int)))) (UInt8.ofNat (Int.toNat (IntKind.wrap IntKind.u8 a2))), ()))))))))
theorem swPut_eq (x : (Nat × (Int × (Int × ((List UInt8) × Unit))))) : gsTr Try.prog cod [FS.pf sumFold, FS.pf sumAdd, FS.pf sumOf, FS.pf sumRight, FS.pf sumFix, FS.pf dgWord, FS.pf dgLong, FS.pf dgWordAt, FS.pf dgUnder, FS.pf dgPort, FS.pf dgWrite, FS.pf dgRead, FS.pf ipWordAt, FS.pf ipLongAt, FS.pf ipByt, FS.pf ipRefused, FS.pf ipWord, FS.pf ipLong, FS.pf ipWrite, FS.pf ipRead, FS.pf tcWord, FS.pf tcLong, FS.pf tcWordAt, FS.pf tcLongAt, FS.pf tcWords, FS.pf tcOptions, FS.pf tcWrite, FS.pf tcParse, FS.pf tcRead, FS.pf swEnds, FS.pf swWord] [] 30 59 swPut_ap swPut_rp x = swPut_tree x := by kernel_rfl
def swPut_fn (x : (Nat × (Int × (Int × ((List UInt8) × Unit))))) : Option ((List UInt8) × Unit) := (swPut_tree x).eval
def swPut : GS Try.prog := ⟨59, [2, 0, 0], swPut_ap, swPut_rp, swPut_fn, fun x r h ys m g he hg => gs_sound (cod := cod) (Γ := [FS.pf sumFold, FS.pf sumAdd, FS.pf sumOf, FS.pf sumRight, FS.pf sumFix, FS.pf dgWord, FS.pf dgLong, FS.pf dgWordAt, FS.pf dgUnder, FS.pf dgPort, FS.pf dgWrite, FS.pf dgRead, FS.pf ipWordAt, FS.pf ipLongAt, FS.pf ipByt, FS.pf ipRefused, FS.pf ipWord, FS.pf ipLong, FS.pf ipWrite, FS.pf ipRead, FS.pf tcWord, FS.pf tcLong, FS.pf tcWordAt, FS.pf tcLongAt, FS.pf tcWords, FS.pf tcOptions, FS.pf tcWrite, FS.pf tcParse, FS.pf tcRead, FS.pf swEnds, FS.pf swWord]) (Λs := []) (n := 30) ((congrArg Tr.eval (swPut_eq x)).trans h) he hg⟩
def swChange_L58_3 : LS := ⟨3, [(1500100, 1500100)], ⟨34, [(20, .v (.one (.i .i64))), (2, .v (.one (.i .u16))), (8, .v (.one (.i .u16))), (0, .v (.one (.pre 1500100 1))), (18, .v (.one (.st 0 false))), (19, .v (.one (.i .i64)))], [(1500100, .row 5 2 false true)]⟩, [⟨some 0, [(1500100, 1500100)], ⟨34, [], [(1500100, .row 5 2 false true)]⟩⟩], []⟩
def swChange_step58_3 : (Int × (Int × (Int × (Nat × ((List Int) × (Int × ((List UInt8) × Unit))))))) → Tr ((Int × (Int × (Int × (Nat × ((List Int) × (Int × ((List UInt8) × Unit))))))) ⊕ ((List UInt8) × Unit)) :=
  fun (a0, a1, a2, a3, a4, a5, a6, _) =>
  .ite (decide (a0 < a5)) (
   .grd (decide ((0 : Int) ≤ a0)) (
   .opt (β := Int) (a4[Int.toNat a0]?) (fun r0 =>
   .opt (β := (Int × Unit)) ((swWord_fn (List.take a3 a6, (r0, ())))) (fun r1 =>
   .opt (β := (Int × Unit)) ((sumFix_fn (r1.1, (a2, (a1, ()))))) (fun r2 =>
   .opt (β := ((List UInt8) × Unit)) ((swPut_fn (a3, (r0, (r2.1, (a6, ())))))) (fun r3 =>
   .ret (Sum.inl (IntKind.wrap IntKind.i64 (a0 + (1 : Int)), (a1, (a2, (a3, (a4, (a5, (r3.1, ())))))))))))))) (
   .ret (Sum.inr (a6, ())))
def swChange_loop58_3 (x : (Int × (Int × (Int × (Nat × ((List Int) × (Int × ((List UInt8) × Unit)))))))) : Option ((List UInt8) × Unit) := loopO 580003 (fun x => (swChange_step58_3 x).eval) 18446744073709551616 x
def swChange_ap : SP := ⟨34, [(0, .v (.one (.pre 1500100 1))), (1, .v (.one (.i .i64))), (2, .v (.one (.i .u16))), (3, .v (.one (.st 0 false)))], [(1500100, .row 5 2 false true)]⟩
def swChange_rp : SP := ⟨1, [(0, .tup [])], [(1500100, .row 5 2 false true)]⟩
def swChange_tree : (Nat × (Int × (Int × ((List Int) × ((List UInt8) × Unit))))) → Tr ((List UInt8) × Unit) :=
  fun (a0, a1, a2, a3, a4, _) =>
  .opt (β := (Int × Unit)) ((swWord_fn (List.take a0 a4, (a1, ())))) (fun r0 =>
  .opt (β := ((List UInt8) × Unit)) ((swPut_fn (a0, (a1, (a2, (a4, ())))))) (fun r1 =>
  .opt (β := ((List UInt8) × Unit)) ((swChange_loop58_3 ((0 : Int), (a2, (r0.1, (a0, (a3, ((↑(List.length a3) : Int), (r1.1, ()))))))))) (fun r2 =>
  .ret (r2.1, ()))))
theorem swChange_eq (x : (Nat × (Int × (Int × ((List Int) × ((List UInt8) × Unit)))))) : gsTr Try.prog cod [FS.pf sumFold, FS.pf sumAdd, FS.pf sumOf, FS.pf sumRight, FS.pf sumFix, FS.pf dgWord, FS.pf dgLong, FS.pf dgWordAt, FS.pf dgUnder, FS.pf dgPort, FS.pf dgWrite, FS.pf dgRead, FS.pf ipWordAt, FS.pf ipLongAt, FS.pf ipByt, FS.pf ipRefused, FS.pf ipWord, FS.pf ipLong, FS.pf ipWrite, FS.pf ipRead, FS.pf tcWord, FS.pf tcLong, FS.pf tcWordAt, FS.pf tcLongAt, FS.pf tcWords, FS.pf tcOptions, FS.pf tcWrite, FS.pf tcParse, FS.pf tcRead, FS.pf swEnds, FS.pf swWord, GS.pf swPut] [(58, swChange_L58_3)] 30 58 swChange_ap swChange_rp x = swChange_tree x := by kernel_rfl
def swChange_fn (x : (Nat × (Int × (Int × ((List Int) × ((List UInt8) × Unit)))))) : Option ((List UInt8) × Unit) := (swChange_tree x).eval
def swChange : GS Try.prog := ⟨58, [2, 0, 0, 0], swChange_ap, swChange_rp, swChange_fn, fun x r h ys m g he hg => gs_sound (cod := cod) (Γ := [FS.pf sumFold, FS.pf sumAdd, FS.pf sumOf, FS.pf sumRight, FS.pf sumFix, FS.pf dgWord, FS.pf dgLong, FS.pf dgWordAt, FS.pf dgUnder, FS.pf dgPort, FS.pf dgWrite, FS.pf dgRead, FS.pf ipWordAt, FS.pf ipLongAt, FS.pf ipByt, FS.pf ipRefused, FS.pf ipWord, FS.pf ipLong, FS.pf ipWrite, FS.pf ipRead, FS.pf tcWord, FS.pf tcLong, FS.pf tcWordAt, FS.pf tcLongAt, FS.pf tcWords, FS.pf tcOptions, FS.pf tcWrite, FS.pf tcParse, FS.pf tcRead, FS.pf swEnds, FS.pf swWord, GS.pf swPut]) (Λs := [(58, swChange_L58_3)]) (n := 30) ((congrArg Tr.eval (swChange_eq x)).trans h) he hg⟩
def swSwapped_ap : List VP1 := [.one (.s), .one (.i .u32), .one (.i .i64), .one (.i .i64), .one (.i .i64)]
def swSwapped_rp : SP := ⟨1, [(0, .tup [.one (.s), .one (.i .i64)])], []⟩
def swSwapped_tree : ((List UInt8) × (Int × (Int × (Int × (Int × Unit))))) → Tr ((List UInt8) × (Int × Unit)) :=
  fun (a0, a1, a2, a3, a4, _) =>
  .opt (β := (Int × (Int × (Int × (Int × (Int × (Int × Unit))))))) ((swEnds_fn (a0, ()))) (fun r0 =>
  .ite (!decide (r0.2.2.2.2.2.1 = (0 : Int))) (
   .ret ([], (r0.2.2.2.2.2.1, ()))) (
   .ite (decide (a2 < (0 : Int))) (
    .ret ([], ((1 : Int), ()))) (
    .ite (decide ((65535 : Int) < a2)) (
     .ret ([], ((1 : Int), ()))) (
     .grd (decide (List.length a0 ≤ (9223372036854775807 : Nat))) (
     .opt (β := (Int × Unit)) ((swWord_fn (a0, ((2 : Int), ())))) (fun r1 =>
     .grd (decide ((0 : Int) ≤ r1.1 ∧ r1.1 ≤ (↑(List.length a0) : Int))) (
     .grd (decide ((0 : Int) ≤ (0 : Int) ∧ (0 : Int) < (↑(Int.toNat r1.1) : Int))) (
     .opt (β := UInt8) (a0[(0 : Nat) + (0 : Nat)]?) (fun r2 =>
     .ite (decide (r0.2.2.1 = (17 : Int))) (
      .ite (decide (r0.2.2.1 = (17 : Int))) (
       .opt (β := (Int × Unit)) ((swWord_fn (List.take (Int.toNat r1.1) a0, (IntKind.wrap IntKind.i64 (IntKind.wrap IntKind.i64 (IntKind.wrap IntKind.i64 (bits BinOp.and IntKind.u8 (↑(UInt8.toNat r2) : Int) (15 : Int)) * (4 : Int)) + (6 : Int)), ())))) (fun r3 =>
       .ite (decide (r3.1 = (0 : Int))) (
        .grd (true) (
        .grd (true) (
        .opt (β := ((List UInt8) × Unit)) ((swChange_fn (Int.toNat r1.1, (a3, (IntKind.wrap IntKind.u16 (Int.fdiv a1 ((2 : Int) ^ (16 : Nat))), (List.take (1 : Nat) [(10 : Int), IntKind.wrap IntKind.i64 (IntKind.wrap IntKind.i64 (IntKind.wrap IntKind.i64 (bits BinOp.and IntKind.u8 (↑(UInt8.toNat r2) : Int) (15 : Int)) * (4 : Int)) + (6 : Int))], (a0, ()))))))) (fun r4 =>
        .opt (β := ((List UInt8) × Unit)) ((swChange_fn (Int.toNat r1.1, (IntKind.wrap IntKind.i64 (a3 + (2 : Int)), (IntKind.wrap IntKind.u16 a1, (List.take (1 : Nat) [(10 : Int), IntKind.wrap IntKind.i64 (IntKind.wrap IntKind.i64 (IntKind.wrap IntKind.i64 (bits BinOp.and IntKind.u8 (↑(UInt8.toNat r2) : Int) (15 : Int)) * (4 : Int)) + (6 : Int))], (r4.1, ()))))))) (fun r5 =>
        .grd (decide ((0 : Int) ≤ (1 : Int) ∧ (1 : Int) ≤ (↑(1 : Nat) : Int) ∧ (↑(1 : Nat) : Int) ≤ (↑(List.length [(10 : Int), IntKind.wrap IntKind.i64 (IntKind.wrap IntKind.i64 (IntKind.wrap IntKind.i64 (bits BinOp.and IntKind.u8 (↑(UInt8.toNat r2) : Int) (15 : Int)) * (4 : Int)) + (6 : Int))]) : Int))) (
        .opt (β := ((List UInt8) × Unit)) ((swChange_fn (Int.toNat r1.1, (IntKind.wrap IntKind.i64 (IntKind.wrap IntKind.i64 (IntKind.wrap IntKind.i64 (bits BinOp.and IntKind.u8 (↑(UInt8.toNat r2) : Int) (15 : Int)) * (4 : Int)) + a4), (IntKind.wrap IntKind.u16 a2, (List.take (0 : Nat) (List.drop (1 : Nat) [(10 : Int), IntKind.wrap IntKind.i64 (IntKind.wrap IntKind.i64 (IntKind.wrap IntKind.i64 (bits BinOp.and IntKind.u8 (↑(UInt8.toNat r2) : Int) (15 : Int)) * (4 : Int)) + (6 : Int))]), (r5.1, ()))))))) (fun r6 =>
        .ite (decide (r0.2.2.1 = (17 : Int))) (
         .ite (!decide (r3.1 = (0 : Int))) (
          .opt (β := (Int × Unit)) ((swWord_fn (List.take (Int.toNat r1.1) r6.1, (IntKind.wrap IntKind.i64 (IntKind.wrap IntKind.i64 (IntKind.wrap IntKind.i64 (bits BinOp.and IntKind.u8 (↑(UInt8.toNat r2) : Int) (15 : Int)) * (4 : Int)) + (6 : Int)), ())))) (fun r7 =>
          .ite (decide (r7.1 = (0 : Int))) (
           .opt (β := ((List UInt8) × Unit)) ((swPut_fn (Int.toNat r1.1, (IntKind.wrap IntKind.i64 (IntKind.wrap IntKind.i64 (IntKind.wrap IntKind.i64 (bits BinOp.and IntKind.u8 (↑(UInt8.toNat r2) : Int) (15 : Int)) * (4 : Int)) + (6 : Int)), ((65535 : Int), (r6.1, ())))))) (fun r8 =>
           .ret (List.take (Int.toNat r1.1) r8.1, ((0 : Int), ())))) (
           .ret (List.take (Int.toNat r1.1) r6.1, ((0 : Int), ()))))) (
          .ret (List.take (Int.toNat r1.1) r6.1, ((0 : Int), ())))) (
         .ret (List.take (Int.toNat r1.1) r6.1, ((0 : Int), ())))))))))) (
        .grd (true) (
        .opt (β := ((List UInt8) × Unit)) ((swChange_fn (Int.toNat r1.1, (a3, (IntKind.wrap IntKind.u16 (Int.fdiv a1 ((2 : Int) ^ (16 : Nat))), ([(10 : Int), IntKind.wrap IntKind.i64 (IntKind.wrap IntKind.i64 (IntKind.wrap IntKind.i64 (bits BinOp.and IntKind.u8 (↑(UInt8.toNat r2) : Int) (15 : Int)) * (4 : Int)) + (6 : Int))], (a0, ()))))))) (fun r4 =>
        .opt (β := ((List UInt8) × Unit)) ((swChange_fn (Int.toNat r1.1, (IntKind.wrap IntKind.i64 (a3 + (2 : Int)), (IntKind.wrap IntKind.u16 a1, ([(10 : Int), IntKind.wrap IntKind.i64 (IntKind.wrap IntKind.i64 (IntKind.wrap IntKind.i64 (bits BinOp.and IntKind.u8 (↑(UInt8.toNat r2) : Int) (15 : Int)) * (4 : Int)) + (6 : Int))], (r4.1, ()))))))) (fun r5 =>
        .grd (true) (
        .opt (β := ((List UInt8) × Unit)) ((swChange_fn (Int.toNat r1.1, (IntKind.wrap IntKind.i64 (IntKind.wrap IntKind.i64 (IntKind.wrap IntKind.i64 (bits BinOp.and IntKind.u8 (↑(UInt8.toNat r2) : Int) (15 : Int)) * (4 : Int)) + a4), (IntKind.wrap IntKind.u16 a2, (List.take (1 : Nat) (List.drop (1 : Nat) [(10 : Int), IntKind.wrap IntKind.i64 (IntKind.wrap IntKind.i64 (IntKind.wrap IntKind.i64 (bits BinOp.and IntKind.u8 (↑(UInt8.toNat r2) : Int) (15 : Int)) * (4 : Int)) + (6 : Int))]), (r5.1, ()))))))) (fun r6 =>
        .ite (decide (r0.2.2.1 = (17 : Int))) (
         .ite (!decide (r3.1 = (0 : Int))) (
          .opt (β := (Int × Unit)) ((swWord_fn (List.take (Int.toNat r1.1) r6.1, (IntKind.wrap IntKind.i64 (IntKind.wrap IntKind.i64 (IntKind.wrap IntKind.i64 (bits BinOp.and IntKind.u8 (↑(UInt8.toNat r2) : Int) (15 : Int)) * (4 : Int)) + (6 : Int)), ())))) (fun r7 =>
          .ite (decide (r7.1 = (0 : Int))) (
           .opt (β := ((List UInt8) × Unit)) ((swPut_fn (Int.toNat r1.1, (IntKind.wrap IntKind.i64 (IntKind.wrap IntKind.i64 (IntKind.wrap IntKind.i64 (bits BinOp.and IntKind.u8 (↑(UInt8.toNat r2) : Int) (15 : Int)) * (4 : Int)) + (6 : Int)), ((65535 : Int), (r6.1, ())))))) (fun r8 =>
           .ret (List.take (Int.toNat r1.1) r8.1, ((0 : Int), ())))) (
           .ret (List.take (Int.toNat r1.1) r6.1, ((0 : Int), ()))))) (
          .ret (List.take (Int.toNat r1.1) r6.1, ((0 : Int), ())))) (
         .ret (List.take (Int.toNat r1.1) r6.1, ((0 : Int), ()))))))))))) (
       .grd (true) (
       .opt (β := ((List UInt8) × Unit)) ((swChange_fn (Int.toNat r1.1, (a3, (IntKind.wrap IntKind.u16 (Int.fdiv a1 ((2 : Int) ^ (16 : Nat))), ([(10 : Int), IntKind.wrap IntKind.i64 (IntKind.wrap IntKind.i64 (IntKind.wrap IntKind.i64 (bits BinOp.and IntKind.u8 (↑(UInt8.toNat r2) : Int) (15 : Int)) * (4 : Int)) + (6 : Int))], (a0, ()))))))) (fun r3 =>
       .opt (β := ((List UInt8) × Unit)) ((swChange_fn (Int.toNat r1.1, (IntKind.wrap IntKind.i64 (a3 + (2 : Int)), (IntKind.wrap IntKind.u16 a1, ([(10 : Int), IntKind.wrap IntKind.i64 (IntKind.wrap IntKind.i64 (IntKind.wrap IntKind.i64 (bits BinOp.and IntKind.u8 (↑(UInt8.toNat r2) : Int) (15 : Int)) * (4 : Int)) + (6 : Int))], (r3.1, ()))))))) (fun r4 =>
       .grd (true) (
       .opt (β := ((List UInt8) × Unit)) ((swChange_fn (Int.toNat r1.1, (IntKind.wrap IntKind.i64 (IntKind.wrap IntKind.i64 (IntKind.wrap IntKind.i64 (bits BinOp.and IntKind.u8 (↑(UInt8.toNat r2) : Int) (15 : Int)) * (4 : Int)) + a4), (IntKind.wrap IntKind.u16 a2, (List.take (1 : Nat) (List.drop (1 : Nat) [(10 : Int), IntKind.wrap IntKind.i64 (IntKind.wrap IntKind.i64 (IntKind.wrap IntKind.i64 (bits BinOp.and IntKind.u8 (↑(UInt8.toNat r2) : Int) (15 : Int)) * (4 : Int)) + (6 : Int))]), (r4.1, ()))))))) (fun r5 =>
       .ite (decide (r0.2.2.1 = (17 : Int))) (
        .ite (true) (
         .opt (β := (Int × Unit)) ((swWord_fn (List.take (Int.toNat r1.1) r5.1, (IntKind.wrap IntKind.i64 (IntKind.wrap IntKind.i64 (IntKind.wrap IntKind.i64 (bits BinOp.and IntKind.u8 (↑(UInt8.toNat r2) : Int) (15 : Int)) * (4 : Int)) + (6 : Int)), ())))) (fun r6 =>
         .ite (decide (r6.1 = (0 : Int))) (
          .opt (β := ((List UInt8) × Unit)) ((swPut_fn (Int.toNat r1.1, (IntKind.wrap IntKind.i64 (IntKind.wrap IntKind.i64 (IntKind.wrap IntKind.i64 (bits BinOp.and IntKind.u8 (↑(UInt8.toNat r2) : Int) (15 : Int)) * (4 : Int)) + (6 : Int)), ((65535 : Int), (r5.1, ())))))) (fun r7 =>
          .ret (List.take (Int.toNat r1.1) r7.1, ((0 : Int), ())))) (
          .ret (List.take (Int.toNat r1.1) r5.1, ((0 : Int), ()))))) (
         .ret (List.take (Int.toNat r1.1) r5.1, ((0 : Int), ())))) (
        .ret (List.take (Int.toNat r1.1) r5.1, ((0 : Int), ())))))))))) (
      .ite (decide (r0.2.2.1 = (17 : Int))) (
       .opt (β := (Int × Unit)) ((swWord_fn (List.take (Int.toNat r1.1) a0, (IntKind.wrap IntKind.i64 (IntKind.wrap IntKind.i64 (IntKind.wrap IntKind.i64 (bits BinOp.and IntKind.u8 (↑(UInt8.toNat r2) : Int) (15 : Int)) * (4 : Int)) + (16 : Int)), ())))) (fun r3 =>
       .ite (decide (r3.1 = (0 : Int))) (
        .grd (true) (
        .grd (true) (
        .opt (β := ((List UInt8) × Unit)) ((swChange_fn (Int.toNat r1.1, (a3, (IntKind.wrap IntKind.u16 (Int.fdiv a1 ((2 : Int) ^ (16 : Nat))), (List.take (1 : Nat) [(10 : Int), IntKind.wrap IntKind.i64 (IntKind.wrap IntKind.i64 (IntKind.wrap IntKind.i64 (bits BinOp.and IntKind.u8 (↑(UInt8.toNat r2) : Int) (15 : Int)) * (4 : Int)) + (16 : Int))], (a0, ()))))))) (fun r4 =>
        .opt (β := ((List UInt8) × Unit)) ((swChange_fn (Int.toNat r1.1, (IntKind.wrap IntKind.i64 (a3 + (2 : Int)), (IntKind.wrap IntKind.u16 a1, (List.take (1 : Nat) [(10 : Int), IntKind.wrap IntKind.i64 (IntKind.wrap IntKind.i64 (IntKind.wrap IntKind.i64 (bits BinOp.and IntKind.u8 (↑(UInt8.toNat r2) : Int) (15 : Int)) * (4 : Int)) + (16 : Int))], (r4.1, ()))))))) (fun r5 =>
        .grd (decide ((0 : Int) ≤ (1 : Int) ∧ (1 : Int) ≤ (↑(1 : Nat) : Int) ∧ (↑(1 : Nat) : Int) ≤ (↑(List.length [(10 : Int), IntKind.wrap IntKind.i64 (IntKind.wrap IntKind.i64 (IntKind.wrap IntKind.i64 (bits BinOp.and IntKind.u8 (↑(UInt8.toNat r2) : Int) (15 : Int)) * (4 : Int)) + (16 : Int))]) : Int))) (
        .opt (β := ((List UInt8) × Unit)) ((swChange_fn (Int.toNat r1.1, (IntKind.wrap IntKind.i64 (IntKind.wrap IntKind.i64 (IntKind.wrap IntKind.i64 (bits BinOp.and IntKind.u8 (↑(UInt8.toNat r2) : Int) (15 : Int)) * (4 : Int)) + a4), (IntKind.wrap IntKind.u16 a2, (List.take (0 : Nat) (List.drop (1 : Nat) [(10 : Int), IntKind.wrap IntKind.i64 (IntKind.wrap IntKind.i64 (IntKind.wrap IntKind.i64 (bits BinOp.and IntKind.u8 (↑(UInt8.toNat r2) : Int) (15 : Int)) * (4 : Int)) + (16 : Int))]), (r5.1, ()))))))) (fun r6 =>
        .ite (decide (r0.2.2.1 = (17 : Int))) (
         .ite (!decide (r3.1 = (0 : Int))) (
          .opt (β := (Int × Unit)) ((swWord_fn (List.take (Int.toNat r1.1) r6.1, (IntKind.wrap IntKind.i64 (IntKind.wrap IntKind.i64 (IntKind.wrap IntKind.i64 (bits BinOp.and IntKind.u8 (↑(UInt8.toNat r2) : Int) (15 : Int)) * (4 : Int)) + (16 : Int)), ())))) (fun r7 =>
          .ite (decide (r7.1 = (0 : Int))) (
           .opt (β := ((List UInt8) × Unit)) ((swPut_fn (Int.toNat r1.1, (IntKind.wrap IntKind.i64 (IntKind.wrap IntKind.i64 (IntKind.wrap IntKind.i64 (bits BinOp.and IntKind.u8 (↑(UInt8.toNat r2) : Int) (15 : Int)) * (4 : Int)) + (16 : Int)), ((65535 : Int), (r6.1, ())))))) (fun r8 =>
           .ret (List.take (Int.toNat r1.1) r8.1, ((0 : Int), ())))) (
           .ret (List.take (Int.toNat r1.1) r6.1, ((0 : Int), ()))))) (
          .ret (List.take (Int.toNat r1.1) r6.1, ((0 : Int), ())))) (
         .ret (List.take (Int.toNat r1.1) r6.1, ((0 : Int), ())))))))))) (
        .grd (true) (
        .opt (β := ((List UInt8) × Unit)) ((swChange_fn (Int.toNat r1.1, (a3, (IntKind.wrap IntKind.u16 (Int.fdiv a1 ((2 : Int) ^ (16 : Nat))), ([(10 : Int), IntKind.wrap IntKind.i64 (IntKind.wrap IntKind.i64 (IntKind.wrap IntKind.i64 (bits BinOp.and IntKind.u8 (↑(UInt8.toNat r2) : Int) (15 : Int)) * (4 : Int)) + (16 : Int))], (a0, ()))))))) (fun r4 =>
        .opt (β := ((List UInt8) × Unit)) ((swChange_fn (Int.toNat r1.1, (IntKind.wrap IntKind.i64 (a3 + (2 : Int)), (IntKind.wrap IntKind.u16 a1, ([(10 : Int), IntKind.wrap IntKind.i64 (IntKind.wrap IntKind.i64 (IntKind.wrap IntKind.i64 (bits BinOp.and IntKind.u8 (↑(UInt8.toNat r2) : Int) (15 : Int)) * (4 : Int)) + (16 : Int))], (r4.1, ()))))))) (fun r5 =>
        .grd (true) (
        .opt (β := ((List UInt8) × Unit)) ((swChange_fn (Int.toNat r1.1, (IntKind.wrap IntKind.i64 (IntKind.wrap IntKind.i64 (IntKind.wrap IntKind.i64 (bits BinOp.and IntKind.u8 (↑(UInt8.toNat r2) : Int) (15 : Int)) * (4 : Int)) + a4), (IntKind.wrap IntKind.u16 a2, (List.take (1 : Nat) (List.drop (1 : Nat) [(10 : Int), IntKind.wrap IntKind.i64 (IntKind.wrap IntKind.i64 (IntKind.wrap IntKind.i64 (bits BinOp.and IntKind.u8 (↑(UInt8.toNat r2) : Int) (15 : Int)) * (4 : Int)) + (16 : Int))]), (r5.1, ()))))))) (fun r6 =>
        .ite (decide (r0.2.2.1 = (17 : Int))) (
         .ite (!decide (r3.1 = (0 : Int))) (
          .opt (β := (Int × Unit)) ((swWord_fn (List.take (Int.toNat r1.1) r6.1, (IntKind.wrap IntKind.i64 (IntKind.wrap IntKind.i64 (IntKind.wrap IntKind.i64 (bits BinOp.and IntKind.u8 (↑(UInt8.toNat r2) : Int) (15 : Int)) * (4 : Int)) + (16 : Int)), ())))) (fun r7 =>
          .ite (decide (r7.1 = (0 : Int))) (
           .opt (β := ((List UInt8) × Unit)) ((swPut_fn (Int.toNat r1.1, (IntKind.wrap IntKind.i64 (IntKind.wrap IntKind.i64 (IntKind.wrap IntKind.i64 (bits BinOp.and IntKind.u8 (↑(UInt8.toNat r2) : Int) (15 : Int)) * (4 : Int)) + (16 : Int)), ((65535 : Int), (r6.1, ())))))) (fun r8 =>
           .ret (List.take (Int.toNat r1.1) r8.1, ((0 : Int), ())))) (
           .ret (List.take (Int.toNat r1.1) r6.1, ((0 : Int), ()))))) (
          .ret (List.take (Int.toNat r1.1) r6.1, ((0 : Int), ())))) (
         .ret (List.take (Int.toNat r1.1) r6.1, ((0 : Int), ()))))))))))) (
       .grd (true) (
       .opt (β := ((List UInt8) × Unit)) ((swChange_fn (Int.toNat r1.1, (a3, (IntKind.wrap IntKind.u16 (Int.fdiv a1 ((2 : Int) ^ (16 : Nat))), ([(10 : Int), IntKind.wrap IntKind.i64 (IntKind.wrap IntKind.i64 (IntKind.wrap IntKind.i64 (bits BinOp.and IntKind.u8 (↑(UInt8.toNat r2) : Int) (15 : Int)) * (4 : Int)) + (16 : Int))], (a0, ()))))))) (fun r3 =>
       .opt (β := ((List UInt8) × Unit)) ((swChange_fn (Int.toNat r1.1, (IntKind.wrap IntKind.i64 (a3 + (2 : Int)), (IntKind.wrap IntKind.u16 a1, ([(10 : Int), IntKind.wrap IntKind.i64 (IntKind.wrap IntKind.i64 (IntKind.wrap IntKind.i64 (bits BinOp.and IntKind.u8 (↑(UInt8.toNat r2) : Int) (15 : Int)) * (4 : Int)) + (16 : Int))], (r3.1, ()))))))) (fun r4 =>
       .grd (true) (
       .opt (β := ((List UInt8) × Unit)) ((swChange_fn (Int.toNat r1.1, (IntKind.wrap IntKind.i64 (IntKind.wrap IntKind.i64 (IntKind.wrap IntKind.i64 (bits BinOp.and IntKind.u8 (↑(UInt8.toNat r2) : Int) (15 : Int)) * (4 : Int)) + a4), (IntKind.wrap IntKind.u16 a2, (List.take (1 : Nat) (List.drop (1 : Nat) [(10 : Int), IntKind.wrap IntKind.i64 (IntKind.wrap IntKind.i64 (IntKind.wrap IntKind.i64 (bits BinOp.and IntKind.u8 (↑(UInt8.toNat r2) : Int) (15 : Int)) * (4 : Int)) + (16 : Int))]), (r4.1, ()))))))) (fun r5 =>
       .ite (decide (r0.2.2.1 = (17 : Int))) (
        .ite (true) (
         .opt (β := (Int × Unit)) ((swWord_fn (List.take (Int.toNat r1.1) r5.1, (IntKind.wrap IntKind.i64 (IntKind.wrap IntKind.i64 (IntKind.wrap IntKind.i64 (bits BinOp.and IntKind.u8 (↑(UInt8.toNat r2) : Int) (15 : Int)) * (4 : Int)) + (16 : Int)), ())))) (fun r6 =>
         .ite (decide (r6.1 = (0 : Int))) (
          .opt (β := ((List UInt8) × Unit)) ((swPut_fn (Int.toNat r1.1, (IntKind.wrap IntKind.i64 (IntKind.wrap IntKind.i64 (IntKind.wrap IntKind.i64 (bits BinOp.and IntKind.u8 (↑(UInt8.toNat r2) : Int) (15 : Int)) * (4 : Int)) + (16 : Int)), ((65535 : Int), (r5.1, ())))))) (fun r7 =>
          .ret (List.take (Int.toNat r1.1) r7.1, ((0 : Int), ())))) (
          .ret (List.take (Int.toNat r1.1) r5.1, ((0 : Int), ()))))) (
         .ret (List.take (Int.toNat r1.1) r5.1, ((0 : Int), ())))) (
        .ret (List.take (Int.toNat r1.1) r5.1, ((0 : Int), ())))))))))))))))))))
theorem swSwapped_eq (x : ((List UInt8) × (Int × (Int × (Int × (Int × Unit)))))) : fnTr Try.prog cod [FS.pf sumFold, FS.pf sumAdd, FS.pf sumOf, FS.pf sumRight, FS.pf sumFix, FS.pf dgWord, FS.pf dgLong, FS.pf dgWordAt, FS.pf dgUnder, FS.pf dgPort, FS.pf dgWrite, FS.pf dgRead, FS.pf ipWordAt, FS.pf ipLongAt, FS.pf ipByt, FS.pf ipRefused, FS.pf ipWord, FS.pf ipLong, FS.pf ipWrite, FS.pf ipRead, FS.pf tcWord, FS.pf tcLong, FS.pf tcWordAt, FS.pf tcLongAt, FS.pf tcWords, FS.pf tcOptions, FS.pf tcWrite, FS.pf tcParse, FS.pf tcRead, FS.pf swEnds, FS.pf swWord, GS.pf swPut, GS.pf swChange] [] 30 27 swSwapped_ap swSwapped_rp x = swSwapped_tree x := by kernel_rfl
def swSwapped_fn (x : ((List UInt8) × (Int × (Int × (Int × (Int × Unit)))))) : Option ((List UInt8) × (Int × Unit)) := (swSwapped_tree x).eval
def swSwapped : FS Try.prog := ⟨27, swSwapped_ap, swSwapped_rp, swSwapped_fn, fun x r h => fnTr_sound (cod := cod) (Γ := [FS.pf sumFold, FS.pf sumAdd, FS.pf sumOf, FS.pf sumRight, FS.pf sumFix, FS.pf dgWord, FS.pf dgLong, FS.pf dgWordAt, FS.pf dgUnder, FS.pf dgPort, FS.pf dgWrite, FS.pf dgRead, FS.pf ipWordAt, FS.pf ipLongAt, FS.pf ipByt, FS.pf ipRefused, FS.pf ipWord, FS.pf ipLong, FS.pf ipWrite, FS.pf ipRead, FS.pf tcWord, FS.pf tcLong, FS.pf tcWordAt, FS.pf tcLongAt, FS.pf tcWords, FS.pf tcOptions, FS.pf tcWrite, FS.pf tcParse, FS.pf tcRead, FS.pf swEnds, FS.pf swWord, GS.pf swPut, GS.pf swChange]) (Λs := []) (n := 30) ((congrArg Tr.eval (swSwapped_eq x)).trans h)⟩
def swFrom_ap : List VP1 := [.one (.s), .one (.i .u32), .one (.i .i64)]
def swFrom_rp : SP := ⟨1, [(0, .tup [.one (.s), .one (.i .i64)])], []⟩
def swFrom_tree : ((List UInt8) × (Int × (Int × Unit))) → Tr ((List UInt8) × (Int × Unit)) :=
  fun (a0, a1, a2, _) =>
  .opt (β := ((List UInt8) × (Int × Unit))) ((swSwapped_fn (a0, (a1, (a2, ((12 : Int), ((0 : Int), ()))))))) (fun r0 =>
  .ret (r0.1, (r0.2.1, ())))
theorem swFrom_eq (x : ((List UInt8) × (Int × (Int × Unit)))) : fnTr Try.prog cod [FS.pf sumFold, FS.pf sumAdd, FS.pf sumOf, FS.pf sumRight, FS.pf sumFix, FS.pf dgWord, FS.pf dgLong, FS.pf dgWordAt, FS.pf dgUnder, FS.pf dgPort, FS.pf dgWrite, FS.pf dgRead, FS.pf ipWordAt, FS.pf ipLongAt, FS.pf ipByt, FS.pf ipRefused, FS.pf ipWord, FS.pf ipLong, FS.pf ipWrite, FS.pf ipRead, FS.pf tcWord, FS.pf tcLong, FS.pf tcWordAt, FS.pf tcLongAt, FS.pf tcWords, FS.pf tcOptions, FS.pf tcWrite, FS.pf tcParse, FS.pf tcRead, FS.pf swEnds, FS.pf swWord, GS.pf swPut, GS.pf swChange, FS.pf swSwapped] [] 30 12 swFrom_ap swFrom_rp x = swFrom_tree x := by kernel_rfl
def swFrom_fn (x : ((List UInt8) × (Int × (Int × Unit)))) : Option ((List UInt8) × (Int × Unit)) := (swFrom_tree x).eval
def swFrom : FS Try.prog := ⟨12, swFrom_ap, swFrom_rp, swFrom_fn, fun x r h => fnTr_sound (cod := cod) (Γ := [FS.pf sumFold, FS.pf sumAdd, FS.pf sumOf, FS.pf sumRight, FS.pf sumFix, FS.pf dgWord, FS.pf dgLong, FS.pf dgWordAt, FS.pf dgUnder, FS.pf dgPort, FS.pf dgWrite, FS.pf dgRead, FS.pf ipWordAt, FS.pf ipLongAt, FS.pf ipByt, FS.pf ipRefused, FS.pf ipWord, FS.pf ipLong, FS.pf ipWrite, FS.pf ipRead, FS.pf tcWord, FS.pf tcLong, FS.pf tcWordAt, FS.pf tcLongAt, FS.pf tcWords, FS.pf tcOptions, FS.pf tcWrite, FS.pf tcParse, FS.pf tcRead, FS.pf swEnds, FS.pf swWord, GS.pf swPut, GS.pf swChange, FS.pf swSwapped]) (Λs := []) (n := 30) ((congrArg Tr.eval (swFrom_eq x)).trans h)⟩
def swTo_ap : List VP1 := [.one (.s), .one (.i .u32), .one (.i .i64)]
def swTo_rp : SP := ⟨1, [(0, .tup [.one (.s), .one (.i .i64)])], []⟩
def swTo_tree : ((List UInt8) × (Int × (Int × Unit))) → Tr ((List UInt8) × (Int × Unit)) :=
  fun (a0, a1, a2, _) =>
  .opt (β := ((List UInt8) × (Int × Unit))) ((swSwapped_fn (a0, (a1, (a2, ((16 : Int), ((2 : Int), ()))))))) (fun r0 =>
  .ret (r0.1, (r0.2.1, ())))
theorem swTo_eq (x : ((List UInt8) × (Int × (Int × Unit)))) : fnTr Try.prog cod [FS.pf sumFold, FS.pf sumAdd, FS.pf sumOf, FS.pf sumRight, FS.pf sumFix, FS.pf dgWord, FS.pf dgLong, FS.pf dgWordAt, FS.pf dgUnder, FS.pf dgPort, FS.pf dgWrite, FS.pf dgRead, FS.pf ipWordAt, FS.pf ipLongAt, FS.pf ipByt, FS.pf ipRefused, FS.pf ipWord, FS.pf ipLong, FS.pf ipWrite, FS.pf ipRead, FS.pf tcWord, FS.pf tcLong, FS.pf tcWordAt, FS.pf tcLongAt, FS.pf tcWords, FS.pf tcOptions, FS.pf tcWrite, FS.pf tcParse, FS.pf tcRead, FS.pf swEnds, FS.pf swWord, GS.pf swPut, GS.pf swChange, FS.pf swSwapped, FS.pf swFrom] [] 30 11 swTo_ap swTo_rp x = swTo_tree x := by kernel_rfl
def swTo_fn (x : ((List UInt8) × (Int × (Int × Unit)))) : Option ((List UInt8) × (Int × Unit)) := (swTo_tree x).eval
def swTo : FS Try.prog := ⟨11, swTo_ap, swTo_rp, swTo_fn, fun x r h => fnTr_sound (cod := cod) (Γ := [FS.pf sumFold, FS.pf sumAdd, FS.pf sumOf, FS.pf sumRight, FS.pf sumFix, FS.pf dgWord, FS.pf dgLong, FS.pf dgWordAt, FS.pf dgUnder, FS.pf dgPort, FS.pf dgWrite, FS.pf dgRead, FS.pf ipWordAt, FS.pf ipLongAt, FS.pf ipByt, FS.pf ipRefused, FS.pf ipWord, FS.pf ipLong, FS.pf ipWrite, FS.pf ipRead, FS.pf tcWord, FS.pf tcLong, FS.pf tcWordAt, FS.pf tcLongAt, FS.pf tcWords, FS.pf tcOptions, FS.pf tcWrite, FS.pf tcParse, FS.pf tcRead, FS.pf swEnds, FS.pf swWord, GS.pf swPut, GS.pf swChange, FS.pf swSwapped, FS.pf swFrom]) (Λs := []) (n := 30) ((congrArg Tr.eval (swTo_eq x)).trans h)⟩
end Go.Proofs.Ytkfpdgibaadmbaa.X
