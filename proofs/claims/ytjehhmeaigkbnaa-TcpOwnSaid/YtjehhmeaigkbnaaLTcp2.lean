/- Functions of the program, as trees (printed by a program of mine: tool/XTool, xg.py), each with the proof that the machine comes to what its tree says. Conditions: none. -/
import Derived.Test.YtjehhmeaigkbnaaCod
import Derived.KernelRfl
import Derived.Test.YtjehhmeaigkbnaaGTcp
namespace Go.Proofs.Ytjehhmeaigkbnaa.X
open Go Go.RowKit Go.Proofs.Ytjehhmeaigkbnaa.Abs
set_option maxRecDepth 100000
set_option linter.unusedVariables false
def tcpLives_ap : List VP1 := []
def tcpLives_rp : SP := ⟨1, [(0, .v (.one (.b)))], []⟩
def tcpLives_tree : Unit → Tr (Bool × Unit) :=
  fun (_) =>
  .opt (β := ((List UInt8) × (Int × Unit))) ((tcWrite_fn ((1 : Int), ((80 : Int), ((5 : Int), ((0 : Int), ((2 : Int), ((0 : Int), ((0 : Int), ([TOption.mk (2 : Int) [(5 : UInt8), (180 : UInt8)], TOption.mk (1 : Int) []], ([], ((1 : Int), ((2 : Int), ()))))))))))))) (fun r0 =>
  .opt (β := (Int × (Int × (Int × (Int × (Int × (Int × (Int × ((List TOption) × ((List UInt8) × (Int × Unit))))))))))) ((tcRead_fn (r0.1, ((1 : Int), ((2 : Int), ()))))) (fun r1 =>
  .opt (β := (Int × (Bool × Unit))) ((tcMss_fn (r1.1, (r1.2.1, (r1.2.2.1, (r1.2.2.2.1, (r1.2.2.2.2.1, (r1.2.2.2.2.2.1, (r1.2.2.2.2.2.2.1, (r1.2.2.2.2.2.2.2.1, (r1.2.2.2.2.2.2.2.2.1, ()))))))))))) (fun r2 =>
  .ite (decide (r0.2.1 = (0 : Int))) (
   .ite (decide (r1.2.2.2.2.2.2.2.2.2.1 = (0 : Int))) (
    .ite (decide ((↑(List.length r0.1) : Int) = (28 : Int))) (
     .grd (decide ((0 : Int) ≤ (12 : Int) ∧ (12 : Int) < (↑(List.length r0.1) : Int))) (
     .ite (decide ((↑(UInt8.toNat (List.getD r0.1 (12 : Nat) (0 : UInt8))) : Int) = (112 : Int))) (
      .ite (r2.2.1) (
       .ret (decide (r2.1 = (1460 : Int)), ())) (
       .ret (false, ()))) (
      .ret (false, ())))) (
     .ret (false, ()))) (
    .ret (false, ()))) (
   .ret (false, ())))))
theorem tcpLives_eq (x : Unit) : fnTr Try.prog cod [FS.pf sumFold, FS.pf sumAdd, FS.pf sumOf, FS.pf sumRight, FS.pf sumFix, FS.pf dgWord, FS.pf dgLong, FS.pf dgWordAt, FS.pf dgUnder, FS.pf dgPort, FS.pf dgWrite, FS.pf dgRead, FS.pf dgWriteNote, FS.pf dgReadNote, FS.pf kWord, clOpt, FS.pf eqOpt, FS.pf tcWord, FS.pf tcLong, FS.pf tcWordAt, FS.pf tcLongAt, FS.pf tcWords, FS.pf tcOptions, FS.pf tcWrite, FS.pf tcParse, FS.pf tcRead, FS.pf tcMss, FS.pf tcMove, FS.pf sameSegment] [] 30 35 tcpLives_ap tcpLives_rp x = tcpLives_tree x := by kernel_rfl
def tcpLives_fn (x : Unit) : Option (Bool × Unit) := (tcpLives_tree x).eval
def tcpLives : FS Try.prog := ⟨35, tcpLives_ap, tcpLives_rp, tcpLives_fn, fun x r h => fnTr_sound (cod := cod) (Γ := [FS.pf sumFold, FS.pf sumAdd, FS.pf sumOf, FS.pf sumRight, FS.pf sumFix, FS.pf dgWord, FS.pf dgLong, FS.pf dgWordAt, FS.pf dgUnder, FS.pf dgPort, FS.pf dgWrite, FS.pf dgRead, FS.pf dgWriteNote, FS.pf dgReadNote, FS.pf kWord, clOpt, FS.pf eqOpt, FS.pf tcWord, FS.pf tcLong, FS.pf tcWordAt, FS.pf tcLongAt, FS.pf tcWords, FS.pf tcOptions, FS.pf tcWrite, FS.pf tcParse, FS.pf tcRead, FS.pf tcMss, FS.pf tcMove, FS.pf sameSegment]) (Λs := []) (n := 30) ((congrArg Tr.eval (tcpLives_eq x)).trans h)⟩
def tcpBack_ap : List VP1 := [.agg [.i .i64, .i .i64, .i .u32, .i .u32, .i .i64, .i .i64, .i .i64, .st 4 false, .s], .one (.i .u32), .one (.i .u32), .one (.s)]
def tcpBack_rp : SP := ⟨1, [(0, .v (.one (.b)))], []⟩
def tcpBack_tree : (Int × (Int × (Int × (Int × (Int × (Int × (Int × ((List TOption) × ((List UInt8) × (Int × (Int × ((List UInt8) × Unit)))))))))))) → Tr (Bool × Unit) :=
  fun (a0, a1, a2, a3, a4, a5, a6, a7, a8, a9, a10, a11, _) =>
  .opt (β := ((List UInt8) × (Int × Unit))) ((tcWrite_fn (a0, (a1, (a2, (a3, (a4, (a5, (a6, (a7, (a8, (a9, (a10, ()))))))))))))) (fun r0 =>
  .ite (decide (r0.2.1 = (0 : Int))) (
   .opt (β := (Int × (Int × (Int × (Int × (Int × (Int × (Int × ((List TOption) × ((List UInt8) × (Int × Unit))))))))))) ((tcRead_fn (r0.1, (a9, (a10, ()))))) (fun r1 =>
   .ite (!decide (r1.2.2.2.2.2.2.2.2.2.1 = (0 : Int))) (
    .ret (false, ())) (
    .opt (β := (Bool × Unit)) ((sameSegment_fn (r1.1, (r1.2.1, (r1.2.2.1, (r1.2.2.2.1, (r1.2.2.2.2.1, (r1.2.2.2.2.2.1, (r1.2.2.2.2.2.2.1, (r1.2.2.2.2.2.2.2.1, (r1.2.2.2.2.2.2.2.2.1, (a0, (a1, (a2, (a3, (a4, (a5, (a6, (a7, (a8, ())))))))))))))))))))) (fun r2 =>
    .ite (!r2.1) (
     .ret (false, ())) (
     .opt (β := (Int × (Int × (Int × (Int × (Int × (Int × (Int × ((List TOption) × ((List UInt8) × (Int × Unit))))))))))) ((tcRead_fn (a11, (a9, (a10, ()))))) (fun r3 =>
     .opt (β := (Bool × Unit)) ((tcpLives_fn ())) (fun r4 =>
     .ite (!r4.1) (
      .opt (β := (Bool × Unit)) ((tcpLives_fn ())) (fun r5 =>
      .ite (r5.1) (
       .opt (β := (Bool × Unit)) ((sameSegment_fn (r3.1, (r3.2.1, (r3.2.2.1, (r3.2.2.2.1, (r3.2.2.2.2.1, (r3.2.2.2.2.2.1, (r3.2.2.2.2.2.2.1, (r3.2.2.2.2.2.2.2.1, (r3.2.2.2.2.2.2.2.2.1, ((0 : Int), ((0 : Int), ((0 : Int), ((0 : Int), ((0 : Int), ((0 : Int), ((0 : Int), ([], ([], ())))))))))))))))))))) (fun r6 =>
       .ret (r6.1, ()))) (
       .ret (false, ())))) (
      .ite (!decide (r3.2.2.2.2.2.2.2.2.2.1 = (0 : Int))) (
       .opt (β := (Bool × Unit)) ((tcpLives_fn ())) (fun r5 =>
       .ite (r5.1) (
        .opt (β := (Bool × Unit)) ((sameSegment_fn (r3.1, (r3.2.1, (r3.2.2.1, (r3.2.2.2.1, (r3.2.2.2.2.1, (r3.2.2.2.2.2.1, (r3.2.2.2.2.2.2.1, (r3.2.2.2.2.2.2.2.1, (r3.2.2.2.2.2.2.2.2.1, ((0 : Int), ((0 : Int), ((0 : Int), ((0 : Int), ((0 : Int), ((0 : Int), ((0 : Int), ([], ([], ())))))))))))))))))))) (fun r6 =>
        .ret (r6.1, ()))) (
        .ret (false, ())))) (
       .opt (β := ((List UInt8) × (Int × Unit))) ((tcWrite_fn (r3.1, (r3.2.1, (r3.2.2.1, (r3.2.2.2.1, (r3.2.2.2.2.1, (r3.2.2.2.2.2.1, (r3.2.2.2.2.2.2.1, (r3.2.2.2.2.2.2.2.1, (r3.2.2.2.2.2.2.2.2.1, (a9, (a10, ()))))))))))))) (fun r5 =>
       .opt (β := (Int × (Int × (Int × (Int × (Int × (Int × (Int × ((List TOption) × ((List UInt8) × (Int × Unit))))))))))) ((tcRead_fn (r5.1, (a9, (a10, ()))))) (fun r6 =>
       .ite (decide (r5.2.1 = (0 : Int))) (
        .ite (decide (r6.2.2.2.2.2.2.2.2.2.1 = (0 : Int))) (
         .opt (β := (Bool × Unit)) ((sameSegment_fn (r6.1, (r6.2.1, (r6.2.2.1, (r6.2.2.2.1, (r6.2.2.2.2.1, (r6.2.2.2.2.2.1, (r6.2.2.2.2.2.2.1, (r6.2.2.2.2.2.2.2.1, (r6.2.2.2.2.2.2.2.2.1, (r3.1, (r3.2.1, (r3.2.2.1, (r3.2.2.2.1, (r3.2.2.2.2.1, (r3.2.2.2.2.2.1, (r3.2.2.2.2.2.2.1, (r3.2.2.2.2.2.2.2.1, (r3.2.2.2.2.2.2.2.2.1, ())))))))))))))))))))) (fun r7 =>
         .ite (r7.1) (
          .ret (decide ((↑(List.length r5.1) : Int) ≤ (↑(List.length a11) : Int)), ())) (
          .ret (false, ())))) (
         .ret (false, ()))) (
        .ret (false, ()))))))))))))) (
   .opt (β := (Int × (Int × (Int × (Int × (Int × (Int × (Int × ((List TOption) × ((List UInt8) × (Int × Unit))))))))))) ((tcRead_fn (a11, (a9, (a10, ()))))) (fun r1 =>
   .opt (β := (Bool × Unit)) ((tcpLives_fn ())) (fun r2 =>
   .ite (!r2.1) (
    .opt (β := (Bool × Unit)) ((tcpLives_fn ())) (fun r3 =>
    .ite (r3.1) (
     .opt (β := (Bool × Unit)) ((sameSegment_fn (r1.1, (r1.2.1, (r1.2.2.1, (r1.2.2.2.1, (r1.2.2.2.2.1, (r1.2.2.2.2.2.1, (r1.2.2.2.2.2.2.1, (r1.2.2.2.2.2.2.2.1, (r1.2.2.2.2.2.2.2.2.1, ((0 : Int), ((0 : Int), ((0 : Int), ((0 : Int), ((0 : Int), ((0 : Int), ((0 : Int), ([], ([], ())))))))))))))))))))) (fun r4 =>
     .ret (r4.1, ()))) (
     .ret (false, ())))) (
    .ite (!decide (r1.2.2.2.2.2.2.2.2.2.1 = (0 : Int))) (
     .opt (β := (Bool × Unit)) ((tcpLives_fn ())) (fun r3 =>
     .ite (r3.1) (
      .opt (β := (Bool × Unit)) ((sameSegment_fn (r1.1, (r1.2.1, (r1.2.2.1, (r1.2.2.2.1, (r1.2.2.2.2.1, (r1.2.2.2.2.2.1, (r1.2.2.2.2.2.2.1, (r1.2.2.2.2.2.2.2.1, (r1.2.2.2.2.2.2.2.2.1, ((0 : Int), ((0 : Int), ((0 : Int), ((0 : Int), ((0 : Int), ((0 : Int), ((0 : Int), ([], ([], ())))))))))))))))))))) (fun r4 =>
      .ret (r4.1, ()))) (
      .ret (false, ())))) (
     .opt (β := ((List UInt8) × (Int × Unit))) ((tcWrite_fn (r1.1, (r1.2.1, (r1.2.2.1, (r1.2.2.2.1, (r1.2.2.2.2.1, (r1.2.2.2.2.2.1, (r1.2.2.2.2.2.2.1, (r1.2.2.2.2.2.2.2.1, (r1.2.2.2.2.2.2.2.2.1, (a9, (a10, ()))))))))))))) (fun r3 =>
     .opt (β := (Int × (Int × (Int × (Int × (Int × (Int × (Int × ((List TOption) × ((List UInt8) × (Int × Unit))))))))))) ((tcRead_fn (r3.1, (a9, (a10, ()))))) (fun r4 =>
     .ite (decide (r3.2.1 = (0 : Int))) (
      .ite (decide (r4.2.2.2.2.2.2.2.2.2.1 = (0 : Int))) (
       .opt (β := (Bool × Unit)) ((sameSegment_fn (r4.1, (r4.2.1, (r4.2.2.1, (r4.2.2.2.1, (r4.2.2.2.2.1, (r4.2.2.2.2.2.1, (r4.2.2.2.2.2.2.1, (r4.2.2.2.2.2.2.2.1, (r4.2.2.2.2.2.2.2.2.1, (r1.1, (r1.2.1, (r1.2.2.1, (r1.2.2.2.1, (r1.2.2.2.2.1, (r1.2.2.2.2.2.1, (r1.2.2.2.2.2.2.1, (r1.2.2.2.2.2.2.2.1, (r1.2.2.2.2.2.2.2.2.1, ())))))))))))))))))))) (fun r5 =>
       .ite (r5.1) (
        .ret (decide ((↑(List.length r3.1) : Int) ≤ (↑(List.length a11) : Int)), ())) (
        .ret (false, ())))) (
       .ret (false, ()))) (
      .ret (false, ()))))))))))
theorem tcpBack_eq (x : (Int × (Int × (Int × (Int × (Int × (Int × (Int × ((List TOption) × ((List UInt8) × (Int × (Int × ((List UInt8) × Unit))))))))))))) : fnTr Try.prog cod [FS.pf sumFold, FS.pf sumAdd, FS.pf sumOf, FS.pf sumRight, FS.pf sumFix, FS.pf dgWord, FS.pf dgLong, FS.pf dgWordAt, FS.pf dgUnder, FS.pf dgPort, FS.pf dgWrite, FS.pf dgRead, FS.pf dgWriteNote, FS.pf dgReadNote, FS.pf kWord, clOpt, FS.pf eqOpt, FS.pf tcWord, FS.pf tcLong, FS.pf tcWordAt, FS.pf tcLongAt, FS.pf tcWords, FS.pf tcOptions, FS.pf tcWrite, FS.pf tcParse, FS.pf tcRead, FS.pf tcMss, FS.pf tcMove, FS.pf sameSegment, FS.pf tcpLives] [] 30 11 tcpBack_ap tcpBack_rp x = tcpBack_tree x := by kernel_rfl
def tcpBack_fn (x : (Int × (Int × (Int × (Int × (Int × (Int × (Int × ((List TOption) × ((List UInt8) × (Int × (Int × ((List UInt8) × Unit))))))))))))) : Option (Bool × Unit) := (tcpBack_tree x).eval
def tcpBack : FS Try.prog := ⟨11, tcpBack_ap, tcpBack_rp, tcpBack_fn, fun x r h => fnTr_sound (cod := cod) (Γ := [FS.pf sumFold, FS.pf sumAdd, FS.pf sumOf, FS.pf sumRight, FS.pf sumFix, FS.pf dgWord, FS.pf dgLong, FS.pf dgWordAt, FS.pf dgUnder, FS.pf dgPort, FS.pf dgWrite, FS.pf dgRead, FS.pf dgWriteNote, FS.pf dgReadNote, FS.pf kWord, clOpt, FS.pf eqOpt, FS.pf tcWord, FS.pf tcLong, FS.pf tcWordAt, FS.pf tcLongAt, FS.pf tcWords, FS.pf tcOptions, FS.pf tcWrite, FS.pf tcParse, FS.pf tcRead, FS.pf tcMss, FS.pf tcMove, FS.pf sameSegment, FS.pf tcpLives]) (Λs := []) (n := 30) ((congrArg Tr.eval (tcpBack_eq x)).trans h)⟩
def tcpTold_ap : List VP1 := [.agg [.i .i64, .i .i64, .i .u32, .i .u32, .i .i64, .i .i64, .i .i64, .st 4 false, .s], .one (.i .u32), .one (.i .u32), .one (.i .i64)]
def tcpTold_rp : SP := ⟨1, [(0, .v (.one (.b)))], []⟩
def tcpTold_tree : (Int × (Int × (Int × (Int × (Int × (Int × (Int × ((List TOption) × ((List UInt8) × (Int × (Int × (Int × Unit)))))))))))) → Tr (Bool × Unit) :=
  fun (a0, a1, a2, a3, a4, a5, a6, a7, a8, a9, a10, a11, _) =>
  .opt (β := ((List UInt8) × (Int × Unit))) ((tcWrite_fn (a0, (a1, (a2, (a3, (a4, (a5, (a6, (a7, (a8, (a9, (a10, ()))))))))))))) (fun r0 =>
  .opt (β := (Bool × Unit)) ((tcpLives_fn ())) (fun r1 =>
  .ite (!r1.1) (
   .opt (β := (Bool × Unit)) ((tcpLives_fn ())) (fun r2 =>
   .ret (r2.1, ()))) (
   .ite (!decide (r0.2.1 = (0 : Int))) (
    .opt (β := (Bool × Unit)) ((tcpLives_fn ())) (fun r2 =>
    .ret (r2.1, ()))) (
    .ite (decide (a11 < (0 : Int))) (
     .opt (β := (Bool × Unit)) ((tcpLives_fn ())) (fun r2 =>
     .ret (r2.1, ()))) (
     .grd (true) (
     .ite (decide ((↑(List.length r0.1) : Int) ≤ IntKind.wrap IntKind.i64 (Int.tdiv a11 (8 : Int)))) (
      .opt (β := (Bool × Unit)) ((tcpLives_fn ())) (fun r2 =>
      .ret (r2.1, ()))) (
      .grd (decide (List.length r0.1 ≤ (9223372036854775807 : Nat))) (
      .grd (true) (
      .grd (decide ((0 : Int) ≤ IntKind.wrap IntKind.i64 (Int.tdiv a11 (8 : Int)) ∧ IntKind.wrap IntKind.i64 (Int.tdiv a11 (8 : Int)) < (↑(List.length r0.1) : Int))) (
      .opt (β := UInt8) (r0.1[Int.toNat (IntKind.wrap IntKind.i64 (Int.tdiv a11 (8 : Int)))]?) (fun r2 =>
      .grd (true) (
      .grd (decide ((0 : Int) ≤ Int.tmod a11 (8 : Int))) (
      .grd (decide ((0 : Int) ≤ IntKind.wrap IntKind.i64 (Int.tdiv a11 (8 : Int)) ∧ IntKind.wrap IntKind.i64 (Int.tdiv a11 (8 : Int)) < (↑(List.length r0.1) : Int))) (
      .opt (β := UInt8) (r0.1[Int.toNat (IntKind.wrap IntKind.i64 (Int.tdiv a11 (8 : Int)))]?) (fun r3 =>
      .grd (decide ((0 : Int) ≤ bits BinOp.xor IntKind.u8 (↑(UInt8.toNat r2) : Int) (IntKind.wrap IntKind.u8 ((1 : Int) * (2 : Int) ^ min (Int.toNat (Int.tmod a11 (8 : Int))) (8 : Nat))) ∧ bits BinOp.xor IntKind.u8 (↑(UInt8.toNat r2) : Int) (IntKind.wrap IntKind.u8 ((1 : Int) * (2 : Int) ^ min (Int.toNat (Int.tmod a11 (8 : Int))) (8 : Nat))) < (256 : Int))) (
      .opt (β := (Int × (Int × (Int × (Int × (Int × (Int × (Int × ((List TOption) × ((List UInt8) × (Int × Unit))))))))))) ((tcRead_fn (List.set r0.1 (Int.toNat (IntKind.wrap IntKind.i64 (Int.tdiv a11 (8 : Int)))) (UInt8.ofNat (Int.toNat (bits BinOp.xor IntKind.u8 (↑(UInt8.toNat r2) : Int) (IntKind.wrap IntKind.u8 ((1 : Int) * (2 : Int) ^ min (Int.toNat (Int.tmod a11 (8 : Int))) (8 : Nat)))))), (a9, (a10, ()))))) (fun r4 =>
      .ite (!decide (r4.2.2.2.2.2.2.2.2.2.1 = (0 : Int))) (
       .opt (β := (Bool × Unit)) ((sameSegment_fn (r4.1, (r4.2.1, (r4.2.2.1, (r4.2.2.2.1, (r4.2.2.2.2.1, (r4.2.2.2.2.2.1, (r4.2.2.2.2.2.2.1, (r4.2.2.2.2.2.2.2.1, (r4.2.2.2.2.2.2.2.2.1, ((0 : Int), ((0 : Int), ((0 : Int), ((0 : Int), ((0 : Int), ((0 : Int), ((0 : Int), ([], ([], ())))))))))))))))))))) (fun r5 =>
       .ret (r5.1, ()))) (
       .ret (false, ())))))))))))))))))))
theorem tcpTold_eq (x : (Int × (Int × (Int × (Int × (Int × (Int × (Int × ((List TOption) × ((List UInt8) × (Int × (Int × (Int × Unit))))))))))))) : fnTr Try.prog cod [FS.pf sumFold, FS.pf sumAdd, FS.pf sumOf, FS.pf sumRight, FS.pf sumFix, FS.pf dgWord, FS.pf dgLong, FS.pf dgWordAt, FS.pf dgUnder, FS.pf dgPort, FS.pf dgWrite, FS.pf dgRead, FS.pf dgWriteNote, FS.pf dgReadNote, FS.pf kWord, clOpt, FS.pf eqOpt, FS.pf tcWord, FS.pf tcLong, FS.pf tcWordAt, FS.pf tcLongAt, FS.pf tcWords, FS.pf tcOptions, FS.pf tcWrite, FS.pf tcParse, FS.pf tcRead, FS.pf tcMss, FS.pf tcMove, FS.pf sameSegment, FS.pf tcpLives, FS.pf tcpBack] [] 30 12 tcpTold_ap tcpTold_rp x = tcpTold_tree x := by kernel_rfl
def tcpTold_fn (x : (Int × (Int × (Int × (Int × (Int × (Int × (Int × ((List TOption) × ((List UInt8) × (Int × (Int × (Int × Unit))))))))))))) : Option (Bool × Unit) := (tcpTold_tree x).eval
def tcpTold : FS Try.prog := ⟨12, tcpTold_ap, tcpTold_rp, tcpTold_fn, fun x r h => fnTr_sound (cod := cod) (Γ := [FS.pf sumFold, FS.pf sumAdd, FS.pf sumOf, FS.pf sumRight, FS.pf sumFix, FS.pf dgWord, FS.pf dgLong, FS.pf dgWordAt, FS.pf dgUnder, FS.pf dgPort, FS.pf dgWrite, FS.pf dgRead, FS.pf dgWriteNote, FS.pf dgReadNote, FS.pf kWord, clOpt, FS.pf eqOpt, FS.pf tcWord, FS.pf tcLong, FS.pf tcWordAt, FS.pf tcLongAt, FS.pf tcWords, FS.pf tcOptions, FS.pf tcWrite, FS.pf tcParse, FS.pf tcRead, FS.pf tcMss, FS.pf tcMove, FS.pf sameSegment, FS.pf tcpLives, FS.pf tcpBack]) (Λs := []) (n := 30) ((congrArg Tr.eval (tcpTold_eq x)).trans h)⟩
def tcpShifts_ap : List VP1 := [.agg [.i .i64, .i .i64, .i .u32, .i .u32, .i .i64, .i .i64, .i .i64, .st 4 false, .s], .one (.i .u32), .one (.i .u32), .one (.i .u32), .one (.i .u32)]
def tcpShifts_rp : SP := ⟨1, [(0, .v (.one (.b)))], []⟩
def tcpShifts_tree : (Int × (Int × (Int × (Int × (Int × (Int × (Int × ((List TOption) × ((List UInt8) × (Int × (Int × (Int × (Int × Unit))))))))))))) → Tr (Bool × Unit) :=
  fun (a0, a1, a2, a3, a4, a5, a6, a7, a8, a9, a10, a11, a12, _) =>
  .opt (β := (Int × (Int × (Int × (Int × (Int × (Int × (Int × ((List TOption) × ((List UInt8) × Unit)))))))))) ((tcMove_fn (a0, (a1, (a2, (a3, (a4, (a5, (a6, (a7, (a8, (a9, (a10, ()))))))))))))) (fun r0 =>
  .opt (β := (Int × (Int × (Int × (Int × (Int × (Int × (Int × ((List TOption) × ((List UInt8) × Unit)))))))))) ((tcMove_fn (r0.1, (r0.2.1, (r0.2.2.1, (r0.2.2.2.1, (r0.2.2.2.2.1, (r0.2.2.2.2.2.1, (r0.2.2.2.2.2.2.1, (r0.2.2.2.2.2.2.2.1, (r0.2.2.2.2.2.2.2.2.1, (a11, (a12, ()))))))))))))) (fun r1 =>
  .opt (β := (Int × (Int × (Int × (Int × (Int × (Int × (Int × ((List TOption) × ((List UInt8) × Unit)))))))))) ((tcMove_fn (a0, (a1, (a2, (a3, (a4, (a5, (a6, (a7, (a8, (IntKind.wrap IntKind.u32 (a9 + a11), (IntKind.wrap IntKind.u32 (a10 + a12), ()))))))))))))) (fun r2 =>
  .opt (β := (Int × (Int × (Int × (Int × (Int × (Int × (Int × ((List TOption) × ((List UInt8) × Unit)))))))))) ((tcMove_fn (r2.1, (r2.2.1, (r2.2.2.1, (r2.2.2.2.1, (r2.2.2.2.2.1, (r2.2.2.2.2.2.1, (r2.2.2.2.2.2.2.1, (r2.2.2.2.2.2.2.2.1, (r2.2.2.2.2.2.2.2.2.1, (IntKind.wrap IntKind.u32 (IntKind.wrap IntKind.u32 ((0 : Int) - a9) - a11), (IntKind.wrap IntKind.u32 (IntKind.wrap IntKind.u32 ((0 : Int) - a10) - a12), ()))))))))))))) (fun r3 =>
  .opt (β := ((List UInt8) × (Int × Unit))) ((tcWrite_fn (a0, (a1, (a2, (a3, (a4, (a5, (a6, (a7, (a8, ((1 : Int), ((2 : Int), ()))))))))))))) (fun r4 =>
  .opt (β := ((List UInt8) × (Int × Unit))) ((tcWrite_fn (r2.1, (r2.2.1, (r2.2.2.1, (r2.2.2.2.1, (r2.2.2.2.2.1, (r2.2.2.2.2.2.1, (r2.2.2.2.2.2.2.1, (r2.2.2.2.2.2.2.2.1, (r2.2.2.2.2.2.2.2.2.1, ((1 : Int), ((2 : Int), ()))))))))))))) (fun r5 =>
  .opt (β := (Bool × Unit)) ((tcpLives_fn ())) (fun r6 =>
  .ite (r6.1) (
   .opt (β := (Bool × Unit)) ((sameSegment_fn (r1.1, (r1.2.1, (r1.2.2.1, (r1.2.2.2.1, (r1.2.2.2.2.1, (r1.2.2.2.2.2.1, (r1.2.2.2.2.2.2.1, (r1.2.2.2.2.2.2.2.1, (r1.2.2.2.2.2.2.2.2.1, (r2.1, (r2.2.1, (r2.2.2.1, (r2.2.2.2.1, (r2.2.2.2.2.1, (r2.2.2.2.2.2.1, (r2.2.2.2.2.2.2.1, (r2.2.2.2.2.2.2.2.1, (r2.2.2.2.2.2.2.2.2.1, ())))))))))))))))))))) (fun r7 =>
   .ite (r7.1) (
    .opt (β := (Bool × Unit)) ((sameSegment_fn (r3.1, (r3.2.1, (r3.2.2.1, (r3.2.2.2.1, (r3.2.2.2.2.1, (r3.2.2.2.2.2.1, (r3.2.2.2.2.2.2.1, (r3.2.2.2.2.2.2.2.1, (r3.2.2.2.2.2.2.2.2.1, (a0, (a1, (a2, (a3, (a4, (a5, (a6, (a7, (a8, ())))))))))))))))))))) (fun r8 =>
    .ite (r8.1) (
     .ret (decide (r4.2.1 = r5.2.1), ())) (
     .ret (false, ())))) (
    .ret (false, ())))) (
   .ret (false, ())))))))))
theorem tcpShifts_eq (x : (Int × (Int × (Int × (Int × (Int × (Int × (Int × ((List TOption) × ((List UInt8) × (Int × (Int × (Int × (Int × Unit)))))))))))))) : fnTr Try.prog cod [FS.pf sumFold, FS.pf sumAdd, FS.pf sumOf, FS.pf sumRight, FS.pf sumFix, FS.pf dgWord, FS.pf dgLong, FS.pf dgWordAt, FS.pf dgUnder, FS.pf dgPort, FS.pf dgWrite, FS.pf dgRead, FS.pf dgWriteNote, FS.pf dgReadNote, FS.pf kWord, clOpt, FS.pf eqOpt, FS.pf tcWord, FS.pf tcLong, FS.pf tcWordAt, FS.pf tcLongAt, FS.pf tcWords, FS.pf tcOptions, FS.pf tcWrite, FS.pf tcParse, FS.pf tcRead, FS.pf tcMss, FS.pf tcMove, FS.pf sameSegment, FS.pf tcpLives, FS.pf tcpBack, FS.pf tcpTold] [] 30 13 tcpShifts_ap tcpShifts_rp x = tcpShifts_tree x := by kernel_rfl
def tcpShifts_fn (x : (Int × (Int × (Int × (Int × (Int × (Int × (Int × ((List TOption) × ((List UInt8) × (Int × (Int × (Int × (Int × Unit)))))))))))))) : Option (Bool × Unit) := (tcpShifts_tree x).eval
def tcpShifts : FS Try.prog := ⟨13, tcpShifts_ap, tcpShifts_rp, tcpShifts_fn, fun x r h => fnTr_sound (cod := cod) (Γ := [FS.pf sumFold, FS.pf sumAdd, FS.pf sumOf, FS.pf sumRight, FS.pf sumFix, FS.pf dgWord, FS.pf dgLong, FS.pf dgWordAt, FS.pf dgUnder, FS.pf dgPort, FS.pf dgWrite, FS.pf dgRead, FS.pf dgWriteNote, FS.pf dgReadNote, FS.pf kWord, clOpt, FS.pf eqOpt, FS.pf tcWord, FS.pf tcLong, FS.pf tcWordAt, FS.pf tcLongAt, FS.pf tcWords, FS.pf tcOptions, FS.pf tcWrite, FS.pf tcParse, FS.pf tcRead, FS.pf tcMss, FS.pf tcMove, FS.pf sameSegment, FS.pf tcpLives, FS.pf tcpBack, FS.pf tcpTold]) (Λs := []) (n := 30) ((congrArg Tr.eval (tcpShifts_eq x)).trans h)⟩
end Go.Proofs.Ytjehhmeaigkbnaa.X
