/- Functions of the program, as trees (printed by a program of mine: tool/XTool, xg.py), each with the proof that the machine comes to what its tree says. Conditions: none. -/
import Derived.Test.YtkfpdgibaadmbaaCod
import Derived.KernelRfl
import Derived.Test.YtkfpdgibaadmbaaGSwap
namespace Go.Proofs.Ytkfpdgibaadmbaa.X
open Go Go.RowKit Go.Proofs.Ytkfpdgibaadmbaa.Abs
set_option maxRecDepth 100000
set_option linter.unusedVariables false
def letterPacket_ap : List VP1 := [.agg [.i .i64, .i .i64, .s], .one (.i .u32), .one (.i .u32)]
def letterPacket_rp : SP := ⟨1, [(0, .tup [.one (.s), .one (.b)])], []⟩
def letterPacket_tree : (Int × (Int × ((List UInt8) × (Int × (Int × Unit))))) → Tr ((List UInt8) × (Bool × Unit)) :=
  fun (a0, a1, a2, a3, a4, _) =>
  .opt (β := ((List UInt8) × (Int × Unit))) ((dgWrite_fn (a0, (a1, (a2, (a3, (a4, ()))))))) (fun r0 =>
  .opt (β := ((List UInt8) × (Int × Unit))) ((ipWrite_fn ((0 : Int), ((0 : Int), (false, (false, ((0 : Int), ((9 : Int), ((17 : Int), (a3, (a4, ([], (r0.1, ()))))))))))))) (fun r1 =>
  .ite (decide (r0.2.1 = (0 : Int))) (
   .ret (r1.1, (decide (r1.2.1 = (0 : Int)), ()))) (
   .ret (r1.1, (false, ())))))
theorem letterPacket_eq (x : (Int × (Int × ((List UInt8) × (Int × (Int × Unit)))))) : fnTr Try.prog cod [FS.pf sumFold, FS.pf sumAdd, FS.pf sumOf, FS.pf sumRight, FS.pf sumFix, FS.pf dgWord, FS.pf dgLong, FS.pf dgWordAt, FS.pf dgUnder, FS.pf dgPort, FS.pf dgWrite, FS.pf dgRead, FS.pf ipWordAt, FS.pf ipLongAt, FS.pf ipByt, FS.pf ipRefused, FS.pf ipWord, FS.pf ipLong, FS.pf ipWrite, FS.pf ipRead, FS.pf tcWord, FS.pf tcLong, FS.pf tcWordAt, FS.pf tcLongAt, FS.pf tcWords, FS.pf tcOptions, FS.pf tcWrite, FS.pf tcParse, FS.pf tcRead, FS.pf swEnds, FS.pf swWord, GS.pf swPut, GS.pf swChange, FS.pf swSwapped, FS.pf swFrom, FS.pf swTo] [] 30 16 letterPacket_ap letterPacket_rp x = letterPacket_tree x := by kernel_rfl
def letterPacket_fn (x : (Int × (Int × ((List UInt8) × (Int × (Int × Unit)))))) : Option ((List UInt8) × (Bool × Unit)) := (letterPacket_tree x).eval
def letterPacket : FS Try.prog := ⟨16, letterPacket_ap, letterPacket_rp, letterPacket_fn, fun x r h => fnTr_sound (cod := cod) (Γ := [FS.pf sumFold, FS.pf sumAdd, FS.pf sumOf, FS.pf sumRight, FS.pf sumFix, FS.pf dgWord, FS.pf dgLong, FS.pf dgWordAt, FS.pf dgUnder, FS.pf dgPort, FS.pf dgWrite, FS.pf dgRead, FS.pf ipWordAt, FS.pf ipLongAt, FS.pf ipByt, FS.pf ipRefused, FS.pf ipWord, FS.pf ipLong, FS.pf ipWrite, FS.pf ipRead, FS.pf tcWord, FS.pf tcLong, FS.pf tcWordAt, FS.pf tcLongAt, FS.pf tcWords, FS.pf tcOptions, FS.pf tcWrite, FS.pf tcParse, FS.pf tcRead, FS.pf swEnds, FS.pf swWord, GS.pf swPut, GS.pf swChange, FS.pf swSwapped, FS.pf swFrom, FS.pf swTo]) (Λs := []) (n := 30) ((congrArg Tr.eval (letterPacket_eq x)).trans h)⟩
def segmentPacket_ap : List VP1 := [.agg [.i .i64, .i .i64, .i .u32, .i .u32, .i .i64, .i .i64, .i .i64, .st 4 false, .s], .one (.i .u32), .one (.i .u32)]
def segmentPacket_rp : SP := ⟨1, [(0, .tup [.one (.s), .one (.b)])], []⟩
def segmentPacket_tree : (Int × (Int × (Int × (Int × (Int × (Int × (Int × ((List TOption) × ((List UInt8) × (Int × (Int × Unit))))))))))) → Tr ((List UInt8) × (Bool × Unit)) :=
  fun (a0, a1, a2, a3, a4, a5, a6, a7, a8, a9, a10, _) =>
  .opt (β := ((List UInt8) × (Int × Unit))) ((tcWrite_fn (a0, (a1, (a2, (a3, (a4, (a5, (a6, (a7, (a8, (a9, (a10, ()))))))))))))) (fun r0 =>
  .opt (β := ((List UInt8) × (Int × Unit))) ((ipWrite_fn ((0 : Int), ((0 : Int), (false, (false, ((0 : Int), ((9 : Int), ((6 : Int), (a9, (a10, ([], (r0.1, ()))))))))))))) (fun r1 =>
  .ite (decide (r0.2.1 = (0 : Int))) (
   .ret (r1.1, (decide (r1.2.1 = (0 : Int)), ()))) (
   .ret (r1.1, (false, ())))))
theorem segmentPacket_eq (x : (Int × (Int × (Int × (Int × (Int × (Int × (Int × ((List TOption) × ((List UInt8) × (Int × (Int × Unit)))))))))))) : fnTr Try.prog cod [FS.pf sumFold, FS.pf sumAdd, FS.pf sumOf, FS.pf sumRight, FS.pf sumFix, FS.pf dgWord, FS.pf dgLong, FS.pf dgWordAt, FS.pf dgUnder, FS.pf dgPort, FS.pf dgWrite, FS.pf dgRead, FS.pf ipWordAt, FS.pf ipLongAt, FS.pf ipByt, FS.pf ipRefused, FS.pf ipWord, FS.pf ipLong, FS.pf ipWrite, FS.pf ipRead, FS.pf tcWord, FS.pf tcLong, FS.pf tcWordAt, FS.pf tcLongAt, FS.pf tcWords, FS.pf tcOptions, FS.pf tcWrite, FS.pf tcParse, FS.pf tcRead, FS.pf swEnds, FS.pf swWord, GS.pf swPut, GS.pf swChange, FS.pf swSwapped, FS.pf swFrom, FS.pf swTo, FS.pf letterPacket] [] 30 15 segmentPacket_ap segmentPacket_rp x = segmentPacket_tree x := by kernel_rfl
def segmentPacket_fn (x : (Int × (Int × (Int × (Int × (Int × (Int × (Int × ((List TOption) × ((List UInt8) × (Int × (Int × Unit)))))))))))) : Option ((List UInt8) × (Bool × Unit)) := (segmentPacket_tree x).eval
def segmentPacket : FS Try.prog := ⟨15, segmentPacket_ap, segmentPacket_rp, segmentPacket_fn, fun x r h => fnTr_sound (cod := cod) (Γ := [FS.pf sumFold, FS.pf sumAdd, FS.pf sumOf, FS.pf sumRight, FS.pf sumFix, FS.pf dgWord, FS.pf dgLong, FS.pf dgWordAt, FS.pf dgUnder, FS.pf dgPort, FS.pf dgWrite, FS.pf dgRead, FS.pf ipWordAt, FS.pf ipLongAt, FS.pf ipByt, FS.pf ipRefused, FS.pf ipWord, FS.pf ipLong, FS.pf ipWrite, FS.pf ipRead, FS.pf tcWord, FS.pf tcLong, FS.pf tcWordAt, FS.pf tcLongAt, FS.pf tcWords, FS.pf tcOptions, FS.pf tcWrite, FS.pf tcParse, FS.pf tcRead, FS.pf swEnds, FS.pf swWord, GS.pf swPut, GS.pf swChange, FS.pf swSwapped, FS.pf swFrom, FS.pf swTo, FS.pf letterPacket]) (Λs := []) (n := 30) ((congrArg Tr.eval (segmentPacket_eq x)).trans h)⟩
def swapLives_ap : List VP1 := []
def swapLives_rp : SP := ⟨1, [(0, .v (.one (.b)))], []⟩
def swapLives_tree : Unit → Tr (Bool × Unit) :=
  fun (_) =>
  .opt (β := ((List UInt8) × (Bool × Unit))) ((letterPacket_fn ((5 : Int), ((6 : Int), ([(120 : UInt8)], ((1 : Int), ((2 : Int), ()))))))) (fun r0 =>
  .opt (β := ((List UInt8) × (Int × Unit))) ((swFrom_fn (r0.1, ((9 : Int), ((7 : Int), ()))))) (fun r1 =>
  .opt (β := (Int × (Int × (Int × (Int × (Int × (Int × Unit))))))) ((swEnds_fn (r1.1, ()))) (fun r2 =>
  .ite (r0.2.1) (
   .ite (decide (r1.2.1 = (0 : Int))) (
    .ite (decide (r2.2.2.2.2.2.1 = (0 : Int))) (
     .ret (decide (r2.1 = (9 : Int)) && (decide (r2.2.1 = (2 : Int)) && (decide (r2.2.2.1 = (17 : Int)) && (decide (r2.2.2.2.1 = (7 : Int)) && (decide (r2.2.2.2.2.1 = (6 : Int)) && true)))), ())) (
     .ret (false, ()))) (
    .ret (false, ()))) (
   .ret (false, ())))))
theorem swapLives_eq (x : Unit) : fnTr Try.prog cod [FS.pf sumFold, FS.pf sumAdd, FS.pf sumOf, FS.pf sumRight, FS.pf sumFix, FS.pf dgWord, FS.pf dgLong, FS.pf dgWordAt, FS.pf dgUnder, FS.pf dgPort, FS.pf dgWrite, FS.pf dgRead, FS.pf ipWordAt, FS.pf ipLongAt, FS.pf ipByt, FS.pf ipRefused, FS.pf ipWord, FS.pf ipLong, FS.pf ipWrite, FS.pf ipRead, FS.pf tcWord, FS.pf tcLong, FS.pf tcWordAt, FS.pf tcLongAt, FS.pf tcWords, FS.pf tcOptions, FS.pf tcWrite, FS.pf tcParse, FS.pf tcRead, FS.pf swEnds, FS.pf swWord, GS.pf swPut, GS.pf swChange, FS.pf swSwapped, FS.pf swFrom, FS.pf swTo, FS.pf letterPacket, FS.pf segmentPacket] [] 30 13 swapLives_ap swapLives_rp x = swapLives_tree x := by kernel_rfl
def swapLives_fn (x : Unit) : Option (Bool × Unit) := (swapLives_tree x).eval
def swapLives : FS Try.prog := ⟨13, swapLives_ap, swapLives_rp, swapLives_fn, fun x r h => fnTr_sound (cod := cod) (Γ := [FS.pf sumFold, FS.pf sumAdd, FS.pf sumOf, FS.pf sumRight, FS.pf sumFix, FS.pf dgWord, FS.pf dgLong, FS.pf dgWordAt, FS.pf dgUnder, FS.pf dgPort, FS.pf dgWrite, FS.pf dgRead, FS.pf ipWordAt, FS.pf ipLongAt, FS.pf ipByt, FS.pf ipRefused, FS.pf ipWord, FS.pf ipLong, FS.pf ipWrite, FS.pf ipRead, FS.pf tcWord, FS.pf tcLong, FS.pf tcWordAt, FS.pf tcLongAt, FS.pf tcWords, FS.pf tcOptions, FS.pf tcWrite, FS.pf tcParse, FS.pf tcRead, FS.pf swEnds, FS.pf swWord, GS.pf swPut, GS.pf swChange, FS.pf swSwapped, FS.pf swFrom, FS.pf swTo, FS.pf letterPacket, FS.pf segmentPacket]) (Λs := []) (n := 30) ((congrArg Tr.eval (swapLives_eq x)).trans h)⟩
def swapBoth_ap : List VP1 := [.one (.s), .one (.i .u32), .one (.i .u32), .one (.i .i64), .one (.i .i64)]
def swapBoth_rp : SP := ⟨1, [(0, .v (.one (.b)))], []⟩
def swapBoth_tree : ((List UInt8) × (Int × (Int × (Int × (Int × Unit))))) → Tr (Bool × Unit) :=
  fun (a0, a1, a2, a3, a4, _) =>
  .opt (β := ((List UInt8) × (Int × Unit))) ((swFrom_fn (a0, (a1, (a3, ()))))) (fun r0 =>
  .opt (β := ((List UInt8) × (Int × Unit))) ((swTo_fn (r0.1, (a2, (a4, ()))))) (fun r1 =>
  .opt (β := ((List UInt8) × (Int × Unit))) ((swTo_fn (a0, (a2, (a4, ()))))) (fun r2 =>
  .opt (β := ((List UInt8) × (Int × Unit))) ((swFrom_fn (r2.1, (a1, (a3, ()))))) (fun r3 =>
  .opt (β := (Bool × Unit)) ((swapLives_fn ())) (fun r4 =>
  .ite (!r4.1) (
   .opt (β := (Bool × Unit)) ((swapLives_fn ())) (fun r5 =>
   .ret (r5.1, ()))) (
   .ite (!decide (r0.2.1 = (0 : Int))) (
    .opt (β := (Bool × Unit)) ((swapLives_fn ())) (fun r5 =>
    .ret (r5.1, ()))) (
    .ite (!decide (r1.2.1 = (0 : Int))) (
     .opt (β := (Bool × Unit)) ((swapLives_fn ())) (fun r5 =>
     .ret (r5.1, ()))) (
     .ite (!decide (r2.2.1 = (0 : Int))) (
      .opt (β := (Bool × Unit)) ((swapLives_fn ())) (fun r5 =>
      .ret (r5.1, ()))) (
      .ite (!decide (r3.2.1 = (0 : Int))) (
       .opt (β := (Bool × Unit)) ((swapLives_fn ())) (fun r5 =>
       .ret (r5.1, ()))) (
       .opt (β := (Int × (Int × (Int × (Int × (Int × (Int × Unit))))))) ((swEnds_fn (r1.1, ()))) (fun r5 =>
       .opt (β := (Int × (Int × (Int × (Int × (Int × (Int × Unit))))))) ((swEnds_fn (r3.1, ()))) (fun r6 =>
       .ite (decide (r5.2.2.2.2.2.1 = (0 : Int))) (
        .ite (decide (r6.2.2.2.2.2.1 = (0 : Int))) (
         .ite (decide (r5.1 = r6.1) && (decide (r5.2.1 = r6.2.1) && (decide (r5.2.2.1 = r6.2.2.1) && (decide (r5.2.2.2.1 = r6.2.2.2.1) && (decide (r5.2.2.2.2.1 = r6.2.2.2.2.1) && true))))) (
          .ite (decide (r5.1 = a1)) (
           .ite (decide (r5.2.1 = a2)) (
            .ite (decide (r5.2.2.2.1 = a3)) (
             .ite (decide (r5.2.2.2.2.1 = a4)) (
              .ret (decide ((↑(List.length r1.1) : Int) = (↑(List.length r3.1) : Int)), ())) (
              .ret (false, ()))) (
             .ret (false, ()))) (
            .ret (false, ()))) (
           .ret (false, ()))) (
          .ret (false, ()))) (
         .ret (false, ()))) (
        .ret (false, ()))))))))))))))
theorem swapBoth_eq (x : ((List UInt8) × (Int × (Int × (Int × (Int × Unit)))))) : fnTr Try.prog cod [FS.pf sumFold, FS.pf sumAdd, FS.pf sumOf, FS.pf sumRight, FS.pf sumFix, FS.pf dgWord, FS.pf dgLong, FS.pf dgWordAt, FS.pf dgUnder, FS.pf dgPort, FS.pf dgWrite, FS.pf dgRead, FS.pf ipWordAt, FS.pf ipLongAt, FS.pf ipByt, FS.pf ipRefused, FS.pf ipWord, FS.pf ipLong, FS.pf ipWrite, FS.pf ipRead, FS.pf tcWord, FS.pf tcLong, FS.pf tcWordAt, FS.pf tcLongAt, FS.pf tcWords, FS.pf tcOptions, FS.pf tcWrite, FS.pf tcParse, FS.pf tcRead, FS.pf swEnds, FS.pf swWord, GS.pf swPut, GS.pf swChange, FS.pf swSwapped, FS.pf swFrom, FS.pf swTo, FS.pf letterPacket, FS.pf segmentPacket, FS.pf swapLives] [] 30 4 swapBoth_ap swapBoth_rp x = swapBoth_tree x := by kernel_rfl
def swapBoth_fn (x : ((List UInt8) × (Int × (Int × (Int × (Int × Unit)))))) : Option (Bool × Unit) := (swapBoth_tree x).eval
def swapBoth : FS Try.prog := ⟨4, swapBoth_ap, swapBoth_rp, swapBoth_fn, fun x r h => fnTr_sound (cod := cod) (Γ := [FS.pf sumFold, FS.pf sumAdd, FS.pf sumOf, FS.pf sumRight, FS.pf sumFix, FS.pf dgWord, FS.pf dgLong, FS.pf dgWordAt, FS.pf dgUnder, FS.pf dgPort, FS.pf dgWrite, FS.pf dgRead, FS.pf ipWordAt, FS.pf ipLongAt, FS.pf ipByt, FS.pf ipRefused, FS.pf ipWord, FS.pf ipLong, FS.pf ipWrite, FS.pf ipRead, FS.pf tcWord, FS.pf tcLong, FS.pf tcWordAt, FS.pf tcLongAt, FS.pf tcWords, FS.pf tcOptions, FS.pf tcWrite, FS.pf tcParse, FS.pf tcRead, FS.pf swEnds, FS.pf swWord, GS.pf swPut, GS.pf swChange, FS.pf swSwapped, FS.pf swFrom, FS.pf swTo, FS.pf letterPacket, FS.pf segmentPacket, FS.pf swapLives]) (Λs := []) (n := 30) ((congrArg Tr.eval (swapBoth_eq x)).trans h)⟩
def swapRight_ap : List VP1 := [.one (.s), .one (.i .u32), .one (.i .i64), .one (.b)]
def swapRight_rp : SP := ⟨1, [(0, .v (.one (.b)))], []⟩
def swapRight_tree : ((List UInt8) × (Int × (Int × (Bool × Unit)))) → Tr (Bool × Unit) :=
  fun (a0, a1, a2, a3, _) =>
  .opt (β := (Int × (Int × (Int × (Int × (Int × (Int × Unit))))))) ((swEnds_fn (a0, ()))) (fun r0 =>
  .opt (β := ((List UInt8) × (Int × Unit))) ((swTo_fn (a0, (a1, (a2, ()))))) (fun r1 =>
  .ite (a3) (
   .opt (β := ((List UInt8) × (Int × Unit))) ((swFrom_fn (a0, (a1, (a2, ()))))) (fun r2 =>
   .opt (β := (Bool × Unit)) ((swapLives_fn ())) (fun r3 =>
   .ite (!r3.1) (
    .opt (β := (Bool × Unit)) ((swapLives_fn ())) (fun r4 =>
    .ite (r4.1) (
     .ret (decide (r2.1 = []), ())) (
     .ret (false, ())))) (
    .ite (!decide (r0.2.2.2.2.2.1 = (0 : Int))) (
     .opt (β := (Bool × Unit)) ((swapLives_fn ())) (fun r4 =>
     .ite (r4.1) (
      .ret (decide (r2.1 = []), ())) (
      .ret (false, ())))) (
     .ite (!decide (r2.2.1 = (0 : Int))) (
      .opt (β := (Bool × Unit)) ((swapLives_fn ())) (fun r4 =>
      .ite (r4.1) (
       .ret (decide (r2.1 = []), ())) (
       .ret (false, ())))) (
      .opt (β := (Int × (Int × (Int × (Int × (Int × (Int × Unit))))))) ((swEnds_fn (r2.1, ()))) (fun r4 =>
      .opt (β := (Int × (Int × (Bool × (Bool × (Int × (Int × (Int × (Int × (Int × ((List UInt8) × ((List UInt8) × (Int × Unit))))))))))))) ((ipRead_fn (a0, ()))) (fun r5 =>
      .opt (β := (Int × (Int × (Bool × (Bool × (Int × (Int × (Int × (Int × (Int × ((List UInt8) × ((List UInt8) × (Int × Unit))))))))))))) ((ipRead_fn (r2.1, ()))) (fun r6 =>
      .ite (!decide (r4.2.2.2.2.2.1 = (0 : Int))) (
       .ret (false, ())) (
       .ite (!decide (r6.2.2.2.2.2.2.2.2.2.2.2.1 = (0 : Int))) (
        .ret (false, ())) (
        .ite (!decide ((↑(List.length r5.2.2.2.2.2.2.2.2.2.2.1) : Int) = (↑(List.length r6.2.2.2.2.2.2.2.2.2.2.1) : Int))) (
         .ret (false, ())) (
         .ite (a3) (
          .ite (decide (r0.2.2.1 = (17 : Int))) (
           .ite (decide (r4.1 = a1) && (decide (r4.2.1 = r0.2.1) && (decide (r4.2.2.1 = r0.2.2.1) && (decide (r4.2.2.2.1 = a2) && (decide (r4.2.2.2.2.1 = r0.2.2.2.2.1) && true))))) (
            .ite (decide (r5.1 = r6.1) && (decide (r5.2.1 = r6.2.1) && (r5.2.2.1 == r6.2.2.1 && (r5.2.2.2.1 == r6.2.2.2.1 && (decide (r5.2.2.2.2.1 = r6.2.2.2.2.1) && (decide (r5.2.2.2.2.2.1 = r6.2.2.2.2.2.1) && (decide (r5.2.2.2.2.2.2.1 = r6.2.2.2.2.2.2.1) && (decide (a1 = r6.2.2.2.2.2.2.2.1) && (decide (r5.2.2.2.2.2.2.2.2.1 = r6.2.2.2.2.2.2.2.2.1) && (decide (r5.2.2.2.2.2.2.2.2.2.1 = r6.2.2.2.2.2.2.2.2.2.1) && true)))))))))) (
             .grd (decide ((0 : Int) ≤ (4 : Int) ∧ (4 : Int) ≤ (6 : Int) ∧ (6 : Int) ≤ (↑(List.length r5.2.2.2.2.2.2.2.2.2.2.1) : Int))) (
             .grd (decide ((0 : Int) ≤ (4 : Int) ∧ (4 : Int) ≤ (6 : Int) ∧ (6 : Int) ≤ (↑(List.length r6.2.2.2.2.2.2.2.2.2.2.1) : Int))) (
             .ite (decide (List.drop (4 : Nat) (List.take (6 : Nat) r5.2.2.2.2.2.2.2.2.2.2.1) = List.drop (4 : Nat) (List.take (6 : Nat) r6.2.2.2.2.2.2.2.2.2.2.1))) (
              .grd (decide ((0 : Int) ≤ (8 : Int) ∧ (8 : Int) ≤ (↑(List.length r5.2.2.2.2.2.2.2.2.2.2.1) : Int) ∧ (↑(List.length r5.2.2.2.2.2.2.2.2.2.2.1) : Int) ≤ (↑(List.length r5.2.2.2.2.2.2.2.2.2.2.1) : Int))) (
              .grd (decide ((0 : Int) ≤ (8 : Int) ∧ (8 : Int) ≤ (↑(List.length r6.2.2.2.2.2.2.2.2.2.2.1) : Int) ∧ (↑(List.length r6.2.2.2.2.2.2.2.2.2.2.1) : Int) ≤ (↑(List.length r6.2.2.2.2.2.2.2.2.2.2.1) : Int))) (
              .ret (decide (List.drop (8 : Nat) (List.take (Int.toNat (↑(List.length r5.2.2.2.2.2.2.2.2.2.2.1) : Int)) r5.2.2.2.2.2.2.2.2.2.2.1) = List.drop (8 : Nat) (List.take (Int.toNat (↑(List.length r6.2.2.2.2.2.2.2.2.2.2.1) : Int)) r6.2.2.2.2.2.2.2.2.2.2.1)), ())))) (
              .ret (false, ()))))) (
             .ret (false, ()))) (
            .ret (false, ()))) (
           .ite (decide (r4.1 = a1) && (decide (r4.2.1 = r0.2.1) && (decide (r4.2.2.1 = r0.2.2.1) && (decide (r4.2.2.2.1 = a2) && (decide (r4.2.2.2.2.1 = r0.2.2.2.2.1) && true))))) (
            .ite (decide (r5.1 = r6.1) && (decide (r5.2.1 = r6.2.1) && (r5.2.2.1 == r6.2.2.1 && (r5.2.2.2.1 == r6.2.2.2.1 && (decide (r5.2.2.2.2.1 = r6.2.2.2.2.1) && (decide (r5.2.2.2.2.2.1 = r6.2.2.2.2.2.1) && (decide (r5.2.2.2.2.2.2.1 = r6.2.2.2.2.2.2.1) && (decide (a1 = r6.2.2.2.2.2.2.2.1) && (decide (r5.2.2.2.2.2.2.2.2.1 = r6.2.2.2.2.2.2.2.2.1) && (decide (r5.2.2.2.2.2.2.2.2.2.1 = r6.2.2.2.2.2.2.2.2.2.1) && true)))))))))) (
             .grd (decide ((0 : Int) ≤ (4 : Int) ∧ (4 : Int) ≤ (16 : Int) ∧ (16 : Int) ≤ (↑(List.length r5.2.2.2.2.2.2.2.2.2.2.1) : Int))) (
             .grd (decide ((0 : Int) ≤ (4 : Int) ∧ (4 : Int) ≤ (16 : Int) ∧ (16 : Int) ≤ (↑(List.length r6.2.2.2.2.2.2.2.2.2.2.1) : Int))) (
             .ite (decide (List.drop (4 : Nat) (List.take (16 : Nat) r5.2.2.2.2.2.2.2.2.2.2.1) = List.drop (4 : Nat) (List.take (16 : Nat) r6.2.2.2.2.2.2.2.2.2.2.1))) (
              .grd (decide ((0 : Int) ≤ (18 : Int) ∧ (18 : Int) ≤ (↑(List.length r5.2.2.2.2.2.2.2.2.2.2.1) : Int) ∧ (↑(List.length r5.2.2.2.2.2.2.2.2.2.2.1) : Int) ≤ (↑(List.length r5.2.2.2.2.2.2.2.2.2.2.1) : Int))) (
              .grd (decide ((0 : Int) ≤ (18 : Int) ∧ (18 : Int) ≤ (↑(List.length r6.2.2.2.2.2.2.2.2.2.2.1) : Int) ∧ (↑(List.length r6.2.2.2.2.2.2.2.2.2.2.1) : Int) ≤ (↑(List.length r6.2.2.2.2.2.2.2.2.2.2.1) : Int))) (
              .ret (decide (List.drop (18 : Nat) (List.take (Int.toNat (↑(List.length r5.2.2.2.2.2.2.2.2.2.2.1) : Int)) r5.2.2.2.2.2.2.2.2.2.2.1) = List.drop (18 : Nat) (List.take (Int.toNat (↑(List.length r6.2.2.2.2.2.2.2.2.2.2.1) : Int)) r6.2.2.2.2.2.2.2.2.2.2.1)), ())))) (
              .ret (false, ()))))) (
             .ret (false, ()))) (
            .ret (false, ())))) (
          .ite (decide (r0.2.2.1 = (17 : Int))) (
           .ite (decide (r4.1 = r0.1) && (decide (r4.2.1 = a1) && (decide (r4.2.2.1 = r0.2.2.1) && (decide (r4.2.2.2.1 = r0.2.2.2.1) && (decide (r4.2.2.2.2.1 = a2) && true))))) (
            .ite (decide (r5.1 = r6.1) && (decide (r5.2.1 = r6.2.1) && (r5.2.2.1 == r6.2.2.1 && (r5.2.2.2.1 == r6.2.2.2.1 && (decide (r5.2.2.2.2.1 = r6.2.2.2.2.1) && (decide (r5.2.2.2.2.2.1 = r6.2.2.2.2.2.1) && (decide (r5.2.2.2.2.2.2.1 = r6.2.2.2.2.2.2.1) && (decide (r5.2.2.2.2.2.2.2.1 = r6.2.2.2.2.2.2.2.1) && (decide (a1 = r6.2.2.2.2.2.2.2.2.1) && (decide (r5.2.2.2.2.2.2.2.2.2.1 = r6.2.2.2.2.2.2.2.2.2.1) && true)))))))))) (
             .grd (decide ((0 : Int) ≤ (4 : Int) ∧ (4 : Int) ≤ (6 : Int) ∧ (6 : Int) ≤ (↑(List.length r5.2.2.2.2.2.2.2.2.2.2.1) : Int))) (
             .grd (decide ((0 : Int) ≤ (4 : Int) ∧ (4 : Int) ≤ (6 : Int) ∧ (6 : Int) ≤ (↑(List.length r6.2.2.2.2.2.2.2.2.2.2.1) : Int))) (
             .ite (decide (List.drop (4 : Nat) (List.take (6 : Nat) r5.2.2.2.2.2.2.2.2.2.2.1) = List.drop (4 : Nat) (List.take (6 : Nat) r6.2.2.2.2.2.2.2.2.2.2.1))) (
              .grd (decide ((0 : Int) ≤ (8 : Int) ∧ (8 : Int) ≤ (↑(List.length r5.2.2.2.2.2.2.2.2.2.2.1) : Int) ∧ (↑(List.length r5.2.2.2.2.2.2.2.2.2.2.1) : Int) ≤ (↑(List.length r5.2.2.2.2.2.2.2.2.2.2.1) : Int))) (
              .grd (decide ((0 : Int) ≤ (8 : Int) ∧ (8 : Int) ≤ (↑(List.length r6.2.2.2.2.2.2.2.2.2.2.1) : Int) ∧ (↑(List.length r6.2.2.2.2.2.2.2.2.2.2.1) : Int) ≤ (↑(List.length r6.2.2.2.2.2.2.2.2.2.2.1) : Int))) (
              .ret (decide (List.drop (8 : Nat) (List.take (Int.toNat (↑(List.length r5.2.2.2.2.2.2.2.2.2.2.1) : Int)) r5.2.2.2.2.2.2.2.2.2.2.1) = List.drop (8 : Nat) (List.take (Int.toNat (↑(List.length r6.2.2.2.2.2.2.2.2.2.2.1) : Int)) r6.2.2.2.2.2.2.2.2.2.2.1)), ())))) (
              .ret (false, ()))))) (
             .ret (false, ()))) (
            .ret (false, ()))) (
           .ite (decide (r4.1 = r0.1) && (decide (r4.2.1 = a1) && (decide (r4.2.2.1 = r0.2.2.1) && (decide (r4.2.2.2.1 = r0.2.2.2.1) && (decide (r4.2.2.2.2.1 = a2) && true))))) (
            .ite (decide (r5.1 = r6.1) && (decide (r5.2.1 = r6.2.1) && (r5.2.2.1 == r6.2.2.1 && (r5.2.2.2.1 == r6.2.2.2.1 && (decide (r5.2.2.2.2.1 = r6.2.2.2.2.1) && (decide (r5.2.2.2.2.2.1 = r6.2.2.2.2.2.1) && (decide (r5.2.2.2.2.2.2.1 = r6.2.2.2.2.2.2.1) && (decide (r5.2.2.2.2.2.2.2.1 = r6.2.2.2.2.2.2.2.1) && (decide (a1 = r6.2.2.2.2.2.2.2.2.1) && (decide (r5.2.2.2.2.2.2.2.2.2.1 = r6.2.2.2.2.2.2.2.2.2.1) && true)))))))))) (
             .grd (decide ((0 : Int) ≤ (4 : Int) ∧ (4 : Int) ≤ (16 : Int) ∧ (16 : Int) ≤ (↑(List.length r5.2.2.2.2.2.2.2.2.2.2.1) : Int))) (
             .grd (decide ((0 : Int) ≤ (4 : Int) ∧ (4 : Int) ≤ (16 : Int) ∧ (16 : Int) ≤ (↑(List.length r6.2.2.2.2.2.2.2.2.2.2.1) : Int))) (
             .ite (decide (List.drop (4 : Nat) (List.take (16 : Nat) r5.2.2.2.2.2.2.2.2.2.2.1) = List.drop (4 : Nat) (List.take (16 : Nat) r6.2.2.2.2.2.2.2.2.2.2.1))) (
              .grd (decide ((0 : Int) ≤ (18 : Int) ∧ (18 : Int) ≤ (↑(List.length r5.2.2.2.2.2.2.2.2.2.2.1) : Int) ∧ (↑(List.length r5.2.2.2.2.2.2.2.2.2.2.1) : Int) ≤ (↑(List.length r5.2.2.2.2.2.2.2.2.2.2.1) : Int))) (
              .grd (decide ((0 : Int) ≤ (18 : Int) ∧ (18 : Int) ≤ (↑(List.length r6.2.2.2.2.2.2.2.2.2.2.1) : Int) ∧ (↑(List.length r6.2.2.2.2.2.2.2.2.2.2.1) : Int) ≤ (↑(List.length r6.2.2.2.2.2.2.2.2.2.2.1) : Int))) (
              .ret (decide (List.drop (18 : Nat) (List.take (Int.toNat (↑(List.length r5.2.2.2.2.2.2.2.2.2.2.1) : Int)) r5.2.2.2.2.2.2.2.2.2.2.1) = List.drop (18 : Nat) (List.take (Int.toNat (↑(List.length r6.2.2.2.2.2.2.2.2.2.2.1) : Int)) r6.2.2.2.2.2.2.2.2.2.2.1)), ())))) (
              .ret (false, ()))))) (
             .ret (false, ()))) (
            .ret (false, ())))))))))))))))) (
   .opt (β := (Bool × Unit)) ((swapLives_fn ())) (fun r2 =>
   .ite (!r2.1) (
    .opt (β := (Bool × Unit)) ((swapLives_fn ())) (fun r3 =>
    .ite (r3.1) (
     .ret (decide (r1.1 = []), ())) (
     .ret (false, ())))) (
    .ite (!decide (r0.2.2.2.2.2.1 = (0 : Int))) (
     .opt (β := (Bool × Unit)) ((swapLives_fn ())) (fun r3 =>
     .ite (r3.1) (
      .ret (decide (r1.1 = []), ())) (
      .ret (false, ())))) (
     .ite (!decide (r1.2.1 = (0 : Int))) (
      .opt (β := (Bool × Unit)) ((swapLives_fn ())) (fun r3 =>
      .ite (r3.1) (
       .ret (decide (r1.1 = []), ())) (
       .ret (false, ())))) (
      .opt (β := (Int × (Int × (Int × (Int × (Int × (Int × Unit))))))) ((swEnds_fn (r1.1, ()))) (fun r3 =>
      .opt (β := (Int × (Int × (Bool × (Bool × (Int × (Int × (Int × (Int × (Int × ((List UInt8) × ((List UInt8) × (Int × Unit))))))))))))) ((ipRead_fn (a0, ()))) (fun r4 =>
      .opt (β := (Int × (Int × (Bool × (Bool × (Int × (Int × (Int × (Int × (Int × ((List UInt8) × ((List UInt8) × (Int × Unit))))))))))))) ((ipRead_fn (r1.1, ()))) (fun r5 =>
      .ite (!decide (r3.2.2.2.2.2.1 = (0 : Int))) (
       .ret (false, ())) (
       .ite (!decide (r5.2.2.2.2.2.2.2.2.2.2.2.1 = (0 : Int))) (
        .ret (false, ())) (
        .ite (!decide ((↑(List.length r4.2.2.2.2.2.2.2.2.2.2.1) : Int) = (↑(List.length r5.2.2.2.2.2.2.2.2.2.2.1) : Int))) (
         .ret (false, ())) (
         .ite (a3) (
          .ite (decide (r0.2.2.1 = (17 : Int))) (
           .ite (decide (r3.1 = a1) && (decide (r3.2.1 = r0.2.1) && (decide (r3.2.2.1 = r0.2.2.1) && (decide (r3.2.2.2.1 = a2) && (decide (r3.2.2.2.2.1 = r0.2.2.2.2.1) && true))))) (
            .ite (decide (r4.1 = r5.1) && (decide (r4.2.1 = r5.2.1) && (r4.2.2.1 == r5.2.2.1 && (r4.2.2.2.1 == r5.2.2.2.1 && (decide (r4.2.2.2.2.1 = r5.2.2.2.2.1) && (decide (r4.2.2.2.2.2.1 = r5.2.2.2.2.2.1) && (decide (r4.2.2.2.2.2.2.1 = r5.2.2.2.2.2.2.1) && (decide (a1 = r5.2.2.2.2.2.2.2.1) && (decide (r4.2.2.2.2.2.2.2.2.1 = r5.2.2.2.2.2.2.2.2.1) && (decide (r4.2.2.2.2.2.2.2.2.2.1 = r5.2.2.2.2.2.2.2.2.2.1) && true)))))))))) (
             .grd (decide ((0 : Int) ≤ (4 : Int) ∧ (4 : Int) ≤ (6 : Int) ∧ (6 : Int) ≤ (↑(List.length r4.2.2.2.2.2.2.2.2.2.2.1) : Int))) (
             .grd (decide ((0 : Int) ≤ (4 : Int) ∧ (4 : Int) ≤ (6 : Int) ∧ (6 : Int) ≤ (↑(List.length r5.2.2.2.2.2.2.2.2.2.2.1) : Int))) (
             .ite (decide (List.drop (4 : Nat) (List.take (6 : Nat) r4.2.2.2.2.2.2.2.2.2.2.1) = List.drop (4 : Nat) (List.take (6 : Nat) r5.2.2.2.2.2.2.2.2.2.2.1))) (
              .grd (decide ((0 : Int) ≤ (8 : Int) ∧ (8 : Int) ≤ (↑(List.length r4.2.2.2.2.2.2.2.2.2.2.1) : Int) ∧ (↑(List.length r4.2.2.2.2.2.2.2.2.2.2.1) : Int) ≤ (↑(List.length r4.2.2.2.2.2.2.2.2.2.2.1) : Int))) (
              .grd (decide ((0 : Int) ≤ (8 : Int) ∧ (8 : Int) ≤ (↑(List.length r5.2.2.2.2.2.2.2.2.2.2.1) : Int) ∧ (↑(List.length r5.2.2.2.2.2.2.2.2.2.2.1) : Int) ≤ (↑(List.length r5.2.2.2.2.2.2.2.2.2.2.1) : Int))) (
              .ret (decide (List.drop (8 : Nat) (List.take (Int.toNat (↑(List.length r4.2.2.2.2.2.2.2.2.2.2.1) : Int)) r4.2.2.2.2.2.2.2.2.2.2.1) = List.drop (8 : Nat) (List.take (Int.toNat (↑(List.length r5.2.2.2.2.2.2.2.2.2.2.1) : Int)) r5.2.2.2.2.2.2.2.2.2.2.1)), ())))) (
              .ret (false, ()))))) (
             .ret (false, ()))) (
            .ret (false, ()))) (
           .ite (decide (r3.1 = a1) && (decide (r3.2.1 = r0.2.1) && (decide (r3.2.2.1 = r0.2.2.1) && (decide (r3.2.2.2.1 = a2) && (decide (r3.2.2.2.2.1 = r0.2.2.2.2.1) && true))))) (
            .ite (decide (r4.1 = r5.1) && (decide (r4.2.1 = r5.2.1) && (r4.2.2.1 == r5.2.2.1 && (r4.2.2.2.1 == r5.2.2.2.1 && (decide (r4.2.2.2.2.1 = r5.2.2.2.2.1) && (decide (r4.2.2.2.2.2.1 = r5.2.2.2.2.2.1) && (decide (r4.2.2.2.2.2.2.1 = r5.2.2.2.2.2.2.1) && (decide (a1 = r5.2.2.2.2.2.2.2.1) && (decide (r4.2.2.2.2.2.2.2.2.1 = r5.2.2.2.2.2.2.2.2.1) && (decide (r4.2.2.2.2.2.2.2.2.2.1 = r5.2.2.2.2.2.2.2.2.2.1) && true)))))))))) (
             .grd (decide ((0 : Int) ≤ (4 : Int) ∧ (4 : Int) ≤ (16 : Int) ∧ (16 : Int) ≤ (↑(List.length r4.2.2.2.2.2.2.2.2.2.2.1) : Int))) (
             .grd (decide ((0 : Int) ≤ (4 : Int) ∧ (4 : Int) ≤ (16 : Int) ∧ (16 : Int) ≤ (↑(List.length r5.2.2.2.2.2.2.2.2.2.2.1) : Int))) (
             .ite (decide (List.drop (4 : Nat) (List.take (16 : Nat) r4.2.2.2.2.2.2.2.2.2.2.1) = List.drop (4 : Nat) (List.take (16 : Nat) r5.2.2.2.2.2.2.2.2.2.2.1))) (
              .grd (decide ((0 : Int) ≤ (18 : Int) ∧ (18 : Int) ≤ (↑(List.length r4.2.2.2.2.2.2.2.2.2.2.1) : Int) ∧ (↑(List.length r4.2.2.2.2.2.2.2.2.2.2.1) : Int) ≤ (↑(List.length r4.2.2.2.2.2.2.2.2.2.2.1) : Int))) (
              .grd (decide ((0 : Int) ≤ (18 : Int) ∧ (18 : Int) ≤ (↑(List.length r5.2.2.2.2.2.2.2.2.2.2.1) : Int) ∧ (↑(List.length r5.2.2.2.2.2.2.2.2.2.2.1) : Int) ≤ (↑(List.length r5.2.2.2.2.2.2.2.2.2.2.1) : Int))) (
              .ret (decide (List.drop (18 : Nat) (List.take (Int.toNat (↑(List.length r4.2.2.2.2.2.2.2.2.2.2.1) : Int)) r4.2.2.2.2.2.2.2.2.2.2.1) = List.drop (18 : Nat) (List.take (Int.toNat (↑(List.length r5.2.2.2.2.2.2.2.2.2.2.1) : Int)) r5.2.2.2.2.2.2.2.2.2.2.1)), ())))) (
              .ret (false, ()))))) (
             .ret (false, ()))) (
            .ret (false, ())))) (
          .ite (decide (r0.2.2.1 = (17 : Int))) (
           .ite (decide (r3.1 = r0.1) && (decide (r3.2.1 = a1) && (decide (r3.2.2.1 = r0.2.2.1) && (decide (r3.2.2.2.1 = r0.2.2.2.1) && (decide (r3.2.2.2.2.1 = a2) && true))))) (
            .ite (decide (r4.1 = r5.1) && (decide (r4.2.1 = r5.2.1) && (r4.2.2.1 == r5.2.2.1 && (r4.2.2.2.1 == r5.2.2.2.1 && (decide (r4.2.2.2.2.1 = r5.2.2.2.2.1) && (decide (r4.2.2.2.2.2.1 = r5.2.2.2.2.2.1) && (decide (r4.2.2.2.2.2.2.1 = r5.2.2.2.2.2.2.1) && (decide (r4.2.2.2.2.2.2.2.1 = r5.2.2.2.2.2.2.2.1) && (decide (a1 = r5.2.2.2.2.2.2.2.2.1) && (decide (r4.2.2.2.2.2.2.2.2.2.1 = r5.2.2.2.2.2.2.2.2.2.1) && true)))))))))) (
             .grd (decide ((0 : Int) ≤ (4 : Int) ∧ (4 : Int) ≤ (6 : Int) ∧ (6 : Int) ≤ (↑(List.length r4.2.2.2.2.2.2.2.2.2.2.1) : Int))) (
             .grd (decide ((0 : Int) ≤ (4 : Int) ∧ (4 : Int) ≤ (6 : Int) ∧ (6 : Int) ≤ (↑(List.length r5.2.2.2.2.2.2.2.2.2.2.1) : Int))) (
             .ite (decide (List.drop (4 : Nat) (List.take (6 : Nat) r4.2.2.2.2.2.2.2.2.2.2.1) = List.drop (4 : Nat) (List.take (6 : Nat) r5.2.2.2.2.2.2.2.2.2.2.1))) (
              .grd (decide ((0 : Int) ≤ (8 : Int) ∧ (8 : Int) ≤ (↑(List.length r4.2.2.2.2.2.2.2.2.2.2.1) : Int) ∧ (↑(List.length r4.2.2.2.2.2.2.2.2.2.2.1) : Int) ≤ (↑(List.length r4.2.2.2.2.2.2.2.2.2.2.1) : Int))) (
              .grd (decide ((0 : Int) ≤ (8 : Int) ∧ (8 : Int) ≤ (↑(List.length r5.2.2.2.2.2.2.2.2.2.2.1) : Int) ∧ (↑(List.length r5.2.2.2.2.2.2.2.2.2.2.1) : Int) ≤ (↑(List.length r5.2.2.2.2.2.2.2.2.2.2.1) : Int))) (
              .ret (decide (List.drop (8 : Nat) (List.take (Int.toNat (↑(List.length r4.2.2.2.2.2.2.2.2.2.2.1) : Int)) r4.2.2.2.2.2.2.2.2.2.2.1) = List.drop (8 : Nat) (List.take (Int.toNat (↑(List.length r5.2.2.2.2.2.2.2.2.2.2.1) : Int)) r5.2.2.2.2.2.2.2.2.2.2.1)), ())))) (
              .ret (false, ()))))) (
             .ret (false, ()))) (
            .ret (false, ()))) (
           .ite (decide (r3.1 = r0.1) && (decide (r3.2.1 = a1) && (decide (r3.2.2.1 = r0.2.2.1) && (decide (r3.2.2.2.1 = r0.2.2.2.1) && (decide (r3.2.2.2.2.1 = a2) && true))))) (
            .ite (decide (r4.1 = r5.1) && (decide (r4.2.1 = r5.2.1) && (r4.2.2.1 == r5.2.2.1 && (r4.2.2.2.1 == r5.2.2.2.1 && (decide (r4.2.2.2.2.1 = r5.2.2.2.2.1) && (decide (r4.2.2.2.2.2.1 = r5.2.2.2.2.2.1) && (decide (r4.2.2.2.2.2.2.1 = r5.2.2.2.2.2.2.1) && (decide (r4.2.2.2.2.2.2.2.1 = r5.2.2.2.2.2.2.2.1) && (decide (a1 = r5.2.2.2.2.2.2.2.2.1) && (decide (r4.2.2.2.2.2.2.2.2.2.1 = r5.2.2.2.2.2.2.2.2.2.1) && true)))))))))) (
             .grd (decide ((0 : Int) ≤ (4 : Int) ∧ (4 : Int) ≤ (16 : Int) ∧ (16 : Int) ≤ (↑(List.length r4.2.2.2.2.2.2.2.2.2.2.1) : Int))) (
             .grd (decide ((0 : Int) ≤ (4 : Int) ∧ (4 : Int) ≤ (16 : Int) ∧ (16 : Int) ≤ (↑(List.length r5.2.2.2.2.2.2.2.2.2.2.1) : Int))) (
             .ite (decide (List.drop (4 : Nat) (List.take (16 : Nat) r4.2.2.2.2.2.2.2.2.2.2.1) = List.drop (4 : Nat) (List.take (16 : Nat) r5.2.2.2.2.2.2.2.2.2.2.1))) (
              .grd (decide ((0 : Int) ≤ (18 : Int) ∧ (18 : Int) ≤ (↑(List.length r4.2.2.2.2.2.2.2.2.2.2.1) : Int) ∧ (↑(List.length r4.2.2.2.2.2.2.2.2.2.2.1) : Int) ≤ (↑(List.length r4.2.2.2.2.2.2.2.2.2.2.1) : Int))) (
              .grd (decide ((0 : Int) ≤ (18 : Int) ∧ (18 : Int) ≤ (↑(List.length r5.2.2.2.2.2.2.2.2.2.2.1) : Int) ∧ (↑(List.length r5.2.2.2.2.2.2.2.2.2.2.1) : Int) ≤ (↑(List.length r5.2.2.2.2.2.2.2.2.2.2.1) : Int))) (
              .ret (decide (List.drop (18 : Nat) (List.take (Int.toNat (↑(List.length r4.2.2.2.2.2.2.2.2.2.2.1) : Int)) r4.2.2.2.2.2.2.2.2.2.2.1) = List.drop (18 : Nat) (List.take (Int.toNat (↑(List.length r5.2.2.2.2.2.2.2.2.2.2.1) : Int)) r5.2.2.2.2.2.2.2.2.2.2.1)), ())))) (
              .ret (false, ()))))) (
             .ret (false, ()))) (
            .ret (false, ())))))))))))))))))
theorem swapRight_eq (x : ((List UInt8) × (Int × (Int × (Bool × Unit))))) : fnTr Try.prog cod [FS.pf sumFold, FS.pf sumAdd, FS.pf sumOf, FS.pf sumRight, FS.pf sumFix, FS.pf dgWord, FS.pf dgLong, FS.pf dgWordAt, FS.pf dgUnder, FS.pf dgPort, FS.pf dgWrite, FS.pf dgRead, FS.pf ipWordAt, FS.pf ipLongAt, FS.pf ipByt, FS.pf ipRefused, FS.pf ipWord, FS.pf ipLong, FS.pf ipWrite, FS.pf ipRead, FS.pf tcWord, FS.pf tcLong, FS.pf tcWordAt, FS.pf tcLongAt, FS.pf tcWords, FS.pf tcOptions, FS.pf tcWrite, FS.pf tcParse, FS.pf tcRead, FS.pf swEnds, FS.pf swWord, GS.pf swPut, GS.pf swChange, FS.pf swSwapped, FS.pf swFrom, FS.pf swTo, FS.pf letterPacket, FS.pf segmentPacket, FS.pf swapLives, FS.pf swapBoth] [] 30 3 swapRight_ap swapRight_rp x = swapRight_tree x := by kernel_rfl
def swapRight_fn (x : ((List UInt8) × (Int × (Int × (Bool × Unit))))) : Option (Bool × Unit) := (swapRight_tree x).eval
def swapRight : FS Try.prog := ⟨3, swapRight_ap, swapRight_rp, swapRight_fn, fun x r h => fnTr_sound (cod := cod) (Γ := [FS.pf sumFold, FS.pf sumAdd, FS.pf sumOf, FS.pf sumRight, FS.pf sumFix, FS.pf dgWord, FS.pf dgLong, FS.pf dgWordAt, FS.pf dgUnder, FS.pf dgPort, FS.pf dgWrite, FS.pf dgRead, FS.pf ipWordAt, FS.pf ipLongAt, FS.pf ipByt, FS.pf ipRefused, FS.pf ipWord, FS.pf ipLong, FS.pf ipWrite, FS.pf ipRead, FS.pf tcWord, FS.pf tcLong, FS.pf tcWordAt, FS.pf tcLongAt, FS.pf tcWords, FS.pf tcOptions, FS.pf tcWrite, FS.pf tcParse, FS.pf tcRead, FS.pf swEnds, FS.pf swWord, GS.pf swPut, GS.pf swChange, FS.pf swSwapped, FS.pf swFrom, FS.pf swTo, FS.pf letterPacket, FS.pf segmentPacket, FS.pf swapLives, FS.pf swapBoth]) (Λs := []) (n := 30) ((congrArg Tr.eval (swapRight_eq x)).trans h)⟩
def swapSame_ap : List VP1 := [.agg [.i .i64, .i .i64, .s], .agg [.i .i64, .i .i64, .i .u32, .i .u32, .i .i64, .i .i64, .i .i64, .st 4 false, .s], .one (.i .u32), .one (.i .u32), .one (.i .u32), .one (.i .i64), .one (.b)]
def swapSame_rp : SP := ⟨1, [(0, .v (.one (.b)))], []⟩
def swapSame_tree : (Int × (Int × ((List UInt8) × (Int × (Int × (Int × (Int × (Int × (Int × (Int × ((List TOption) × ((List UInt8) × (Int × (Int × (Int × (Int × (Bool × Unit))))))))))))))))) → Tr (Bool × Unit) :=
  fun (a0, a1, a2, a3, a4, a5, a6, a7, a8, a9, a10, a11, a12, a13, a14, a15, a16, _) =>
  .opt (β := ((List UInt8) × (Bool × Unit))) ((segmentPacket_fn (a3, (a4, (a5, (a6, (a7, (a8, (a9, (a10, (a11, (a12, (a13, ()))))))))))))) (fun r0 =>
  .opt (β := ((List UInt8) × (Bool × Unit))) ((segmentPacket_fn (a15, (a4, (a5, (a6, (a7, (a8, (a9, (a10, (a11, (a14, (a13, ()))))))))))))) (fun r1 =>
  .ite (a16) (
   .opt (β := ((List UInt8) × (Bool × Unit))) ((letterPacket_fn (a0, (a1, (a2, (a12, (a13, ()))))))) (fun r2 =>
   .opt (β := ((List UInt8) × (Bool × Unit))) ((letterPacket_fn (a15, (a1, (a2, (a14, (a13, ()))))))) (fun r3 =>
   .opt (β := (Bool × Unit)) ((swapLives_fn ())) (fun r4 =>
   .ite (!r4.1) (
    .opt (β := (Bool × Unit)) ((swapLives_fn ())) (fun r5 =>
    .ret (r5.1, ()))) (
    .ite (!r2.2.1) (
     .opt (β := (Bool × Unit)) ((swapLives_fn ())) (fun r5 =>
     .ret (r5.1, ()))) (
     .ite (!r3.2.1) (
      .opt (β := (Bool × Unit)) ((swapLives_fn ())) (fun r5 =>
      .ret (r5.1, ()))) (
      .opt (β := ((List UInt8) × (Int × Unit))) ((swFrom_fn (r2.1, (a14, (a15, ()))))) (fun r5 =>
      .opt (β := ((List UInt8) × (Int × Unit))) ((swFrom_fn (r5.1, (a12, (a0, ()))))) (fun r6 =>
      .ite (decide (r5.2.1 = (0 : Int))) (
       .ite (decide (r6.2.1 = (0 : Int))) (
        .ite (decide (r5.1 = r3.1)) (
         .ret (decide (r6.1 = r2.1), ())) (
         .ret (false, ()))) (
        .ret (false, ()))) (
       .ret (false, ()))))))))))) (
   .opt (β := (Bool × Unit)) ((swapLives_fn ())) (fun r2 =>
   .ite (!r2.1) (
    .opt (β := (Bool × Unit)) ((swapLives_fn ())) (fun r3 =>
    .ret (r3.1, ()))) (
    .ite (!r0.2.1) (
     .opt (β := (Bool × Unit)) ((swapLives_fn ())) (fun r3 =>
     .ret (r3.1, ()))) (
     .ite (!r1.2.1) (
      .opt (β := (Bool × Unit)) ((swapLives_fn ())) (fun r3 =>
      .ret (r3.1, ()))) (
      .opt (β := ((List UInt8) × (Int × Unit))) ((swFrom_fn (r0.1, (a14, (a15, ()))))) (fun r3 =>
      .opt (β := ((List UInt8) × (Int × Unit))) ((swFrom_fn (r3.1, (a12, (a3, ()))))) (fun r4 =>
      .ite (decide (r3.2.1 = (0 : Int))) (
       .ite (decide (r4.2.1 = (0 : Int))) (
        .ite (decide (r3.1 = r1.1)) (
         .ret (decide (r4.1 = r0.1), ())) (
         .ret (false, ()))) (
        .ret (false, ()))) (
       .ret (false, ())))))))))))
theorem swapSame_eq (x : (Int × (Int × ((List UInt8) × (Int × (Int × (Int × (Int × (Int × (Int × (Int × ((List TOption) × ((List UInt8) × (Int × (Int × (Int × (Int × (Bool × Unit)))))))))))))))))) : fnTr Try.prog cod [FS.pf sumFold, FS.pf sumAdd, FS.pf sumOf, FS.pf sumRight, FS.pf sumFix, FS.pf dgWord, FS.pf dgLong, FS.pf dgWordAt, FS.pf dgUnder, FS.pf dgPort, FS.pf dgWrite, FS.pf dgRead, FS.pf ipWordAt, FS.pf ipLongAt, FS.pf ipByt, FS.pf ipRefused, FS.pf ipWord, FS.pf ipLong, FS.pf ipWrite, FS.pf ipRead, FS.pf tcWord, FS.pf tcLong, FS.pf tcWordAt, FS.pf tcLongAt, FS.pf tcWords, FS.pf tcOptions, FS.pf tcWrite, FS.pf tcParse, FS.pf tcRead, FS.pf swEnds, FS.pf swWord, GS.pf swPut, GS.pf swChange, FS.pf swSwapped, FS.pf swFrom, FS.pf swTo, FS.pf letterPacket, FS.pf segmentPacket, FS.pf swapLives, FS.pf swapBoth, FS.pf swapRight] [] 30 5 swapSame_ap swapSame_rp x = swapSame_tree x := by kernel_rfl
def swapSame_fn (x : (Int × (Int × ((List UInt8) × (Int × (Int × (Int × (Int × (Int × (Int × (Int × ((List TOption) × ((List UInt8) × (Int × (Int × (Int × (Int × (Bool × Unit)))))))))))))))))) : Option (Bool × Unit) := (swapSame_tree x).eval
def swapSame : FS Try.prog := ⟨5, swapSame_ap, swapSame_rp, swapSame_fn, fun x r h => fnTr_sound (cod := cod) (Γ := [FS.pf sumFold, FS.pf sumAdd, FS.pf sumOf, FS.pf sumRight, FS.pf sumFix, FS.pf dgWord, FS.pf dgLong, FS.pf dgWordAt, FS.pf dgUnder, FS.pf dgPort, FS.pf dgWrite, FS.pf dgRead, FS.pf ipWordAt, FS.pf ipLongAt, FS.pf ipByt, FS.pf ipRefused, FS.pf ipWord, FS.pf ipLong, FS.pf ipWrite, FS.pf ipRead, FS.pf tcWord, FS.pf tcLong, FS.pf tcWordAt, FS.pf tcLongAt, FS.pf tcWords, FS.pf tcOptions, FS.pf tcWrite, FS.pf tcParse, FS.pf tcRead, FS.pf swEnds, FS.pf swWord, GS.pf swPut, GS.pf swChange, FS.pf swSwapped, FS.pf swFrom, FS.pf swTo, FS.pf letterPacket, FS.pf segmentPacket, FS.pf swapLives, FS.pf swapBoth, FS.pf swapRight]) (Λs := []) (n := 30) ((congrArg Tr.eval (swapSame_eq x)).trans h)⟩
end Go.Proofs.Ytkfpdgibaadmbaa.X
