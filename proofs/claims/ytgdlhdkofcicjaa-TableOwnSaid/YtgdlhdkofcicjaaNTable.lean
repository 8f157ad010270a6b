/- Functions of the program, as trees (printed by a program of mine: tool/XTool, xg.py), each with the proof that the machine comes to what its tree says. Conditions: none. -/
import Derived.Test.YtgdlhdkofcicjaaCod
import Derived.KernelRfl
import Derived.Test.YtgdlhdkofcicjaaLTable
namespace Go.Proofs.Ytgdlhdkofcicjaa.X
open Go Go.RowKit Go.Proofs.Ytgdlhdkofcicjaa.Abs
set_option maxRecDepth 100000
set_option linter.unusedVariables false
def tableApart_L8_5 : LS := ⟨5, [], ⟨0, [], []⟩, [], []⟩
def tableApart_ap : List VP1 := [.agg [.st 7 false], .one (.i .u64), .one (.i .u64), .one (.i .i64)]
def tableApart_rp : SP := ⟨1, [(0, .v (.one (.b)))], []⟩
def tableApart_tree : ((List TSlot) × (Int × (Int × (Int × Unit)))) → Tr (Bool × Unit) :=
  fun (a0, a1, a2, a3, _) =>
  .opt (β := (Int × (Int × Unit))) ((taGet_fn (a0, (a2, ())))) (fun r0 =>
  .opt (β := (Bool × Unit)) ((tableLives_fn ())) (fun r1 =>
  .ite (!r1.1) (
   .opt (β := (Bool × Unit)) ((tableLives_fn ())) (fun r2 =>
   .ret (r2.1, ()))) (
   .ite (decide (a1 = a2)) (
    .opt (β := (Bool × Unit)) ((tableLives_fn ())) (fun r2 =>
    .ret (r2.1, ()))) (
    .ite (!decide (r0.2.1 = (0 : Int))) (
     .ite (!decide (r0.2.1 = (7 : Int))) (
      .opt (β := (Bool × Unit)) ((tableLives_fn ())) (fun r2 =>
      .ret (r2.1, ()))) (
      .ite (true) (
       .opt (β := ((List TSlot) × (Int × Unit))) ((taPut_fn (a0, (a1, (a3, ()))))) (fun r2 =>
       .ite (!decide (r2.2.1 = (0 : Int))) (
        .ite (true) (
         .opt (β := ((List TSlot) × (Int × Unit))) ((taRemove_fn (a0, (a1, ())))) (fun r3 =>
         .ite (!decide (r3.2.1 = (0 : Int))) (
          .ite (false) (
           .fail 3) (
           .ret (true, ()))) (
          .opt (β := (Int × (Int × Unit))) ((taGet_fn (r3.1, (a2, ())))) (fun r4 =>
          .ite (!decide (r4.1 = r0.1)) (
           .ret (false, ())) (
           .ite (!decide (r4.2.1 = r0.2.1)) (
            .ret (false, ())) (
            .opt (β := (Int × Unit)) ((tableRight_fn (r3.1, ()))) (fun r5 =>
            .ite (!decide (r5.1 = (0 : Int))) (
             .ret (false, ())) (
             .ite (false) (
              .fail 3) (
              .ret (true, ())))))))))) (
         .ret (true, ()))) (
        .opt (β := (Int × (Int × Unit))) ((taGet_fn (r2.1, (a2, ())))) (fun r3 =>
        .ite (!decide (r3.1 = r0.1)) (
         .ret (false, ())) (
         .ite (!decide (r3.2.1 = r0.2.1)) (
          .ret (false, ())) (
          .opt (β := (Int × Unit)) ((tableRight_fn (r2.1, ()))) (fun r4 =>
          .ite (!decide (r4.1 = (0 : Int))) (
           .ret (false, ())) (
           .ite (true) (
            .opt (β := ((List TSlot) × (Int × Unit))) ((taRemove_fn (a0, (a1, ())))) (fun r5 =>
            .ite (!decide (r5.2.1 = (0 : Int))) (
             .ite (false) (
              .fail 3) (
              .ret (true, ()))) (
             .opt (β := (Int × (Int × Unit))) ((taGet_fn (r5.1, (a2, ())))) (fun r6 =>
             .ite (!decide (r6.1 = r0.1)) (
              .ret (false, ())) (
              .ite (!decide (r6.2.1 = r0.2.1)) (
               .ret (false, ())) (
               .opt (β := (Int × Unit)) ((tableRight_fn (r5.1, ()))) (fun r7 =>
               .ite (!decide (r7.1 = (0 : Int))) (
                .ret (false, ())) (
                .ite (false) (
                 .fail 3) (
                 .ret (true, ())))))))))) (
            .ret (true, ())))))))))) (
       .ret (true, ())))) (
     .ite (true) (
      .opt (β := ((List TSlot) × (Int × Unit))) ((taPut_fn (a0, (a1, (a3, ()))))) (fun r2 =>
      .ite (!decide (r2.2.1 = (0 : Int))) (
       .ite (true) (
        .opt (β := ((List TSlot) × (Int × Unit))) ((taRemove_fn (a0, (a1, ())))) (fun r3 =>
        .ite (!decide (r3.2.1 = (0 : Int))) (
         .ite (false) (
          .fail 3) (
          .ret (true, ()))) (
         .opt (β := (Int × (Int × Unit))) ((taGet_fn (r3.1, (a2, ())))) (fun r4 =>
         .ite (!decide (r4.1 = r0.1)) (
          .ret (false, ())) (
          .ite (!decide (r4.2.1 = r0.2.1)) (
           .ret (false, ())) (
           .opt (β := (Int × Unit)) ((tableRight_fn (r3.1, ()))) (fun r5 =>
           .ite (!decide (r5.1 = (0 : Int))) (
            .ret (false, ())) (
            .ite (false) (
             .fail 3) (
             .ret (true, ())))))))))) (
        .ret (true, ()))) (
       .opt (β := (Int × (Int × Unit))) ((taGet_fn (r2.1, (a2, ())))) (fun r3 =>
       .ite (!decide (r3.1 = r0.1)) (
        .ret (false, ())) (
        .ite (!decide (r3.2.1 = r0.2.1)) (
         .ret (false, ())) (
         .opt (β := (Int × Unit)) ((tableRight_fn (r2.1, ()))) (fun r4 =>
         .ite (!decide (r4.1 = (0 : Int))) (
          .ret (false, ())) (
          .ite (true) (
           .opt (β := ((List TSlot) × (Int × Unit))) ((taRemove_fn (a0, (a1, ())))) (fun r5 =>
           .ite (!decide (r5.2.1 = (0 : Int))) (
            .ite (false) (
             .fail 3) (
             .ret (true, ()))) (
            .opt (β := (Int × (Int × Unit))) ((taGet_fn (r5.1, (a2, ())))) (fun r6 =>
            .ite (!decide (r6.1 = r0.1)) (
             .ret (false, ())) (
             .ite (!decide (r6.2.1 = r0.2.1)) (
              .ret (false, ())) (
              .opt (β := (Int × Unit)) ((tableRight_fn (r5.1, ()))) (fun r7 =>
              .ite (!decide (r7.1 = (0 : Int))) (
               .ret (false, ())) (
               .ite (false) (
                .fail 3) (
                .ret (true, ())))))))))) (
           .ret (true, ())))))))))) (
      .ret (true, ())))))))
theorem tableApart_eq (x : ((List TSlot) × (Int × (Int × (Int × Unit))))) : fnTr Try.prog cod [clSlot, FS.pf eqSlot, FS.pf bitLen, FS.pf taHome, FS.pf taNew, FS.pf taFind, FS.pf taUsed, FS.pf taCheck, FS.pf taGet, FS.pf taPut, FS.pf taRemove, FS.pf tableLives, FS.pf bitsOf, FS.pf homeOf, FS.pf tableRight, FS.pf sameTable, FS.pf tableUndo] [(8, tableApart_L8_5)] 30 8 tableApart_ap tableApart_rp x = tableApart_tree x := by kernel_rfl
def tableApart_fn (x : ((List TSlot) × (Int × (Int × (Int × Unit))))) : Option (Bool × Unit) := (tableApart_tree x).eval
def tableApart : FS Try.prog := ⟨8, tableApart_ap, tableApart_rp, tableApart_fn, fun x r h => fnTr_sound (cod := cod) (Γ := [clSlot, FS.pf eqSlot, FS.pf bitLen, FS.pf taHome, FS.pf taNew, FS.pf taFind, FS.pf taUsed, FS.pf taCheck, FS.pf taGet, FS.pf taPut, FS.pf taRemove, FS.pf tableLives, FS.pf bitsOf, FS.pf homeOf, FS.pf tableRight, FS.pf sameTable, FS.pf tableUndo]) (Λs := [(8, tableApart_L8_5)]) (n := 30) ((congrArg Tr.eval (tableApart_eq x)).trans h)⟩
end Go.Proofs.Ytgdlhdkofcicjaa.X
