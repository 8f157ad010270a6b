/- Functions of the program, as trees (printed by a program of mine: tool/XTool, xg.py), each with the proof that the machine comes to what its tree says. Conditions: none. -/
import Derived.Test.YtlbmdkclbmcpdaaCod
import Derived.KernelRfl
import Derived.Test.YtlbmdkclbmcpdaaGRules
namespace Go.Proofs.Ytlbmdkclbmcpdaa.X
open Go Go.RowKit Go.Proofs.Ytlbmdkclbmcpdaa.Abs
set_option maxRecDepth 100000
set_option linter.unusedVariables false
def rulesLives_ap : List VP1 := []
def rulesLives_rp : SP := ⟨1, [(0, .v (.one (.b)))], []⟩
def rulesLives_tree : Unit → Tr (Bool × Unit) :=
  fun (_) =>
  .opt (β := (Bool × (Int × (Int × Unit)))) ((ruDecide_fn ([TRule.mk (167772160 : Int) (8 : Int) (0 : Int) (0 : Int) (0 : Int) (0 : Int) (65535 : Int) (80 : Int) (80 : Int) false, TRule.mk (0 : Int) (0 : Int) (0 : Int) (0 : Int) (0 : Int) (0 : Int) (65535 : Int) (0 : Int) (65535 : Int) true], ((167772161 : Int), ((0 : Int), ((0 : Int), ((0 : Int), ((80 : Int), (false, ()))))))))) (fun r0 =>
  .opt (β := (Bool × (Int × (Int × Unit)))) ((ruDecide_fn ([TRule.mk (167772160 : Int) (8 : Int) (0 : Int) (0 : Int) (0 : Int) (0 : Int) (65535 : Int) (80 : Int) (80 : Int) false, TRule.mk (0 : Int) (0 : Int) (0 : Int) (0 : Int) (0 : Int) (0 : Int) (65535 : Int) (0 : Int) (65535 : Int) true], ((167772161 : Int), ((0 : Int), ((0 : Int), ((0 : Int), ((81 : Int), (false, ()))))))))) (fun r1 =>
  .ite (decide (r0.2.2.1 = (0 : Int))) (
   .ite (decide (r1.2.2.1 = (0 : Int))) (
    .ite (!r0.1) (
     .ite (decide (r0.2.1 = (0 : Int))) (
      .ite (r1.1) (
       .ret (decide (r1.2.1 = (1 : Int)), ())) (
       .ret (false, ()))) (
      .ret (false, ()))) (
     .ret (false, ()))) (
    .ret (false, ()))) (
   .ret (false, ()))))
theorem rulesLives_eq (x : Unit) : fnTr Try.prog cod [clRule, GS.pf delRule, FS.pf eqRule, FS.pf ruNet, FS.pf ruHas, FS.pf ruBounds, FS.pf ruRight, FS.pf ruCheck, FS.pf ruMeets, FS.pf ruDecide, FS.pf ruCovers0, FS.pf ruCovers, FS.pf ruSlim] [] 30 11 rulesLives_ap rulesLives_rp x = rulesLives_tree x := by kernel_rfl
def rulesLives_fn (x : Unit) : Option (Bool × Unit) := (rulesLives_tree x).eval
def rulesLives : FS Try.prog := ⟨11, rulesLives_ap, rulesLives_rp, rulesLives_fn, fun x r h => fnTr_sound (cod := cod) (Γ := [clRule, GS.pf delRule, FS.pf eqRule, FS.pf ruNet, FS.pf ruHas, FS.pf ruBounds, FS.pf ruRight, FS.pf ruCheck, FS.pf ruMeets, FS.pf ruDecide, FS.pf ruCovers0, FS.pf ruCovers, FS.pf ruSlim]) (Λs := []) (n := 30) ((congrArg Tr.eval (rulesLives_eq x)).trans h)⟩
def rulesSwap_ap : List VP1 := [.one (.st 10 false), .agg [.i .u32, .i .u32, .i .i64, .i .i64, .i .i64], .one (.i .i64), .one (.b)]
def rulesSwap_rp : SP := ⟨1, [(0, .v (.one (.b)))], []⟩
def rulesSwap_tree : ((List TRule) × (Int × (Int × (Int × (Int × (Int × (Int × (Bool × Unit)))))))) → Tr (Bool × Unit) :=
  fun (a0, a1, a2, a3, a4, a5, a6, a7, _) =>
  .opt (β := (Bool × Unit)) ((rulesLives_fn ())) (fun r0 =>
  .ite (!r0.1) (
   .opt (β := (Bool × Unit)) ((rulesLives_fn ())) (fun r1 =>
   .ret (r1.1, ()))) (
   .ite (decide (a6 < (0 : Int))) (
    .opt (β := (Bool × Unit)) ((rulesLives_fn ())) (fun r1 =>
    .ret (r1.1, ()))) (
    .ite (decide (IntKind.wrap IntKind.i64 ((↑(List.length a0) : Int) - (1 : Int)) ≤ a6)) (
     .opt (β := (Bool × Unit)) ((rulesLives_fn ())) (fun r1 =>
     .ret (r1.1, ()))) (
     .grd (decide ((0 : Int) ≤ a6)) (
     .opt (β := TRule) (a0[Int.toNat a6]?) (fun r1 =>
     .grd (decide ((0 : Int) ≤ IntKind.wrap IntKind.i64 (a6 + (1 : Int)))) (
     .opt (β := TRule) (a0[Int.toNat (IntKind.wrap IntKind.i64 (a6 + (1 : Int)))]?) (fun r2 =>
     .ite (!r1.pass == r2.pass) (
      .opt (β := (Bool × Unit)) ((rulesLives_fn ())) (fun r3 =>
      .ret (r3.1, ()))) (
      .grd (decide (((0 : Nat) + List.length a0) * (80 : Nat) ≤ (140737488355328 : Nat) ∧ (0 : Nat) + List.length a0 ≤ (9223372036854775807 : Nat))) (
      .grd (decide ((0 : Int) ≤ IntKind.wrap IntKind.i64 (a6 + (1 : Int)) ∧ IntKind.wrap IntKind.i64 (a6 + (1 : Int)) < (↑(List.length a0) : Int))) (
      .opt (β := TRule) (a0[Int.toNat (IntKind.wrap IntKind.i64 (a6 + (1 : Int)))]?) (fun r3 =>
      .grd (decide ((0 : Int) ≤ a6 ∧ a6 < (↑(List.length a0) : Int))) (
      .opt (β := TRule) (a0[Int.toNat a6]?) (fun r4 =>
      .grd (decide ((0 : Int) ≤ a6 ∧ a6 < (↑(List.length a0) : Int))) (
      .opt (β := TRule) (a0[Int.toNat a6]?) (fun r5 =>
      .grd (decide ((0 : Int) ≤ IntKind.wrap IntKind.i64 (a6 + (1 : Int)) ∧ IntKind.wrap IntKind.i64 (a6 + (1 : Int)) < (↑(List.length a0) : Int))) (
      .opt (β := TRule) ((List.set a0 (Int.toNat a6) (TRule.mk r3.fromAddr r3.fromLong r3.toAddr r3.toLong r3.proto r3.fromLow r3.fromHigh r3.toLow r3.toHigh r3.pass))[Int.toNat (IntKind.wrap IntKind.i64 (a6 + (1 : Int)))]?) (fun r6 =>
      .opt (β := (Bool × (Int × (Int × Unit)))) ((ruDecide_fn (a0, (a1, (a2, (a3, (a4, (a5, (a7, ()))))))))) (fun r7 =>
      .opt (β := (Bool × (Int × (Int × Unit)))) ((ruDecide_fn (List.set (List.set a0 (Int.toNat a6) (TRule.mk r3.fromAddr r3.fromLong r3.toAddr r3.toLong r3.proto r3.fromLow r3.fromHigh r3.toLow r3.toHigh r3.pass)) (Int.toNat (IntKind.wrap IntKind.i64 (a6 + (1 : Int)))) (TRule.mk r4.fromAddr r4.fromLong r4.toAddr r4.toLong r4.proto r4.fromLow r4.fromHigh r4.toLow r4.toHigh r4.pass), (a1, (a2, (a3, (a4, (a5, (a7, ()))))))))) (fun r8 =>
      .ite (r7.1 == r8.1) (
       .ret (decide (r7.2.2.1 = r8.2.2.1), ())) (
       .ret (false, ()))))))))))))))))))))))
theorem rulesSwap_eq (x : ((List TRule) × (Int × (Int × (Int × (Int × (Int × (Int × (Bool × Unit))))))))) : fnTr Try.prog cod [clRule, GS.pf delRule, FS.pf eqRule, FS.pf ruNet, FS.pf ruHas, FS.pf ruBounds, FS.pf ruRight, FS.pf ruCheck, FS.pf ruMeets, FS.pf ruDecide, FS.pf ruCovers0, FS.pf ruCovers, FS.pf ruSlim, FS.pf rulesLives] [] 30 3 rulesSwap_ap rulesSwap_rp x = rulesSwap_tree x := by kernel_rfl
def rulesSwap_fn (x : ((List TRule) × (Int × (Int × (Int × (Int × (Int × (Int × (Bool × Unit))))))))) : Option (Bool × Unit) := (rulesSwap_tree x).eval
def rulesSwap : FS Try.prog := ⟨3, rulesSwap_ap, rulesSwap_rp, rulesSwap_fn, fun x r h => fnTr_sound (cod := cod) (Γ := [clRule, GS.pf delRule, FS.pf eqRule, FS.pf ruNet, FS.pf ruHas, FS.pf ruBounds, FS.pf ruRight, FS.pf ruCheck, FS.pf ruMeets, FS.pf ruDecide, FS.pf ruCovers0, FS.pf ruCovers, FS.pf ruSlim, FS.pf rulesLives]) (Λs := []) (n := 30) ((congrArg Tr.eval (rulesSwap_eq x)).trans h)⟩
def rulesCover_ap : List VP1 := [.agg [.i .u32, .i .i64, .i .u32, .i .i64, .i .i64, .i .i64, .i .i64, .i .i64, .i .i64, .b], .agg [.i .u32, .i .i64, .i .u32, .i .i64, .i .i64, .i .i64, .i .i64, .i .i64, .i .i64, .b], .agg [.i .u32, .i .i64, .i .u32, .i .i64, .i .i64, .i .i64, .i .i64, .i .i64, .i .i64, .b], .agg [.i .u32, .i .u32, .i .i64, .i .i64, .i .i64]]
def rulesCover_rp : SP := ⟨1, [(0, .v (.one (.b)))], []⟩
def rulesCover_tree : (Int × (Int × (Int × (Int × (Int × (Int × (Int × (Int × (Int × (Bool × (Int × (Int × (Int × (Int × (Int × (Int × (Int × (Int × (Int × (Bool × (Int × (Int × (Int × (Int × (Int × (Int × (Int × (Int × (Int × (Bool × (Int × (Int × (Int × (Int × (Int × Unit))))))))))))))))))))))))))))))))))) → Tr (Bool × Unit) :=
  fun (a0, a1, a2, a3, a4, a5, a6, a7, a8, a9, a10, a11, a12, a13, a14, a15, a16, a17, a18, a19, a20, a21, a22, a23, a24, a25, a26, a27, a28, a29, a30, a31, a32, a33, a34, _) =>
  .opt (β := (Bool × (Int × Unit))) ((ruCovers_fn (a0, (a1, (a2, (a3, (a4, (a5, (a6, (a7, (a8, (a9, (a10, (a11, (a12, (a13, (a14, (a15, (a16, (a17, (a18, (a19, ())))))))))))))))))))))) (fun r0 =>
  .opt (β := (Bool × (Int × Unit))) ((ruCovers_fn (a10, (a11, (a12, (a13, (a14, (a15, (a16, (a17, (a18, (a19, (a20, (a21, (a22, (a23, (a24, (a25, (a26, (a27, (a28, (a29, ())))))))))))))))))))))) (fun r1 =>
  .opt (β := (Bool × (Int × Unit))) ((ruCovers_fn (a0, (a1, (a2, (a3, (a4, (a5, (a6, (a7, (a8, (a9, (a20, (a21, (a22, (a23, (a24, (a25, (a26, (a27, (a28, (a29, ())))))))))))))))))))))) (fun r2 =>
  .opt (β := (Bool × Unit)) ((rulesLives_fn ())) (fun r3 =>
  .ite (!r3.1) (
   .opt (β := (Bool × Unit)) ((rulesLives_fn ())) (fun r4 =>
   .ret (r4.1, ()))) (
   .ite (!decide (r0.2.1 = (0 : Int))) (
    .opt (β := (Bool × Unit)) ((rulesLives_fn ())) (fun r4 =>
    .ret (r4.1, ()))) (
    .ite (!decide (r1.2.1 = (0 : Int))) (
     .opt (β := (Bool × Unit)) ((rulesLives_fn ())) (fun r4 =>
     .ret (r4.1, ()))) (
     .ite (!decide (r2.2.1 = (0 : Int))) (
      .opt (β := (Bool × Unit)) ((rulesLives_fn ())) (fun r4 =>
      .ret (r4.1, ()))) (
      .opt (β := (Bool × (Int × Unit))) ((ruCovers_fn (a0, (a1, (a2, (a3, (a4, (a5, (a6, (a7, (a8, (a9, (a0, (a1, (a2, (a3, (a4, (a5, (a6, (a7, (a8, (a9, ())))))))))))))))))))))) (fun r4 =>
      .opt (β := (Bool × (Int × (Int × Unit)))) ((ruDecide_fn ([TRule.mk a0 a1 a2 a3 a4 a5 a6 a7 a8 a9], (a30, (a31, (a32, (a33, (a34, (false, ()))))))))) (fun r5 =>
      .opt (β := (Bool × (Int × (Int × Unit)))) ((ruDecide_fn ([TRule.mk a10 a11 a12 a13 a14 a15 a16 a17 a18 a19], (a30, (a31, (a32, (a33, (a34, (false, ()))))))))) (fun r6 =>
      .ite (r4.1) (
       .ite (!r0.1) (
        .ite (!decide (r6.2.2.1 = (0 : Int))) (
         .ret (true, ())) (
         .ite (!r0.1) (
          .ret (true, ())) (
          .ite (!decide (r6.2.1 = (0 : Int))) (
           .ret (true, ())) (
           .ret (decide (r5.2.1 = (0 : Int)), ()))))) (
        .ite (!r1.1) (
         .ite (!decide (r6.2.2.1 = (0 : Int))) (
          .ret (true, ())) (
          .ite (!r0.1) (
           .ret (true, ())) (
           .ite (!decide (r6.2.1 = (0 : Int))) (
            .ret (true, ())) (
            .ret (decide (r5.2.1 = (0 : Int)), ()))))) (
         .ite (r2.1) (
          .ite (!decide (r6.2.2.1 = (0 : Int))) (
           .ret (true, ())) (
           .ite (!r0.1) (
            .ret (true, ())) (
            .ite (!decide (r6.2.1 = (0 : Int))) (
             .ret (true, ())) (
             .ret (decide (r5.2.1 = (0 : Int)), ()))))) (
          .ret (false, ()))))) (
       .ret (false, ())))))))))))))
theorem rulesCover_eq (x : (Int × (Int × (Int × (Int × (Int × (Int × (Int × (Int × (Int × (Bool × (Int × (Int × (Int × (Int × (Int × (Int × (Int × (Int × (Int × (Bool × (Int × (Int × (Int × (Int × (Int × (Int × (Int × (Int × (Int × (Bool × (Int × (Int × (Int × (Int × (Int × Unit)))))))))))))))))))))))))))))))))))) : fnTr Try.prog cod [clRule, GS.pf delRule, FS.pf eqRule, FS.pf ruNet, FS.pf ruHas, FS.pf ruBounds, FS.pf ruRight, FS.pf ruCheck, FS.pf ruMeets, FS.pf ruDecide, FS.pf ruCovers0, FS.pf ruCovers, FS.pf ruSlim, FS.pf rulesLives, FS.pf rulesSwap] [] 30 4 rulesCover_ap rulesCover_rp x = rulesCover_tree x := by kernel_rfl
def rulesCover_fn (x : (Int × (Int × (Int × (Int × (Int × (Int × (Int × (Int × (Int × (Bool × (Int × (Int × (Int × (Int × (Int × (Int × (Int × (Int × (Int × (Bool × (Int × (Int × (Int × (Int × (Int × (Int × (Int × (Int × (Int × (Bool × (Int × (Int × (Int × (Int × (Int × Unit)))))))))))))))))))))))))))))))))))) : Option (Bool × Unit) := (rulesCover_tree x).eval
def rulesCover : FS Try.prog := ⟨4, rulesCover_ap, rulesCover_rp, rulesCover_fn, fun x r h => fnTr_sound (cod := cod) (Γ := [clRule, GS.pf delRule, FS.pf eqRule, FS.pf ruNet, FS.pf ruHas, FS.pf ruBounds, FS.pf ruRight, FS.pf ruCheck, FS.pf ruMeets, FS.pf ruDecide, FS.pf ruCovers0, FS.pf ruCovers, FS.pf ruSlim, FS.pf rulesLives, FS.pf rulesSwap]) (Λs := []) (n := 30) ((congrArg Tr.eval (rulesCover_eq x)).trans h)⟩
def rulesFront_ap : List VP1 := [.one (.st 10 false), .agg [.i .u32, .i .i64, .i .u32, .i .i64, .i .i64, .i .i64, .i .i64, .i .i64, .i .i64, .b], .agg [.i .u32, .i .u32, .i .i64, .i .i64, .i .i64], .one (.i .i64), .one (.b)]
def rulesFront_rp : SP := ⟨1, [(0, .v (.one (.b)))], []⟩
def rulesFront_tree : ((List TRule) × (Int × (Int × (Int × (Int × (Int × (Int × (Int × (Int × (Int × (Bool × (Int × (Int × (Int × (Int × (Int × (Int × (Bool × Unit)))))))))))))))))) → Tr (Bool × Unit) :=
  fun (a0, a1, a2, a3, a4, a5, a6, a7, a8, a9, a10, a11, a12, a13, a14, a15, a16, a17, _) =>
  .opt (β := (Bool × (Int × (Int × Unit)))) ((ruDecide_fn (a0, (a11, (a12, (a13, (a14, (a15, (a17, ()))))))))) (fun r0 =>
  .grd (decide (((0 : Nat) + List.length a0) * (80 : Nat) ≤ (140737488355328 : Nat) ∧ (0 : Nat) + List.length a0 ≤ (9223372036854775807 : Nat))) (
  .grd (decide ((List.length a0 + List.length [TRule.mk a1 a2 a3 a4 a5 a6 a7 a8 a9 a10]) * (80 : Nat) ≤ (140737488355328 : Nat) ∧ List.length a0 + List.length [TRule.mk a1 a2 a3 a4 a5 a6 a7 a8 a9 a10] ≤ (9223372036854775807 : Nat))) (
  .opt (β := (Bool × (Int × (Int × Unit)))) ((ruDecide_fn (a0 ++ [TRule.mk a1 a2 a3 a4 a5 a6 a7 a8 a9 a10], (a11, (a12, (a13, (a14, (a15, (a17, ()))))))))) (fun r1 =>
  .opt (β := (Bool × Unit)) ((rulesLives_fn ())) (fun r2 =>
  .ite (!r2.1) (
   .opt (β := (Bool × Unit)) ((rulesLives_fn ())) (fun r3 =>
   .ret (r3.1, ()))) (
   .ite (!decide (r0.2.2.1 = (0 : Int))) (
    .opt (β := (Bool × Unit)) ((rulesLives_fn ())) (fun r3 =>
    .ret (r3.1, ()))) (
    .ite (!decide (r1.2.2.1 = (0 : Int))) (
     .opt (β := (Bool × Unit)) ((rulesLives_fn ())) (fun r3 =>
     .ret (r3.1, ()))) (
     .ite (decide (a16 < (0 : Int))) (
      .opt (β := (Bool × Unit)) ((rulesLives_fn ())) (fun r3 =>
      .ret (r3.1, ()))) (
      .ite (decide ((↑(List.length a0) : Int) ≤ a16)) (
       .opt (β := (Bool × Unit)) ((rulesLives_fn ())) (fun r3 =>
       .ret (r3.1, ()))) (
       .ite (decide ((0 : Int) ≤ r0.2.1)) (
        .ite (!r0.1 == r1.1) (
         .ret (false, ())) (
         .ite (!decide (r0.2.1 = r1.2.1)) (
          .ret (false, ())) (
          .ite (decide (r0.2.1 < (0 : Int))) (
           .ite (decide ((0 : Int) ≤ r1.2.1)) (
            .ite (!decide (r1.2.1 = (↑(List.length a0) : Int))) (
             .ret (false, ())) (
             .grd (decide (((0 : Nat) + List.length a0) * (80 : Nat) ≤ (140737488355328 : Nat) ∧ (0 : Nat) + List.length a0 ≤ (9223372036854775807 : Nat))) (
             .grd (decide (List.length a0 = List.length a0)) (
             .opt (β := ((List TRule) × Unit)) ((delRule_fn (a16, (IntKind.wrap IntKind.i64 (a16 + (1 : Int)), (a0, ()))))) (fun r3 =>
             .opt (β := (Bool × (Int × (Int × Unit)))) ((ruDecide_fn (r3.1, (a11, (a12, (a13, (a14, (a15, (a17, ()))))))))) (fun r4 =>
             .ite (decide (r4.2.2.1 = (0 : Int))) (
              .ite (decide (a16 = r0.2.1)) (
               .ret (true, ())) (
               .ret (r4.1 == r0.1, ()))) (
              .ret (false, ())))))))) (
            .grd (decide (((0 : Nat) + List.length a0) * (80 : Nat) ≤ (140737488355328 : Nat) ∧ (0 : Nat) + List.length a0 ≤ (9223372036854775807 : Nat))) (
            .grd (decide (List.length a0 = List.length a0)) (
            .opt (β := ((List TRule) × Unit)) ((delRule_fn (a16, (IntKind.wrap IntKind.i64 (a16 + (1 : Int)), (a0, ()))))) (fun r3 =>
            .opt (β := (Bool × (Int × (Int × Unit)))) ((ruDecide_fn (r3.1, (a11, (a12, (a13, (a14, (a15, (a17, ()))))))))) (fun r4 =>
            .ite (decide (r4.2.2.1 = (0 : Int))) (
             .ite (decide (a16 = r0.2.1)) (
              .ret (true, ())) (
              .ret (r4.1 == r0.1, ()))) (
             .ret (false, ())))))))) (
           .grd (decide (((0 : Nat) + List.length a0) * (80 : Nat) ≤ (140737488355328 : Nat) ∧ (0 : Nat) + List.length a0 ≤ (9223372036854775807 : Nat))) (
           .grd (decide (List.length a0 = List.length a0)) (
           .opt (β := ((List TRule) × Unit)) ((delRule_fn (a16, (IntKind.wrap IntKind.i64 (a16 + (1 : Int)), (a0, ()))))) (fun r3 =>
           .opt (β := (Bool × (Int × (Int × Unit)))) ((ruDecide_fn (r3.1, (a11, (a12, (a13, (a14, (a15, (a17, ()))))))))) (fun r4 =>
           .ite (decide (r4.2.2.1 = (0 : Int))) (
            .ite (decide (a16 = r0.2.1)) (
             .ret (true, ())) (
             .ret (r4.1 == r0.1, ()))) (
            .ret (false, ())))))))))) (
        .ite (decide (r0.2.1 < (0 : Int))) (
         .ite (decide ((0 : Int) ≤ r1.2.1)) (
          .ite (!decide (r1.2.1 = (↑(List.length a0) : Int))) (
           .ret (false, ())) (
           .grd (decide (((0 : Nat) + List.length a0) * (80 : Nat) ≤ (140737488355328 : Nat) ∧ (0 : Nat) + List.length a0 ≤ (9223372036854775807 : Nat))) (
           .grd (decide (List.length a0 = List.length a0)) (
           .opt (β := ((List TRule) × Unit)) ((delRule_fn (a16, (IntKind.wrap IntKind.i64 (a16 + (1 : Int)), (a0, ()))))) (fun r3 =>
           .opt (β := (Bool × (Int × (Int × Unit)))) ((ruDecide_fn (r3.1, (a11, (a12, (a13, (a14, (a15, (a17, ()))))))))) (fun r4 =>
           .ite (decide (r4.2.2.1 = (0 : Int))) (
            .ite (decide (a16 = r0.2.1)) (
             .ret (true, ())) (
             .ret (r4.1 == r0.1, ()))) (
            .ret (false, ())))))))) (
          .grd (decide (((0 : Nat) + List.length a0) * (80 : Nat) ≤ (140737488355328 : Nat) ∧ (0 : Nat) + List.length a0 ≤ (9223372036854775807 : Nat))) (
          .grd (decide (List.length a0 = List.length a0)) (
          .opt (β := ((List TRule) × Unit)) ((delRule_fn (a16, (IntKind.wrap IntKind.i64 (a16 + (1 : Int)), (a0, ()))))) (fun r3 =>
          .opt (β := (Bool × (Int × (Int × Unit)))) ((ruDecide_fn (r3.1, (a11, (a12, (a13, (a14, (a15, (a17, ()))))))))) (fun r4 =>
          .ite (decide (r4.2.2.1 = (0 : Int))) (
           .ite (decide (a16 = r0.2.1)) (
            .ret (true, ())) (
            .ret (r4.1 == r0.1, ()))) (
           .ret (false, ())))))))) (
         .grd (decide (((0 : Nat) + List.length a0) * (80 : Nat) ≤ (140737488355328 : Nat) ∧ (0 : Nat) + List.length a0 ≤ (9223372036854775807 : Nat))) (
         .grd (decide (List.length a0 = List.length a0)) (
         .opt (β := ((List TRule) × Unit)) ((delRule_fn (a16, (IntKind.wrap IntKind.i64 (a16 + (1 : Int)), (a0, ()))))) (fun r3 =>
         .opt (β := (Bool × (Int × (Int × Unit)))) ((ruDecide_fn (r3.1, (a11, (a12, (a13, (a14, (a15, (a17, ()))))))))) (fun r4 =>
         .ite (decide (r4.2.2.1 = (0 : Int))) (
          .ite (decide (a16 = r0.2.1)) (
           .ret (true, ())) (
           .ret (r4.1 == r0.1, ()))) (
          .ret (false, ()))))))))))))))))))
theorem rulesFront_eq (x : ((List TRule) × (Int × (Int × (Int × (Int × (Int × (Int × (Int × (Int × (Int × (Bool × (Int × (Int × (Int × (Int × (Int × (Int × (Bool × Unit))))))))))))))))))) : fnTr Try.prog cod [clRule, GS.pf delRule, FS.pf eqRule, FS.pf ruNet, FS.pf ruHas, FS.pf ruBounds, FS.pf ruRight, FS.pf ruCheck, FS.pf ruMeets, FS.pf ruDecide, FS.pf ruCovers0, FS.pf ruCovers, FS.pf ruSlim, FS.pf rulesLives, FS.pf rulesSwap, FS.pf rulesCover] [] 30 7 rulesFront_ap rulesFront_rp x = rulesFront_tree x := by kernel_rfl
def rulesFront_fn (x : ((List TRule) × (Int × (Int × (Int × (Int × (Int × (Int × (Int × (Int × (Int × (Bool × (Int × (Int × (Int × (Int × (Int × (Int × (Bool × Unit))))))))))))))))))) : Option (Bool × Unit) := (rulesFront_tree x).eval
def rulesFront : FS Try.prog := ⟨7, rulesFront_ap, rulesFront_rp, rulesFront_fn, fun x r h => fnTr_sound (cod := cod) (Γ := [clRule, GS.pf delRule, FS.pf eqRule, FS.pf ruNet, FS.pf ruHas, FS.pf ruBounds, FS.pf ruRight, FS.pf ruCheck, FS.pf ruMeets, FS.pf ruDecide, FS.pf ruCovers0, FS.pf ruCovers, FS.pf ruSlim, FS.pf rulesLives, FS.pf rulesSwap, FS.pf rulesCover]) (Λs := []) (n := 30) ((congrArg Tr.eval (rulesFront_eq x)).trans h)⟩
def rulesSame_ap : List VP1 := [.one (.st 10 false), .agg [.i .u32, .i .u32, .i .i64, .i .i64, .i .i64], .one (.b)]
def rulesSame_rp : SP := ⟨1, [(0, .v (.one (.b)))], []⟩
def rulesSame_tree : ((List TRule) × (Int × (Int × (Int × (Int × (Int × (Bool × Unit))))))) → Tr (Bool × Unit) :=
  fun (a0, a1, a2, a3, a4, a5, a6, _) =>
  .opt (β := ((List TRule) × (Int × Unit))) ((ruSlim_fn (a0, ()))) (fun r0 =>
  .opt (β := (Bool × (Int × (Int × Unit)))) ((ruDecide_fn (a0, (a1, (a2, (a3, (a4, (a5, (a6, ()))))))))) (fun r1 =>
  .opt (β := (Bool × (Int × (Int × Unit)))) ((ruDecide_fn (r0.1, (a1, (a2, (a3, (a4, (a5, (a6, ()))))))))) (fun r2 =>
  .opt (β := (Bool × Unit)) ((rulesLives_fn ())) (fun r3 =>
  .ite (!r3.1) (
   .opt (β := (Bool × Unit)) ((rulesLives_fn ())) (fun r4 =>
   .ite (r4.1) (
    .ret (decide ((↑(List.length r0.1) : Int) = (0 : Int)), ())) (
    .ret (false, ())))) (
   .ite (!decide (r0.2.1 = (0 : Int))) (
    .opt (β := (Bool × Unit)) ((rulesLives_fn ())) (fun r4 =>
    .ite (r4.1) (
     .ret (decide ((↑(List.length r0.1) : Int) = (0 : Int)), ())) (
     .ret (false, ())))) (
    .opt (β := ((List TRule) × (Int × Unit))) ((ruSlim_fn (r0.1, ()))) (fun r4 =>
    .ite (r1.1 == r2.1) (
     .ite (decide (r1.2.2.1 = r2.2.2.1)) (
      .ite (decide ((↑(List.length r0.1) : Int) ≤ (↑(List.length a0) : Int))) (
       .ite (decide (r4.2.1 = (0 : Int))) (
        .opt (β := (Bool × Unit)) ((eqRule_fn (r4.1, (r0.1, ())))) (fun r5 =>
        .ret (r5.1, ()))) (
        .ret (false, ()))) (
       .ret (false, ()))) (
      .ret (false, ()))) (
     .ret (false, ())))))))))
theorem rulesSame_eq (x : ((List TRule) × (Int × (Int × (Int × (Int × (Int × (Bool × Unit)))))))) : fnTr Try.prog cod [clRule, GS.pf delRule, FS.pf eqRule, FS.pf ruNet, FS.pf ruHas, FS.pf ruBounds, FS.pf ruRight, FS.pf ruCheck, FS.pf ruMeets, FS.pf ruDecide, FS.pf ruCovers0, FS.pf ruCovers, FS.pf ruSlim, FS.pf rulesLives, FS.pf rulesSwap, FS.pf rulesCover, FS.pf rulesFront] [] 30 9 rulesSame_ap rulesSame_rp x = rulesSame_tree x := by kernel_rfl
def rulesSame_fn (x : ((List TRule) × (Int × (Int × (Int × (Int × (Int × (Bool × Unit)))))))) : Option (Bool × Unit) := (rulesSame_tree x).eval
def rulesSame : FS Try.prog := ⟨9, rulesSame_ap, rulesSame_rp, rulesSame_fn, fun x r h => fnTr_sound (cod := cod) (Γ := [clRule, GS.pf delRule, FS.pf eqRule, FS.pf ruNet, FS.pf ruHas, FS.pf ruBounds, FS.pf ruRight, FS.pf ruCheck, FS.pf ruMeets, FS.pf ruDecide, FS.pf ruCovers0, FS.pf ruCovers, FS.pf ruSlim, FS.pf rulesLives, FS.pf rulesSwap, FS.pf rulesCover, FS.pf rulesFront]) (Λs := []) (n := 30) ((congrArg Tr.eval (rulesSame_eq x)).trans h)⟩
end Go.Proofs.Ytlbmdkclbmcpdaa.X
