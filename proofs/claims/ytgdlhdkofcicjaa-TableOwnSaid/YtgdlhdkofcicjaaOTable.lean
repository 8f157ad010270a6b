/- Functions of the program, as trees (printed by a program of mine: tool/XTool, xg.py), each with the proof that the machine comes to what its tree says. Conditions: none. -/
import Derived.Test.YtgdlhdkofcicjaaCod
import Derived.KernelRfl
import Derived.Test.YtgdlhdkofcicjaaLTable
import Derived.Test.YtgdlhdkofcicjaaAbsN
import Derived.Test.YtgdlhdkofcicjaaAbsJ
namespace Go.Proofs.Ytgdlhdkofcicjaa.X
open Go Go.RowKit Go.Proofs.Ytgdlhdkofcicjaa.Abs
set_option maxRecDepth 100000
set_option linter.unusedVariables false
def taPutO_ap : SP := ⟨46, [(0, .v (.agg [.st 7 false])), (1, .v (.one (.i .u64))), (2, .v (.one (.i .i64)))], []⟩
def taPutO_rp : SP := ⟨1, [(0, .tup [.agg [.own 2000000], .one (.i .i64)])], [(2000000, .row 61 7 true true)]⟩
def taPutO_tree : ((List TSlot) × (Int × (Int × Unit))) → Tr (Int × ((List TSlot) × Unit)) :=
  fun (a0, a1, a2, _) =>
  .opt (β := (Int × Unit)) ((taCheck_fn (a0, ()))) (fun r0 =>
  .ite (!decide (r0.1 = (0 : Int))) (
   .grd (true) (
   .ret (r0.1, ([], ())))) (
   .grd (decide (((0 : Nat) + List.length a0) * (24 : Nat) ≤ (140737488355328 : Nat) ∧ (0 : Nat) + List.length a0 ≤ (9223372036854775807 : Nat))) (
   .opt (β := (Int × Unit)) ((taFind_fn (a0, (a1, ())))) (fun r1 =>
   .grd (decide ((0 : Int) ≤ r1.1 ∧ r1.1 < (↑(List.length a0) : Int))) (
   .opt (β := TSlot) (a0[Int.toNat r1.1]?) (fun r2 =>
   .ite (!r2.used) (
    .opt (β := (Int × Unit)) ((taUsed_fn (a0, ()))) (fun r3 =>
    .ite (decide (r3.1 = IntKind.wrap IntKind.i64 ((↑(List.length a0) : Int) - (1 : Int)))) (
     .grd (true) (
     .ret ((6 : Int), ([], ())))) (
     .grd (decide ((0 : Int) ≤ r1.1 ∧ r1.1 < (↑(List.length a0) : Int))) (
     .opt (β := TSlot) (a0[Int.toNat r1.1]?) (fun r4 =>
     .grd (decide (List.length a0 = List.length (List.set a0 (Int.toNat r1.1) (TSlot.mk true a1 a2)))) (
     .ret ((0 : Int), (List.set a0 (Int.toNat r1.1) (TSlot.mk true a1 a2), ())))))))) (
    .grd (decide ((0 : Int) ≤ r1.1 ∧ r1.1 < (↑(List.length a0) : Int))) (
    .opt (β := TSlot) (a0[Int.toNat r1.1]?) (fun r3 =>
    .grd (decide (List.length a0 = List.length (List.set a0 (Int.toNat r1.1) (TSlot.mk true a1 a2)))) (
    .ret ((0 : Int), (List.set a0 (Int.toNat r1.1) (TSlot.mk true a1 a2), ()))))))))))))
theorem taPutO_eq (x : ((List TSlot) × (Int × (Int × Unit)))) : gnTr Try.prog cod [clSlot, FS.pf eqSlot, FS.pf bitLen, FS.pf taHome, FS.pf taNew, FS.pf taFind, FS.pf taUsed, FS.pf taCheck, FS.pf taGet, FS.pf tableLives, FS.pf bitsOf, FS.pf homeOf, FS.pf tableRight, FS.pf sameTable, FS.pf tableUndo] [] [(1000, 2000000, 61, 7)] 30 26 taPutO_ap taPutO_rp x = taPutO_tree x := by kernel_rfl
def taPutO_fn (x : ((List TSlot) × (Int × (Int × Unit)))) : Option (Int × ((List TSlot) × Unit)) := (taPutO_tree x).eval
def taPutO : GS Try.prog := ⟨26, [0, 0, 0], taPutO_ap, taPutO_rp, taPutO_fn, fun x r h ys m g he hg => gn_sound (cod := cod) (Γ := [clSlot, FS.pf eqSlot, FS.pf bitLen, FS.pf taHome, FS.pf taNew, FS.pf taFind, FS.pf taUsed, FS.pf taCheck, FS.pf taGet, FS.pf tableLives, FS.pf bitsOf, FS.pf homeOf, FS.pf tableRight, FS.pf sameTable, FS.pf tableUndo]) (Λs := []) (n := 30) ((congrArg Tr.eval (taPutO_eq x)).trans h) he hg⟩
def taRemoveO_L25_10 : LS := ⟨10, [(21000, 21000), (4, 4)], ⟨82, [(8, .v (.one (.i .i64))), (10, .v (.one (.i .i64))), (7, .v (.one (.own 21000))), (9, .v (.one (.i .i64))), (4, .v (.one (.ptr 4 0)))], [(21000, .row 61 7 true true), (4, .cells [.nil])]⟩, [⟨some 0, [(4, 4), (21000, 21000)], ⟨82, [(4, .v (.one (.ptr 4 0))), (7, .v (.one (.own 21000))), (9, .v (.one (.i .i64)))], [(4, .cells [.nil]), (21000, .row 61 7 true true)]⟩⟩], []⟩
def taRemoveO_step25_10 : (Int × (Int × (Int × ((List TSlot) × Unit)))) → Tr ((Int × (Int × (Int × ((List TSlot) × Unit)))) ⊕ (Int × ((List TSlot) × Unit))) :=
  fun (a0, a1, a2, a3, _) =>
  .grd (decide ((0 : Int) ≤ a1 ∧ a1 < (↑(List.length a3) : Int))) (
  .opt (β := TSlot) (a3[Int.toNat a1]?) (fun r0 =>
  .ite (r0.used) (
   .grd (decide ((0 : Int) ≤ a1 ∧ a1 < (↑(List.length a3) : Int))) (
   .opt (β := TSlot) (a3[Int.toNat a1]?) (fun r1 =>
   .opt (β := (Int × Unit)) ((taHome_fn (a0, (r1.key, ())))) (fun r2 =>
   .grd (decide (a0 ≠ (0 : Int))) (
   .grd (decide (a0 ≠ (0 : Int))) (
   .ite (decide (Int.tmod (IntKind.wrap IntKind.i64 (IntKind.wrap IntKind.i64 (a1 - a2) + a0)) a0 ≤ Int.tmod (IntKind.wrap IntKind.i64 (IntKind.wrap IntKind.i64 (a1 - r2.1) + a0)) a0)) (
    .grd (decide ((0 : Int) ≤ a1 ∧ a1 < (↑(List.length a3) : Int))) (
    .opt (β := TSlot) (a3[Int.toNat a1]?) (fun r3 =>
    .grd (decide ((0 : Int) ≤ a2 ∧ a2 < (↑(List.length a3) : Int))) (
    .opt (β := TSlot) (a3[Int.toNat a2]?) (fun r4 =>
    .grd (decide (a0 ≠ (0 : Int))) (
    .grd (decide (List.length a3 = List.length (List.set a3 (Int.toNat a2) (TSlot.mk r3.used r3.key r3.value)))) (
    .ret (Sum.inl (a0, (Int.tmod (IntKind.wrap IntKind.i64 (a1 + (1 : Int))) a0, (a1, (List.set a3 (Int.toNat a2) (TSlot.mk r3.used r3.key r3.value), ())))))))))))) (
    .grd (decide (a0 ≠ (0 : Int))) (
    .grd (decide (List.length a3 = List.length a3)) (
    .ret (Sum.inl (a0, (Int.tmod (IntKind.wrap IntKind.i64 (a1 + (1 : Int))) a0, (a2, (a3, ())))))))))))))) (
   .grd (decide (List.length a3 = List.length a3)) (
   .ret (Sum.inr (a2, (a3, ())))))))
def taRemoveO_loop25_10 (x : (Int × (Int × (Int × ((List TSlot) × Unit))))) : Option (Int × ((List TSlot) × Unit)) := loopO 250010 (fun x => (taRemoveO_step25_10 x).eval) 18446744073709551616 x
def taRemoveO_ap : SP := ⟨82, [(0, .v (.agg [.st 7 false])), (1, .v (.one (.i .u64)))], []⟩
def taRemoveO_rp : SP := ⟨1, [(0, .tup [.agg [.own 2000000], .one (.i .i64)])], [(2000000, .row 61 7 true true)]⟩
def taRemoveO_tree : ((List TSlot) × (Int × Unit)) → Tr (Int × ((List TSlot) × Unit)) :=
  fun (a0, a1, _) =>
  .opt (β := (Int × Unit)) ((taCheck_fn (a0, ()))) (fun r0 =>
  .ite (!decide (r0.1 = (0 : Int))) (
   .grd (true) (
   .ret (r0.1, ([], ())))) (
   .grd (decide (((0 : Nat) + List.length a0) * (24 : Nat) ≤ (140737488355328 : Nat) ∧ (0 : Nat) + List.length a0 ≤ (9223372036854775807 : Nat))) (
   .opt (β := (Int × Unit)) ((taFind_fn (a0, (a1, ())))) (fun r1 =>
   .grd (decide ((0 : Int) ≤ r1.1 ∧ r1.1 < (↑(List.length a0) : Int))) (
   .opt (β := TSlot) (a0[Int.toNat r1.1]?) (fun r2 =>
   .ite (!r2.used) (
    .grd (true) (
    .ret ((7 : Int), ([], ())))) (
    .grd (decide ((↑(List.length a0) : Int) ≠ (0 : Int))) (
    .grd (decide (List.length a0 = List.length a0)) (
    .opt (β := (Int × ((List TSlot) × Unit))) ((taRemoveO_loop25_10 ((↑(List.length a0) : Int), (Int.tmod (IntKind.wrap IntKind.i64 (r1.1 + (1 : Int))) (↑(List.length a0) : Int), (r1.1, (a0, ())))))) (fun r3 =>
    .grd (decide ((0 : Int) ≤ r3.1 ∧ r3.1 < (↑(List.length r3.2.fst) : Int))) (
    .opt (β := TSlot) (r3.2.1[Int.toNat r3.1]?) (fun r4 =>
    .grd (decide (List.length r3.2.fst = List.length (List.set r3.2.1 (Int.toNat r3.1) (TSlot.mk false (0 : Int) (0 : Int))))) (
    .ret ((0 : Int), (List.set r3.2.1 (Int.toNat r3.1) (TSlot.mk false (0 : Int) (0 : Int)), ())))))))))))))))
theorem taRemoveO_eq (x : ((List TSlot) × (Int × Unit))) : gnTr Try.prog cod [clSlot, FS.pf eqSlot, FS.pf bitLen, FS.pf taHome, FS.pf taNew, FS.pf taFind, FS.pf taUsed, FS.pf taCheck, FS.pf taGet, FS.pf tableLives, FS.pf bitsOf, FS.pf homeOf, FS.pf tableRight, FS.pf sameTable, FS.pf tableUndo, GS.pf taPutO] [(25, taRemoveO_L25_10)] [(1000, 2000000, 61, 7)] 30 25 taRemoveO_ap taRemoveO_rp x = taRemoveO_tree x := by kernel_rfl
def taRemoveO_fn (x : ((List TSlot) × (Int × Unit))) : Option (Int × ((List TSlot) × Unit)) := (taRemoveO_tree x).eval
def taRemoveO : GS Try.prog := ⟨25, [0, 0], taRemoveO_ap, taRemoveO_rp, taRemoveO_fn, fun x r h ys m g he hg => gn_sound (cod := cod) (Γ := [clSlot, FS.pf eqSlot, FS.pf bitLen, FS.pf taHome, FS.pf taNew, FS.pf taFind, FS.pf taUsed, FS.pf taCheck, FS.pf taGet, FS.pf tableLives, FS.pf bitsOf, FS.pf homeOf, FS.pf tableRight, FS.pf sameTable, FS.pf tableUndo, GS.pf taPutO]) (Λs := [(25, taRemoveO_L25_10)]) (n := 30) ((congrArg Tr.eval (taRemoveO_eq x)).trans h) he hg⟩
def tableOwn_L2010_10 : LS := ⟨10, [(27000, 27000), (17000, 17000), (2, 2)], ⟨66, [(47, .v (.one (.i .i64))), (12, .v (.one (.own 27000))), (37, .v (.agg [.bad, .bad])), (5, .v (.one (.own 17000))), (2, .v (.one (.ptr 2 0))), (10, .v (.one (.b))), (38, .v (.one (.kn .i64 1))), (46, .v (.one (.i .i64)))], [(27000, .junk 61 3), (17000, .row 61 7 true true), (2, .cells [.st 7 false])]⟩, [⟨some 2, [(17000, 17000), (2, 2)], ⟨66, [(37, .v (.agg [.bad, .bad])), (5, .v (.one (.own 17000))), (2, .v (.one (.ptr 2 0))), (10, .v (.one (.b))), (38, .v (.one (.kn .i64 1)))], [(17000, .row 61 7 true true), (2, .cells [.st 7 false])]⟩⟩], []⟩
def tableOwn_step2010_10 : (Int × (Bool × (Int × (Nat × ((List TSlot) × ((List TSlot) × Unit)))))) → Tr ((Int × (Bool × (Int × (Nat × ((List TSlot) × ((List TSlot) × Unit)))))) ⊕ (Bool × ((List TSlot) × ((List TSlot) × Unit)))) :=
  fun (a0, a1, a2, a3, a4, a5, _) =>
  .ite (decide (a0 < a2)) (
   .grd (decide ((0 : Int) ≤ a0 ∧ a0 < (↑a3 : Int))) (
   .grd (decide (Int.toNat a0 < a3)) (
   .grd (decide (a3 = a3)) (
   .grd (decide (List.length a4 = List.length a4)) (
   .grd (decide (a3 = a3)) (
   .ret (Sum.inl (IntKind.wrap IntKind.i64 (a0 + (1 : Int)), (a1, (a2, (a3, (a4, (a5, ()))))))))))))) (
   .grd (decide (List.length a4 = List.length a4)) (
   .ret (Sum.inr (a1, (a4, (a5, ()))))))
def tableOwn_loop2010_10 (x : (Int × (Bool × (Int × (Nat × ((List TSlot) × ((List TSlot) × Unit))))))) : Option (Bool × ((List TSlot) × ((List TSlot) × Unit))) := loopO 20100010 (fun x => (tableOwn_step2010_10 x).eval) 18446744073709551616 x
def tableOwn_L1010_10 : LS := ⟨10, [(21000, 21000), (27000, 27000), (17000, 17000), (2, 2)], ⟨66, [(47, .v (.one (.i .i64))), (12, .v (.one (.own 21000))), (37, .v (.agg [.bad, .own 27000])), (5, .v (.one (.own 17000))), (2, .v (.one (.ptr 2 0))), (10, .v (.one (.b))), (38, .v (.one (.kn .i64 0))), (46, .v (.one (.i .i64)))], [(21000, .junk 61 3), (27000, .row 61 7 true true), (17000, .row 61 7 true true), (2, .cells [.st 7 false])]⟩, [⟨some 2, [(27000, 27000), (17000, 17000), (2, 2)], ⟨66, [(37, .v (.agg [.bad, .own 27000])), (5, .v (.one (.own 17000))), (2, .v (.one (.ptr 2 0))), (10, .v (.one (.b))), (38, .v (.one (.kn .i64 0)))], [(27000, .row 61 7 true true), (17000, .row 61 7 true true), (2, .cells [.st 7 false])]⟩⟩], []⟩
def tableOwn_step1010_10 : (Int × (Bool × (Int × (Nat × ((List TSlot) × ((List TSlot) × ((List TSlot) × Unit))))))) → Tr ((Int × (Bool × (Int × (Nat × ((List TSlot) × ((List TSlot) × ((List TSlot) × Unit))))))) ⊕ (Bool × ((List TSlot) × ((List TSlot) × ((List TSlot) × Unit))))) :=
  fun (a0, a1, a2, a3, a4, a5, a6, _) =>
  .ite (decide (a0 < a2)) (
   .grd (decide ((0 : Int) ≤ a0 ∧ a0 < (↑a3 : Int))) (
   .grd (decide (Int.toNat a0 < a3)) (
   .grd (decide (a3 = a3)) (
   .grd (decide (List.length a4 = List.length a4)) (
   .grd (decide (List.length a5 = List.length a5)) (
   .grd (decide (a3 = a3)) (
   .ret (Sum.inl (IntKind.wrap IntKind.i64 (a0 + (1 : Int)), (a1, (a2, (a3, (a4, (a5, (a6, ()))))))))))))))) (
   .grd (decide (List.length a4 = List.length a4)) (
   .grd (decide (List.length a5 = List.length a5)) (
   .ret (Sum.inr (a1, (a4, (a5, (a6, ()))))))))
def tableOwn_loop1010_10 (x : (Int × (Bool × (Int × (Nat × ((List TSlot) × ((List TSlot) × ((List TSlot) × Unit)))))))) : Option (Bool × ((List TSlot) × ((List TSlot) × ((List TSlot) × Unit)))) := loopO 10100010 (fun x => (tableOwn_step1010_10 x).eval) 18446744073709551616 x
def tableOwn_ap : List VP1 := [.agg [.st 7 false], .one (.i .u64)]
def tableOwn_tree : ((List TSlot) × (Int × Unit)) → Tr Prop :=
  fun (a0, a1, _) =>
  .grd (decide (((0 : Nat) + List.length a0) * (24 : Nat) ≤ (140737488355328 : Nat) ∧ (0 : Nat) + List.length a0 ≤ (9223372036854775807 : Nat))) (
  .opt (β := (Int × ((List TSlot) × Unit))) ((taPutO_fn (a0, (a1, ((1 : Int), ()))))) (fun r0 =>
  .opt (β := (Int × ((List TSlot) × Unit))) ((taRemoveO_fn (a0, (a1, ())))) (fun r1 =>
  .opt (β := (Bool × Unit)) ((eqSlot_fn (a0, (a0, ())))) (fun r2 =>
  .ite (true) (
   .ret (AllP fun (n3 : Nat) =>
    .grd (decide ((↑n3 : Int) = (↑n3 : Int))) (
    .grd (decide (n3 = n3)) (
    .grd (decide (List.length r1.2.fst = List.length r1.2.1)) (
    .grd (decide (List.length a0 = List.length a0)) (
    .grd (decide (n3 = n3)) (
    .opt (β := (Bool × ((List TSlot) × ((List TSlot) × ((List TSlot) × Unit))))) ((tableOwn_loop1010_10 ((0 : Int), (r2.1, ((↑n3 : Int), (n3, (r1.2.1, (a0, (a0, ()))))))))) (fun r4 =>
    .ite (true) (
     .ret (AllP fun (n5 : Nat) =>
      .grd (decide ((↑n5 : Int) = (↑n5 : Int))) (
      .grd (decide (n5 = n5)) (
      .grd (decide (List.length r4.2.2.fst = List.length r4.2.2.1)) (
      .grd (decide (n5 = n5)) (
      .opt (β := (Bool × ((List TSlot) × ((List TSlot) × Unit)))) ((tableOwn_loop2010_10 ((0 : Int), (r4.1, ((↑n5 : Int), (n5, (r4.2.2.1, (r4.2.2.2.1, ())))))))) (fun r6 =>
      .ite (false) (
       .fail 3) (
       .opt (β := (Bool × Unit)) ((tableLives_fn ())) (fun r7 =>
       .ite (r7.1) (
        .ite (r6.1) (
         .opt (β := (Bool × Unit)) ((eqSlot_fn (r6.2.2.1, (r6.2.1, ())))) (fun r8 =>
         .ret (r8.1 = true))) (
         .ret (false = true))) (
        .ret (false = true))))))))))) (
     .opt (β := (Bool × Unit)) ((tableLives_fn ())) (fun r5 =>
     .ite (r5.1) (
      .ite (r4.1) (
       .opt (β := (Bool × Unit)) ((eqSlot_fn (r4.2.2.2.1, (r4.2.2.1, ())))) (fun r6 =>
       .ret (r6.1 = true))) (
       .ret (false = true))) (
      .ret (false = true)))))))))))) (
   .opt (β := (Bool × Unit)) ((tableLives_fn ())) (fun r3 =>
   .ite (r3.1) (
    .ite (r2.1) (
     .opt (β := (Bool × Unit)) ((eqSlot_fn (a0, (a0, ())))) (fun r4 =>
     .ret (r4.1 = true))) (
     .ret (false = true))) (
    .ret (false = true))))))))
theorem tableOwn_eq (x : ((List TSlot) × (Int × Unit))) : lawJ Try.prog cod [clSlot, FS.pf eqSlot, FS.pf bitLen, FS.pf taHome, FS.pf taNew, FS.pf taFind, FS.pf taUsed, FS.pf taCheck, FS.pf taGet, FS.pf tableLives, FS.pf bitsOf, FS.pf homeOf, FS.pf tableRight, FS.pf sameTable, FS.pf tableUndo, GS.pf taPutO, GS.pf taRemoveO] [(2010, tableOwn_L2010_10), (1010, tableOwn_L1010_10)] [(8, 12)] [6] 30 10 tableOwn_ap x = tableOwn_tree x := by kernel_rfl
noncomputable def tableOwn : FS Try.prog := jFS 10 tableOwn_ap tableOwn_tree fun x h => lawJ_sound (cod := cod) (Γ := [clSlot, FS.pf eqSlot, FS.pf bitLen, FS.pf taHome, FS.pf taNew, FS.pf taFind, FS.pf taUsed, FS.pf taCheck, FS.pf taGet, FS.pf tableLives, FS.pf bitsOf, FS.pf homeOf, FS.pf tableRight, FS.pf sameTable, FS.pf tableUndo, GS.pf taPutO, GS.pf taRemoveO]) (Λs := [(2010, tableOwn_L2010_10), (1010, tableOwn_L1010_10)]) (opn := [(8, 12)]) (un := [6]) (n := 30) (tableOwn_eq x ▸ h)
end Go.Proofs.Ytgdlhdkofcicjaa.X
