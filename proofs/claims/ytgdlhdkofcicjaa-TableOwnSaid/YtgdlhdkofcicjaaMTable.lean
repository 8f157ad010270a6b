/- Functions of the program, as trees (printed by a program of mine: tool/XTool, xg.py), each with the proof that the machine comes to what its tree says. Conditions: none. -/
import Derived.Test.YtgdlhdkofcicjaaCod
import Derived.KernelRfl
import Derived.Test.YtgdlhdkofcicjaaLTable
namespace Go.Proofs.Ytgdlhdkofcicjaa.X
open Go Go.RowKit Go.Proofs.Ytgdlhdkofcicjaa.Abs
set_option maxRecDepth 100000
set_option linter.unusedVariables false
def tableBook_L7_36 : LS := ⟨36, [(7, 7), (45, 45)], ⟨176, [(158, .v (.one (.i .i64))), (25, .v (.one (.i .i64))), (156, .v (.one (.st 7 true))), (7, .v (.one (.ptr 7 0))), (9, .v (.one (.mp 45))), (157, .v (.one (.i .i64)))], [(7, .cells [.st 7 true]), (45, .map 27)]⟩, [⟨some 4, [(7, 7), (45, 45)], ⟨176, [(7, .v (.one (.ptr 7 0))), (9, .v (.one (.mp 45))), (25, .v (.one (.i .i64)))], [(7, .cells [.st 7 true]), (45, .map 27)]⟩⟩], []⟩
def tableBook_step7_36 : (Int × (Int × ((List TSlot) × (Int × ((List TSlot) × ((List (Int × Int)) × Unit)))))) → Tr ((Int × (Int × ((List TSlot) × (Int × ((List TSlot) × ((List (Int × Int)) × Unit)))))) ⊕ (Int × ((List TSlot) × ((List (Int × Int)) × Unit)))) :=
  fun (a0, a1, a2, a3, a4, a5, _) =>
  .ite (decide (a0 < a3)) (
   .grd (decide ((0 : Int) ≤ a0)) (
   .opt (β := TSlot) (a2[Int.toNat a0]?) (fun r0 =>
   .ite (r0.used) (
    .ret (Sum.inl (IntKind.wrap IntKind.i64 (a0 + (1 : Int)), (IntKind.wrap IntKind.i64 (a1 + (1 : Int)), (a2, (a3, (a4, (a5, ())))))))) (
    .ret (Sum.inl (IntKind.wrap IntKind.i64 (a0 + (1 : Int)), (a1, (a2, (a3, (a4, (a5, ()))))))))))) (
   .ret (Sum.inr (a1, (a4, (a5, ())))))
def tableBook_loop7_36 (x : (Int × (Int × ((List TSlot) × (Int × ((List TSlot) × ((List (Int × Int)) × Unit))))))) : Option (Int × ((List TSlot) × ((List (Int × Int)) × Unit))) := loopO 70036 (fun x => (tableBook_step7_36 x).eval) 18446744073709551616 x
def tableBook_L7_27 : LS := ⟨27, [(45, 45), (7, 7)], ⟨176, [(129, .v (.one (.i .i64))), (9, .v (.one (.mp 45))), (7, .v (.one (.ptr 7 0))), (127, .v (.one (.st 27 false))), (128, .v (.one (.i .i64)))], [(45, .map 27), (7, .cells [.st 7 true])]⟩, [⟨none, [], ⟨176, [(6, .v (.one (.b)))], []⟩⟩, ⟨some 2, [(7, 7), (45, 45)], ⟨176, [(7, .v (.one (.ptr 7 0))), (9, .v (.one (.mp 45)))], [(7, .cells [.st 7 true]), (45, .map 27)]⟩⟩], []⟩
def tableBook_step7_27 : (Int × ((List Int) × (Int × ((List (Int × Int)) × ((List TSlot) × Unit))))) → Tr ((Int × ((List Int) × (Int × ((List (Int × Int)) × ((List TSlot) × Unit))))) ⊕ ((Bool × Unit) ⊕ ((List TSlot) × ((List (Int × Int)) × Unit)))) :=
  fun (a0, a1, a2, a3, a4, _) =>
  .ite (decide (a0 < a2)) (
   .grd (decide ((0 : Int) ≤ a0)) (
   .opt (β := Int) (a1[Int.toNat a0]?) (fun r0 =>
   .opt (β := (Int × (Int × Unit))) ((taGet_fn (a4, (r0, ())))) (fun r1 =>
   .ite (!Option.isSome (mGet (27 : Nat) r0 a3) == decide (r1.2.1 = (0 : Int))) (
    .ret (Sum.inr (Sum.inl (false, ())))) (
    .ite (!decide (r1.1 = Option.getD (mGet (27 : Nat) r0 a3) (0 : Int))) (
     .ret (Sum.inr (Sum.inl (false, ())))) (
     .ret (Sum.inl (IntKind.wrap IntKind.i64 (a0 + (1 : Int)), (a1, (a2, (a3, (a4, ())))))))))))) (
   .ret (Sum.inr (Sum.inr (a4, (a3, ())))))
def tableBook_loop7_27 (x : (Int × ((List Int) × (Int × ((List (Int × Int)) × ((List TSlot) × Unit)))))) : Option ((Bool × Unit) ⊕ ((List TSlot) × ((List (Int × Int)) × Unit))) := loopO 70027 (fun x => (tableBook_step7_27 x).eval) 18446744073709551616 x
def tableBook_L7_6 : LS := ⟨6, [(45, 45), (7, 7)], ⟨176, [(48, .v (.one (.i .i64))), (9, .v (.one (.mp 45))), (7, .v (.one (.ptr 7 0))), (0, .v (.one (.i .i64))), (2, .v (.one (.st 0 false))), (46, .v (.one (.st 27 false))), (1, .v (.one (.st 27 false))), (47, .v (.one (.i .i64)))], [(45, .map 27), (7, .cells [.st 7 true])]⟩, [⟨none, [], ⟨176, [(6, .v (.one (.b)))], []⟩⟩, ⟨some 0, [(45, 45), (7, 7)], ⟨176, [(9, .v (.one (.mp 45))), (7, .v (.one (.ptr 7 0))), (1, .v (.one (.st 27 false)))], [(45, .map 27), (7, .cells [.st 7 true])]⟩⟩], []⟩
def tableBook_step7_6 : (Int × (Int × ((List Int) × ((List Int) × ((List Int) × (Int × ((List (Int × Int)) × ((List TSlot) × Unit)))))))) → Tr ((Int × (Int × ((List Int) × ((List Int) × ((List Int) × (Int × ((List (Int × Int)) × ((List TSlot) × Unit)))))))) ⊕ ((Bool × Unit) ⊕ ((List Int) × ((List (Int × Int)) × ((List TSlot) × Unit))))) :=
  fun (a0, a1, a2, a3, a4, a5, a6, a7, _) =>
  .ite (decide (a0 < a5)) (
   .grd (decide ((0 : Int) ≤ a0)) (
   .opt (β := Int) (a3[Int.toNat a0]?) (fun r0 =>
   .ite (decide (a0 < (↑(List.length a2) : Int))) (
    .grd (decide ((0 : Int) ≤ a0)) (
    .opt (β := Int) (a2[Int.toNat a0]?) (fun r1 =>
    .grd (true) (
    .ite (decide (Int.tmod r1 (3 : Int) = (0 : Int))) (
     .opt (β := ((List TSlot) × (Int × Unit))) ((taRemove_fn (a7, (r0, ())))) (fun r2 =>
     .ite (!decide (r2.2.1 = (0 : Int)) == Option.isSome (mGet (27 : Nat) r0 a6)) (
      .ret (Sum.inr (Sum.inl (false, ())))) (
      .ite (!decide (r2.2.1 = (0 : Int))) (
       .ite (!decide (r2.2.1 = (7 : Int))) (
        .ret (Sum.inr (Sum.inl (false, ())))) (
        .ite (decide (r2.2.1 = (0 : Int))) (
         .ret (Sum.inl (IntKind.wrap IntKind.i64 (a0 + (1 : Int)), (a1, (a2, (a3, (a4, (a5, (mDel (27 : Nat) r0 a6, (r2.1, ())))))))))) (
         .ret (Sum.inl (IntKind.wrap IntKind.i64 (a0 + (1 : Int)), (a1, (a2, (a3, (a4, (a5, (a6, (a7, ())))))))))))) (
       .ite (decide (r2.2.1 = (0 : Int))) (
        .ret (Sum.inl (IntKind.wrap IntKind.i64 (a0 + (1 : Int)), (a1, (a2, (a3, (a4, (a5, (mDel (27 : Nat) r0 a6, (r2.1, ())))))))))) (
        .ret (Sum.inl (IntKind.wrap IntKind.i64 (a0 + (1 : Int)), (a1, (a2, (a3, (a4, (a5, (a6, (a7, ())))))))))))))) (
     .opt (β := ((List TSlot) × (Int × Unit))) ((taPut_fn (a7, (r0, (r1, ()))))) (fun r2 =>
     .ite (Option.isSome (mGet (27 : Nat) r0 a6)) (
      .ite (!decide (r2.2.1 = (0 : Int)) == true) (
       .ret (Sum.inr (Sum.inl (false, ())))) (
       .ite (!decide (r2.2.1 = (0 : Int))) (
        .ite (!decide (r2.2.1 = (6 : Int))) (
         .ret (Sum.inr (Sum.inl (false, ())))) (
         .ite (decide (r2.2.1 = (0 : Int))) (
          .ret (Sum.inl (IntKind.wrap IntKind.i64 (a0 + (1 : Int)), (a1, (a2, (a3, (a4, (a5, (mPut (27 : Nat) r0 r1 a6, (r2.1, ())))))))))) (
          .ret (Sum.inl (IntKind.wrap IntKind.i64 (a0 + (1 : Int)), (a1, (a2, (a3, (a4, (a5, (a6, (a7, ())))))))))))) (
        .ite (decide (r2.2.1 = (0 : Int))) (
         .ret (Sum.inl (IntKind.wrap IntKind.i64 (a0 + (1 : Int)), (a1, (a2, (a3, (a4, (a5, (mPut (27 : Nat) r0 r1 a6, (r2.1, ())))))))))) (
         .ret (Sum.inl (IntKind.wrap IntKind.i64 (a0 + (1 : Int)), (a1, (a2, (a3, (a4, (a5, (a6, (a7, ()))))))))))))) (
      .grd (decide ((0 : Int) ≤ a1)) (
      .ite (!decide (r2.2.1 = (0 : Int)) == decide ((↑(List.length a6) : Int) < IntKind.wrap IntKind.i64 (IntKind.wrap IntKind.i64 ((1 : Int) * (2 : Int) ^ min (Int.toNat a1) (64 : Nat)) - (1 : Int)))) (
       .ret (Sum.inr (Sum.inl (false, ())))) (
       .ite (!decide (r2.2.1 = (0 : Int))) (
        .ite (!decide (r2.2.1 = (6 : Int))) (
         .ret (Sum.inr (Sum.inl (false, ())))) (
         .ite (decide (r2.2.1 = (0 : Int))) (
          .ret (Sum.inl (IntKind.wrap IntKind.i64 (a0 + (1 : Int)), (a1, (a2, (a3, (a4, (a5, (mPut (27 : Nat) r0 r1 a6, (r2.1, ())))))))))) (
          .ret (Sum.inl (IntKind.wrap IntKind.i64 (a0 + (1 : Int)), (a1, (a2, (a3, (a4, (a5, (a6, (a7, ())))))))))))) (
        .ite (decide (r2.2.1 = (0 : Int))) (
         .ret (Sum.inl (IntKind.wrap IntKind.i64 (a0 + (1 : Int)), (a1, (a2, (a3, (a4, (a5, (mPut (27 : Nat) r0 r1 a6, (r2.1, ())))))))))) (
         .ret (Sum.inl (IntKind.wrap IntKind.i64 (a0 + (1 : Int)), (a1, (a2, (a3, (a4, (a5, (a6, (a7, ())))))))))))))))))))) (
    .grd (true) (
    .ite (true) (
     .opt (β := ((List TSlot) × (Int × Unit))) ((taRemove_fn (a7, (r0, ())))) (fun r1 =>
     .ite (!decide (r1.2.1 = (0 : Int)) == Option.isSome (mGet (27 : Nat) r0 a6)) (
      .ret (Sum.inr (Sum.inl (false, ())))) (
      .ite (!decide (r1.2.1 = (0 : Int))) (
       .ite (!decide (r1.2.1 = (7 : Int))) (
        .ret (Sum.inr (Sum.inl (false, ())))) (
        .ite (decide (r1.2.1 = (0 : Int))) (
         .ret (Sum.inl (IntKind.wrap IntKind.i64 (a0 + (1 : Int)), (a1, (a2, (a3, (a4, (a5, (mDel (27 : Nat) r0 a6, (r1.1, ())))))))))) (
         .ret (Sum.inl (IntKind.wrap IntKind.i64 (a0 + (1 : Int)), (a1, (a2, (a3, (a4, (a5, (a6, (a7, ())))))))))))) (
       .ite (decide (r1.2.1 = (0 : Int))) (
        .ret (Sum.inl (IntKind.wrap IntKind.i64 (a0 + (1 : Int)), (a1, (a2, (a3, (a4, (a5, (mDel (27 : Nat) r0 a6, (r1.1, ())))))))))) (
        .ret (Sum.inl (IntKind.wrap IntKind.i64 (a0 + (1 : Int)), (a1, (a2, (a3, (a4, (a5, (a6, (a7, ())))))))))))))) (
     .opt (β := ((List TSlot) × (Int × Unit))) ((taPut_fn (a7, (r0, ((0 : Int), ()))))) (fun r1 =>
     .ite (Option.isSome (mGet (27 : Nat) r0 a6)) (
      .ite (!decide (r1.2.1 = (0 : Int)) == true) (
       .ret (Sum.inr (Sum.inl (false, ())))) (
       .ite (!decide (r1.2.1 = (0 : Int))) (
        .ite (!decide (r1.2.1 = (6 : Int))) (
         .ret (Sum.inr (Sum.inl (false, ())))) (
         .ite (decide (r1.2.1 = (0 : Int))) (
          .ret (Sum.inl (IntKind.wrap IntKind.i64 (a0 + (1 : Int)), (a1, (a2, (a3, (a4, (a5, (mPut (27 : Nat) r0 (0 : Int) a6, (r1.1, ())))))))))) (
          .ret (Sum.inl (IntKind.wrap IntKind.i64 (a0 + (1 : Int)), (a1, (a2, (a3, (a4, (a5, (a6, (a7, ())))))))))))) (
        .ite (decide (r1.2.1 = (0 : Int))) (
         .ret (Sum.inl (IntKind.wrap IntKind.i64 (a0 + (1 : Int)), (a1, (a2, (a3, (a4, (a5, (mPut (27 : Nat) r0 (0 : Int) a6, (r1.1, ())))))))))) (
         .ret (Sum.inl (IntKind.wrap IntKind.i64 (a0 + (1 : Int)), (a1, (a2, (a3, (a4, (a5, (a6, (a7, ()))))))))))))) (
      .grd (decide ((0 : Int) ≤ a1)) (
      .ite (!decide (r1.2.1 = (0 : Int)) == decide ((↑(List.length a6) : Int) < IntKind.wrap IntKind.i64 (IntKind.wrap IntKind.i64 ((1 : Int) * (2 : Int) ^ min (Int.toNat a1) (64 : Nat)) - (1 : Int)))) (
       .ret (Sum.inr (Sum.inl (false, ())))) (
       .ite (!decide (r1.2.1 = (0 : Int))) (
        .ite (!decide (r1.2.1 = (6 : Int))) (
         .ret (Sum.inr (Sum.inl (false, ())))) (
         .ite (decide (r1.2.1 = (0 : Int))) (
          .ret (Sum.inl (IntKind.wrap IntKind.i64 (a0 + (1 : Int)), (a1, (a2, (a3, (a4, (a5, (mPut (27 : Nat) r0 (0 : Int) a6, (r1.1, ())))))))))) (
          .ret (Sum.inl (IntKind.wrap IntKind.i64 (a0 + (1 : Int)), (a1, (a2, (a3, (a4, (a5, (a6, (a7, ())))))))))))) (
        .ite (decide (r1.2.1 = (0 : Int))) (
         .ret (Sum.inl (IntKind.wrap IntKind.i64 (a0 + (1 : Int)), (a1, (a2, (a3, (a4, (a5, (mPut (27 : Nat) r0 (0 : Int) a6, (r1.1, ())))))))))) (
         .ret (Sum.inl (IntKind.wrap IntKind.i64 (a0 + (1 : Int)), (a1, (a2, (a3, (a4, (a5, (a6, (a7, ()))))))))))))))))))))) (
   .ret (Sum.inr (Sum.inr (a4, (a6, (a7, ()))))))
def tableBook_loop7_6 (x : (Int × (Int × ((List Int) × ((List Int) × ((List Int) × (Int × ((List (Int × Int)) × ((List TSlot) × Unit))))))))) : Option ((Bool × Unit) ⊕ ((List Int) × ((List (Int × Int)) × ((List TSlot) × Unit)))) := loopO 70006 (fun x => (tableBook_step7_6 x).eval) 18446744073709551616 x
def tableBook_ap : List VP1 := [.one (.i .i64), .one (.st 27 false), .one (.st 0 false)]
def tableBook_rp : SP := ⟨1, [(0, .v (.one (.b)))], []⟩
def tableBook_tree : (Int × ((List Int) × ((List Int) × Unit))) → Tr (Bool × Unit) :=
  fun (a0, a1, a2, _) =>
  .opt (β := ((List TSlot) × (Int × Unit))) ((taNew_fn (a0, ()))) (fun r0 =>
  .opt (β := (Bool × Unit)) ((tableLives_fn ())) (fun r1 =>
  .ite (!r1.1) (
   .opt (β := (Bool × Unit)) ((tableLives_fn ())) (fun r2 =>
   .ret (r2.1, ()))) (
   .ite (!decide (r0.2.1 = (0 : Int))) (
    .opt (β := (Bool × Unit)) ((tableLives_fn ())) (fun r2 =>
    .ret (r2.1, ()))) (
    .ite (decide ((300 : Int) < (↑(List.length a1) : Int))) (
     .opt (β := (Bool × Unit)) ((tableLives_fn ())) (fun r2 =>
     .ret (r2.1, ()))) (
     .opt (β := ((Bool × Unit) ⊕ ((List Int) × ((List (Int × Int)) × ((List TSlot) × Unit))))) ((tableBook_loop7_6 ((0 : Int), (a0, (a2, (a1, (a1, ((↑(List.length a1) : Int), ([], (r0.1, ())))))))))) (fun r2 =>
     .sum (β := (Bool × Unit)) (γ := ((List Int) × ((List (Int × Int)) × ((List TSlot) × Unit)))) (r2) (fun r3 =>
      .ret (r3.1, ())) (fun r3 =>
      .opt (β := ((Bool × Unit) ⊕ ((List TSlot) × ((List (Int × Int)) × Unit)))) ((tableBook_loop7_27 ((0 : Int), (r3.1, ((↑(List.length r3.1) : Int), (r3.2.1, (r3.2.2.1, ()))))))) (fun r4 =>
      .sum (β := (Bool × Unit)) (γ := ((List TSlot) × ((List (Int × Int)) × Unit))) (r4) (fun r5 =>
       .ret (r5.1, ())) (fun r5 =>
       .opt (β := (Int × ((List TSlot) × ((List (Int × Int)) × Unit)))) ((tableBook_loop7_36 ((0 : Int), ((0 : Int), (r5.1, ((↑(List.length r5.1) : Int), (r5.1, (r5.2.1, ())))))))) (fun r6 =>
       .ite (decide (r6.1 = (↑(List.length r6.2.2.1) : Int))) (
        .opt (β := (Int × Unit)) ((tableRight_fn (r6.2.1, ()))) (fun r7 =>
        .ret (decide (r7.1 = (0 : Int)), ()))) (
        .ret (false, ()))))))))))))
theorem tableBook_eq (x : (Int × ((List Int) × ((List Int) × Unit)))) : fnTr Try.prog cod [clSlot, FS.pf eqSlot, FS.pf bitLen, FS.pf taHome, FS.pf taNew, FS.pf taFind, FS.pf taUsed, FS.pf taCheck, FS.pf taGet, FS.pf taPut, FS.pf taRemove, FS.pf tableLives, FS.pf bitsOf, FS.pf homeOf, FS.pf tableRight, FS.pf sameTable, FS.pf tableUndo] [(7, tableBook_L7_36), (7, tableBook_L7_27), (7, tableBook_L7_6)] 30 7 tableBook_ap tableBook_rp x = tableBook_tree x := by kernel_rfl
def tableBook_fn (x : (Int × ((List Int) × ((List Int) × Unit)))) : Option (Bool × Unit) := (tableBook_tree x).eval
def tableBook : FS Try.prog := ⟨7, tableBook_ap, tableBook_rp, tableBook_fn, fun x r h => fnTr_sound (cod := cod) (Γ := [clSlot, FS.pf eqSlot, FS.pf bitLen, FS.pf taHome, FS.pf taNew, FS.pf taFind, FS.pf taUsed, FS.pf taCheck, FS.pf taGet, FS.pf taPut, FS.pf taRemove, FS.pf tableLives, FS.pf bitsOf, FS.pf homeOf, FS.pf tableRight, FS.pf sameTable, FS.pf tableUndo]) (Λs := [(7, tableBook_L7_36), (7, tableBook_L7_27), (7, tableBook_L7_6)]) (n := 30) ((congrArg Tr.eval (tableBook_eq x)).trans h)⟩
end Go.Proofs.Ytgdlhdkofcicjaa.X
