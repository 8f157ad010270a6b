/- Functions of the program, as trees (printed by a program of mine: tool/XTool, xg.py), each with the proof that the machine comes to what its tree says. Conditions: none. -/
import Derived.Test.YtnhiilbmgkbbaaaCod
import Derived.KernelRfl
import Derived.Test.YtnhiilbmgkbbaaaLWheel
namespace Go.Proofs.Ytnhiilbmgkbbaaa.X
open Go Go.RowKit Go.Proofs.Ytnhiilbmgkbbaaa.Abs
set_option maxRecDepth 100000
set_option linter.unusedVariables false
def wLives_L10_4 : LS := ⟨4, [], ⟨26, [(13, .v (.one (.i .i64))), (1, .v (.one (.st 14 false))), (0, .v (.one (.st 14 false))), (12, .v (.one (.i .i64)))], []⟩, [⟨none, [], ⟨26, [(4, .v (.one (.b)))], []⟩⟩, ⟨some 0, [], ⟨26, [], []⟩⟩], []⟩
def wLives_step10_4 : (Int × ((List TDue) × ((List TDue) × (Int × Unit)))) → Tr ((Int × ((List TDue) × ((List TDue) × (Int × Unit)))) ⊕ ((Bool × Unit) ⊕ Unit)) :=
  fun (a0, a1, a2, a3, _) =>
  .ite (decide (a0 < a3)) (
   .grd (decide ((0 : Int) ≤ a0)) (
   .opt (β := TDue) (a2[Int.toNat a0]?) (fun r0 =>
   .grd (decide ((0 : Int) ≤ a0)) (
   .opt (β := TDue) (a1[Int.toNat a0]?) (fun r1 =>
   .ite (!(decide (r0.id = r1.id) && (decide (r0.at' = r1.at') && true))) (
    .ret (Sum.inr (Sum.inl (false, ())))) (
    .ret (Sum.inl (IntKind.wrap IntKind.i64 (a0 + (1 : Int)), (a1, (a2, (a3, ()))))))))))) (
   .ret (Sum.inr (Sum.inr ())))
def wLives_loop10_4 (x : (Int × ((List TDue) × ((List TDue) × (Int × Unit))))) : Option ((Bool × Unit) ⊕ Unit) := loopO 100004 (fun x => (wLives_step10_4 x).eval) 18446744073709551616 x
def wLives_ap : List VP1 := []
def wLives_rp : SP := ⟨1, [(0, .v (.one (.b)))], []⟩
def wLives_tree : Unit → Tr (Bool × Unit) :=
  fun (_) =>
  .grd (true) (
  .opt (β := (Int × ((List (List TDue)) × (Int × Unit)))) ((wSet_fn ((14 : Int), (List.replicate (96 : Nat) [], ((7 : Int), ((17 : Int), ())))))) (fun r0 =>
  .grd (decide (obB (sameN (14 : Nat) (95 : Nat) r0.2.1) = (0 : Nat))) (
  .opt (β := (Int × ((List (List TDue)) × ((List TDue) × (Int × Unit))))) ((wTick_fn (r0.1, (r0.2.1, ((5 : Int), ()))))) (fun r1 =>
  .ite (decide (r0.2.2.1 = (0 : Int))) (
   .ite (decide (r1.2.2.2.1 = (0 : Int))) (
    .ite (decide (r1.1 = (19 : Int))) (
     .ite (!decide ((↑(List.length r1.2.2.1) : Int) = (↑(List.length [TDue.mk (7 : Int) (17 : Int)]) : Int))) (
      .ret (false, ())) (
      .opt (β := ((Bool × Unit) ⊕ Unit)) ((wLives_loop10_4 ((0 : Int), ([TDue.mk (7 : Int) (17 : Int)], (r1.2.2.1, ((↑(List.length r1.2.2.1) : Int), ())))))) (fun r2 =>
      .sum (β := (Bool × Unit)) (γ := Unit) (r2) (fun r3 =>
       .ret (r3.1, ())) (fun r3 =>
       .ret (true, ()))))) (
     .ret (false, ()))) (
    .ret (false, ()))) (
   .ret (false, ()))))))
theorem wLives_eq (x : Unit) : fnTr Try.prog cod [FS.pf bLen64, FS.pf bLen, FS.pf wList, FS.pf wCount, FS.pf wFind, FS.pf wCheck, clOwn, GS.pf wOwn, GS.pf wPut, GS.pf wTurn, FS.pf wTick, GS.pf delDue, FS.pf wSet, FS.pf wStop, FS.pf betw, FS.pf rSame, FS.pf rListOf, FS.pf rAllDue, FS.pf rWheelOf, FS.pf rRight] [(10, wLives_L10_4)] 30 8 wLives_ap wLives_rp x = wLives_tree x := by kernel_rfl
def wLives_fn (x : Unit) : Option (Bool × Unit) := (wLives_tree x).eval
def wLives : FS Try.prog := ⟨8, wLives_ap, wLives_rp, wLives_fn, fun x r h => fnTr_sound (cod := cod) (Γ := [FS.pf bLen64, FS.pf bLen, FS.pf wList, FS.pf wCount, FS.pf wFind, FS.pf wCheck, clOwn, GS.pf wOwn, GS.pf wPut, GS.pf wTurn, FS.pf wTick, GS.pf delDue, FS.pf wSet, FS.pf wStop, FS.pf betw, FS.pf rSame, FS.pf rListOf, FS.pf rAllDue, FS.pf rWheelOf, FS.pf rRight]) (Λs := [(10, wLives_L10_4)]) (n := 30) ((congrArg Tr.eval (wLives_eq x)).trans h)⟩
def wheelRight_L5_7 : LS := ⟨7, [(13, 13), (4, 4)], ⟨116, [(69, .v (.one (.i .i64))), (14, .v (.one (.st 14 true))), (13, .v (.one (.ptr 13 0))), (4, .v (.one (.ptr 4 0))), (67, .v (.one (.st 14 true))), (15, .v (.one (.i .i64))), (68, .v (.one (.i .i64)))], [(13, .cellsG [.i .i64] 14 96), (4, .cellsG [.i .i64] 14 96)]⟩, [⟨none, [], ⟨116, [(8, .v (.one (.b)))], []⟩⟩, ⟨some 0, [(4, 4), (13, 13)], ⟨116, [(4, .v (.one (.ptr 4 0))), (13, .v (.one (.ptr 13 0))), (14, .v (.one (.st 14 true))), (15, .v (.one (.i .i64)))], [(4, .cellsG [.i .i64] 14 96), (13, .cellsG [.i .i64] 14 96)]⟩⟩], []⟩
def wheelRight_step5_7 : (Int × ((List TDue) × ((List TDue) × (Int × (Int × (Int × ((List (List TDue)) × (Int × ((List (List TDue)) × Unit))))))))) → Tr ((Int × ((List TDue) × ((List TDue) × (Int × (Int × (Int × ((List (List TDue)) × (Int × ((List (List TDue)) × Unit))))))))) ⊕ ((Bool × Unit) ⊕ ((List TDue) × (Int × (Int × ((List (List TDue)) × (Int × ((List (List TDue)) × Unit)))))))) :=
  fun (a0, a1, a2, a3, a4, a5, a6, a7, a8, _) =>
  .ite (decide (a0 < a4)) (
   .grd (decide ((0 : Int) ≤ a0)) (
   .opt (β := TDue) (a2[Int.toNat a0]?) (fun r0 =>
   .opt (β := (Bool × ((List TDue) × ((List TDue) × (Int × (Int × (Int × (Int × ((List (List TDue)) × (Int × ((List (List TDue)) × Unit))))))))))) (Tr.eval (α := (Bool × ((List TDue) × ((List TDue) × (Int × (Int × (Int × (Int × ((List (List TDue)) × (Int × ((List (List TDue)) × Unit))))))))))) (
     .ite (decide (r0.at' ≤ a7)) (
      .grd (decide (obB (sameN (14 : Nat) (95 : Nat) a6) = (0 : Nat))) (
      .grd (decide (obB (sameN (14 : Nat) (95 : Nat) a8) = (0 : Nat))) (
      .ret (true, (a1, (a2, (a3, (a4, (a0, (a5, (a6, (a7, (a8, ()))))))))))))) (
      .ite (decide (a5 < r0.at')) (
       .grd (decide (obB (sameN (14 : Nat) (95 : Nat) a6) = (0 : Nat))) (
       .grd (decide (obB (sameN (14 : Nat) (95 : Nat) a8) = (0 : Nat))) (
       .ret (true, (a1, (a2, (a3, (a4, (a0, (a5, (a6, (a7, (a8, ()))))))))))))) (
       .ite (decide ((0 : Int) < a0)) (
        .grd (decide ((0 : Int) ≤ IntKind.wrap IntKind.i64 (a0 - (1 : Int)))) (
        .opt (β := TDue) (a1[Int.toNat (IntKind.wrap IntKind.i64 (a0 - (1 : Int)))]?) (fun r1 =>
        .grd (decide (obB (sameN (14 : Nat) (95 : Nat) a6) = (0 : Nat))) (
        .grd (decide (obB (sameN (14 : Nat) (95 : Nat) a8) = (0 : Nat))) (
        .ret (decide (r0.at' < r1.at'), (a1, (a2, (a3, (a4, (a0, (a5, (a6, (a7, (a8, ()))))))))))))))) (
        .grd (decide (obB (sameN (14 : Nat) (95 : Nat) a6) = (0 : Nat))) (
        .grd (decide (obB (sameN (14 : Nat) (95 : Nat) a8) = (0 : Nat))) (
        .ret (false, (a1, (a2, (a3, (a4, (a0, (a5, (a6, (a7, (a8, ()))))))))))))))))) (fun r1 =>
   .ite (r1.1) (
    .ret (Sum.inr (Sum.inl (false, ())))) (
    .grd (decide (obB (sameN (14 : Nat) (95 : Nat) r1.2.2.2.2.2.2.2.1) = (0 : Nat))) (
    .grd (decide (obB (sameN (14 : Nat) (95 : Nat) r1.2.2.2.2.2.2.2.2.2.1) = (0 : Nat))) (
    .ret (Sum.inl (IntKind.wrap IntKind.i64 (r1.2.2.2.2.2.1 + (1 : Int)), (r1.2.1, (r1.2.2.1, (r1.2.2.2.1, (r1.2.2.2.2.1, (r1.2.2.2.2.2.2.1, (r1.2.2.2.2.2.2.2.1, (r1.2.2.2.2.2.2.2.2.1, (r1.2.2.2.2.2.2.2.2.2.1, ()))))))))))))))))) (
   .grd (decide (obB (sameN (14 : Nat) (95 : Nat) a8) = (0 : Nat))) (
   .grd (decide (obB (sameN (14 : Nat) (95 : Nat) a6) = (0 : Nat))) (
   .ret (Sum.inr (Sum.inr (a1, (a3, (a7, (a8, (a5, (a6, ())))))))))))
def wheelRight_loop5_7 (x : (Int × ((List TDue) × ((List TDue) × (Int × (Int × (Int × ((List (List TDue)) × (Int × ((List (List TDue)) × Unit)))))))))) : Option ((Bool × Unit) ⊕ ((List TDue) × (Int × (Int × ((List (List TDue)) × (Int × ((List (List TDue)) × Unit))))))) := loopO 50007 (fun x => (wheelRight_step5_7 x).eval) 18446744073709551616 x
def wheelRight_L5_100009 : LS := ⟨100009, [], ⟨0, [], []⟩, [⟨some 9998, [(13, 13), (4, 4)], ⟨116, [(100, .v (.one (.b))), (14, .v (.one (.st 14 true))), (13, .v (.one (.ptr 13 0))), (4, .v (.one (.ptr 4 0))), (67, .v (.one (.st 14 true))), (15, .v (.one (.i .i64))), (68, .v (.one (.i .i64))), (69, .v (.one (.i .i64)))], [(13, .cellsG [.i .i64] 14 96), (4, .cellsG [.i .i64] 14 96)]⟩⟩], []⟩
def wheelRight_L5_100004 : LS := ⟨100004, [], ⟨0, [], []⟩, [⟨some 9998, [(13, 13), (4, 4)], ⟨116, [(66, .v (.one (.b))), (14, .v (.one (.st 14 true))), (13, .v (.one (.ptr 13 0))), (4, .v (.one (.ptr 4 0))), (15, .v (.one (.i .i64)))], [(13, .cellsG [.i .i64] 14 96), (4, .cellsG [.i .i64] 14 96)]⟩⟩], []⟩
def wheelRight_ap : List VP1 := [.aggG [.i .i64] 14 96, .one (.i .i64), .one (.i .i64), .one (.i .i64)]
def wheelRight_rp : SP := ⟨1, [(0, .v (.one (.b)))], []⟩
def wheelRight_tree : (Int × ((List (List TDue)) × (Int × (Int × (Int × Unit))))) → Tr (Bool × Unit) :=
  fun (a0, a1, a2, a3, a4, _) =>
  .grd (decide (obB (sameN (14 : Nat) (95 : Nat) a1) = (0 : Nat))) (
  .opt (β := (Int × ((List (List TDue)) × (Int × Unit)))) ((wSet_fn (a0, (a1, (a2, (a3, ())))))) (fun r0 =>
  .grd (decide (obB (sameN (14 : Nat) (95 : Nat) a1) = (0 : Nat))) (
  .opt (β := (Int × ((List (List TDue)) × (Int × Unit)))) ((wStop_fn (a0, (a1, (a2, ()))))) (fun r1 =>
  .grd (decide (obB (sameN (14 : Nat) (95 : Nat) a1) = (0 : Nat))) (
  .opt (β := (Int × ((List (List TDue)) × ((List TDue) × (Int × Unit))))) ((wTick_fn (a0, (a1, (a4, ()))))) (fun r2 =>
  .opt (β := (Bool × ((List TDue) × (Int × (Int × ((List (List TDue)) × (Int × ((List (List TDue)) × Unit)))))))) (Tr.eval (α := (Bool × ((List TDue) × (Int × (Int × ((List (List TDue)) × (Int × ((List (List TDue)) × Unit)))))))) (
    .opt (β := (Bool × Unit)) ((wLives_fn ())) (fun r3 =>
    .ite (!r3.1) (
     .grd (decide (obB (sameN (14 : Nat) (95 : Nat) r2.2.1) = (0 : Nat))) (
     .grd (decide (obB (sameN (14 : Nat) (95 : Nat) a1) = (0 : Nat))) (
     .ret (true, (r2.2.2.1, (r2.2.2.2.1, (r2.1, (r2.2.1, (a0, (a1, ())))))))))) (
     .ite (decide (r0.2.2.1 = (0 : Int))) (
      .grd (decide (obB (sameN (14 : Nat) (95 : Nat) r0.2.1) = (0 : Nat))) (
      .opt (β := (Int × Unit)) ((rRight_fn (r0.1, (r0.2.1, ())))) (fun r4 =>
      .ite (!decide (r4.1 = (0 : Int))) (
       .grd (decide (obB (sameN (14 : Nat) (95 : Nat) r2.2.1) = (0 : Nat))) (
       .grd (decide (obB (sameN (14 : Nat) (95 : Nat) a1) = (0 : Nat))) (
       .ret (true, (r2.2.2.1, (r2.2.2.2.1, (r2.1, (r2.2.1, (a0, (a1, ())))))))))) (
       .ite (decide (r1.2.2.1 = (0 : Int))) (
        .grd (decide (obB (sameN (14 : Nat) (95 : Nat) r1.2.1) = (0 : Nat))) (
        .opt (β := (Int × Unit)) ((rRight_fn (r1.1, (r1.2.1, ())))) (fun r5 =>
        .ite (!decide (r5.1 = (0 : Int))) (
         .grd (decide (obB (sameN (14 : Nat) (95 : Nat) r2.2.1) = (0 : Nat))) (
         .grd (decide (obB (sameN (14 : Nat) (95 : Nat) a1) = (0 : Nat))) (
         .ret (true, (r2.2.2.1, (r2.2.2.2.1, (r2.1, (r2.2.1, (a0, (a1, ())))))))))) (
         .ite (decide (r2.2.2.2.1 = (0 : Int))) (
          .grd (decide (obB (sameN (14 : Nat) (95 : Nat) r2.2.1) = (0 : Nat))) (
          .opt (β := (Int × Unit)) ((rRight_fn (r2.1, (r2.2.1, ())))) (fun r6 =>
          .grd (decide (obB (sameN (14 : Nat) (95 : Nat) r2.2.1) = (0 : Nat))) (
          .grd (decide (obB (sameN (14 : Nat) (95 : Nat) a1) = (0 : Nat))) (
          .ret (!decide (r6.1 = (0 : Int)), (r2.2.2.1, (r2.2.2.2.1, (r2.1, (r2.2.1, (a0, (a1, ())))))))))))) (
          .grd (decide (obB (sameN (14 : Nat) (95 : Nat) r2.2.1) = (0 : Nat))) (
          .grd (decide (obB (sameN (14 : Nat) (95 : Nat) a1) = (0 : Nat))) (
          .ret (false, (r2.2.2.1, (r2.2.2.2.1, (r2.1, (r2.2.1, (a0, (a1, ())))))))))))))) (
        .ite (decide (r2.2.2.2.1 = (0 : Int))) (
         .grd (decide (obB (sameN (14 : Nat) (95 : Nat) r2.2.1) = (0 : Nat))) (
         .opt (β := (Int × Unit)) ((rRight_fn (r2.1, (r2.2.1, ())))) (fun r5 =>
         .grd (decide (obB (sameN (14 : Nat) (95 : Nat) r2.2.1) = (0 : Nat))) (
         .grd (decide (obB (sameN (14 : Nat) (95 : Nat) a1) = (0 : Nat))) (
         .ret (!decide (r5.1 = (0 : Int)), (r2.2.2.1, (r2.2.2.2.1, (r2.1, (r2.2.1, (a0, (a1, ())))))))))))) (
         .grd (decide (obB (sameN (14 : Nat) (95 : Nat) r2.2.1) = (0 : Nat))) (
         .grd (decide (obB (sameN (14 : Nat) (95 : Nat) a1) = (0 : Nat))) (
         .ret (false, (r2.2.2.1, (r2.2.2.2.1, (r2.1, (r2.2.1, (a0, (a1, ()))))))))))))))) (
      .ite (decide (r1.2.2.1 = (0 : Int))) (
       .grd (decide (obB (sameN (14 : Nat) (95 : Nat) r1.2.1) = (0 : Nat))) (
       .opt (β := (Int × Unit)) ((rRight_fn (r1.1, (r1.2.1, ())))) (fun r4 =>
       .ite (!decide (r4.1 = (0 : Int))) (
        .grd (decide (obB (sameN (14 : Nat) (95 : Nat) r2.2.1) = (0 : Nat))) (
        .grd (decide (obB (sameN (14 : Nat) (95 : Nat) a1) = (0 : Nat))) (
        .ret (true, (r2.2.2.1, (r2.2.2.2.1, (r2.1, (r2.2.1, (a0, (a1, ())))))))))) (
        .ite (decide (r2.2.2.2.1 = (0 : Int))) (
         .grd (decide (obB (sameN (14 : Nat) (95 : Nat) r2.2.1) = (0 : Nat))) (
         .opt (β := (Int × Unit)) ((rRight_fn (r2.1, (r2.2.1, ())))) (fun r5 =>
         .grd (decide (obB (sameN (14 : Nat) (95 : Nat) r2.2.1) = (0 : Nat))) (
         .grd (decide (obB (sameN (14 : Nat) (95 : Nat) a1) = (0 : Nat))) (
         .ret (!decide (r5.1 = (0 : Int)), (r2.2.2.1, (r2.2.2.2.1, (r2.1, (r2.2.1, (a0, (a1, ())))))))))))) (
         .grd (decide (obB (sameN (14 : Nat) (95 : Nat) r2.2.1) = (0 : Nat))) (
         .grd (decide (obB (sameN (14 : Nat) (95 : Nat) a1) = (0 : Nat))) (
         .ret (false, (r2.2.2.1, (r2.2.2.2.1, (r2.1, (r2.2.1, (a0, (a1, ())))))))))))))) (
       .ite (decide (r2.2.2.2.1 = (0 : Int))) (
        .grd (decide (obB (sameN (14 : Nat) (95 : Nat) r2.2.1) = (0 : Nat))) (
        .opt (β := (Int × Unit)) ((rRight_fn (r2.1, (r2.2.1, ())))) (fun r4 =>
        .grd (decide (obB (sameN (14 : Nat) (95 : Nat) r2.2.1) = (0 : Nat))) (
        .grd (decide (obB (sameN (14 : Nat) (95 : Nat) a1) = (0 : Nat))) (
        .ret (!decide (r4.1 = (0 : Int)), (r2.2.2.1, (r2.2.2.2.1, (r2.1, (r2.2.1, (a0, (a1, ())))))))))))) (
        .grd (decide (obB (sameN (14 : Nat) (95 : Nat) r2.2.1) = (0 : Nat))) (
        .grd (decide (obB (sameN (14 : Nat) (95 : Nat) a1) = (0 : Nat))) (
        .ret (false, (r2.2.2.1, (r2.2.2.2.1, (r2.1, (r2.2.1, (a0, (a1, ())))))))))))))))) (fun r3 =>
  .ite (r3.1) (
   .ret (false, ())) (
   .grd (decide (obB (sameN (14 : Nat) (95 : Nat) r3.2.2.2.2.1) = (0 : Nat))) (
   .grd (decide (obB (sameN (14 : Nat) (95 : Nat) r3.2.2.2.2.2.2.1) = (0 : Nat))) (
   .opt (β := ((Bool × Unit) ⊕ ((List TDue) × (Int × (Int × ((List (List TDue)) × (Int × ((List (List TDue)) × Unit)))))))) ((wheelRight_loop5_7 ((0 : Int), (r3.2.1, (r3.2.1, (r3.2.2.1, ((↑(List.length r3.2.1) : Int), (r3.2.2.2.1, (r3.2.2.2.2.1, (r3.2.2.2.2.2.1, (r3.2.2.2.2.2.2.1, ()))))))))))) (fun r4 =>
   .sum (β := (Bool × Unit)) (γ := ((List TDue) × (Int × (Int × ((List (List TDue)) × (Int × ((List (List TDue)) × Unit))))))) (r4) (fun r5 =>
    .ret (r5.1, ())) (fun r5 =>
    .ite (!decide (r5.2.1 = (0 : Int))) (
     .ret (true, ())) (
     .grd (decide (obB (sameN (14 : Nat) (95 : Nat) r5.2.2.2.2.2.1) = (0 : Nat))) (
     .opt (β := ((List TDue) × Unit)) ((rAllDue_fn (r5.2.2.2.2.1, (r5.2.2.2.2.2.1, ())))) (fun r6 =>
     .grd (decide (obB (sameN (14 : Nat) (95 : Nat) r5.2.2.2.1) = (0 : Nat))) (
     .opt (β := ((List TDue) × Unit)) ((rAllDue_fn (r5.2.2.1, (r5.2.2.2.1, ())))) (fun r7 =>
     .ret (decide (IntKind.wrap IntKind.i64 ((↑(List.length r5.1) : Int) + (↑(List.length r6.1) : Int)) = (↑(List.length r7.1) : Int)), ()))))))))))))))))))
theorem wheelRight_eq (x : (Int × ((List (List TDue)) × (Int × (Int × (Int × Unit)))))) : fnTr Try.prog cod [FS.pf bLen64, FS.pf bLen, FS.pf wList, FS.pf wCount, FS.pf wFind, FS.pf wCheck, clOwn, GS.pf wOwn, GS.pf wPut, GS.pf wTurn, FS.pf wTick, GS.pf delDue, FS.pf wSet, FS.pf wStop, FS.pf betw, FS.pf rSame, FS.pf rListOf, FS.pf rAllDue, FS.pf rWheelOf, FS.pf rRight, FS.pf wLives] [(5, wheelRight_L5_7), (5, wheelRight_L5_100009), (5, wheelRight_L5_100004)] 30 5 wheelRight_ap wheelRight_rp x = wheelRight_tree x := by kernel_rfl
def wheelRight_fn (x : (Int × ((List (List TDue)) × (Int × (Int × (Int × Unit)))))) : Option (Bool × Unit) := (wheelRight_tree x).eval
def wheelRight : FS Try.prog := ⟨5, wheelRight_ap, wheelRight_rp, wheelRight_fn, fun x r h => fnTr_sound (cod := cod) (Γ := [FS.pf bLen64, FS.pf bLen, FS.pf wList, FS.pf wCount, FS.pf wFind, FS.pf wCheck, clOwn, GS.pf wOwn, GS.pf wPut, GS.pf wTurn, FS.pf wTick, GS.pf delDue, FS.pf wSet, FS.pf wStop, FS.pf betw, FS.pf rSame, FS.pf rListOf, FS.pf rAllDue, FS.pf rWheelOf, FS.pf rRight, FS.pf wLives]) (Λs := [(5, wheelRight_L5_7), (5, wheelRight_L5_100009), (5, wheelRight_L5_100004)]) (n := 30) ((congrArg Tr.eval (wheelRight_eq x)).trans h)⟩
def wheelCuts_L10_4 : LS := ⟨4, [], ⟨26, [(13, .v (.one (.i .i64))), (1, .v (.one (.st 14 false))), (0, .v (.one (.st 14 false))), (12, .v (.one (.i .i64)))], []⟩, [⟨none, [], ⟨26, [(4, .v (.one (.b)))], []⟩⟩, ⟨some 0, [], ⟨26, [], []⟩⟩], []⟩
def wheelCuts_step10_4 : (Int × ((List TDue) × ((List TDue) × (Int × Unit)))) → Tr ((Int × ((List TDue) × ((List TDue) × (Int × Unit)))) ⊕ ((Bool × Unit) ⊕ Unit)) :=
  fun (a0, a1, a2, a3, _) =>
  .ite (decide (a0 < a3)) (
   .grd (decide ((0 : Int) ≤ a0)) (
   .opt (β := TDue) (a2[Int.toNat a0]?) (fun r0 =>
   .grd (decide ((0 : Int) ≤ a0)) (
   .opt (β := TDue) (a1[Int.toNat a0]?) (fun r1 =>
   .ite (!(decide (r0.id = r1.id) && (decide (r0.at' = r1.at') && true))) (
    .ret (Sum.inr (Sum.inl (false, ())))) (
    .ret (Sum.inl (IntKind.wrap IntKind.i64 (a0 + (1 : Int)), (a1, (a2, (a3, ()))))))))))) (
   .ret (Sum.inr (Sum.inr ())))
def wheelCuts_loop10_4 (x : (Int × ((List TDue) × ((List TDue) × (Int × Unit))))) : Option ((Bool × Unit) ⊕ Unit) := loopO 100004 (fun x => (wheelCuts_step10_4 x).eval) 18446744073709551616 x
def wheelCuts_ap : List VP1 := [.aggG [.i .i64] 14 96, .one (.i .i64), .one (.i .i64)]
def wheelCuts_rp : SP := ⟨1, [(0, .v (.one (.b)))], []⟩
def wheelCuts_tree : (Int × ((List (List TDue)) × (Int × (Int × Unit)))) → Tr (Bool × Unit) :=
  fun (a0, a1, a2, a3, _) =>
  .grd (decide (obB (sameN (14 : Nat) (95 : Nat) a1) = (0 : Nat))) (
  .opt (β := (Int × ((List (List TDue)) × ((List TDue) × (Int × Unit))))) ((wTick_fn (a0, (a1, (a2, ()))))) (fun r0 =>
  .grd (decide (obB (sameN (14 : Nat) (95 : Nat) r0.2.1) = (0 : Nat))) (
  .opt (β := (Int × ((List (List TDue)) × ((List TDue) × (Int × Unit))))) ((wTick_fn (r0.1, (r0.2.1, (a3, ()))))) (fun r1 =>
  .opt (β := (Bool × Unit)) ((wLives_fn ())) (fun r2 =>
  .ite (!r2.1) (
   .opt (β := (Bool × Unit)) ((wLives_fn ())) (fun r3 =>
   .ret (r3.1, ()))) (
   .ite (!decide (r0.2.2.2.1 = (0 : Int))) (
    .opt (β := (Bool × Unit)) ((wLives_fn ())) (fun r3 =>
    .ret (r3.1, ()))) (
    .ite (!decide (r1.2.2.2.1 = (0 : Int))) (
     .opt (β := (Bool × Unit)) ((wLives_fn ())) (fun r3 =>
     .ret (r3.1, ()))) (
     .ite (decide ((10000 : Int) < IntKind.wrap IntKind.i64 (a2 + a3))) (
      .opt (β := (Bool × Unit)) ((wLives_fn ())) (fun r3 =>
      .ret (r3.1, ()))) (
      .grd (decide (obB (sameN (14 : Nat) (95 : Nat) a1) = (0 : Nat))) (
      .opt (β := (Int × ((List (List TDue)) × ((List TDue) × (Int × Unit))))) ((wTick_fn (a0, (a1, (IntKind.wrap IntKind.i64 (a2 + a3), ()))))) (fun r3 =>
      .ite (decide (r3.2.2.2.1 = (0 : Int))) (
       .grd (decide (obB (sameN (14 : Nat) (95 : Nat) r1.2.1) = (0 : Nat))) (
       .grd (decide (obB (sameN (14 : Nat) (95 : Nat) r3.2.1) = (0 : Nat))) (
       .opt (β := (Bool × Unit)) ((rSame_fn (r1.1, (r1.2.1, (r3.1, (r3.2.1, ())))))) (fun r4 =>
       .ite (r4.1) (
        .grd (decide (((0 : Nat) + List.length r0.2.2.1) * (16 : Nat) ≤ (140737488355328 : Nat) ∧ (0 : Nat) + List.length r0.2.2.1 ≤ (9223372036854775807 : Nat))) (
        .grd (decide ((List.length r0.2.2.1 + List.length r1.2.2.1) * (16 : Nat) ≤ (140737488355328 : Nat) ∧ List.length r0.2.2.1 + List.length r1.2.2.1 ≤ (9223372036854775807 : Nat))) (
        .ite (!decide ((↑(List.length r3.2.2.1) : Int) = (↑(List.length (r0.2.2.1 ++ r1.2.2.1)) : Int))) (
         .ret (false, ())) (
         .opt (β := ((Bool × Unit) ⊕ Unit)) ((wheelCuts_loop10_4 ((0 : Int), (r0.2.2.1 ++ r1.2.2.1, (r3.2.2.1, ((↑(List.length r3.2.2.1) : Int), ())))))) (fun r5 =>
         .sum (β := (Bool × Unit)) (γ := Unit) (r5) (fun r6 =>
          .ret (r6.1, ())) (fun r6 =>
          .ret (true, ()))))))) (
        .ret (false, ())))))) (
       .ret (false, ())))))))))))))
theorem wheelCuts_eq (x : (Int × ((List (List TDue)) × (Int × (Int × Unit))))) : fnTr Try.prog cod [FS.pf bLen64, FS.pf bLen, FS.pf wList, FS.pf wCount, FS.pf wFind, FS.pf wCheck, clOwn, GS.pf wOwn, GS.pf wPut, GS.pf wTurn, FS.pf wTick, GS.pf delDue, FS.pf wSet, FS.pf wStop, FS.pf betw, FS.pf rSame, FS.pf rListOf, FS.pf rAllDue, FS.pf rWheelOf, FS.pf rRight, FS.pf wLives, FS.pf wheelRight] [(10, wheelCuts_L10_4)] 30 3 wheelCuts_ap wheelCuts_rp x = wheelCuts_tree x := by kernel_rfl
def wheelCuts_fn (x : (Int × ((List (List TDue)) × (Int × (Int × Unit))))) : Option (Bool × Unit) := (wheelCuts_tree x).eval
def wheelCuts : FS Try.prog := ⟨3, wheelCuts_ap, wheelCuts_rp, wheelCuts_fn, fun x r h => fnTr_sound (cod := cod) (Γ := [FS.pf bLen64, FS.pf bLen, FS.pf wList, FS.pf wCount, FS.pf wFind, FS.pf wCheck, clOwn, GS.pf wOwn, GS.pf wPut, GS.pf wTurn, FS.pf wTick, GS.pf delDue, FS.pf wSet, FS.pf wStop, FS.pf betw, FS.pf rSame, FS.pf rListOf, FS.pf rAllDue, FS.pf rWheelOf, FS.pf rRight, FS.pf wLives, FS.pf wheelRight]) (Λs := [(10, wheelCuts_L10_4)]) (n := 30) ((congrArg Tr.eval (wheelCuts_eq x)).trans h)⟩
end Go.Proofs.Ytnhiilbmgkbbaaa.X
