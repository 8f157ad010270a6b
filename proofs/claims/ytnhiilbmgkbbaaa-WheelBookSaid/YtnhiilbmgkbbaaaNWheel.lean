/- Functions of the program, as trees (printed by a program of mine: tool/XTool, xg.py), each with the proof that the machine comes to what its tree says. Conditions: none. -/
import Derived.Test.YtnhiilbmgkbbaaaCod
import Derived.KernelRfl
import Derived.Test.YtnhiilbmgkbbaaaLWheel
namespace Go.Proofs.Ytnhiilbmgkbbaaa.X
open Go Go.RowKit Go.Proofs.Ytnhiilbmgkbbaaa.Abs
set_option maxRecDepth 100000
set_option linter.unusedVariables false
def wLives_L10_4 : LS := ⟨4, [], ⟨26, [(13, .v (.one (.i .i64))), (1, .v (.one (.st 14 false))), (0, .v (.one (.st 14 false))), (12, .v (.one (.i .i64)))], []⟩, [⟨none, [], ⟨26, [(4, .v (.one (.b)))], []⟩⟩, ⟨some 0, [], ⟨26, [], []⟩⟩], []⟩
def wLives_step10_4 : (Int × ((List TDue) × ((List TDue) × (Int × Unit)))) → Tr ((Int × ((List TDue) × ((List TDue) × (Int × Unit)))) ⊕ ((Bool × Unit) ⊕ Unit)) :=
  fun (a0, a1, a2, a3, _) =>
  .ite (decide (a0 < a3)) (
   .grd (decide ((0 : Int) ≤ a0)) (
   .opt (β := TDue) (a2[Int.toNat a0]?) (fun r0 =>
   .grd (decide ((0 : Int) ≤ a0)) (
   .opt (β := TDue) (a1[Int.toNat a0]?) (fun r1 =>
   .ite (!(decide (r0.id = r1.id) && (decide (r0.at' = r1.at') && true))) (
    .ret (Sum.inr (Sum.inl (false, ())))) (
    .ret (Sum.inl (IntKind.wrap IntKind.i64 (a0 + (1 : Int)), (a1, (a2, (a3, ()))))))))))) (
   .ret (Sum.inr (Sum.inr ())))
def wLives_loop10_4 (x : (Int × ((List TDue) × ((List TDue) × (Int × Unit))))) : Option ((Bool × Unit) ⊕ Unit) := loopO 100004 (fun x => (wLives_step10_4 x).eval) 18446744073709551616 x
def wLives_ap : List VP1 := []
def wLives_rp : SP := ⟨1, [(0, .v (.one (.b)))], []⟩
def wLives_tree : Unit → Tr (Bool × Unit) :=
  fun (_) =>
  .grd (true) (
  .opt (β := (Int × ((List (List TDue)) × (Int × Unit)))) ((wSet_fn ((14 : Int), (List.replicate (96 : Nat) [], ((7 : Int), ((17 : Int), ())))))) (fun r0 =>
  .grd (decide (obB (sameN (14 : Nat) (95 : Nat) r0.2.1) = (0 : Nat))) (
  .opt (β := (Int × ((List (List TDue)) × ((List TDue) × (Int × Unit))))) ((wTick_fn (r0.1, (r0.2.1, ((5 : Int), ()))))) (fun r1 =>
  .ite (decide (r0.2.2.1 = (0 : Int))) (
   .ite (decide (r1.2.2.2.1 = (0 : Int))) (
    .ite (decide (r1.1 = (19 : Int))) (
     .ite (!decide ((↑(List.length r1.2.2.1) : Int) = (↑(List.length [TDue.mk (7 : Int) (17 : Int)]) : Int))) (
      .ret (false, ())) (
      .opt (β := ((Bool × Unit) ⊕ Unit)) ((wLives_loop10_4 ((0 : Int), ([TDue.mk (7 : Int) (17 : Int)], (r1.2.2.1, ((↑(List.length r1.2.2.1) : Int), ())))))) (fun r2 =>
      .sum (β := (Bool × Unit)) (γ := Unit) (r2) (fun r3 =>
       .ret (r3.1, ())) (fun r3 =>
       .ret (true, ()))))) (
     .ret (false, ()))) (
    .ret (false, ()))) (
   .ret (false, ()))))))
theorem wLives_eq (x : Unit) : fnTr Try.prog cod [FS.pf bLen64, FS.pf bLen, FS.pf wList, FS.pf wCount, FS.pf wFind, FS.pf wCheck, clOwn, GS.pf wOwn, GS.pf wPut, GS.pf wTurn, FS.pf wTick, GS.pf delDue, FS.pf wSet, FS.pf wStop, FS.pf betw, FS.pf rSame, FS.pf rListOf, FS.pf rAllDue, FS.pf rWheelOf, FS.pf rRight] [(10, wLives_L10_4)] 30 8 wLives_ap wLives_rp x = wLives_tree x := by kernel_rfl
def wLives_fn (x : Unit) : Option (Bool × Unit) := (wLives_tree x).eval
def wLives : FS Try.prog := ⟨8, wLives_ap, wLives_rp, wLives_fn, fun x r h => fnTr_sound (cod := cod) (Γ := [FS.pf bLen64, FS.pf bLen, FS.pf wList, FS.pf wCount, FS.pf wFind, FS.pf wCheck, clOwn, GS.pf wOwn, GS.pf wPut, GS.pf wTurn, FS.pf wTick, GS.pf delDue, FS.pf wSet, FS.pf wStop, FS.pf betw, FS.pf rSame, FS.pf rListOf, FS.pf rAllDue, FS.pf rWheelOf, FS.pf rRight]) (Λs := [(10, wLives_L10_4)]) (n := 30) ((congrArg Tr.eval (wLives_eq x)).trans h)⟩
def ifDue_L17_2 : LS := ⟨2, [(1500100, 1500100), (1000200, 1000200)], ⟨19, [(8, .v (.one (.i .i64))), (0, .v (.one (.own 1500100))), (1, .v (.one (.clp 21 [(1000200, 0)]))), (7, .v (.one (.i .i64)))], [(1500100, .row 33 14 true true), (1000200, .cellsG [.i .i64] 14 96)]⟩, [⟨none, [(1000200, 1000200), (1500100, 1500100)], ⟨19, [(4, .v (.one (.i .i64)))], [(1000200, .cellsG [.i .i64] 14 96), (1500100, .row 33 14 true true)]⟩⟩, ⟨some 0, [(1500100, 1500100), (1000200, 1000200)], ⟨19, [], [(1500100, .row 33 14 true true), (1000200, .cellsG [.i .i64] 14 96)]⟩⟩], []⟩
def ifDue_step17_2 : (Int × (Int × ((List TDue) × (Int × ((List (List TDue)) × Unit))))) → Tr ((Int × (Int × ((List TDue) × (Int × ((List (List TDue)) × Unit))))) ⊕ ((Int × (Int × ((List (List TDue)) × ((List TDue) × Unit)))) ⊕ ((List TDue) × (Int × ((List (List TDue)) × Unit))))) :=
  fun (a0, a1, a2, a3, a4, _) =>
  .ite (decide (a0 < a1)) (
   .grd (decide ((0 : Int) ≤ a0 ∧ a0 < (↑(List.length a2) : Int))) (
   .opt (β := TDue) (a2[Int.toNat a0]?) (fun r0 =>
   .ite (decide (r0.at' ≤ a3)) (
    .grd (decide (obB (sameN (14 : Nat) (95 : Nat) a4) = (0 : Nat))) (
    .ret (Sum.inr (Sum.inl (a0, (a3, (a4, (a2, ())))))))) (
    .grd (decide (List.length a2 = List.length a2)) (
    .grd (decide (obB (sameN (14 : Nat) (95 : Nat) a4) = (0 : Nat))) (
    .ret (Sum.inl (IntKind.wrap IntKind.i64 (a0 + (1 : Int)), (a1, (a2, (a3, (a4, ())))))))))))) (
   .grd (decide (obB (sameN (14 : Nat) (95 : Nat) a4) = (0 : Nat))) (
   .ret (Sum.inr (Sum.inr (a2, (a3, (a4, ())))))))
def ifDue_loop17_2 (x : (Int × (Int × ((List TDue) × (Int × ((List (List TDue)) × Unit)))))) : Option ((Int × (Int × ((List (List TDue)) × ((List TDue) × Unit)))) ⊕ ((List TDue) × (Int × ((List (List TDue)) × Unit)))) := loopO 170002 (fun x => (ifDue_step17_2 x).eval) 18446744073709551616 x
def ifDue_ap : SP := ⟨19, [(0, .v (.one (.own 1500100))), (1, .v (.one (.clp 21 [(1000200, 0)])))], [(1000200, .cellsG [.i .i64] 14 96), (1500100, .row 33 14 true true)]⟩
def ifDue_rp : SP := ⟨1, [(0, .v (.one (.i .i64)))], [(1000200, .cellsG [.i .i64] 14 96), (1500100, .row 33 14 true true)]⟩
def ifDue_tree : (Int × ((List (List TDue)) × ((List TDue) × Unit))) → Tr (Int × (Int × ((List (List TDue)) × ((List TDue) × Unit)))) :=
  fun (a0, a1, a2, _) =>
  .grd (decide (List.length a2 = List.length a2)) (
  .grd (decide (obB (sameN (14 : Nat) (95 : Nat) a1) = (0 : Nat))) (
  .opt (β := ((Int × (Int × ((List (List TDue)) × ((List TDue) × Unit)))) ⊕ ((List TDue) × (Int × ((List (List TDue)) × Unit))))) ((ifDue_loop17_2 ((0 : Int), ((↑(List.length a2) : Int), (a2, (a0, (a1, ()))))))) (fun r0 =>
  .sum (β := (Int × (Int × ((List (List TDue)) × ((List TDue) × Unit))))) (γ := ((List TDue) × (Int × ((List (List TDue)) × Unit)))) (r0) (fun r1 =>
   .grd (decide (obB (sameN (14 : Nat) (95 : Nat) r1.2.2.1) = (0 : Nat))) (
   .ret (r1.1, (r1.2.1, (r1.2.2.1, (r1.2.2.2.1, ())))))) (fun r1 =>
   .grd (decide (obB (sameN (14 : Nat) (95 : Nat) r1.2.2.1) = (0 : Nat))) (
   .ret ((-1 : Int), (r1.2.1, (r1.2.2.1, (r1.1, ())))))))))
theorem ifDue_eq (x : (Int × ((List (List TDue)) × ((List TDue) × Unit)))) : gsTr Try.prog cod [FS.pf bLen64, FS.pf bLen, FS.pf wList, FS.pf wCount, FS.pf wFind, FS.pf wCheck, clOwn, GS.pf wOwn, GS.pf wPut, GS.pf wTurn, FS.pf wTick, GS.pf delDue, FS.pf wSet, FS.pf wStop, FS.pf betw, FS.pf rSame, FS.pf rListOf, FS.pf rAllDue, FS.pf rWheelOf, FS.pf rRight, FS.pf wLives] [(17, ifDue_L17_2)] 30 17 ifDue_ap ifDue_rp x = ifDue_tree x := by kernel_rfl
def ifDue_fn (x : (Int × ((List (List TDue)) × ((List TDue) × Unit)))) : Option (Int × (Int × ((List (List TDue)) × ((List TDue) × Unit)))) := (ifDue_tree x).eval
def ifDue : GS Try.prog := ⟨17, [2, 0], ifDue_ap, ifDue_rp, ifDue_fn, fun x r h ys m g he hg => gs_sound (cod := cod) (Γ := [FS.pf bLen64, FS.pf bLen, FS.pf wList, FS.pf wCount, FS.pf wFind, FS.pf wCheck, clOwn, GS.pf wOwn, GS.pf wPut, GS.pf wTurn, FS.pf wTick, GS.pf delDue, FS.pf wSet, FS.pf wStop, FS.pf betw, FS.pf rSame, FS.pf rListOf, FS.pf rAllDue, FS.pf rWheelOf, FS.pf rRight, FS.pf wLives]) (Λs := [(17, ifDue_L17_2)]) (n := 30) ((congrArg Tr.eval (ifDue_eq x)).trans h) he hg⟩
def dfDue_L20_5 : LS := ⟨5, [(1000100, 1000100), (1000200, 1000200)], ⟨42, [(6, .v (.one (.i .i64))), (5, .v (.one (.i .i64))), (0, .v (.one (.own 1000100))), (1, .v (.one (.clp 21 [(1000200, 0)])))], [(1000100, .row 33 14 true true), (1000200, .cellsG [.i .i64] 14 96)]⟩, [⟨some 0, [(1000100, 1000100), (1000200, 1000200)], ⟨42, [(5, .v (.one (.i .i64))), (0, .v (.one (.own 1000100)))], [(1000100, .row 33 14 true true), (1000200, .cellsG [.i .i64] 14 96)]⟩⟩], []⟩
def dfDue_step20_5 : (Int × (Int × ((List TDue) × (Int × ((List (List TDue)) × Unit))))) → Tr ((Int × (Int × ((List TDue) × (Int × ((List (List TDue)) × Unit))))) ⊕ (Int × ((List TDue) × (Int × ((List (List TDue)) × Unit))))) :=
  fun (a0, a1, a2, a3, a4, _) =>
  .ite (decide (a0 < (↑(List.length a2) : Int))) (
   .grd (decide ((0 : Int) ≤ a0 ∧ a0 < (↑(List.length a2) : Int))) (
   .opt (β := TDue) (a2[Int.toNat a0]?) (fun r0 =>
   .ite (!decide (r0.at' ≤ a3)) (
    .grd (decide ((0 : Int) ≤ a1 ∧ a1 < (↑(List.length a2) : Int))) (
    .opt (β := TDue) (a2[Int.toNat a1]?) (fun r1 =>
    .grd (decide (List.length a2 = List.length (List.set a2 (Int.toNat a1) (TDue.mk r0.id r0.at')))) (
    .grd (decide (obB (sameN (14 : Nat) (95 : Nat) a4) = (0 : Nat))) (
    .ret (Sum.inl (IntKind.wrap IntKind.i64 (a0 + (1 : Int)), (IntKind.wrap IntKind.i64 (a1 + (1 : Int)), (List.set a2 (Int.toNat a1) (TDue.mk r0.id r0.at'), (a3, (a4, ()))))))))))) (
    .grd (decide (List.length a2 = List.length a2)) (
    .grd (decide (obB (sameN (14 : Nat) (95 : Nat) a4) = (0 : Nat))) (
    .ret (Sum.inl (IntKind.wrap IntKind.i64 (a0 + (1 : Int)), (a1, (a2, (a3, (a4, ())))))))))))) (
   .grd (decide (List.length a2 = List.length a2)) (
   .grd (decide (obB (sameN (14 : Nat) (95 : Nat) a4) = (0 : Nat))) (
   .ret (Sum.inr (a1, (a2, (a3, (a4, ()))))))))
def dfDue_loop20_5 (x : (Int × (Int × ((List TDue) × (Int × ((List (List TDue)) × Unit)))))) : Option (Int × ((List TDue) × (Int × ((List (List TDue)) × Unit)))) := loopO 200005 (fun x => (dfDue_step20_5 x).eval) 18446744073709551616 x
def dfDue_ap : SP := ⟨42, [(0, .v (.one (.own 1000100))), (1, .v (.one (.clp 21 [(1000200, 0)])))], [(1000200, .cellsG [.i .i64] 14 96), (1000100, .row 33 14 true true)]⟩
def dfDue_rp : SP := ⟨1, [(0, .v (.one (.own 1000100)))], [(1000200, .cellsG [.i .i64] 14 96), (1000100, .row 33 14 true true)]⟩
def dfDue_tree : (Int × ((List (List TDue)) × ((List TDue) × Unit))) → Tr (Int × ((List (List TDue)) × ((List TDue) × Unit))) :=
  fun (a0, a1, a2, _) =>
  .grd (decide (List.length a2 = List.length a2)) (
  .grd (decide (obB (sameN (14 : Nat) (95 : Nat) a1) = (0 : Nat))) (
  .opt (β := (Int × (Int × ((List (List TDue)) × ((List TDue) × Unit))))) ((ifDue_fn (a0, (a1, (a2, ()))))) (fun r0 =>
  .ite (decide (r0.1 = (-1 : Int))) (
   .grd (decide (List.length a2 = List.length r0.2.2.2.1)) (
   .grd (decide (obB (sameN (14 : Nat) (95 : Nat) r0.2.2.1) = (0 : Nat))) (
   .ret (r0.2.1, (r0.2.2.1, (r0.2.2.2.1, ())))))) (
   .grd (decide (List.length a2 = List.length r0.2.2.2.1)) (
   .grd (decide (obB (sameN (14 : Nat) (95 : Nat) r0.2.2.1) = (0 : Nat))) (
   .opt (β := (Int × ((List TDue) × (Int × ((List (List TDue)) × Unit))))) ((dfDue_loop20_5 (IntKind.wrap IntKind.i64 (r0.1 + (1 : Int)), (r0.1, (r0.2.2.2.1, (r0.2.1, (r0.2.2.1, ()))))))) (fun r1 =>
   .grd (decide ((0 : Int) ≤ r1.1 ∧ r1.1 ≤ (↑(List.length r1.2.fst) : Int) ∧ (↑(List.length r1.2.fst) : Int) ≤ (↑(List.length r1.2.fst) : Int))) (
   .grd (decide (Int.toNat r1.1 + Int.toNat ((↑(List.length r1.2.fst) : Int) - r1.1) ≤ List.length r1.2.1)) (
   .grd (decide ((0 : Int) ≤ r1.1 ∧ r1.1 ≤ (↑(List.length r1.2.fst) : Int))) (
   .grd (decide (Int.toNat r1.1 = List.length (List.take (Int.toNat r1.1) (List.take (Int.toNat r1.1) r1.2.1 ++ List.replicate (Int.toNat ((↑(List.length r1.2.fst) : Int) - r1.1)) (TDue.mk (0 : Int) (0 : Int)) ++ List.drop (Int.toNat r1.1 + List.length (List.replicate (Int.toNat ((↑(List.length r1.2.fst) : Int) - r1.1)) (TDue.mk (0 : Int) (0 : Int)))) r1.2.1)))) (
   .grd (decide (obB (sameN (14 : Nat) (95 : Nat) r1.2.2.2.1) = (0 : Nat))) (
   .ret (r1.2.2.1, (r1.2.2.2.1, (List.take (Int.toNat r1.1) (List.take (Int.toNat r1.1) r1.2.1 ++ List.replicate (Int.toNat ((↑(List.length r1.2.fst) : Int) - r1.1)) (TDue.mk (0 : Int) (0 : Int)) ++ List.drop (Int.toNat r1.1 + List.length (List.replicate (Int.toNat ((↑(List.length r1.2.fst) : Int) - r1.1)) (TDue.mk (0 : Int) (0 : Int)))) r1.2.1), ())))))))))))))))
theorem dfDue_eq (x : (Int × ((List (List TDue)) × ((List TDue) × Unit)))) : gsTr Try.prog cod [FS.pf bLen64, FS.pf bLen, FS.pf wList, FS.pf wCount, FS.pf wFind, FS.pf wCheck, clOwn, GS.pf wOwn, GS.pf wPut, GS.pf wTurn, FS.pf wTick, GS.pf delDue, FS.pf wSet, FS.pf wStop, FS.pf betw, FS.pf rSame, FS.pf rListOf, FS.pf rAllDue, FS.pf rWheelOf, FS.pf rRight, FS.pf wLives, GS.pf ifDue] [(20, dfDue_L20_5)] 30 20 dfDue_ap dfDue_rp x = dfDue_tree x := by kernel_rfl
def dfDue_fn (x : (Int × ((List (List TDue)) × ((List TDue) × Unit)))) : Option (Int × ((List (List TDue)) × ((List TDue) × Unit))) := (dfDue_tree x).eval
def dfDue : GS Try.prog := ⟨20, [1, 0], dfDue_ap, dfDue_rp, dfDue_fn, fun x r h ys m g he hg => gs_sound (cod := cod) (Γ := [FS.pf bLen64, FS.pf bLen, FS.pf wList, FS.pf wCount, FS.pf wFind, FS.pf wCheck, clOwn, GS.pf wOwn, GS.pf wPut, GS.pf wTurn, FS.pf wTick, GS.pf delDue, FS.pf wSet, FS.pf wStop, FS.pf betw, FS.pf rSame, FS.pf rListOf, FS.pf rAllDue, FS.pf rWheelOf, FS.pf rRight, FS.pf wLives, GS.pf ifDue]) (Λs := [(20, dfDue_L20_5)]) (n := 30) ((congrArg Tr.eval (dfDue_eq x)).trans h) he hg⟩
def wheelBook_L10_4 : LS := ⟨4, [], ⟨26, [(13, .v (.one (.i .i64))), (1, .v (.one (.st 14 false))), (0, .v (.one (.st 14 false))), (12, .v (.one (.i .i64)))], []⟩, [⟨none, [], ⟨26, [(4, .v (.one (.b)))], []⟩⟩, ⟨some 0, [], ⟨26, [], []⟩⟩], []⟩
def wheelBook_step10_4 : (Int × ((List TDue) × ((List TDue) × (Int × Unit)))) → Tr ((Int × ((List TDue) × ((List TDue) × (Int × Unit)))) ⊕ ((Bool × Unit) ⊕ Unit)) :=
  fun (a0, a1, a2, a3, _) =>
  .ite (decide (a0 < a3)) (
   .grd (decide ((0 : Int) ≤ a0)) (
   .opt (β := TDue) (a2[Int.toNat a0]?) (fun r0 =>
   .grd (decide ((0 : Int) ≤ a0)) (
   .opt (β := TDue) (a1[Int.toNat a0]?) (fun r1 =>
   .ite (!(decide (r0.id = r1.id) && (decide (r0.at' = r1.at') && true))) (
    .ret (Sum.inr (Sum.inl (false, ())))) (
    .ret (Sum.inl (IntKind.wrap IntKind.i64 (a0 + (1 : Int)), (a1, (a2, (a3, ()))))))))))) (
   .ret (Sum.inr (Sum.inr ())))
def wheelBook_loop10_4 (x : (Int × ((List TDue) × ((List TDue) × (Int × Unit))))) : Option ((Bool × Unit) ⊕ Unit) := loopO 100004 (fun x => (wheelBook_step10_4 x).eval) 18446744073709551616 x
def wheelBook_L6_32 : LS := ⟨32, [(23, 23), (10, 10), (9, 9), (20, 20)], ⟨179, [(146, .v (.one (.i .i64))), (23, .v (.one (.own 23))), (24, .v (.one (.i .i64))), (144, .v (.one (.own 10))), (10, .v (.one (.own 10))), (9, .v (.one (.ptr 9 0))), (3, .v (.one (.st 0 false))), (2, .v (.one (.st 0 false))), (42, .v (.one (.st 0 false))), (43, .v (.one (.i .i64))), (44, .v (.one (.i .i64))), (20, .v (.one (.ptr 20 0))), (21, .v (.one (.st 14 true))), (14, .v (.one (.i .i64))), (145, .v (.one (.i .i64)))], [(23, .row 33 14 true true), (10, .row 33 14 true true), (9, .cellsG [.i .i64] 14 96), (20, .cellsG [.i .i64] 14 96)]⟩, [⟨some 4, [(23, 23), (10, 10), (9, 9), (20, 20)], ⟨179, [(23, .v (.one (.own 23))), (10, .v (.one (.own 10))), (9, .v (.one (.ptr 9 0))), (3, .v (.one (.st 0 false))), (2, .v (.one (.st 0 false))), (42, .v (.one (.st 0 false))), (43, .v (.one (.i .i64))), (44, .v (.one (.i .i64))), (20, .v (.one (.ptr 20 0))), (21, .v (.one (.st 14 true))), (14, .v (.one (.i .i64))), (24, .v (.one (.i .i64)))], [(23, .row 33 14 true true), (10, .row 33 14 true true), (9, .cellsG [.i .i64] 14 96), (20, .cellsG [.i .i64] 14 96)]⟩⟩], []⟩
def wheelBook_step6_32 : (Int × (Int × ((List Int) × ((List Int) × ((List Int) × (Int × (Int × ((List TDue) × (Int × (Int × ((List TDue) × ((List TDue) × (Int × ((List (List TDue)) × (Int × ((List (List TDue)) × Unit)))))))))))))))) → Tr ((Int × (Int × ((List Int) × ((List Int) × ((List Int) × (Int × (Int × ((List TDue) × (Int × (Int × ((List TDue) × ((List TDue) × (Int × ((List (List TDue)) × (Int × ((List (List TDue)) × Unit)))))))))))))))) ⊕ ((List Int) × ((List Int) × ((List Int) × (Int × (Int × ((List TDue) × (Int × (Int × ((List TDue) × ((List TDue) × (Int × ((List (List TDue)) × (Int × ((List (List TDue)) × Unit))))))))))))))) :=
  fun (a0, a1, a2, a3, a4, a5, a6, a7, a8, a9, a10, a11, a12, a13, a14, a15, _) =>
  .ite (decide (a0 < a9)) (
   .grd (decide ((0 : Int) ≤ a0 ∧ a0 < (↑(List.length a11) : Int))) (
   .opt (β := TDue) (a11[Int.toNat a0]?) (fun r0 =>
   .ite (decide (r0.at' = a1)) (
    .grd (decide ((List.length a10 + List.length [TDue.mk r0.id r0.at']) * (16 : Nat) ≤ (140737488355328 : Nat) ∧ List.length a10 + List.length [TDue.mk r0.id r0.at'] ≤ (9223372036854775807 : Nat))) (
    .grd (decide (List.length (a10 ++ [TDue.mk r0.id r0.at']) = List.length (a10 ++ [TDue.mk r0.id r0.at']))) (
    .grd (decide (List.length a11 = List.length a11)) (
    .grd (decide (List.length a11 = List.length a11)) (
    .grd (decide (obB (sameN (14 : Nat) (95 : Nat) a13) = (0 : Nat))) (
    .grd (decide (obB (sameN (14 : Nat) (95 : Nat) a15) = (0 : Nat))) (
    .ret (Sum.inl (IntKind.wrap IntKind.i64 (a0 + (1 : Int)), (a1, (a2, (a3, (a4, (a5, (a6, (a7, (a8, (a9, (a10 ++ [TDue.mk r0.id r0.at'], (a11, (a12, (a13, (a14, (a15, ())))))))))))))))))))))))) (
    .grd (decide (List.length a10 = List.length a10)) (
    .grd (decide (List.length a11 = List.length a11)) (
    .grd (decide (List.length a11 = List.length a11)) (
    .grd (decide (obB (sameN (14 : Nat) (95 : Nat) a13) = (0 : Nat))) (
    .grd (decide (obB (sameN (14 : Nat) (95 : Nat) a15) = (0 : Nat))) (
    .ret (Sum.inl (IntKind.wrap IntKind.i64 (a0 + (1 : Int)), (a1, (a2, (a3, (a4, (a5, (a6, (a7, (a8, (a9, (a10, (a11, (a12, (a13, (a14, (a15, ())))))))))))))))))))))))))) (
   .grd (decide (List.length a10 = List.length a10)) (
   .grd (decide (List.length a11 = List.length a11)) (
   .grd (decide (obB (sameN (14 : Nat) (95 : Nat) a13) = (0 : Nat))) (
   .grd (decide (obB (sameN (14 : Nat) (95 : Nat) a15) = (0 : Nat))) (
   .ret (Sum.inr (a2, (a3, (a4, (a5, (a6, (a7, (a8, (a1, (a10, (a11, (a12, (a13, (a14, (a15, ()))))))))))))))))))))
def wheelBook_loop6_32 (x : (Int × (Int × ((List Int) × ((List Int) × ((List Int) × (Int × (Int × ((List TDue) × (Int × (Int × ((List TDue) × ((List TDue) × (Int × ((List (List TDue)) × (Int × ((List (List TDue)) × Unit))))))))))))))))) : Option ((List Int) × ((List Int) × ((List Int) × (Int × (Int × ((List TDue) × (Int × (Int × ((List TDue) × ((List TDue) × (Int × ((List (List TDue)) × (Int × ((List (List TDue)) × Unit)))))))))))))) := loopO 60032 (fun x => (wheelBook_step6_32 x).eval) 18446744073709551616 x
def wheelBook_L6_29 : LS := ⟨29, [(23, 23), (10, 10), (9, 9), (20, 20)], ⟨179, [(23, .v (.one (.own 23))), (24, .v (.one (.i .i64))), (10, .v (.one (.own 10))), (9, .v (.one (.ptr 9 0))), (3, .v (.one (.st 0 false))), (2, .v (.one (.st 0 false))), (42, .v (.one (.st 0 false))), (43, .v (.one (.i .i64))), (44, .v (.one (.i .i64))), (20, .v (.one (.ptr 20 0))), (21, .v (.one (.st 14 true))), (14, .v (.one (.i .i64)))], [(23, .row 33 14 true true), (10, .row 33 14 true true), (9, .cellsG [.i .i64] 14 96), (20, .cellsG [.i .i64] 14 96)]⟩, [⟨some 2, [(9, 9), (10, 10), (20, 20), (23, 23)], ⟨179, [(9, .v (.one (.ptr 9 0))), (3, .v (.one (.st 0 false))), (2, .v (.one (.st 0 false))), (42, .v (.one (.st 0 false))), (43, .v (.one (.i .i64))), (44, .v (.one (.i .i64))), (10, .v (.one (.own 10))), (20, .v (.one (.ptr 20 0))), (23, .v (.one (.own 23))), (21, .v (.one (.st 14 true)))], [(9, .cellsG [.i .i64] 14 96), (10, .row 33 14 true true), (20, .cellsG [.i .i64] 14 96), (23, .row 33 14 true true)]⟩⟩], [(23, 33, 14)]⟩
def wheelBook_step6_29 : (Int × ((List Int) × ((List Int) × ((List Int) × (Int × (Int × ((List TDue) × (Int × ((List TDue) × ((List TDue) × (Int × ((List (List TDue)) × (Int × ((List (List TDue)) × Unit)))))))))))))) → Tr ((Int × ((List Int) × ((List Int) × ((List Int) × (Int × (Int × ((List TDue) × (Int × ((List TDue) × ((List TDue) × (Int × ((List (List TDue)) × (Int × ((List (List TDue)) × Unit)))))))))))))) ⊕ ((List Int) × ((List Int) × ((List Int) × (Int × (Int × ((List TDue) × (Int × ((List (List TDue)) × ((List TDue) × (Int × ((List (List TDue)) × ((List TDue) × Unit))))))))))))) :=
  fun (a0, a1, a2, a3, a4, a5, a6, a7, a8, a9, a10, a11, a12, a13, _) =>
  .ite (decide (a0 ≤ IntKind.wrap IntKind.i64 (a10 + a7))) (
   .ite (decide ((↑(List.length a8) : Int) < (↑(List.length a9) : Int))) (
    .grd (decide (List.length a8 = List.length a8)) (
    .grd (decide (List.length a9 = List.length a9)) (
    .grd (decide (List.length a9 = List.length a9)) (
    .grd (decide (obB (sameN (14 : Nat) (95 : Nat) a11) = (0 : Nat))) (
    .grd (decide (obB (sameN (14 : Nat) (95 : Nat) a13) = (0 : Nat))) (
    .opt (β := ((List Int) × ((List Int) × ((List Int) × (Int × (Int × ((List TDue) × (Int × (Int × ((List TDue) × ((List TDue) × (Int × ((List (List TDue)) × (Int × ((List (List TDue)) × Unit))))))))))))))) ((wheelBook_loop6_32 ((0 : Int), (a0, (a1, (a2, (a3, (a4, (a5, (a6, (a7, ((↑(List.length a9) : Int), (a8, (a9, (a10, (a11, (a12, (a13, ())))))))))))))))))) (fun r0 =>
    .grd (decide (List.length r0.2.2.2.2.2.2.2.2.fst = List.length r0.2.2.2.2.2.2.2.2.1)) (
    .grd (decide (List.length r0.2.2.2.2.2.2.2.2.2.fst = List.length r0.2.2.2.2.2.2.2.2.2.1)) (
    .grd (decide (obB (sameN (14 : Nat) (95 : Nat) r0.2.2.2.2.2.2.2.2.2.2.2.1) = (0 : Nat))) (
    .grd (decide (obB (sameN (14 : Nat) (95 : Nat) r0.2.2.2.2.2.2.2.2.2.2.2.2.2.1) = (0 : Nat))) (
    .ret (Sum.inl (IntKind.wrap IntKind.i64 (r0.2.2.2.2.2.2.2.1 + (1 : Int)), (r0.1, (r0.2.1, (r0.2.2.1, (r0.2.2.2.1, (r0.2.2.2.2.1, (r0.2.2.2.2.2.1, (r0.2.2.2.2.2.2.1, (r0.2.2.2.2.2.2.2.2.1, (r0.2.2.2.2.2.2.2.2.2.1, (r0.2.2.2.2.2.2.2.2.2.2.1, (r0.2.2.2.2.2.2.2.2.2.2.2.1, (r0.2.2.2.2.2.2.2.2.2.2.2.2.1, (r0.2.2.2.2.2.2.2.2.2.2.2.2.2.1, ())))))))))))))))))))))))))) (
    .grd (decide (List.length a9 = List.length a9)) (
    .grd (decide (List.length a8 = List.length a8)) (
    .grd (decide (obB (sameN (14 : Nat) (95 : Nat) a11) = (0 : Nat))) (
    .grd (decide (obB (sameN (14 : Nat) (95 : Nat) a13) = (0 : Nat))) (
    .ret (Sum.inr (a1, (a2, (a3, (a4, (a5, (a6, (a10, (a11, (a9, (a12, (a13, (a8, ()))))))))))))))))))) (
   .grd (decide (List.length a9 = List.length a9)) (
   .grd (decide (List.length a8 = List.length a8)) (
   .grd (decide (obB (sameN (14 : Nat) (95 : Nat) a11) = (0 : Nat))) (
   .grd (decide (obB (sameN (14 : Nat) (95 : Nat) a13) = (0 : Nat))) (
   .ret (Sum.inr (a1, (a2, (a3, (a4, (a5, (a6, (a10, (a11, (a9, (a12, (a13, (a8, ()))))))))))))))))))
def wheelBook_loop6_29 (x : (Int × ((List Int) × ((List Int) × ((List Int) × (Int × (Int × ((List TDue) × (Int × ((List TDue) × ((List TDue) × (Int × ((List (List TDue)) × (Int × ((List (List TDue)) × Unit))))))))))))))) : Option ((List Int) × ((List Int) × ((List Int) × (Int × (Int × ((List TDue) × (Int × ((List (List TDue)) × ((List TDue) × (Int × ((List (List TDue)) × ((List TDue) × Unit)))))))))))) := loopO 60029 (fun x => (wheelBook_step6_29 x).eval) 18446744073709551616 x
def wheelBook_L17_2 : LS := ⟨2, [(1500100, 1500100), (1000200, 1000200)], ⟨19, [(8, .v (.one (.i .i64))), (0, .v (.one (.own 1500100))), (1, .v (.one (.clp 18 [(1000200, 0)]))), (7, .v (.one (.i .i64)))], [(1500100, .row 33 14 true true), (1000200, .cells [.i .i64])]⟩, [⟨none, [(1000200, 1000200), (1500100, 1500100)], ⟨19, [(4, .v (.one (.i .i64)))], [(1000200, .cells [.i .i64]), (1500100, .row 33 14 true true)]⟩⟩, ⟨some 0, [(1500100, 1500100), (1000200, 1000200)], ⟨19, [], [(1500100, .row 33 14 true true), (1000200, .cells [.i .i64])]⟩⟩], []⟩
def wheelBook_step17_2 : (Int × (Int × ((List TDue) × (Int × Unit)))) → Tr ((Int × (Int × ((List TDue) × (Int × Unit)))) ⊕ ((Int × (Int × ((List TDue) × Unit))) ⊕ ((List TDue) × (Int × Unit)))) :=
  fun (a0, a1, a2, a3, _) =>
  .ite (decide (a0 < a1)) (
   .grd (decide ((0 : Int) ≤ a0 ∧ a0 < (↑(List.length a2) : Int))) (
   .opt (β := TDue) (a2[Int.toNat a0]?) (fun r0 =>
   .ite (decide (r0.id = a3)) (
    .ret (Sum.inr (Sum.inl (a0, (a3, (a2, ())))))) (
    .grd (decide (List.length a2 = List.length a2)) (
    .ret (Sum.inl (IntKind.wrap IntKind.i64 (a0 + (1 : Int)), (a1, (a2, (a3, ())))))))))) (
   .ret (Sum.inr (Sum.inr (a2, (a3, ())))))
def wheelBook_loop17_2 (x : (Int × (Int × ((List TDue) × (Int × Unit))))) : Option ((Int × (Int × ((List TDue) × Unit))) ⊕ ((List TDue) × (Int × Unit))) := loopO 170002 (fun x => (wheelBook_step17_2 x).eval) 18446744073709551616 x
def wheelBook_L6_6 : LS := ⟨6, [(9, 9), (10, 10)], ⟨179, [(9, .v (.one (.ptr 9 0))), (44, .v (.one (.i .i64))), (10, .v (.one (.own 10))), (3, .v (.one (.st 0 false))), (2, .v (.one (.st 0 false))), (42, .v (.one (.st 0 false))), (43, .v (.one (.i .i64)))], [(9, .cellsG [.i .i64] 14 96), (10, .row 33 14 true true)]⟩, [⟨none, [], ⟨179, [(8, .v (.one (.b)))], []⟩⟩, ⟨some 0, [(10, 10), (9, 9)], ⟨179, [(10, .v (.one (.own 10))), (9, .v (.one (.ptr 9 0)))], [(10, .row 33 14 true true), (9, .cellsG [.i .i64] 14 96)]⟩⟩], [(10, 33, 14)]⟩
def wheelBook_step6_6 : (Int × ((List Int) × ((List Int) × ((List Int) × (Int × (Int × ((List (List TDue)) × ((List TDue) × Unit)))))))) → Tr ((Int × ((List Int) × ((List Int) × ((List Int) × (Int × (Int × ((List (List TDue)) × ((List TDue) × Unit)))))))) ⊕ ((Bool × Unit) ⊕ ((List TDue) × (Int × ((List (List TDue)) × Unit))))) :=
  fun (a0, a1, a2, a3, a4, a5, a6, a7, _) =>
  .ite (decide (a0 < a4)) (
   .grd (decide ((0 : Int) ≤ a0)) (
   .opt (β := Int) (a3[Int.toNat a0]?) (fun r0 =>
   .opt (β := ((List Int) × ((List Int) × ((List Int) × (Int × (Int × (Int × (Int × (Int × (Int × ((List (List TDue)) × ((List TDue) × (Int × Unit))))))))))))) (Tr.eval (α := ((List Int) × ((List Int) × ((List Int) × (Int × (Int × (Int × (Int × (Int × (Int × ((List (List TDue)) × ((List TDue) × (Int × Unit))))))))))))) (
     .ite (decide (a0 < (↑(List.length a2) : Int))) (
      .grd (decide ((0 : Int) ≤ a0)) (
      .opt (β := Int) (a2[Int.toNat a0]?) (fun r1 =>
      .grd (decide (List.length a7 = List.length a7)) (
      .grd (decide (obB (sameN (14 : Nat) (95 : Nat) a6) = (0 : Nat))) (
      .ret (a1, (a2, (a3, (a4, (a0, (IntKind.wrap IntKind.i64 (a5 + if false = true then if (if true = true then if (8388608 : Int) < r1 then (8388608 : Int) else r1 else if (8388608 : Int) > r1 then (8388608 : Int) else r1) < (1 : Int) then if true = true then if (8388608 : Int) < r1 then (8388608 : Int) else r1 else if (8388608 : Int) > r1 then (8388608 : Int) else r1 else (1 : Int) else if (if true = true then if (8388608 : Int) < r1 then (8388608 : Int) else r1 else if (8388608 : Int) > r1 then (8388608 : Int) else r1) > (1 : Int) then if true = true then if (8388608 : Int) < r1 then (8388608 : Int) else r1 else if (8388608 : Int) > r1 then (8388608 : Int) else r1 else (1 : Int)), (a0, ((0 : Int), (a5, (a6, (a7, (r0, ()))))))))))))))))) (
      .grd (decide (List.length a7 = List.length a7)) (
      .grd (decide (obB (sameN (14 : Nat) (95 : Nat) a6) = (0 : Nat))) (
      .ret (a1, (a2, (a3, (a4, (a0, (IntKind.wrap IntKind.i64 (a5 + (1 : Int)), (a0, ((0 : Int), (a5, (a6, (a7, (r0, ()))))))))))))))))) (fun r1 =>
   .opt (β := (Int × ((List Int) × ((List Int) × ((List Int) × (Int × (Int × (Int × (Int × ((List (List TDue)) × ((List TDue) × (Int × Unit)))))))))))) (Tr.eval (α := (Int × ((List Int) × ((List Int) × ((List Int) × (Int × (Int × (Int × (Int × ((List (List TDue)) × ((List TDue) × (Int × Unit)))))))))))) (
     .ite (decide (r1.2.2.2.2.2.2.1 < (↑(List.length r1.1) : Int))) (
      .grd (decide ((0 : Int) ≤ r1.2.2.2.2.2.2.1)) (
      .opt (β := Int) (r1.1[Int.toNat r1.2.2.2.2.2.2.1]?) (fun r2 =>
      .grd (decide (List.length r1.2.2.2.2.2.2.2.2.2.2.fst = List.length r1.2.2.2.2.2.2.2.2.2.2.1)) (
      .grd (decide (obB (sameN (14 : Nat) (95 : Nat) r1.2.2.2.2.2.2.2.2.2.1) = (0 : Nat))) (
      .ret (if false = true then if (if true = true then if (10000 : Int) < r2 then (10000 : Int) else r2 else if (10000 : Int) > r2 then (10000 : Int) else r2) < (0 : Int) then if true = true then if (10000 : Int) < r2 then (10000 : Int) else r2 else if (10000 : Int) > r2 then (10000 : Int) else r2 else (0 : Int) else if (if true = true then if (10000 : Int) < r2 then (10000 : Int) else r2 else if (10000 : Int) > r2 then (10000 : Int) else r2) > (0 : Int) then if true = true then if (10000 : Int) < r2 then (10000 : Int) else r2 else if (10000 : Int) > r2 then (10000 : Int) else r2 else (0 : Int), (r1.1, (r1.2.1, (r1.2.2.1, (r1.2.2.2.1, (r1.2.2.2.2.1, (r1.2.2.2.2.2.1, (r1.2.2.2.2.2.2.2.2.1, (r1.2.2.2.2.2.2.2.2.2.1, (r1.2.2.2.2.2.2.2.2.2.2.1, (r1.2.2.2.2.2.2.2.2.2.2.2.1, ())))))))))))))))) (
      .grd (decide (List.length r1.2.2.2.2.2.2.2.2.2.2.fst = List.length r1.2.2.2.2.2.2.2.2.2.2.1)) (
      .grd (decide (obB (sameN (14 : Nat) (95 : Nat) r1.2.2.2.2.2.2.2.2.2.1) = (0 : Nat))) (
      .ret (r1.2.2.2.2.2.2.2.1, (r1.1, (r1.2.1, (r1.2.2.1, (r1.2.2.2.1, (r1.2.2.2.2.1, (r1.2.2.2.2.2.1, (r1.2.2.2.2.2.2.2.2.1, (r1.2.2.2.2.2.2.2.2.2.1, (r1.2.2.2.2.2.2.2.2.2.2.1, (r1.2.2.2.2.2.2.2.2.2.2.2.1, ())))))))))))))))) (fun r2 =>
   .opt (β := (Int × ((List Int) × ((List Int) × ((List Int) × (Int × (Int × (Int × (Int × (Int × ((List (List TDue)) × ((List TDue) × (Int × Unit))))))))))))) (Tr.eval (α := (Int × ((List Int) × ((List Int) × ((List Int) × (Int × (Int × (Int × (Int × (Int × ((List (List TDue)) × ((List TDue) × (Int × Unit))))))))))))) (
     .grd (decide (List.length r2.2.2.2.2.2.2.2.2.2.fst = List.length r2.2.2.2.2.2.2.2.2.2.1)) (
     .opt (β := ((Int × (Int × ((List TDue) × Unit))) ⊕ ((List TDue) × (Int × Unit)))) ((wheelBook_loop17_2 ((0 : Int), ((↑(List.length r2.2.2.2.2.2.2.2.2.2.fst) : Int), (r2.2.2.2.2.2.2.2.2.2.1, (r2.2.2.2.2.2.2.2.2.2.2.1, ())))))) (fun r3 =>
     .sum (β := (Int × (Int × ((List TDue) × Unit)))) (γ := ((List TDue) × (Int × Unit))) (r3) (fun r4 =>
      .grd (decide (List.length r2.2.2.2.2.2.2.2.2.2.fst = List.length r4.2.2.1)) (
      .grd (decide (obB (sameN (14 : Nat) (95 : Nat) r2.2.2.2.2.2.2.2.2.1) = (0 : Nat))) (
      .ret (r2.1, (r2.2.1, (r2.2.2.1, (r2.2.2.2.1, (r2.2.2.2.2.1, (r2.2.2.2.2.2.1, (r4.1, (r2.2.2.2.2.2.2.1, (r2.2.2.2.2.2.2.2.1, (r2.2.2.2.2.2.2.2.2.1, (r4.2.2.1, (r4.2.1, ()))))))))))))))) (fun r4 =>
      .grd (decide (List.length r2.2.2.2.2.2.2.2.2.2.fst = List.length r4.1)) (
      .grd (decide (obB (sameN (14 : Nat) (95 : Nat) r2.2.2.2.2.2.2.2.2.1) = (0 : Nat))) (
      .ret (r2.1, (r2.2.1, (r2.2.2.1, (r2.2.2.2.1, (r2.2.2.2.2.1, (r2.2.2.2.2.2.1, ((-1 : Int), (r2.2.2.2.2.2.2.1, (r2.2.2.2.2.2.2.2.1, (r2.2.2.2.2.2.2.2.2.1, (r4.1, (r4.2.1, ()))))))))))))))))))) (fun r3 =>
   .opt (β := ((Bool × Unit) ⊕ (Int × ((List Int) × ((List Int) × ((List Int) × (Int × (Int × (Int × ((List (List TDue)) × ((List TDue) × Unit))))))))))) (Tr.eval (α := ((Bool × Unit) ⊕ (Int × ((List Int) × ((List Int) × ((List Int) × (Int × (Int × (Int × ((List (List TDue)) × ((List TDue) × Unit))))))))))) (
     .ite (decide ((0 : Int) ≤ r3.2.2.2.2.2.2.1)) (
      .grd (decide (obB (sameN (14 : Nat) (95 : Nat) r3.2.2.2.2.2.2.2.2.2.1) = (0 : Nat))) (
      .opt (β := (Int × ((List (List TDue)) × (Int × Unit)))) ((wStop_fn (r3.2.2.2.2.2.2.2.2.1, (r3.2.2.2.2.2.2.2.2.2.1, (r3.2.2.2.2.2.2.2.2.2.2.2.1, ()))))) (fun r4 =>
      .ite (!decide (r4.2.2.1 = (0 : Int))) (
       .ret (Sum.inl (false, ()))) (
       .grd (decide (List.length r3.2.2.2.2.2.2.2.2.2.2.fst = List.length r3.2.2.2.2.2.2.2.2.2.2.1)) (
       .opt (β := ((List TDue) × Unit)) ((delDue_fn (r3.2.2.2.2.2.2.1, (IntKind.wrap IntKind.i64 (r3.2.2.2.2.2.2.1 + (1 : Int)), (r3.2.2.2.2.2.2.2.2.2.2.1, ()))))) (fun r5 =>
       .grd (decide (List.length r5.fst = List.length r5.1)) (
       .grd (decide (obB (sameN (14 : Nat) (95 : Nat) r4.2.1) = (0 : Nat))) (
       .ret (Sum.inr (r3.1, (r3.2.1, (r3.2.2.1, (r3.2.2.2.1, (r3.2.2.2.2.1, (r3.2.2.2.2.2.1, (r4.1, (r4.2.1, (r5.1, ())))))))))))))))))) (
      .grd (decide (obB (sameN (14 : Nat) (95 : Nat) r3.2.2.2.2.2.2.2.2.2.1) = (0 : Nat))) (
      .opt (β := (Int × ((List (List TDue)) × (Int × Unit)))) ((wSet_fn (r3.2.2.2.2.2.2.2.2.1, (r3.2.2.2.2.2.2.2.2.2.1, (r3.2.2.2.2.2.2.2.2.2.2.2.1, (r3.2.2.2.2.2.2.2.1, ())))))) (fun r4 =>
      .ite (decide (r4.2.2.1 = (0 : Int))) (
       .grd (decide ((List.length r3.2.2.2.2.2.2.2.2.2.2.1 + List.length [TDue.mk r3.2.2.2.2.2.2.2.2.2.2.2.1 r3.2.2.2.2.2.2.2.1]) * (16 : Nat) ≤ (140737488355328 : Nat) ∧ List.length r3.2.2.2.2.2.2.2.2.2.2.1 + List.length [TDue.mk r3.2.2.2.2.2.2.2.2.2.2.2.1 r3.2.2.2.2.2.2.2.1] ≤ (9223372036854775807 : Nat))) (
       .grd (decide (List.length (r3.2.2.2.2.2.2.2.2.2.2.1 ++ [TDue.mk r3.2.2.2.2.2.2.2.2.2.2.2.1 r3.2.2.2.2.2.2.2.1]) = List.length (r3.2.2.2.2.2.2.2.2.2.2.1 ++ [TDue.mk r3.2.2.2.2.2.2.2.2.2.2.2.1 r3.2.2.2.2.2.2.2.1]))) (
       .grd (decide (obB (sameN (14 : Nat) (95 : Nat) r4.2.1) = (0 : Nat))) (
       .ret (Sum.inr (r3.1, (r3.2.1, (r3.2.2.1, (r3.2.2.2.1, (r3.2.2.2.2.1, (r3.2.2.2.2.2.1, (r4.1, (r4.2.1, (r3.2.2.2.2.2.2.2.2.2.2.1 ++ [TDue.mk r3.2.2.2.2.2.2.2.2.2.2.2.1 r3.2.2.2.2.2.2.2.1], ())))))))))))))) (
       .ite (decide (r3.2.2.2.2.2.2.2.1 < (16777216 : Int))) (
        .ret (Sum.inl (false, ()))) (
        .grd (decide (List.length r3.2.2.2.2.2.2.2.2.2.2.fst = List.length r3.2.2.2.2.2.2.2.2.2.2.1)) (
        .grd (decide (obB (sameN (14 : Nat) (95 : Nat) r3.2.2.2.2.2.2.2.2.2.1) = (0 : Nat))) (
        .ret (Sum.inr (r3.1, (r3.2.1, (r3.2.2.1, (r3.2.2.2.1, (r3.2.2.2.2.1, (r3.2.2.2.2.2.1, (r3.2.2.2.2.2.2.2.2.1, (r3.2.2.2.2.2.2.2.2.2.1, (r3.2.2.2.2.2.2.2.2.2.2.1, ()))))))))))))))))))) (fun r4 =>
   .sum (β := (Bool × Unit)) (γ := (Int × ((List Int) × ((List Int) × ((List Int) × (Int × (Int × (Int × ((List (List TDue)) × ((List TDue) × Unit)))))))))) (r4) (fun r5 =>
    .ret (Sum.inr (Sum.inl (r5.1, ())))) (fun r5 =>
    .grd (decide (obB (sameN (14 : Nat) (95 : Nat) r5.2.2.2.2.2.2.2.1) = (0 : Nat))) (
    .opt (β := (Int × ((List (List TDue)) × ((List TDue) × (Int × Unit))))) ((wTick_fn (r5.2.2.2.2.2.2.1, (r5.2.2.2.2.2.2.2.1, (r5.1, ()))))) (fun r6 =>
    .ite (!decide (r6.2.2.2.1 = (0 : Int))) (
     .ret (Sum.inr (Sum.inl (decide ((16777216 : Int) ≤ IntKind.wrap IntKind.i64 (r5.2.2.2.2.2.2.1 + r5.1)), ())))) (
     .grd (true) (
     .grd (decide (List.length r5.2.2.2.2.2.2.2.2.fst = List.length r5.2.2.2.2.2.2.2.2.1)) (
     .grd (decide (obB (sameN (14 : Nat) (95 : Nat) r5.2.2.2.2.2.2.2.1) = (0 : Nat))) (
     .grd (decide (obB (sameN (14 : Nat) (95 : Nat) r6.2.1) = (0 : Nat))) (
     .opt (β := ((List Int) × ((List Int) × ((List Int) × (Int × (Int × ((List TDue) × (Int × ((List (List TDue)) × ((List TDue) × (Int × ((List (List TDue)) × ((List TDue) × Unit))))))))))))) ((wheelBook_loop6_29 (IntKind.wrap IntKind.i64 (r5.2.2.2.2.2.2.1 + (1 : Int)), (r5.2.1, (r5.2.2.1, (r5.2.2.2.1, (r5.2.2.2.2.1, (r5.2.2.2.2.2.1, (r6.2.2.1, (r5.1, ([], (r5.2.2.2.2.2.2.2.2.1, (r5.2.2.2.2.2.2.1, (r5.2.2.2.2.2.2.2.1, (r6.1, (r6.2.1, ())))))))))))))))) (fun r7 =>
     .opt (β := (Bool × ((List Int) × ((List Int) × ((List Int) × (Int × (Int × (Int × ((List (List TDue)) × ((List TDue) × (Int × ((List (List TDue)) × Unit)))))))))))) (Tr.eval (α := (Bool × ((List Int) × ((List Int) × ((List Int) × (Int × (Int × (Int × ((List (List TDue)) × ((List TDue) × (Int × ((List (List TDue)) × Unit)))))))))))) (
       .ite (!decide ((↑(List.length r7.2.2.2.2.2.1) : Int) = (↑(List.length r7.2.2.2.2.2.2.2.2.2.2.2.1) : Int))) (
        .grd (decide (List.length r7.2.2.2.2.2.2.2.2.fst = List.length r7.2.2.2.2.2.2.2.2.1)) (
        .grd (decide (obB (sameN (14 : Nat) (95 : Nat) r7.2.2.2.2.2.2.2.1) = (0 : Nat))) (
        .grd (decide (obB (sameN (14 : Nat) (95 : Nat) r7.2.2.2.2.2.2.2.2.2.2.1) = (0 : Nat))) (
        .ret (true, (r7.1, (r7.2.1, (r7.2.2.1, (r7.2.2.2.1, (r7.2.2.2.2.1, (r7.2.2.2.2.2.2.1, (r7.2.2.2.2.2.2.2.1, (r7.2.2.2.2.2.2.2.2.1, (r7.2.2.2.2.2.2.2.2.2.1, (r7.2.2.2.2.2.2.2.2.2.2.1, ()))))))))))))))) (
        .opt (β := ((Bool × Unit) ⊕ Unit)) ((wheelBook_loop10_4 ((0 : Int), (r7.2.2.2.2.2.2.2.2.2.2.2.1, (r7.2.2.2.2.2.1, ((↑(List.length r7.2.2.2.2.2.1) : Int), ())))))) (fun r8 =>
        .sum (β := (Bool × Unit)) (γ := Unit) (r8) (fun r9 =>
         .grd (decide (List.length r7.2.2.2.2.2.2.2.2.fst = List.length r7.2.2.2.2.2.2.2.2.1)) (
         .grd (decide (obB (sameN (14 : Nat) (95 : Nat) r7.2.2.2.2.2.2.2.1) = (0 : Nat))) (
         .grd (decide (obB (sameN (14 : Nat) (95 : Nat) r7.2.2.2.2.2.2.2.2.2.2.1) = (0 : Nat))) (
         .ret (!r9.1, (r7.1, (r7.2.1, (r7.2.2.1, (r7.2.2.2.1, (r7.2.2.2.2.1, (r7.2.2.2.2.2.2.1, (r7.2.2.2.2.2.2.2.1, (r7.2.2.2.2.2.2.2.2.1, (r7.2.2.2.2.2.2.2.2.2.1, (r7.2.2.2.2.2.2.2.2.2.2.1, ()))))))))))))))) (fun r9 =>
         .grd (decide (List.length r7.2.2.2.2.2.2.2.2.fst = List.length r7.2.2.2.2.2.2.2.2.1)) (
         .grd (decide (obB (sameN (14 : Nat) (95 : Nat) r7.2.2.2.2.2.2.2.1) = (0 : Nat))) (
         .grd (decide (obB (sameN (14 : Nat) (95 : Nat) r7.2.2.2.2.2.2.2.2.2.2.1) = (0 : Nat))) (
         .ret (false, (r7.1, (r7.2.1, (r7.2.2.1, (r7.2.2.2.1, (r7.2.2.2.2.1, (r7.2.2.2.2.2.2.1, (r7.2.2.2.2.2.2.2.1, (r7.2.2.2.2.2.2.2.2.1, (r7.2.2.2.2.2.2.2.2.2.1, (r7.2.2.2.2.2.2.2.2.2.2.1, ()))))))))))))))))))) (fun r8 =>
     .ite (r8.1) (
      .ret (Sum.inr (Sum.inl (false, ())))) (
      .grd (decide (List.length r8.2.2.2.2.2.2.2.2.fst = List.length r8.2.2.2.2.2.2.2.2.1)) (
      .grd (decide (obB (sameN (14 : Nat) (95 : Nat) r8.2.2.2.2.2.2.2.2.2.2.1) = (0 : Nat))) (
      .opt (β := (Int × ((List (List TDue)) × ((List TDue) × Unit)))) ((dfDue_fn (r8.2.2.2.2.2.2.2.2.2.1, (r8.2.2.2.2.2.2.2.2.2.2.1, (r8.2.2.2.2.2.2.2.2.1, ()))))) (fun r9 =>
      .grd (decide (List.length r9.2.2.fst = List.length r9.2.2.1)) (
      .grd (decide (obB (sameN (14 : Nat) (95 : Nat) r9.2.1) = (0 : Nat))) (
      .ret (Sum.inl (IntKind.wrap IntKind.i64 (r8.2.2.2.2.2.1 + (1 : Int)), (r8.2.1, (r8.2.2.1, (r8.2.2.2.1, (r8.2.2.2.2.1, (r9.1, (r9.2.1, (r9.2.2.1, ())))))))))))))))))))))))))))))))) (
   .grd (decide (List.length a7 = List.length a7)) (
   .grd (decide (obB (sameN (14 : Nat) (95 : Nat) a6) = (0 : Nat))) (
   .ret (Sum.inr (Sum.inr (a7, (a5, (a6, ()))))))))
def wheelBook_loop6_6 (x : (Int × ((List Int) × ((List Int) × ((List Int) × (Int × (Int × ((List (List TDue)) × ((List TDue) × Unit))))))))) : Option ((Bool × Unit) ⊕ ((List TDue) × (Int × ((List (List TDue)) × Unit)))) := loopO 60006 (fun x => (wheelBook_step6_6 x).eval) 18446744073709551616 x
def wheelBook_L6_100037 : LS := ⟨100037, [], ⟨0, [], []⟩, [⟨some 9998, [(9, 9), (10, 10), (20, 20)], ⟨179, [(162, .v (.one (.b))), (9, .v (.one (.ptr 9 0))), (3, .v (.one (.st 0 false))), (2, .v (.one (.st 0 false))), (42, .v (.one (.st 0 false))), (43, .v (.one (.i .i64))), (44, .v (.one (.i .i64))), (10, .v (.one (.own 10))), (20, .v (.one (.ptr 20 0)))], [(9, .cellsG [.i .i64] 14 96), (10, .row 33 14 true true), (20, .cellsG [.i .i64] 14 96)]⟩⟩], []⟩
def wheelBook_L6_160014 : LS := ⟨160014, [], ⟨0, [], []⟩, [⟨none, [], ⟨179, [(8, .v (.one (.b)))], []⟩⟩, ⟨some 9998, [(9, 9), (10, 10)], ⟨179, [(14, .v (.one (.i .i64))), (9, .v (.one (.ptr 9 0))), (10, .v (.one (.own 10))), (3, .v (.one (.st 0 false))), (2, .v (.one (.st 0 false))), (42, .v (.one (.st 0 false))), (43, .v (.one (.i .i64))), (44, .v (.one (.i .i64)))], [(9, .cellsG [.i .i64] 14 96), (10, .row 33 14 true true)]⟩⟩], []⟩
def wheelBook_L6_100013 : LS := ⟨100013, [], ⟨0, [], []⟩, [⟨some 9998, [(9, 9), (10, 10), (12, 12)], ⟨179, [(14, .v (.one (.i .i64))), (9, .v (.one (.ptr 9 0))), (3, .v (.one (.st 0 false))), (2, .v (.one (.st 0 false))), (42, .v (.one (.st 0 false))), (43, .v (.one (.i .i64))), (44, .v (.one (.i .i64))), (15, .v (.one (.i .i64))), (10, .v (.one (.own 10))), (12, .v (.one (.ptr 12 0))), (13, .v (.one (.i .i64)))], [(9, .cellsG [.i .i64] 14 96), (10, .row 33 14 true true), (12, .cells [.i .i64])]⟩⟩], []⟩
def wheelBook_L6_160011 : LS := ⟨160011, [], ⟨0, [], []⟩, [⟨some 9998, [(9, 9), (10, 10), (12, 12)], ⟨179, [(14, .v (.one (.i .i64))), (9, .v (.one (.ptr 9 0))), (3, .v (.one (.st 0 false))), (2, .v (.one (.st 0 false))), (42, .v (.one (.st 0 false))), (43, .v (.one (.i .i64))), (44, .v (.one (.i .i64))), (10, .v (.one (.own 10))), (12, .v (.one (.ptr 12 0))), (13, .v (.one (.i .i64)))], [(9, .cellsG [.i .i64] 14 96), (10, .row 33 14 true true), (12, .cells [.i .i64])]⟩⟩], []⟩
def wheelBook_L6_160009 : LS := ⟨160009, [], ⟨0, [], []⟩, [⟨some 9998, [(9, 9), (10, 10), (12, 12)], ⟨179, [(9, .v (.one (.ptr 9 0))), (3, .v (.one (.st 0 false))), (2, .v (.one (.st 0 false))), (42, .v (.one (.st 0 false))), (43, .v (.one (.i .i64))), (44, .v (.one (.i .i64))), (10, .v (.one (.own 10))), (12, .v (.one (.ptr 12 0))), (13, .v (.one (.i .i64))), (11, .v (.one (.i .i64))), (14, .v (.one (.i .i64)))], [(9, .cellsG [.i .i64] 14 96), (10, .row 33 14 true true), (12, .cells [.i .i64])]⟩⟩], []⟩
def wheelBook_ap : List VP1 := [.one (.i .i64), .one (.st 0 false), .one (.st 0 false), .one (.st 0 false)]
def wheelBook_rp : SP := ⟨1, [(0, .v (.one (.b)))], []⟩
def wheelBook_tree : (Int × ((List Int) × ((List Int) × ((List Int) × Unit)))) → Tr (Bool × Unit) :=
  fun (a0, a1, a2, a3, _) =>
  .opt (β := (Bool × Unit)) ((wLives_fn ())) (fun r0 =>
  .ite (!r0.1) (
   .opt (β := (Bool × Unit)) ((wLives_fn ())) (fun r1 =>
   .ret (r1.1, ()))) (
   .grd (true) (
   .opt (β := (Int × Unit)) ((wCheck_fn (a0, (List.replicate (96 : Nat) [], ())))) (fun r1 =>
   .ite (!decide (r1.1 = (0 : Int))) (
    .opt (β := (Bool × Unit)) ((wLives_fn ())) (fun r2 =>
    .ret (r2.1, ()))) (
    .ite (decide ((200 : Int) < (↑(List.length a1) : Int))) (
     .opt (β := (Bool × Unit)) ((wLives_fn ())) (fun r2 =>
     .ret (r2.1, ()))) (
     .grd (true) (
     .grd (true) (
     .opt (β := ((Bool × Unit) ⊕ ((List TDue) × (Int × ((List (List TDue)) × Unit))))) ((wheelBook_loop6_6 ((0 : Int), (a3, (a2, (a1, ((↑(List.length a1) : Int), (a0, (List.replicate (96 : Nat) [], ([], ())))))))))) (fun r2 =>
     .sum (β := (Bool × Unit)) (γ := ((List TDue) × (Int × ((List (List TDue)) × Unit)))) (r2) (fun r3 =>
      .ret (r3.1, ())) (fun r3 =>
      .grd (decide (obB (sameN (14 : Nat) (95 : Nat) r3.2.2.1) = (0 : Nat))) (
      .opt (β := (Int × Unit)) ((rRight_fn (r3.2.1, (r3.2.2.1, ())))) (fun r4 =>
      .ite (decide (r4.1 = (0 : Int))) (
       .grd (decide (obB (sameN (14 : Nat) (95 : Nat) r3.2.2.1) = (0 : Nat))) (
       .opt (β := ((List TDue) × Unit)) ((rAllDue_fn (r3.2.1, (r3.2.2.1, ())))) (fun r5 =>
       .ret (decide ((↑(List.length r5.1) : Int) = (↑(List.length r3.fst) : Int)), ())))) (
       .ret (false, ()))))))))))))))
theorem wheelBook_eq (x : (Int × ((List Int) × ((List Int) × ((List Int) × Unit))))) : fnTr Try.prog cod [FS.pf bLen64, FS.pf bLen, FS.pf wList, FS.pf wCount, FS.pf wFind, FS.pf wCheck, clOwn, GS.pf wOwn, GS.pf wPut, GS.pf wTurn, FS.pf wTick, GS.pf delDue, FS.pf wSet, FS.pf wStop, FS.pf betw, FS.pf rSame, FS.pf rListOf, FS.pf rAllDue, FS.pf rWheelOf, FS.pf rRight, FS.pf wLives, GS.pf ifDue, GS.pf dfDue] [(10, wheelBook_L10_4), (6, wheelBook_L6_32), (6, wheelBook_L6_29), (17, wheelBook_L17_2), (6, wheelBook_L6_6), (6, wheelBook_L6_100037), (6, wheelBook_L6_160014), (6, wheelBook_L6_100013), (6, wheelBook_L6_160011), (6, wheelBook_L6_160009)] 30 6 wheelBook_ap wheelBook_rp x = wheelBook_tree x := by kernel_rfl
def wheelBook_fn (x : (Int × ((List Int) × ((List Int) × ((List Int) × Unit))))) : Option (Bool × Unit) := (wheelBook_tree x).eval
def wheelBook : FS Try.prog := ⟨6, wheelBook_ap, wheelBook_rp, wheelBook_fn, fun x r h => fnTr_sound (cod := cod) (Γ := [FS.pf bLen64, FS.pf bLen, FS.pf wList, FS.pf wCount, FS.pf wFind, FS.pf wCheck, clOwn, GS.pf wOwn, GS.pf wPut, GS.pf wTurn, FS.pf wTick, GS.pf delDue, FS.pf wSet, FS.pf wStop, FS.pf betw, FS.pf rSame, FS.pf rListOf, FS.pf rAllDue, FS.pf rWheelOf, FS.pf rRight, FS.pf wLives, GS.pf ifDue, GS.pf dfDue]) (Λs := [(10, wheelBook_L10_4), (6, wheelBook_L6_32), (6, wheelBook_L6_29), (17, wheelBook_L17_2), (6, wheelBook_L6_6), (6, wheelBook_L6_100037), (6, wheelBook_L6_160014), (6, wheelBook_L6_100013), (6, wheelBook_L6_160011), (6, wheelBook_L6_160009)]) (n := 30) ((congrArg Tr.eval (wheelBook_eq x)).trans h)⟩
end Go.Proofs.Ytnhiilbmgkbbaaa.X
