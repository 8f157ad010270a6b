/- Functions of the program, as trees (printed by a program of mine: tool/XTool, xg.py), each with the proof that the machine comes to what its tree says. Conditions: none. -/
import Derived.Test.YtnhiilbmgkbbaaaCod
import Derived.KernelRfl
import Derived.Test.YtnhiilbmgkbbaaaKWheel
namespace Go.Proofs.Ytnhiilbmgkbbaaa.X
open Go Go.RowKit Go.Proofs.Ytnhiilbmgkbbaaa.Abs
set_option maxRecDepth 100000
set_option linter.unusedVariables false
def betw_ap : List VP1 := [.one (.i .i64), .one (.i .i64), .one (.i .i64)]
def betw_rp : SP := ⟨1, [(0, .v (.one (.b)))], []⟩
def betw_tree : (Int × (Int × (Int × Unit))) → Tr (Bool × Unit) :=
  fun (a0, a1, a2, _) =>
  .ite (decide (a1 ≤ a0)) (
   .ret (decide (a0 ≤ a2), ())) (
   .ret (false, ()))
theorem betw_eq (x : (Int × (Int × (Int × Unit)))) : fnTr Try.prog cod [FS.pf bLen64, FS.pf bLen, FS.pf wList, FS.pf wCount, FS.pf wFind, FS.pf wCheck, clOwn, GS.pf wOwn, GS.pf wPut, GS.pf wTurn, FS.pf wTick, GS.pf delDue, FS.pf wSet, FS.pf wStop] [] 30 27 betw_ap betw_rp x = betw_tree x := by kernel_rfl
def betw_fn (x : (Int × (Int × (Int × Unit)))) : Option (Bool × Unit) := (betw_tree x).eval
def betw : FS Try.prog := ⟨27, betw_ap, betw_rp, betw_fn, fun x r h => fnTr_sound (cod := cod) (Γ := [FS.pf bLen64, FS.pf bLen, FS.pf wList, FS.pf wCount, FS.pf wFind, FS.pf wCheck, clOwn, GS.pf wOwn, GS.pf wPut, GS.pf wTurn, FS.pf wTick, GS.pf delDue, FS.pf wSet, FS.pf wStop]) (Λs := []) (n := 30) ((congrArg Tr.eval (betw_eq x)).trans h)⟩
def rSame_L10_4 : LS := ⟨4, [], ⟨26, [(13, .v (.one (.i .i64))), (1, .v (.one (.st 14 false))), (0, .v (.one (.st 14 false))), (12, .v (.one (.i .i64)))], []⟩, [⟨none, [], ⟨26, [(4, .v (.one (.b)))], []⟩⟩, ⟨some 0, [], ⟨26, [], []⟩⟩], []⟩
def rSame_step10_4 : (Int × ((List TDue) × ((List TDue) × (Int × Unit)))) → Tr ((Int × ((List TDue) × ((List TDue) × (Int × Unit)))) ⊕ ((Bool × Unit) ⊕ Unit)) :=
  fun (a0, a1, a2, a3, _) =>
  .ite (decide (a0 < a3)) (
   .grd (decide ((0 : Int) ≤ a0)) (
   .opt (β := TDue) (a2[Int.toNat a0]?) (fun r0 =>
   .grd (decide ((0 : Int) ≤ a0)) (
   .opt (β := TDue) (a1[Int.toNat a0]?) (fun r1 =>
   .ite (!(decide (r0.id = r1.id) && (decide (r0.at' = r1.at') && true))) (
    .ret (Sum.inr (Sum.inl (false, ())))) (
    .ret (Sum.inl (IntKind.wrap IntKind.i64 (a0 + (1 : Int)), (a1, (a2, (a3, ()))))))))))) (
   .ret (Sum.inr (Sum.inr ())))
def rSame_loop10_4 (x : (Int × ((List TDue) × ((List TDue) × (Int × Unit))))) : Option ((Bool × Unit) ⊕ Unit) := loopO 100004 (fun x => (rSame_step10_4 x).eval) 18446744073709551616 x
def rSame_L9_2 : LS := ⟨2, [(3, 3), (2, 2)], ⟨25, [(6, .v (.one (.i .i64))), (3, .v (.one (.ptr 3 0))), (2, .v (.one (.ptr 2 0)))], [(3, .cellsG [.i .i64] 14 96), (2, .cellsG [.i .i64] 14 96)]⟩, [⟨none, [], ⟨25, [(4, .v (.one (.b)))], []⟩⟩, ⟨some 0, [(3, 3), (2, 2)], ⟨25, [(3, .v (.one (.ptr 3 0))), (2, .v (.one (.ptr 2 0)))], [(3, .cellsG [.i .i64] 14 96), (2, .cellsG [.i .i64] 14 96)]⟩⟩], []⟩
def rSame_step9_2 : (Int × (Int × ((List (List TDue)) × (Int × ((List (List TDue)) × Unit))))) → Tr ((Int × (Int × ((List (List TDue)) × (Int × ((List (List TDue)) × Unit))))) ⊕ ((Bool × Unit) ⊕ (Int × ((List (List TDue)) × (Int × ((List (List TDue)) × Unit)))))) :=
  fun (a0, a1, a2, a3, a4, _) =>
  .ite (decide (a0 < (96 : Int))) (
   .grd (decide ((0 : Int) ≤ a0 ∧ a0 < (↑(96 : Nat) : Int))) (
   .grd (sameN (14 : Nat) (95 : Nat) a4) (
   .opt (β := (List TDue)) (a4[Int.toNat a0]?) (fun r0 =>
   .grd (decide ((0 : Int) ≤ a0 ∧ a0 < (↑(96 : Nat) : Int))) (
   .grd (sameN (14 : Nat) (95 : Nat) a2) (
   .opt (β := (List TDue)) (a2[Int.toNat a0]?) (fun r1 =>
   .ite (!decide ((↑(List.length r0) : Int) = (↑(List.length r1) : Int))) (
    .ite (true) (
     .ret (Sum.inr (Sum.inl (false, ())))) (
     .grd (decide (obB (sameN (14 : Nat) (95 : Nat) a2) = (0 : Nat))) (
     .grd (decide (obB (sameN (14 : Nat) (95 : Nat) a4) = (0 : Nat))) (
     .ret (Sum.inl (IntKind.wrap IntKind.i64 (a0 + (1 : Int)), (a1, (a2, (a3, (a4, ())))))))))) (
    .opt (β := ((Bool × Unit) ⊕ Unit)) ((rSame_loop10_4 ((0 : Int), (r1, (r0, ((↑(List.length r0) : Int), ())))))) (fun r2 =>
    .sum (β := (Bool × Unit)) (γ := Unit) (r2) (fun r3 =>
     .ite (!r3.1) (
      .ret (Sum.inr (Sum.inl (false, ())))) (
      .grd (decide (obB (sameN (14 : Nat) (95 : Nat) a2) = (0 : Nat))) (
      .grd (decide (obB (sameN (14 : Nat) (95 : Nat) a4) = (0 : Nat))) (
      .ret (Sum.inl (IntKind.wrap IntKind.i64 (a0 + (1 : Int)), (a1, (a2, (a3, (a4, ())))))))))) (fun r3 =>
     .ite (false) (
      .ret (Sum.inr (Sum.inl (false, ())))) (
      .grd (decide (obB (sameN (14 : Nat) (95 : Nat) a2) = (0 : Nat))) (
      .grd (decide (obB (sameN (14 : Nat) (95 : Nat) a4) = (0 : Nat))) (
      .ret (Sum.inl (IntKind.wrap IntKind.i64 (a0 + (1 : Int)), (a1, (a2, (a3, (a4, ()))))))))))))))))))) (
   .grd (decide (obB (sameN (14 : Nat) (95 : Nat) a2) = (0 : Nat))) (
   .grd (decide (obB (sameN (14 : Nat) (95 : Nat) a4) = (0 : Nat))) (
   .ret (Sum.inr (Sum.inr (a1, (a2, (a3, (a4, ())))))))))
def rSame_loop9_2 (x : (Int × (Int × ((List (List TDue)) × (Int × ((List (List TDue)) × Unit)))))) : Option ((Bool × Unit) ⊕ (Int × ((List (List TDue)) × (Int × ((List (List TDue)) × Unit))))) := loopO 90002 (fun x => (rSame_step9_2 x).eval) 18446744073709551616 x
def rSame_ap : List VP1 := [.aggG [.i .i64] 14 96, .aggG [.i .i64] 14 96]
def rSame_rp : SP := ⟨1, [(0, .v (.one (.b)))], []⟩
def rSame_tree : (Int × ((List (List TDue)) × (Int × ((List (List TDue)) × Unit)))) → Tr (Bool × Unit) :=
  fun (a0, a1, a2, a3, _) =>
  .grd (decide (obB (sameN (14 : Nat) (95 : Nat) a3) = (0 : Nat))) (
  .grd (decide (obB (sameN (14 : Nat) (95 : Nat) a1) = (0 : Nat))) (
  .opt (β := ((Bool × Unit) ⊕ (Int × ((List (List TDue)) × (Int × ((List (List TDue)) × Unit)))))) ((rSame_loop9_2 ((0 : Int), (a2, (a3, (a0, (a1, ()))))))) (fun r0 =>
  .sum (β := (Bool × Unit)) (γ := (Int × ((List (List TDue)) × (Int × ((List (List TDue)) × Unit))))) (r0) (fun r1 =>
   .ret (r1.1, ())) (fun r1 =>
   .ret (decide (r1.2.2.1 = r1.1), ())))))
theorem rSame_eq (x : (Int × ((List (List TDue)) × (Int × ((List (List TDue)) × Unit))))) : fnTr Try.prog cod [FS.pf bLen64, FS.pf bLen, FS.pf wList, FS.pf wCount, FS.pf wFind, FS.pf wCheck, clOwn, GS.pf wOwn, GS.pf wPut, GS.pf wTurn, FS.pf wTick, GS.pf delDue, FS.pf wSet, FS.pf wStop, FS.pf betw] [(10, rSame_L10_4), (9, rSame_L9_2)] 30 9 rSame_ap rSame_rp x = rSame_tree x := by kernel_rfl
def rSame_fn (x : (Int × ((List (List TDue)) × (Int × ((List (List TDue)) × Unit))))) : Option (Bool × Unit) := (rSame_tree x).eval
def rSame : FS Try.prog := ⟨9, rSame_ap, rSame_rp, rSame_fn, fun x r h => fnTr_sound (cod := cod) (Γ := [FS.pf bLen64, FS.pf bLen, FS.pf wList, FS.pf wCount, FS.pf wFind, FS.pf wCheck, clOwn, GS.pf wOwn, GS.pf wPut, GS.pf wTurn, FS.pf wTick, GS.pf delDue, FS.pf wSet, FS.pf wStop, FS.pf betw]) (Λs := [(10, rSame_L10_4), (9, rSame_L9_2)]) (n := 30) ((congrArg Tr.eval (rSame_eq x)).trans h)⟩
def rListOf_L33_3 : LS := ⟨3, [], ⟨29, [(5, .v (.one (.i .i64))), (1, .v (.one (.i .i64))), (6, .v (.one (.i .i64))), (0, .v (.one (.i .i64)))], []⟩, [⟨none, [], ⟨29, [(4, .v (.one (.i .i64)))], []⟩⟩, ⟨some 0, [], ⟨29, [], []⟩⟩], []⟩
def rListOf_step33_3 : (Int × (Int × (Int × (Int × Unit)))) → Tr ((Int × (Int × (Int × (Int × Unit)))) ⊕ ((Int × Unit) ⊕ Unit)) :=
  fun (a0, a1, a2, a3, _) =>
  .ite (decide ((0 : Int) ≤ a2)) (
   .grd (decide (a0 ≠ (0 : Int))) (
   .grd (true) (
   .grd (decide (a0 ≠ (0 : Int))) (
   .grd (true) (
   .ite (!decide (Int.tmod (IntKind.wrap IntKind.i64 (Int.tdiv a3 a0)) (16 : Int) = Int.tmod (IntKind.wrap IntKind.i64 (Int.tdiv a1 a0)) (16 : Int))) (
    .grd (decide (a0 ≠ (0 : Int))) (
    .grd (true) (
    .ret (Sum.inr (Sum.inl (IntKind.wrap IntKind.i64 (IntKind.wrap IntKind.i64 ((16 : Int) * a2) + Int.tmod (IntKind.wrap IntKind.i64 (Int.tdiv a1 a0)) (16 : Int)), ())))))) (
    .grd (true) (
    .ret (Sum.inl (IntKind.wrap IntKind.i64 (Int.tdiv a0 (16 : Int)), (a1, (IntKind.wrap IntKind.i64 (a2 - (1 : Int)), (a3, ())))))))))))) (
   .ret (Sum.inr (Sum.inr ())))
def rListOf_loop33_3 (x : (Int × (Int × (Int × (Int × Unit))))) : Option ((Int × Unit) ⊕ Unit) := loopO 330003 (fun x => (rListOf_step33_3 x).eval) 18446744073709551616 x
def rListOf_ap : List VP1 := [.one (.i .i64), .one (.i .i64)]
def rListOf_rp : SP := ⟨1, [(0, .v (.one (.i .i64)))], []⟩
def rListOf_tree : (Int × (Int × Unit)) → Tr (Int × Unit) :=
  fun (a0, a1, _) =>
  .opt (β := ((Int × Unit) ⊕ Unit)) ((rListOf_loop33_3 ((1048576 : Int), (a1, ((5 : Int), (a0, ())))))) (fun r0 =>
  .sum (β := (Int × Unit)) (γ := Unit) (r0) (fun r1 =>
   .ret (r1.1, ())) (fun r1 =>
   .ret ((-1 : Int), ())))
theorem rListOf_eq (x : (Int × (Int × Unit))) : fnTr Try.prog cod [FS.pf bLen64, FS.pf bLen, FS.pf wList, FS.pf wCount, FS.pf wFind, FS.pf wCheck, clOwn, GS.pf wOwn, GS.pf wPut, GS.pf wTurn, FS.pf wTick, GS.pf delDue, FS.pf wSet, FS.pf wStop, FS.pf betw, FS.pf rSame] [(33, rListOf_L33_3)] 30 33 rListOf_ap rListOf_rp x = rListOf_tree x := by kernel_rfl
def rListOf_fn (x : (Int × (Int × Unit))) : Option (Int × Unit) := (rListOf_tree x).eval
def rListOf : FS Try.prog := ⟨33, rListOf_ap, rListOf_rp, rListOf_fn, fun x r h => fnTr_sound (cod := cod) (Γ := [FS.pf bLen64, FS.pf bLen, FS.pf wList, FS.pf wCount, FS.pf wFind, FS.pf wCheck, clOwn, GS.pf wOwn, GS.pf wPut, GS.pf wTurn, FS.pf wTick, GS.pf delDue, FS.pf wSet, FS.pf wStop, FS.pf betw, FS.pf rSame]) (Λs := [(33, rListOf_L33_3)]) (n := 30) ((congrArg Tr.eval (rListOf_eq x)).trans h)⟩
def rAllDue_L15_3 : LS := ⟨3, [(3, 3)], ⟨16, [(8, .v (.one (.i .i64))), (3, .v (.one (.own 3))), (7, .v (.aggG [] 14 96))], [(3, .row 33 14 true true)]⟩, [⟨some 0, [(3, 3)], ⟨16, [(3, .v (.one (.own 3)))], [(3, .row 33 14 true true)]⟩⟩], [(3, 33, 14)]⟩
def rAllDue_step15_3 : (Int × ((List (List TDue)) × ((List TDue) × Unit))) → Tr ((Int × ((List (List TDue)) × ((List TDue) × Unit))) ⊕ ((List TDue) × Unit)) :=
  fun (a0, a1, a2, _) =>
  .ite (decide (a0 < (96 : Int))) (
   .grd (sameN (14 : Nat) (95 : Nat) a1 && decide ((0 : Int) ≤ a0 ∧ a0 < (↑(96 : Nat) : Int))) (
   .opt (β := (List TDue)) (a1[Int.toNat a0]?) (fun r0 =>
   .grd (decide ((List.length a2 + List.length r0) * (16 : Nat) ≤ (140737488355328 : Nat) ∧ List.length a2 + List.length r0 ≤ (9223372036854775807 : Nat))) (
   .grd (decide (List.length (a2 ++ r0) = List.length (a2 ++ r0))) (
   .grd (decide (obB (sameN (14 : Nat) (95 : Nat) a1) = (0 : Nat))) (
   .ret (Sum.inl (IntKind.wrap IntKind.i64 (a0 + (1 : Int)), (a1, (a2 ++ r0, ())))))))))) (
   .grd (decide (List.length a2 = List.length a2)) (
   .ret (Sum.inr (a2, ()))))
def rAllDue_loop15_3 (x : (Int × ((List (List TDue)) × ((List TDue) × Unit)))) : Option ((List TDue) × Unit) := loopO 150003 (fun x => (rAllDue_step15_3 x).eval) 18446744073709551616 x
def rAllDue_ap : List VP1 := [.aggG [.i .i64] 14 96]
def rAllDue_rp : SP := ⟨1, [(0, .v (.one (.st 14 true)))], []⟩
def rAllDue_tree : (Int × ((List (List TDue)) × Unit)) → Tr ((List TDue) × Unit) :=
  fun (a0, a1, _) =>
  .grd (true) (
  .grd (decide (obB (sameN (14 : Nat) (95 : Nat) a1) = (0 : Nat))) (
  .opt (β := ((List TDue) × Unit)) ((rAllDue_loop15_3 ((0 : Int), (a1, ([], ()))))) (fun r0 =>
  .ret (r0.1, ()))))
theorem rAllDue_eq (x : (Int × ((List (List TDue)) × Unit))) : fnTr Try.prog cod [FS.pf bLen64, FS.pf bLen, FS.pf wList, FS.pf wCount, FS.pf wFind, FS.pf wCheck, clOwn, GS.pf wOwn, GS.pf wPut, GS.pf wTurn, FS.pf wTick, GS.pf delDue, FS.pf wSet, FS.pf wStop, FS.pf betw, FS.pf rSame, FS.pf rListOf] [(15, rAllDue_L15_3)] 30 15 rAllDue_ap rAllDue_rp x = rAllDue_tree x := by kernel_rfl
def rAllDue_fn (x : (Int × ((List (List TDue)) × Unit))) : Option ((List TDue) × Unit) := (rAllDue_tree x).eval
def rAllDue : FS Try.prog := ⟨15, rAllDue_ap, rAllDue_rp, rAllDue_fn, fun x r h => fnTr_sound (cod := cod) (Γ := [FS.pf bLen64, FS.pf bLen, FS.pf wList, FS.pf wCount, FS.pf wFind, FS.pf wCheck, clOwn, GS.pf wOwn, GS.pf wPut, GS.pf wTurn, FS.pf wTick, GS.pf delDue, FS.pf wSet, FS.pf wStop, FS.pf betw, FS.pf rSame, FS.pf rListOf]) (Λs := [(15, rAllDue_L15_3)]) (n := 30) ((congrArg Tr.eval (rAllDue_eq x)).trans h)⟩
def rWheelOf_L30_3 : LS := ⟨3, [(5, 5), (4, 4), (8000005, 8000005)], ⟨33, [(13, .v (.one (.i .i64))), (5, .v (.one (.ptr 5 0))), (0, .v (.one (.i .i64))), (11, .v (.one (.st 14 false))), (4, .v (.one (.ptr 4 0))), (12, .v (.one (.i .i64)))], [(5, .cells (List.append [.i .i64] (grs 8000005 96))), (4, .cellsG [.i .i64] 14 96), (8000005, .grp 33 14 true)]⟩, [⟨some 0, [(4, 4), (5, 5), (8000005, 8000005)], ⟨33, [(4, .v (.one (.ptr 4 0))), (5, .v (.one (.ptr 5 0)))], [(4, .cellsG [.i .i64] 14 96), (5, .cells (List.append [.i .i64] (grs 8000005 96))), (8000005, .grp 33 14 true)]⟩⟩], [(200000005, 33, 14)]⟩
def rWheelOf_step30_3 : (Int × (Int × ((List TDue) × (Int × (Int × (Int × ((List (List TDue)) × (Nat × ((List (List TDue)) × Unit))))))))) → Tr ((Int × (Int × ((List TDue) × (Int × (Int × (Int × ((List (List TDue)) × (Nat × ((List (List TDue)) × Unit))))))))) ⊕ (Int × ((List (List TDue)) × (Int × (Nat × ((List (List TDue)) × Unit)))))) :=
  fun (a0, a1, a2, a3, a4, a5, a6, a7, a8, _) =>
  .ite (decide (a0 < a3)) (
   .grd (decide ((0 : Int) ≤ a0)) (
   .opt (β := TDue) (a2[Int.toNat a0]?) (fun r0 =>
   .opt (β := (Int × Unit)) ((rListOf_fn (a1, (r0.at', ())))) (fun r1 =>
   .grd (decide ((0 : Int) ≤ r1.1 ∧ r1.1 < (↑(96 : Nat) : Int))) (
   .grd (decide (Int.toNat r1.1 < a7)) (
   .opt (β := (List TDue)) (a8[Int.toNat r1.1]?) (fun r2 =>
   .grd (decide ((List.length r2 + List.length [TDue.mk r0.id r0.at']) * (16 : Nat) ≤ (140737488355328 : Nat) ∧ List.length r2 + List.length [TDue.mk r0.id r0.at'] ≤ (9223372036854775807 : Nat))) (
   .grd (decide ((0 : Int) ≤ r1.1 ∧ r1.1 < (↑(96 : Nat) : Int))) (
   .grd (decide (Int.toNat r1.1 = Int.toNat r1.1)) (
   .grd (decide (obB (sameN (14 : Nat) (95 : Nat) a6) = (0 : Nat))) (
   .ret (Sum.inl (IntKind.wrap IntKind.i64 (a0 + (1 : Int)), (a1, (a2, (a3, (a4, (a5, (a6, (a7, (List.set a8 (Int.toNat r1.1) (r2 ++ [TDue.mk r0.id r0.at']), ()))))))))))))))))))))) (
   .grd (decide (obB (sameN (14 : Nat) (95 : Nat) a6) = (0 : Nat))) (
   .ret (Sum.inr (a5, (a6, (a4, (a7, (a8, ()))))))))
def rWheelOf_loop30_3 (x : (Int × (Int × ((List TDue) × (Int × (Int × (Int × ((List (List TDue)) × (Nat × ((List (List TDue)) × Unit)))))))))) : Option (Int × ((List (List TDue)) × (Int × (Nat × ((List (List TDue)) × Unit))))) := loopO 300003 (fun x => (rWheelOf_step30_3 x).eval) 18446744073709551616 x
def rWheelOf_ap : List VP1 := [.one (.i .i64), .one (.st 14 false)]
def rWheelOf_rp : SP := ⟨1, [(0, .v (.aggG [.i .i64] 14 96))], []⟩
def rWheelOf_tree : (Int × ((List TDue) × Unit)) → Tr (Int × ((List (List TDue)) × Unit)) :=
  fun (a0, a1, _) =>
  .grd (true) (
  .opt (β := (Int × ((List (List TDue)) × (Int × (Nat × ((List (List TDue)) × Unit)))))) ((rWheelOf_loop30_3 ((0 : Int), (a0, (a1, ((↑(List.length a1) : Int), (a0, ((0 : Int), (List.replicate (96 : Nat) [], ((96 : Nat), (List.replicate (96 : Nat) [], ()))))))))))) (fun r0 =>
  .grd (decide (obB (sameN (14 : Nat) (95 : Nat) r0.2.2.2.2.1) = (0 : Nat))) (
  .ret (r0.2.2.1, (r0.2.2.2.2.1, ())))))
theorem rWheelOf_eq (x : (Int × ((List TDue) × Unit))) : fnTr Try.prog cod [FS.pf bLen64, FS.pf bLen, FS.pf wList, FS.pf wCount, FS.pf wFind, FS.pf wCheck, clOwn, GS.pf wOwn, GS.pf wPut, GS.pf wTurn, FS.pf wTick, GS.pf delDue, FS.pf wSet, FS.pf wStop, FS.pf betw, FS.pf rSame, FS.pf rListOf, FS.pf rAllDue] [(30, rWheelOf_L30_3)] 30 30 rWheelOf_ap rWheelOf_rp x = rWheelOf_tree x := by kernel_rfl
def rWheelOf_fn (x : (Int × ((List TDue) × Unit))) : Option (Int × ((List (List TDue)) × Unit)) := (rWheelOf_tree x).eval
def rWheelOf : FS Try.prog := ⟨30, rWheelOf_ap, rWheelOf_rp, rWheelOf_fn, fun x r h => fnTr_sound (cod := cod) (Γ := [FS.pf bLen64, FS.pf bLen, FS.pf wList, FS.pf wCount, FS.pf wFind, FS.pf wCheck, clOwn, GS.pf wOwn, GS.pf wPut, GS.pf wTurn, FS.pf wTick, GS.pf delDue, FS.pf wSet, FS.pf wStop, FS.pf betw, FS.pf rSame, FS.pf rListOf, FS.pf rAllDue]) (Λs := [(30, rWheelOf_L30_3)]) (n := 30) ((congrArg Tr.eval (rWheelOf_eq x)).trans h)⟩
def rRight_L17_2 : LS := ⟨2, [(1000200, 1000200)], ⟨19, [(8, .v (.one (.i .i64))), (0, .v (.one (.st 14 false))), (1, .v (.one (.clp 29 [(1000200, 0)]))), (7, .v (.one (.i .i64)))], [(1000200, .cells [.i .i64, .i .i64])]⟩, [⟨none, [(1000200, 1000200)], ⟨19, [(4, .v (.one (.i .i64)))], [(1000200, .cells [.i .i64, .i .i64])]⟩⟩, ⟨some 0, [(1000200, 1000200)], ⟨19, [], [(1000200, .cells [.i .i64, .i .i64])]⟩⟩], []⟩
def rRight_step17_2 : (Int × ((List TDue) × (Int × (Int × (Int × Unit))))) → Tr ((Int × ((List TDue) × (Int × (Int × (Int × Unit))))) ⊕ ((Int × (Int × (Int × Unit))) ⊕ (Int × (Int × Unit)))) :=
  fun (a0, a1, a2, a3, a4, _) =>
  .ite (decide (a0 < a2)) (
   .grd (decide ((0 : Int) ≤ a0)) (
   .opt (β := TDue) (a1[Int.toNat a0]?) (fun r0 =>
   .ite (decide (r0.id = a3)) (
    .ret (Sum.inr (Sum.inl (a0, (a3, (a4, ())))))) (
    .ret (Sum.inl (IntKind.wrap IntKind.i64 (a0 + (1 : Int)), (a1, (a2, (a3, (a4, ())))))))))) (
   .ret (Sum.inr (Sum.inr (a3, (a4, ())))))
def rRight_loop17_2 (x : (Int × ((List TDue) × (Int × (Int × (Int × Unit)))))) : Option ((Int × (Int × (Int × Unit))) ⊕ (Int × (Int × Unit))) := loopO 170002 (fun x => (rRight_step17_2 x).eval) 18446744073709551616 x
def rRight_L14_7 : LS := ⟨7, [(1, 1)], ⟨44, [(17, .v (.one (.i .i64))), (3, .v (.one (.st 14 true))), (1, .v (.one (.ptr 1 0))), (15, .v (.one (.st 14 true))), (16, .v (.one (.i .i64)))], [(1, .cellsG [.i .i64] 14 96)]⟩, [⟨none, [], ⟨44, [(2, .v (.one (.i .i64)))], []⟩⟩, ⟨some 0, [(1, 1)], ⟨44, [(3, .v (.one (.st 14 true))), (1, .v (.one (.ptr 1 0)))], [(1, .cellsG [.i .i64] 14 96)]⟩⟩], []⟩
def rRight_step14_7 : (Int × ((List TDue) × ((List TDue) × (Int × (Int × ((List (List TDue)) × Unit)))))) → Tr ((Int × ((List TDue) × ((List TDue) × (Int × (Int × ((List (List TDue)) × Unit)))))) ⊕ ((Int × Unit) ⊕ ((List TDue) × (Int × ((List (List TDue)) × Unit))))) :=
  fun (a0, a1, a2, a3, a4, a5, _) =>
  .ite (decide (a0 < a3)) (
   .grd (decide ((0 : Int) ≤ a0)) (
   .opt (β := TDue) (a2[Int.toNat a0]?) (fun r0 =>
   .opt (β := (Bool × Unit)) ((betw_fn (r0.at', (IntKind.wrap IntKind.i64 (a4 + (1 : Int)), ((16777215 : Int), ()))))) (fun r1 =>
   .ite (!r1.1) (
    .ret (Sum.inr (Sum.inl ((4 : Int), ())))) (
    .grd (decide ((0 : Int) ≤ (0 : Int) ∧ (0 : Int) ≤ a0 ∧ a0 ≤ (↑(List.length a1) : Int))) (
    .opt (β := ((Int × (Int × (Int × Unit))) ⊕ (Int × (Int × Unit)))) ((rRight_loop17_2 ((0 : Int), (List.drop (0 : Nat) (List.take (Int.toNat a0) a1), ((↑(List.length (List.drop (0 : Nat) (List.take (Int.toNat a0) a1))) : Int), (r0.id, (r0.at', ()))))))) (fun r2 =>
    .sum (β := (Int × (Int × (Int × Unit)))) (γ := (Int × (Int × Unit))) (r2) (fun r3 =>
     .ite (decide ((0 : Int) ≤ r3.1)) (
      .ret (Sum.inr (Sum.inl ((4 : Int), ())))) (
      .grd (decide (obB (sameN (14 : Nat) (95 : Nat) a5) = (0 : Nat))) (
      .ret (Sum.inl (IntKind.wrap IntKind.i64 (a0 + (1 : Int)), (a1, (a2, (a3, (a4, (a5, ())))))))))) (fun r3 =>
     .ite (false) (
      .ret (Sum.inr (Sum.inl ((4 : Int), ())))) (
      .grd (decide (obB (sameN (14 : Nat) (95 : Nat) a5) = (0 : Nat))) (
      .ret (Sum.inl (IntKind.wrap IntKind.i64 (a0 + (1 : Int)), (a1, (a2, (a3, (a4, (a5, ()))))))))))))))))) (
   .grd (decide (obB (sameN (14 : Nat) (95 : Nat) a5) = (0 : Nat))) (
   .ret (Sum.inr (Sum.inr (a1, (a4, (a5, ())))))))
def rRight_loop14_7 (x : (Int × ((List TDue) × ((List TDue) × (Int × (Int × ((List (List TDue)) × Unit))))))) : Option ((Int × Unit) ⊕ ((List TDue) × (Int × ((List (List TDue)) × Unit)))) := loopO 140007 (fun x => (rRight_step14_7 x).eval) 18446744073709551616 x
def rRight_ap : List VP1 := [.aggG [.i .i64] 14 96]
def rRight_rp : SP := ⟨1, [(0, .v (.one (.i .i64)))], []⟩
def rRight_tree : (Int × ((List (List TDue)) × Unit)) → Tr (Int × Unit) :=
  fun (a0, a1, _) =>
  .grd (decide (obB (sameN (14 : Nat) (95 : Nat) a1) = (0 : Nat))) (
  .opt (β := ((List TDue) × Unit)) ((rAllDue_fn (a0, (a1, ())))) (fun r0 =>
  .ite (decide ((500 : Int) < (↑(List.length r0.1) : Int))) (
   .ret ((2 : Int), ())) (
   .opt (β := (Bool × Unit)) ((betw_fn (a0, ((0 : Int), ((16777215 : Int), ()))))) (fun r1 =>
   .ite (!r1.1) (
    .ret ((1 : Int), ())) (
    .grd (decide (obB (sameN (14 : Nat) (95 : Nat) a1) = (0 : Nat))) (
    .opt (β := ((Int × Unit) ⊕ ((List TDue) × (Int × ((List (List TDue)) × Unit))))) ((rRight_loop14_7 ((0 : Int), (r0.1, (r0.1, ((↑(List.length r0.1) : Int), (a0, (a1, ())))))))) (fun r2 =>
    .sum (β := (Int × Unit)) (γ := ((List TDue) × (Int × ((List (List TDue)) × Unit)))) (r2) (fun r3 =>
     .ret (r3.1, ())) (fun r3 =>
     .opt (β := (Int × ((List (List TDue)) × Unit))) ((rWheelOf_fn (r3.2.1, (r3.1, ())))) (fun r4 =>
     .grd (decide (obB (sameN (14 : Nat) (95 : Nat) r3.2.2.1) = (0 : Nat))) (
     .grd (decide (obB (sameN (14 : Nat) (95 : Nat) r4.2.1) = (0 : Nat))) (
     .opt (β := (Bool × Unit)) ((rSame_fn (r3.2.1, (r3.2.2.1, (r4.1, (r4.2.1, ())))))) (fun r5 =>
     .ite (!r5.1) (
      .ret ((4 : Int), ())) (
      .ret ((0 : Int), ()))))))))))))))
theorem rRight_eq (x : (Int × ((List (List TDue)) × Unit))) : fnTr Try.prog cod [FS.pf bLen64, FS.pf bLen, FS.pf wList, FS.pf wCount, FS.pf wFind, FS.pf wCheck, clOwn, GS.pf wOwn, GS.pf wPut, GS.pf wTurn, FS.pf wTick, GS.pf delDue, FS.pf wSet, FS.pf wStop, FS.pf betw, FS.pf rSame, FS.pf rListOf, FS.pf rAllDue, FS.pf rWheelOf] [(17, rRight_L17_2), (14, rRight_L14_7)] 30 14 rRight_ap rRight_rp x = rRight_tree x := by kernel_rfl
def rRight_fn (x : (Int × ((List (List TDue)) × Unit))) : Option (Int × Unit) := (rRight_tree x).eval
def rRight : FS Try.prog := ⟨14, rRight_ap, rRight_rp, rRight_fn, fun x r h => fnTr_sound (cod := cod) (Γ := [FS.pf bLen64, FS.pf bLen, FS.pf wList, FS.pf wCount, FS.pf wFind, FS.pf wCheck, clOwn, GS.pf wOwn, GS.pf wPut, GS.pf wTurn, FS.pf wTick, GS.pf delDue, FS.pf wSet, FS.pf wStop, FS.pf betw, FS.pf rSame, FS.pf rListOf, FS.pf rAllDue, FS.pf rWheelOf]) (Λs := [(17, rRight_L17_2), (14, rRight_L14_7)]) (n := 30) ((congrArg Tr.eval (rRight_eq x)).trans h)⟩
end Go.Proofs.Ytnhiilbmgkbbaaa.X
