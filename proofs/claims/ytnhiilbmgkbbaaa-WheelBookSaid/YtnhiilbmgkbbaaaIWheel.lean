/- Functions of the program, as trees (printed by a program of mine: tool/XTool, xg.py), each with the proof that the machine comes to what its tree says. Conditions: none. -/
import Derived.Test.YtnhiilbmgkbbaaaCod
import Derived.KernelRfl
import Derived.Test.YtnhiilbmgkbbaaaHWheel
namespace Go.Proofs.Ytnhiilbmgkbbaaa.X
open Go Go.RowKit Go.Proofs.Ytnhiilbmgkbbaaa.Abs
set_option maxRecDepth 100000
set_option linter.unusedVariables false
def wTurn_L23_11 : LS := ⟨11, [(3, 3), (1000000, 1000000), (5000100, 5000100), (1000100, 1000100)], ⟨74, [(54, .v (.one (.i .i64))), (3, .v (.one (.own 3))), (0, .v (.one (.ptr 1000000 0))), (52, .v (.one (.own 5000100))), (4, .v (.one (.i .i64))), (53, .v (.one (.i .i64)))], [(3, .row 33 14 true true), (1000000, .cells (List.append [.i .i64] (grs 1000100 96))), (5000100, .row 33 14 true true), (1000100, .grp 33 14 true)]⟩, [⟨some 2, [(3, 3), (1000000, 1000000), (1000100, 1000100)], ⟨74, [(3, .v (.one (.own 3))), (0, .v (.one (.ptr 1000000 0))), (4, .v (.one (.i .i64)))], [(3, .row 33 14 true true), (1000000, .cells (List.append [.i .i64] (grs 1000100 96))), (1000100, .grp 33 14 true)]⟩⟩], []⟩
def wTurn_step23_11 : (Int × (Int × (Int × ((List TDue) × (Int × ((List TDue) × (Nat × ((List (List TDue)) × Unit)))))))) → Tr ((Int × (Int × (Int × ((List TDue) × (Int × ((List TDue) × (Nat × ((List (List TDue)) × Unit)))))))) ⊕ (Int × ((List TDue) × (Int × (Nat × ((List (List TDue)) × Unit)))))) :=
  fun (a0, a1, a2, a3, a4, a5, a6, a7, _) =>
  .ite (decide (a0 < a2)) (
   .grd (decide ((0 : Int) ≤ a0 ∧ a0 < (↑(List.length a5) : Int))) (
   .opt (β := TDue) (a5[Int.toNat a0]?) (fun r0 =>
   .ite (decide (r0.at' = a4)) (
    .grd (decide ((List.length a3 + List.length [TDue.mk r0.id r0.at']) * (16 : Nat) ≤ (140737488355328 : Nat) ∧ List.length a3 + List.length [TDue.mk r0.id r0.at'] ≤ (9223372036854775807 : Nat))) (
    .grd (decide (List.length (a3 ++ [TDue.mk r0.id r0.at']) = List.length (a3 ++ [TDue.mk r0.id r0.at']))) (
    .grd (decide (List.length a5 = List.length a5)) (
    .ret (Sum.inl (IntKind.wrap IntKind.i64 (a0 + (1 : Int)), (a1, (a2, (a3 ++ [TDue.mk r0.id r0.at'], (a4, (a5, (a6, (a7, ()))))))))))))) (
    .opt (β := (Int × (Nat × ((List (List TDue)) × Unit)))) ((wPut_fn (r0.id, (r0.at', (a4, (a6, (a7, ()))))))) (fun r1 =>
    .grd (decide (List.length a3 = List.length a3)) (
    .grd (decide (List.length a5 = List.length a5)) (
    .ret (Sum.inl (IntKind.wrap IntKind.i64 (a0 + (1 : Int)), (a1, (a2, (a3, (r1.1, (a5, (r1.2.1, (r1.2.2.1, ())))))))))))))))) (
   .grd (decide (List.length a3 = List.length a3)) (
   .ret (Sum.inr (a1, (a3, (a4, (a6, (a7, ()))))))))
def wTurn_loop23_11 (x : (Int × (Int × (Int × ((List TDue) × (Int × ((List TDue) × (Nat × ((List (List TDue)) × Unit))))))))) : Option (Int × ((List TDue) × (Int × (Nat × ((List (List TDue)) × Unit))))) := loopO 230011 (fun x => (wTurn_step23_11 x).eval) 18446744073709551616 x
def wTurn_L23_4 : LS := ⟨4, [(3, 3), (1000000, 1000000), (1000100, 1000100)], ⟨74, [(4, .v (.one (.i .i64))), (3, .v (.one (.own 3))), (0, .v (.one (.ptr 1000000 0)))], [(3, .row 33 14 true true), (1000000, .cells (List.append [.i .i64] (grs 1000100 96))), (1000100, .grp 33 14 true)]⟩, [⟨some 0, [(3, 3), (1000000, 1000000), (1000100, 1000100)], ⟨74, [(3, .v (.one (.own 3)))], [(3, .row 33 14 true true), (1000000, .cells (List.append [.i .i64] (grs 1000100 96))), (1000100, .grp 33 14 true)]⟩⟩], [(3, 33, 14)]⟩
def wTurn_step23_4 : (Int × ((List TDue) × (Int × (Nat × ((List (List TDue)) × Unit))))) → Tr ((Int × ((List TDue) × (Int × (Nat × ((List (List TDue)) × Unit))))) ⊕ ((List TDue) × (Int × (Nat × ((List (List TDue)) × Unit))))) :=
  fun (a0, a1, a2, a3, a4, _) =>
  .ite (decide ((0 : Int) ≤ a0)) (
   .grd (decide ((0 : Int) ≤ IntKind.wrap IntKind.i64 ((4 : Int) * a0))) (
   .ite (!decide (bits BinOp.and IntKind.i64 a2 (IntKind.wrap IntKind.i64 (IntKind.wrap IntKind.i64 ((1 : Int) * (2 : Int) ^ min (Int.toNat (IntKind.wrap IntKind.i64 ((4 : Int) * a0))) (64 : Nat)) - (1 : Int))) = (0 : Int))) (
    .grd (decide (List.length a1 = List.length a1)) (
    .ret (Sum.inl (IntKind.wrap IntKind.i64 (a0 - (1 : Int)), (a1, (a2, (a3, (a4, ())))))))) (
    .grd (decide ((0 : Int) ≤ IntKind.wrap IntKind.i64 ((4 : Int) * a0))) (
    .grd (decide ((0 : Int) ≤ IntKind.wrap IntKind.i64 (IntKind.wrap IntKind.i64 ((16 : Int) * a0) + bits BinOp.and IntKind.i64 (Int.fdiv a2 ((2 : Int) ^ min (Int.toNat (IntKind.wrap IntKind.i64 ((4 : Int) * a0))) (64 : Nat))) (15 : Int)) ∧ IntKind.wrap IntKind.i64 (IntKind.wrap IntKind.i64 ((16 : Int) * a0) + bits BinOp.and IntKind.i64 (Int.fdiv a2 ((2 : Int) ^ min (Int.toNat (IntKind.wrap IntKind.i64 ((4 : Int) * a0))) (64 : Nat))) (15 : Int)) < (↑(96 : Nat) : Int))) (
    .grd (decide (Int.toNat (IntKind.wrap IntKind.i64 (IntKind.wrap IntKind.i64 ((16 : Int) * a0) + bits BinOp.and IntKind.i64 (Int.fdiv a2 ((2 : Int) ^ min (Int.toNat (IntKind.wrap IntKind.i64 ((4 : Int) * a0))) (64 : Nat))) (15 : Int))) < a3)) (
    .opt (β := (List TDue)) (a4[Int.toNat (IntKind.wrap IntKind.i64 (IntKind.wrap IntKind.i64 ((16 : Int) * a0) + bits BinOp.and IntKind.i64 (Int.fdiv a2 ((2 : Int) ^ min (Int.toNat (IntKind.wrap IntKind.i64 ((4 : Int) * a0))) (64 : Nat))) (15 : Int)))]?) (fun r0 =>
    .grd (decide ((0 : Int) ≤ IntKind.wrap IntKind.i64 (IntKind.wrap IntKind.i64 ((16 : Int) * a0) + bits BinOp.and IntKind.i64 (Int.fdiv a2 ((2 : Int) ^ min (Int.toNat (IntKind.wrap IntKind.i64 ((4 : Int) * a0))) (64 : Nat))) (15 : Int)) ∧ IntKind.wrap IntKind.i64 (IntKind.wrap IntKind.i64 ((16 : Int) * a0) + bits BinOp.and IntKind.i64 (Int.fdiv a2 ((2 : Int) ^ min (Int.toNat (IntKind.wrap IntKind.i64 ((4 : Int) * a0))) (64 : Nat))) (15 : Int)) < (↑(96 : Nat) : Int))) (
    .grd (decide (Int.toNat (IntKind.wrap IntKind.i64 (IntKind.wrap IntKind.i64 ((16 : Int) * a0) + bits BinOp.and IntKind.i64 (Int.fdiv a2 ((2 : Int) ^ min (Int.toNat (IntKind.wrap IntKind.i64 ((4 : Int) * a0))) (64 : Nat))) (15 : Int))) = Int.toNat (IntKind.wrap IntKind.i64 (IntKind.wrap IntKind.i64 ((16 : Int) * a0) + bits BinOp.and IntKind.i64 (Int.fdiv a2 ((2 : Int) ^ min (Int.toNat (IntKind.wrap IntKind.i64 ((4 : Int) * a0))) (64 : Nat))) (15 : Int))))) (
    .grd (decide (List.length a1 = List.length a1)) (
    .grd (decide (List.length r0 = List.length r0)) (
    .opt (β := (Int × ((List TDue) × (Int × (Nat × ((List (List TDue)) × Unit)))))) ((wTurn_loop23_11 ((0 : Int), (a0, ((↑(List.length r0) : Int), (a1, (a2, (r0, (a3, (List.set a4 (Int.toNat (IntKind.wrap IntKind.i64 (IntKind.wrap IntKind.i64 ((16 : Int) * a0) + bits BinOp.and IntKind.i64 (Int.fdiv a2 ((2 : Int) ^ min (Int.toNat (IntKind.wrap IntKind.i64 ((4 : Int) * a0))) (64 : Nat))) (15 : Int)))) [], ())))))))))) (fun r1 =>
    .grd (decide (List.length r1.2.fst = List.length r1.2.1)) (
    .ret (Sum.inl (IntKind.wrap IntKind.i64 (r1.1 - (1 : Int)), (r1.2.1, (r1.2.2.1, (r1.2.2.2.1, (r1.2.2.2.2.1, ()))))))))))))))))))) (
   .grd (decide (List.length a1 = List.length a1)) (
   .ret (Sum.inr (a1, (a2, (a3, (a4, ())))))))
def wTurn_loop23_4 (x : (Int × ((List TDue) × (Int × (Nat × ((List (List TDue)) × Unit)))))) : Option ((List TDue) × (Int × (Nat × ((List (List TDue)) × Unit)))) := loopO 230004 (fun x => (wTurn_step23_4 x).eval) 18446744073709551616 x
def wTurn_ap : SP := ⟨74, [(0, .v (.one (.ptr 1000000 0)))], [(1000000, .cells (List.append [.i .i64] (grs 1000100 96))), (1000100, .grp 33 14 true)]⟩
def wTurn_rp : SP := ⟨1, [(0, .v (.one (.own 2000000)))], [(1000000, .cells (List.append [.i .i64] (grs 1000100 96))), (1000100, .grp 33 14 true), (2000000, .row 33 14 true true)]⟩
def wTurn_tree : (Int × (Nat × ((List (List TDue)) × Unit))) → Tr (Int × (Nat × ((List (List TDue)) × ((List TDue) × Unit)))) :=
  fun (a0, a1, a2, _) =>
  .grd (true) (
  .opt (β := ((List TDue) × (Int × (Nat × ((List (List TDue)) × Unit))))) ((wTurn_loop23_4 ((5 : Int), ([], (IntKind.wrap IntKind.i64 (a0 + (1 : Int)), (a1, (a2, ()))))))) (fun r0 =>
  .grd (decide (List.length r0.fst = List.length r0.1)) (
  .ret (r0.2.1, (r0.2.2.1, (r0.2.2.2.1, (r0.1, ())))))))
theorem wTurn_eq (x : (Int × (Nat × ((List (List TDue)) × Unit)))) : gsTr Try.prog cod [FS.pf bLen64, FS.pf bLen, FS.pf wList, FS.pf wCount, FS.pf wFind, FS.pf wCheck, clOwn, GS.pf wOwn, GS.pf wPut] [(23, wTurn_L23_11), (23, wTurn_L23_4)] 30 23 wTurn_ap wTurn_rp x = wTurn_tree x := by kernel_rfl
def wTurn_fn (x : (Int × (Nat × ((List (List TDue)) × Unit)))) : Option (Int × (Nat × ((List (List TDue)) × ((List TDue) × Unit)))) := (wTurn_tree x).eval
def wTurn : GS Try.prog := ⟨23, [1], wTurn_ap, wTurn_rp, wTurn_fn, fun x r h ys m g he hg => gs_sound (cod := cod) (Γ := [FS.pf bLen64, FS.pf bLen, FS.pf wList, FS.pf wCount, FS.pf wFind, FS.pf wCheck, clOwn, GS.pf wOwn, GS.pf wPut]) (Λs := [(23, wTurn_L23_11), (23, wTurn_L23_4)]) (n := 30) ((congrArg Tr.eval (wTurn_eq x)).trans h) he hg⟩
end Go.Proofs.Ytnhiilbmgkbbaaa.X
