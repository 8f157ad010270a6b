/- Functions of the program, as trees (printed by a program of mine: tool/XTool, xg.py), each with the proof that the machine comes to what its tree says. Conditions: none. -/
import Derived.Test.YtnhiilbmgkbbaaaCod
import Derived.KernelRfl
import Derived.Test.YtnhiilbmgkbbaaaIWheel
namespace Go.Proofs.Ytnhiilbmgkbbaaa.X
open Go Go.RowKit Go.Proofs.Ytnhiilbmgkbbaaa.Abs
set_option maxRecDepth 100000
set_option linter.unusedVariables false
def wTick_L7_9 : LS := ⟨9, [(2, 2), (8, 8), (4, 4), (31000, 31000)], ⟨40, [(32, .v (.one (.i .i64))), (2, .v (.one (.ptr 2 0))), (8, .v (.one (.own 8))), (4, .v (.one (.ptr 4 0))), (31, .v (.one (.i .i64)))], [(2, .cells (List.append [.i .i64] (grs 31000 96))), (8, .row 33 14 true true), (4, .cellsG [.i .i64] 14 96), (31000, .grp 33 14 true)]⟩, [⟨some 0, [(4, 4), (8, 8), (2, 2), (31000, 31000)], ⟨40, [(4, .v (.one (.ptr 4 0))), (8, .v (.one (.own 8))), (2, .v (.one (.ptr 2 0)))], [(4, .cellsG [.i .i64] 14 96), (8, .row 33 14 true true), (2, .cells (List.append [.i .i64] (grs 31000 96))), (31000, .grp 33 14 true)]⟩⟩], [(8, 33, 14)]⟩
def wTick_step7_9 : (Int × (Int × (Int × ((List TDue) × (Int × ((List (List TDue)) × (Nat × ((List (List TDue)) × Unit)))))))) → Tr ((Int × (Int × (Int × ((List TDue) × (Int × ((List (List TDue)) × (Nat × ((List (List TDue)) × Unit)))))))) ⊕ (Int × ((List (List TDue)) × ((List TDue) × (Int × (Nat × ((List (List TDue)) × Unit))))))) :=
  fun (a0, a1, a2, a3, a4, a5, a6, a7, _) =>
  .ite (decide (a0 < a1)) (
   .opt (β := (Int × (Nat × ((List (List TDue)) × ((List TDue) × Unit))))) ((wTurn_fn (a2, (a6, (a7, ()))))) (fun r0 =>
   .grd (decide ((List.length a3 + List.length r0.2.2.2.1) * (16 : Nat) ≤ (140737488355328 : Nat) ∧ List.length a3 + List.length r0.2.2.2.1 ≤ (9223372036854775807 : Nat))) (
   .grd (decide (List.length (a3 ++ r0.2.2.2.1) = List.length (a3 ++ r0.2.2.2.1))) (
   .grd (decide (obB (sameN (14 : Nat) (95 : Nat) a5) = (0 : Nat))) (
   .ret (Sum.inl (IntKind.wrap IntKind.i64 (a0 + (1 : Int)), (a1, (r0.1, (a3 ++ r0.2.2.2.1, (a4, (a5, (r0.2.1, (r0.2.2.1, ())))))))))))))) (
   .grd (decide (List.length a3 = List.length a3)) (
   .grd (decide (obB (sameN (14 : Nat) (95 : Nat) a5) = (0 : Nat))) (
   .ret (Sum.inr (a4, (a5, (a3, (a2, (a6, (a7, ()))))))))))
def wTick_loop7_9 (x : (Int × (Int × (Int × ((List TDue) × (Int × ((List (List TDue)) × (Nat × ((List (List TDue)) × Unit))))))))) : Option (Int × ((List (List TDue)) × ((List TDue) × (Int × (Nat × ((List (List TDue)) × Unit)))))) := loopO 70009 (fun x => (wTick_step7_9 x).eval) 18446744073709551616 x
def wTick_ap : List VP1 := [.aggG [.i .i64] 14 96, .one (.i .i64)]
def wTick_rp : SP := ⟨1, [(0, .tup [.aggG [.i .i64] 14 96, .one (.st 14 true), .one (.i .i64)])], []⟩
def wTick_tree : (Int × ((List (List TDue)) × (Int × Unit))) → Tr (Int × ((List (List TDue)) × ((List TDue) × (Int × Unit)))) :=
  fun (a0, a1, a2, _) =>
  .grd (decide (obB (sameN (14 : Nat) (95 : Nat) a1) = (0 : Nat))) (
  .opt (β := (Int × Unit)) ((wCheck_fn (a0, (a1, ())))) (fun r0 =>
  .ite (!decide (r0.1 = (0 : Int))) (
   .grd (true) (
   .ret ((0 : Int), (List.replicate (96 : Nat) [], ([], (r0.1, ())))))) (
   .ite (decide (a2 < (0 : Int))) (
    .grd (true) (
    .ret ((0 : Int), (List.replicate (96 : Nat) [], ([], ((1 : Int), ())))))) (
    .ite (decide ((10000 : Int) < a2)) (
     .grd (true) (
     .ret ((0 : Int), (List.replicate (96 : Nat) [], ([], ((1 : Int), ())))))) (
     .ite (decide ((16777216 : Int) ≤ IntKind.wrap IntKind.i64 (a0 + a2))) (
      .grd (true) (
      .ret ((0 : Int), (List.replicate (96 : Nat) [], ([], ((1 : Int), ())))))) (
      .grd (decide (obB (sameN (14 : Nat) (95 : Nat) a1) = (0 : Nat))) (
      .opt (β := (Int × (Nat × ((List (List TDue)) × Unit)))) ((wOwn_fn (a0, (a1, ())))) (fun r1 =>
      .grd (true) (
      .grd (true) (
      .opt (β := (Int × ((List (List TDue)) × ((List TDue) × (Int × (Nat × ((List (List TDue)) × Unit))))))) ((wTick_loop7_9 ((0 : Int), (a2, (r1.1, ([], ((0 : Int), (List.replicate (96 : Nat) [], (r1.2.1, (r1.2.2.1, ())))))))))) (fun r2 =>
      .grd (decide (obB (sameN (14 : Nat) (95 : Nat) r2.2.2.2.2.2.1) = (0 : Nat))) (
      .ret (r2.2.2.2.1, (r2.2.2.2.2.2.1, (r2.2.2.1, ((0 : Int), ()))))))))))))))))
theorem wTick_eq (x : (Int × ((List (List TDue)) × (Int × Unit)))) : fnTr Try.prog cod [FS.pf bLen64, FS.pf bLen, FS.pf wList, FS.pf wCount, FS.pf wFind, FS.pf wCheck, clOwn, GS.pf wOwn, GS.pf wPut, GS.pf wTurn] [(7, wTick_L7_9)] 30 7 wTick_ap wTick_rp x = wTick_tree x := by kernel_rfl
def wTick_fn (x : (Int × ((List (List TDue)) × (Int × Unit)))) : Option (Int × ((List (List TDue)) × ((List TDue) × (Int × Unit)))) := (wTick_tree x).eval
def wTick : FS Try.prog := ⟨7, wTick_ap, wTick_rp, wTick_fn, fun x r h => fnTr_sound (cod := cod) (Γ := [FS.pf bLen64, FS.pf bLen, FS.pf wList, FS.pf wCount, FS.pf wFind, FS.pf wCheck, clOwn, GS.pf wOwn, GS.pf wPut, GS.pf wTurn]) (Λs := [(7, wTick_L7_9)]) (n := 30) ((congrArg Tr.eval (wTick_eq x)).trans h)⟩
end Go.Proofs.Ytnhiilbmgkbbaaa.X
