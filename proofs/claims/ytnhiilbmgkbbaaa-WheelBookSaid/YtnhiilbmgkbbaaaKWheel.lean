/- Functions of the program, as trees (printed by a program of mine: tool/XTool, xg.py), each with the proof that the machine comes to what its tree says. Conditions: none. -/
import Derived.Test.YtnhiilbmgkbbaaaCod
import Derived.KernelRfl
import Derived.Test.YtnhiilbmgkbbaaaJWheel
namespace Go.Proofs.Ytnhiilbmgkbbaaa.X
open Go Go.RowKit Go.Proofs.Ytnhiilbmgkbbaaa.Abs
set_option maxRecDepth 100000
set_option linter.unusedVariables false
def delDue_ap : SP := ⟨33, [(0, .v (.one (.own 1000100))), (1, .v (.one (.i .i64))), (2, .v (.one (.i .i64)))], [(1000100, .row 33 14 true true)]⟩
def delDue_rp : SP := ⟨1, [(0, .v (.one (.own 1000100)))], [(1000100, .row 33 14 true true)]⟩
def delDue_tree : (Int × (Int × ((List TDue) × Unit))) → Tr ((List TDue) × Unit) :=
  fun (a0, a1, a2, _) =>
  .grd (decide ((0 : Int) ≤ a0 ∧ a0 ≤ a1 ∧ a1 ≤ (↑(List.length a2) : Int) ∧ (↑(List.length a2) : Int) ≤ (↑(List.length a2) : Int))) (
  .ite (decide (a0 = a1)) (
   .grd (decide (List.length a2 = List.length a2)) (
   .ret (a2, ()))) (
   .grd (decide ((0 : Int) ≤ a0 ∧ a0 ≤ (↑(List.length a2) : Int))) (
   .grd (decide ((0 : Int) ≤ a1 ∧ a1 ≤ (↑(List.length a2) : Int) ∧ (↑(List.length a2) : Int) ≤ (↑(List.length a2) : Int))) (
   .grd (decide (Int.toNat a1 + Int.toNat ((↑(List.length a2) : Int) - a1) ≤ List.length a2)) (
   .grd (decide (Int.toNat a0 + List.length (List.take (Int.toNat ((↑(List.length a2) : Int) - a1)) (List.drop (Int.toNat a1) a2)) ≤ List.length a2)) (
   .grd (decide ((0 : Int) ≤ (↑(Int.toNat a0 + List.length (List.take (Int.toNat ((↑(List.length a2) : Int) - a1)) (List.drop (Int.toNat a1) a2))) : Int) ∧ (↑(Int.toNat a0 + List.length (List.take (Int.toNat ((↑(List.length a2) : Int) - a1)) (List.drop (Int.toNat a1) a2))) : Int) ≤ (↑(List.length a2) : Int) ∧ (↑(List.length a2) : Int) ≤ (↑(List.length (List.take (Int.toNat a0) a2 ++ List.take (Int.toNat ((↑(List.length a2) : Int) - a1)) (List.drop (Int.toNat a1) a2) ++ List.drop (Int.toNat a0 + List.length (List.take (Int.toNat ((↑(List.length a2) : Int) - a1)) (List.drop (Int.toNat a1) a2))) a2)) : Int))) (
   .grd (decide (Int.toNat (↑(Int.toNat a0 + List.length (List.take (Int.toNat ((↑(List.length a2) : Int) - a1)) (List.drop (Int.toNat a1) a2))) : Int) + Int.toNat ((↑(List.length a2) : Int) - (↑(Int.toNat a0 + List.length (List.take (Int.toNat ((↑(List.length a2) : Int) - a1)) (List.drop (Int.toNat a1) a2))) : Int)) ≤ List.length (List.take (Int.toNat a0) a2 ++ List.take (Int.toNat ((↑(List.length a2) : Int) - a1)) (List.drop (Int.toNat a1) a2) ++ List.drop (Int.toNat a0 + List.length (List.take (Int.toNat ((↑(List.length a2) : Int) - a1)) (List.drop (Int.toNat a1) a2))) a2))) (
   .grd (decide (Int.toNat a0 + List.length (List.take (Int.toNat ((↑(List.length a2) : Int) - a1)) (List.drop (Int.toNat a1) a2)) = List.length (List.take (Int.toNat a0 + List.length (List.take (Int.toNat ((↑(List.length a2) : Int) - a1)) (List.drop (Int.toNat a1) a2))) (List.take (Int.toNat (↑(Int.toNat a0 + List.length (List.take (Int.toNat ((↑(List.length a2) : Int) - a1)) (List.drop (Int.toNat a1) a2))) : Int)) (List.take (Int.toNat a0) a2 ++ List.take (Int.toNat ((↑(List.length a2) : Int) - a1)) (List.drop (Int.toNat a1) a2) ++ List.drop (Int.toNat a0 + List.length (List.take (Int.toNat ((↑(List.length a2) : Int) - a1)) (List.drop (Int.toNat a1) a2))) a2) ++ List.replicate (Int.toNat ((↑(List.length a2) : Int) - (↑(Int.toNat a0 + List.length (List.take (Int.toNat ((↑(List.length a2) : Int) - a1)) (List.drop (Int.toNat a1) a2))) : Int))) (TDue.mk (0 : Int) (0 : Int)) ++ List.drop (Int.toNat (↑(Int.toNat a0 + List.length (List.take (Int.toNat ((↑(List.length a2) : Int) - a1)) (List.drop (Int.toNat a1) a2))) : Int) + List.length (List.replicate (Int.toNat ((↑(List.length a2) : Int) - (↑(Int.toNat a0 + List.length (List.take (Int.toNat ((↑(List.length a2) : Int) - a1)) (List.drop (Int.toNat a1) a2))) : Int))) (TDue.mk (0 : Int) (0 : Int)))) (List.take (Int.toNat a0) a2 ++ List.take (Int.toNat ((↑(List.length a2) : Int) - a1)) (List.drop (Int.toNat a1) a2) ++ List.drop (Int.toNat a0 + List.length (List.take (Int.toNat ((↑(List.length a2) : Int) - a1)) (List.drop (Int.toNat a1) a2))) a2))))) (
   .ret (List.take (Int.toNat a0 + List.length (List.take (Int.toNat ((↑(List.length a2) : Int) - a1)) (List.drop (Int.toNat a1) a2))) (List.take (Int.toNat (↑(Int.toNat a0 + List.length (List.take (Int.toNat ((↑(List.length a2) : Int) - a1)) (List.drop (Int.toNat a1) a2))) : Int)) (List.take (Int.toNat a0) a2 ++ List.take (Int.toNat ((↑(List.length a2) : Int) - a1)) (List.drop (Int.toNat a1) a2) ++ List.drop (Int.toNat a0 + List.length (List.take (Int.toNat ((↑(List.length a2) : Int) - a1)) (List.drop (Int.toNat a1) a2))) a2) ++ List.replicate (Int.toNat ((↑(List.length a2) : Int) - (↑(Int.toNat a0 + List.length (List.take (Int.toNat ((↑(List.length a2) : Int) - a1)) (List.drop (Int.toNat a1) a2))) : Int))) (TDue.mk (0 : Int) (0 : Int)) ++ List.drop (Int.toNat (↑(Int.toNat a0 + List.length (List.take (Int.toNat ((↑(List.length a2) : Int) - a1)) (List.drop (Int.toNat a1) a2))) : Int) + List.length (List.replicate (Int.toNat ((↑(List.length a2) : Int) - (↑(Int.toNat a0 + List.length (List.take (Int.toNat ((↑(List.length a2) : Int) - a1)) (List.drop (Int.toNat a1) a2))) : Int))) (TDue.mk (0 : Int) (0 : Int)))) (List.take (Int.toNat a0) a2 ++ List.take (Int.toNat ((↑(List.length a2) : Int) - a1)) (List.drop (Int.toNat a1) a2) ++ List.drop (Int.toNat a0 + List.length (List.take (Int.toNat ((↑(List.length a2) : Int) - a1)) (List.drop (Int.toNat a1) a2))) a2)), ()))))))))))
theorem delDue_eq (x : (Int × (Int × ((List TDue) × Unit)))) : gsTr Try.prog cod [FS.pf bLen64, FS.pf bLen, FS.pf wList, FS.pf wCount, FS.pf wFind, FS.pf wCheck, clOwn, GS.pf wOwn, GS.pf wPut, GS.pf wTurn, FS.pf wTick] [] 30 19 delDue_ap delDue_rp x = delDue_tree x := by kernel_rfl
def delDue_fn (x : (Int × (Int × ((List TDue) × Unit)))) : Option ((List TDue) × Unit) := (delDue_tree x).eval
def delDue : GS Try.prog := ⟨19, [1, 0, 0], delDue_ap, delDue_rp, delDue_fn, fun x r h ys m g he hg => gs_sound (cod := cod) (Γ := [FS.pf bLen64, FS.pf bLen, FS.pf wList, FS.pf wCount, FS.pf wFind, FS.pf wCheck, clOwn, GS.pf wOwn, GS.pf wPut, GS.pf wTurn, FS.pf wTick]) (Λs := []) (n := 30) ((congrArg Tr.eval (delDue_eq x)).trans h) he hg⟩
def wSet_ap : List VP1 := [.aggG [.i .i64] 14 96, .one (.i .i64), .one (.i .i64)]
def wSet_rp : SP := ⟨1, [(0, .tup [.aggG [.i .i64] 14 96, .one (.i .i64)])], []⟩
def wSet_tree : (Int × ((List (List TDue)) × (Int × (Int × Unit)))) → Tr (Int × ((List (List TDue)) × (Int × Unit))) :=
  fun (a0, a1, a2, a3, _) =>
  .grd (decide (obB (sameN (14 : Nat) (95 : Nat) a1) = (0 : Nat))) (
  .opt (β := (Int × Unit)) ((wCheck_fn (a0, (a1, ())))) (fun r0 =>
  .ite (!decide (r0.1 = (0 : Int))) (
   .grd (true) (
   .ret ((0 : Int), (List.replicate (96 : Nat) [], (r0.1, ()))))) (
   .ite (decide (a3 ≤ a0)) (
    .grd (true) (
    .ret ((0 : Int), (List.replicate (96 : Nat) [], ((1 : Int), ()))))) (
    .ite (decide ((16777216 : Int) ≤ a3)) (
     .grd (true) (
     .ret ((0 : Int), (List.replicate (96 : Nat) [], ((1 : Int), ()))))) (
     .grd (decide (obB (sameN (14 : Nat) (95 : Nat) a1) = (0 : Nat))) (
     .opt (β := (Int × (Int × Unit))) ((wFind_fn (a0, (a1, (a2, ()))))) (fun r1 =>
     .ite (decide ((0 : Int) ≤ r1.1)) (
      .grd (true) (
      .ret ((0 : Int), (List.replicate (96 : Nat) [], ((8 : Int), ()))))) (
      .grd (decide (obB (sameN (14 : Nat) (95 : Nat) a1) = (0 : Nat))) (
      .opt (β := (Int × Unit)) ((wCount_fn (a0, (a1, ())))) (fun r2 =>
      .ite (decide (r2.1 = (500 : Int))) (
       .grd (true) (
       .ret ((0 : Int), (List.replicate (96 : Nat) [], ((6 : Int), ()))))) (
       .grd (decide (obB (sameN (14 : Nat) (95 : Nat) a1) = (0 : Nat))) (
       .opt (β := (Int × (Nat × ((List (List TDue)) × Unit)))) ((wOwn_fn (a0, (a1, ())))) (fun r3 =>
       .opt (β := (Int × (Nat × ((List (List TDue)) × Unit)))) ((wPut_fn (a2, (a3, (r3.1, (r3.2.1, (r3.2.2.1, ()))))))) (fun r4 =>
       .grd (decide (obB (sameN (14 : Nat) (95 : Nat) r4.2.2.1) = (0 : Nat))) (
       .ret (r4.1, (r4.2.2.1, ((0 : Int), ()))))))))))))))))))
theorem wSet_eq (x : (Int × ((List (List TDue)) × (Int × (Int × Unit))))) : fnTr Try.prog cod [FS.pf bLen64, FS.pf bLen, FS.pf wList, FS.pf wCount, FS.pf wFind, FS.pf wCheck, clOwn, GS.pf wOwn, GS.pf wPut, GS.pf wTurn, FS.pf wTick, GS.pf delDue] [] 30 12 wSet_ap wSet_rp x = wSet_tree x := by kernel_rfl
def wSet_fn (x : (Int × ((List (List TDue)) × (Int × (Int × Unit))))) : Option (Int × ((List (List TDue)) × (Int × Unit))) := (wSet_tree x).eval
def wSet : FS Try.prog := ⟨12, wSet_ap, wSet_rp, wSet_fn, fun x r h => fnTr_sound (cod := cod) (Γ := [FS.pf bLen64, FS.pf bLen, FS.pf wList, FS.pf wCount, FS.pf wFind, FS.pf wCheck, clOwn, GS.pf wOwn, GS.pf wPut, GS.pf wTurn, FS.pf wTick, GS.pf delDue]) (Λs := []) (n := 30) ((congrArg Tr.eval (wSet_eq x)).trans h)⟩
def wStop_ap : List VP1 := [.aggG [.i .i64] 14 96, .one (.i .i64)]
def wStop_rp : SP := ⟨1, [(0, .tup [.aggG [.i .i64] 14 96, .one (.i .i64)])], []⟩
def wStop_tree : (Int × ((List (List TDue)) × (Int × Unit))) → Tr (Int × ((List (List TDue)) × (Int × Unit))) :=
  fun (a0, a1, a2, _) =>
  .grd (decide (obB (sameN (14 : Nat) (95 : Nat) a1) = (0 : Nat))) (
  .opt (β := (Int × Unit)) ((wCheck_fn (a0, (a1, ())))) (fun r0 =>
  .ite (!decide (r0.1 = (0 : Int))) (
   .grd (true) (
   .ret ((0 : Int), (List.replicate (96 : Nat) [], (r0.1, ()))))) (
   .grd (decide (obB (sameN (14 : Nat) (95 : Nat) a1) = (0 : Nat))) (
   .opt (β := (Int × (Int × Unit))) ((wFind_fn (a0, (a1, (a2, ()))))) (fun r1 =>
   .ite (decide (r1.1 < (0 : Int))) (
    .grd (true) (
    .ret ((0 : Int), (List.replicate (96 : Nat) [], ((7 : Int), ()))))) (
    .grd (decide (obB (sameN (14 : Nat) (95 : Nat) a1) = (0 : Nat))) (
    .opt (β := (Int × (Nat × ((List (List TDue)) × Unit)))) ((wOwn_fn (a0, (a1, ())))) (fun r2 =>
    .grd (decide ((0 : Int) ≤ r1.1 ∧ r1.1 < (↑(96 : Nat) : Int))) (
    .grd (decide (Int.toNat r1.1 < r2.2.1)) (
    .opt (β := (List TDue)) (r2.2.2.1[Int.toNat r1.1]?) (fun r3 =>
    .grd (decide (List.length r3 = List.length r3)) (
    .opt (β := ((List TDue) × Unit)) ((delDue_fn (r1.2.1, (IntKind.wrap IntKind.i64 (r1.2.1 + (1 : Int)), (r3, ()))))) (fun r4 =>
    .grd (decide ((0 : Int) ≤ r1.1 ∧ r1.1 < (↑(96 : Nat) : Int))) (
    .grd (decide (Int.toNat r1.1 = Int.toNat r1.1)) (
    .grd (decide (obB (sameN (14 : Nat) (95 : Nat) (List.set r2.2.2.1 (Int.toNat r1.1) r4.1)) = (0 : Nat))) (
    .ret (r2.1, (List.set r2.2.2.1 (Int.toNat r1.1) r4.1, ((0 : Int), ())))))))))))))))))))
theorem wStop_eq (x : (Int × ((List (List TDue)) × (Int × Unit)))) : fnTr Try.prog cod [FS.pf bLen64, FS.pf bLen, FS.pf wList, FS.pf wCount, FS.pf wFind, FS.pf wCheck, clOwn, GS.pf wOwn, GS.pf wPut, GS.pf wTurn, FS.pf wTick, GS.pf delDue, FS.pf wSet] [] 30 13 wStop_ap wStop_rp x = wStop_tree x := by kernel_rfl
def wStop_fn (x : (Int × ((List (List TDue)) × (Int × Unit)))) : Option (Int × ((List (List TDue)) × (Int × Unit))) := (wStop_tree x).eval
def wStop : FS Try.prog := ⟨13, wStop_ap, wStop_rp, wStop_fn, fun x r h => fnTr_sound (cod := cod) (Γ := [FS.pf bLen64, FS.pf bLen, FS.pf wList, FS.pf wCount, FS.pf wFind, FS.pf wCheck, clOwn, GS.pf wOwn, GS.pf wPut, GS.pf wTurn, FS.pf wTick, GS.pf delDue, FS.pf wSet]) (Λs := []) (n := 30) ((congrArg Tr.eval (wStop_eq x)).trans h)⟩
end Go.Proofs.Ytnhiilbmgkbbaaa.X
