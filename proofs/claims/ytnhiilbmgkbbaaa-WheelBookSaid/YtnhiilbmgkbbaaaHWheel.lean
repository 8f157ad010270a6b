/- Functions of the program, as trees (printed by a program of mine: tool/XTool, xg.py), each with the proof that the machine comes to what its tree says. Conditions: none. -/
import Derived.Test.YtnhiilbmgkbbaaaCod
import Derived.KernelRfl
import Derived.Test.YtnhiilbmgkbbaaaGWheel
namespace Go.Proofs.Ytnhiilbmgkbbaaa.X
open Go Go.RowKit Go.Proofs.Ytnhiilbmgkbbaaa.Abs
set_option maxRecDepth 100000
set_option linter.unusedVariables false
theorem clOwn_h1 (xs : List (τ 14)) : (bodyTr Go.Proofs.Try.prog cod 11 [.one (.nn (.st 14 xs))]).eval = (cloneRes 33 14 16 xs).eval := by kernel_rfl
theorem clOwn_h2 : (bodyTr Go.Proofs.Try.prog cod 11 [.one .nil]).eval = some (.one .nil, []) := by kernel_rfl
def clOwn : PF Go.Proofs.Try.prog := clonePF Go.Proofs.Try.prog cod 11 33 14 16 clOwn_h1 clOwn_h2
def wOwn_L22_2 : LS := ⟨2, [(1, 1), (2, 2), (8000001, 8000001)], ⟨17, [(4, .v (.one (.i .i64))), (1, .v (.one (.ptr 1 0))), (2, .v (.one (.ptr 2 0)))], [(1, .cells (List.append [.i .i64] (grs 8000001 96))), (2, .cellsG [.i .i64] 14 96), (8000001, .grp 33 14 false)]⟩, [⟨some 0, [(2, 2), (1, 1), (8000001, 8000001)], ⟨17, [(2, .v (.one (.ptr 2 0))), (1, .v (.one (.ptr 1 0)))], [(2, .cellsG [.i .i64] 14 96), (1, .cells (List.append [.i .i64] (grs 8000001 96))), (8000001, .grp 33 14 false)]⟩⟩], [(200000001, 33, 14)]⟩
def wOwn_step22_2 : (Int × (Int × (Int × ((List (List TDue)) × (Nat × ((List (List TDue)) × Unit)))))) → Tr ((Int × (Int × (Int × ((List (List TDue)) × (Nat × ((List (List TDue)) × Unit)))))) ⊕ (Int × ((List (List TDue)) × (Int × (Nat × ((List (List TDue)) × Unit)))))) :=
  fun (a0, a1, a2, a3, a4, a5, _) =>
  .ite (decide (a0 < (96 : Int))) (
   .grd (decide ((0 : Int) ≤ a0 ∧ a0 < (↑(96 : Nat) : Int))) (
   .grd (decide (a4 ≤ Int.toNat a0)) (
   .opt (β := (List TDue)) (a5[Int.toNat a0]?) (fun r0 =>
   .grd (decide (((0 : Nat) + List.length r0) * (16 : Nat) ≤ (140737488355328 : Nat) ∧ (0 : Nat) + List.length r0 ≤ (9223372036854775807 : Nat))) (
   .grd (decide ((0 : Int) ≤ a0 ∧ a0 < (↑(96 : Nat) : Int))) (
   .grd (decide (Int.toNat a0 = a4)) (
   .grd (decide (obB (sameN (14 : Nat) (95 : Nat) a3) = (0 : Nat))) (
   .ret (Sum.inl (IntKind.wrap IntKind.i64 (a0 + (1 : Int)), (a1, (a2, (a3, (a4 + (1 : Nat), (List.set a5 (Int.toNat a0) r0, ()))))))))))))))) (
   .grd (decide (obB (sameN (14 : Nat) (95 : Nat) a3) = (0 : Nat))) (
   .ret (Sum.inr (a2, (a3, (a1, (a4, (a5, ()))))))))
def wOwn_loop22_2 (x : (Int × (Int × (Int × ((List (List TDue)) × (Nat × ((List (List TDue)) × Unit))))))) : Option (Int × ((List (List TDue)) × (Int × (Nat × ((List (List TDue)) × Unit))))) := loopO 220002 (fun x => (wOwn_step22_2 x).eval) 18446744073709551616 x
def wOwn_ap : SP := ⟨17, [(0, .v (.aggG [.i .i64] 14 96))], []⟩
def wOwn_rp : SP := ⟨1, [(0, .v (.agg (List.append [.i .i64] (grs 2000000 96))))], [(2000000, .grp 33 14 true)]⟩
def wOwn_tree : (Int × ((List (List TDue)) × Unit)) → Tr (Int × (Nat × ((List (List TDue)) × Unit))) :=
  fun (a0, a1, _) =>
  .grd (true) (
  .opt (β := (Int × ((List (List TDue)) × (Int × (Nat × ((List (List TDue)) × Unit)))))) ((wOwn_loop22_2 ((0 : Int), (a0, ((0 : Int), (List.replicate (96 : Nat) [], ((0 : Nat), (gdN (14 : Nat) (96 : Nat) a1, ())))))))) (fun r0 =>
  .ret (r0.2.2.1, (r0.2.2.2.1, (r0.2.2.2.2.1, ())))))
theorem wOwn_eq (x : (Int × ((List (List TDue)) × Unit))) : gsTr Try.prog cod [FS.pf bLen64, FS.pf bLen, FS.pf wList, FS.pf wCount, FS.pf wFind, FS.pf wCheck, clOwn] [(22, wOwn_L22_2)] 30 22 wOwn_ap wOwn_rp x = wOwn_tree x := by kernel_rfl
def wOwn_fn (x : (Int × ((List (List TDue)) × Unit))) : Option (Int × (Nat × ((List (List TDue)) × Unit))) := (wOwn_tree x).eval
def wOwn : GS Try.prog := ⟨22, [0], wOwn_ap, wOwn_rp, wOwn_fn, fun x r h ys m g he hg => gs_sound (cod := cod) (Γ := [FS.pf bLen64, FS.pf bLen, FS.pf wList, FS.pf wCount, FS.pf wFind, FS.pf wCheck, clOwn]) (Λs := [(22, wOwn_L22_2)]) (n := 30) ((congrArg Tr.eval (wOwn_eq x)).trans h) he hg⟩
def wPut_ap : SP := ⟨26, [(0, .v (.one (.ptr 1000000 0))), (1, .v (.agg [.i .i64, .i .i64]))], [(1000000, .cells (List.append [.i .i64] (grs 1000100 96))), (1000100, .grp 33 14 true)]⟩
def wPut_rp : SP := ⟨1, [(0, .tup [])], [(1000000, .cells (List.append [.i .i64] (grs 1000100 96))), (1000100, .grp 33 14 true)]⟩
def wPut_tree : (Int × (Int × (Int × (Nat × ((List (List TDue)) × Unit))))) → Tr (Int × (Nat × ((List (List TDue)) × Unit))) :=
  fun (a0, a1, a2, a3, a4, _) =>
  .opt (β := (Int × Unit)) ((wList_fn (a2, (a1, ())))) (fun r0 =>
  .grd (decide ((0 : Int) ≤ r0.1 ∧ r0.1 < (↑(96 : Nat) : Int))) (
  .grd (decide (Int.toNat r0.1 < a3)) (
  .opt (β := (List TDue)) (a4[Int.toNat r0.1]?) (fun r1 =>
  .grd (decide ((List.length r1 + List.length [TDue.mk a0 a1]) * (16 : Nat) ≤ (140737488355328 : Nat) ∧ List.length r1 + List.length [TDue.mk a0 a1] ≤ (9223372036854775807 : Nat))) (
  .grd (decide ((0 : Int) ≤ r0.1 ∧ r0.1 < (↑(96 : Nat) : Int))) (
  .grd (decide (Int.toNat r0.1 = Int.toNat r0.1)) (
  .ret (a2, (a3, (List.set a4 (Int.toNat r0.1) (r1 ++ [TDue.mk a0 a1]), ()))))))))))
theorem wPut_eq (x : (Int × (Int × (Int × (Nat × ((List (List TDue)) × Unit)))))) : gsTr Try.prog cod [FS.pf bLen64, FS.pf bLen, FS.pf wList, FS.pf wCount, FS.pf wFind, FS.pf wCheck, clOwn, GS.pf wOwn] [] 30 26 wPut_ap wPut_rp x = wPut_tree x := by kernel_rfl
def wPut_fn (x : (Int × (Int × (Int × (Nat × ((List (List TDue)) × Unit)))))) : Option (Int × (Nat × ((List (List TDue)) × Unit))) := (wPut_tree x).eval
def wPut : GS Try.prog := ⟨26, [1, 0], wPut_ap, wPut_rp, wPut_fn, fun x r h ys m g he hg => gs_sound (cod := cod) (Γ := [FS.pf bLen64, FS.pf bLen, FS.pf wList, FS.pf wCount, FS.pf wFind, FS.pf wCheck, clOwn, GS.pf wOwn]) (Λs := []) (n := 30) ((congrArg Tr.eval (wPut_eq x)).trans h) he hg⟩
end Go.Proofs.Ytnhiilbmgkbbaaa.X
