/- Functions of the program, as trees (printed by a program of mine: tool/XTool, xg.py), each with the proof that the machine comes to what its tree says. Conditions: none. -/
import Derived.Test.YtgdlhdkofcicjaaCod
import Derived.KernelRfl
import Derived.Test.YtgdlhdkofcicjaaLAges
import Derived.Test.YtgdlhdkofcicjaaAbsN
import Derived.Test.YtgdlhdkofcicjaaAbsJ
namespace Go.Proofs.Ytgdlhdkofcicjaa.X
open Go Go.RowKit Go.Proofs.Ytgdlhdkofcicjaa.Abs
set_option maxRecDepth 100000
set_option linter.unusedVariables false
def agBehindO_ap : SP := ⟨25, [(0, .v (.agg [.i .i64, .st 8 false])), (1, .v (.one (.i .i64))), (2, .v (.agg [.i .i64, .i .i64]))], []⟩
def agBehindO_rp : SP := ⟨1, [(0, .v (.agg [.i .i64, .own 2000000]))], [(2000000, .row 83 8 true true)]⟩
def agBehindO_tree : (Int × ((List TStay) × (Int × (Int × (Int × Unit))))) → Tr (Int × ((List TStay) × Unit)) :=
  fun (a0, a1, a2, a3, a4, _) =>
  .grd (decide (((0 : Nat) + List.length a1) * (16 : Nat) ≤ (140737488355328 : Nat) ∧ (0 : Nat) + List.length a1 ≤ (9223372036854775807 : Nat))) (
  .ite (decide ((0 : Int) ≤ a2)) (
   .grd (decide (List.length a1 = List.length a1)) (
   .opt (β := ((List TStay) × Unit)) ((delStay_fn (a2, (IntKind.wrap IntKind.i64 (a2 + (1 : Int)), (a1, ()))))) (fun r0 =>
   .grd (decide ((List.length r0.1 + List.length [TStay.mk a3 a4]) * (16 : Nat) ≤ (140737488355328 : Nat) ∧ List.length r0.1 + List.length [TStay.mk a3 a4] ≤ (9223372036854775807 : Nat))) (
   .grd (decide (List.length (r0.1 ++ [TStay.mk a3 a4]) = List.length (r0.1 ++ [TStay.mk a3 a4]))) (
   .ret (a0, (r0.1 ++ [TStay.mk a3 a4], ()))))))) (
   .grd (decide ((List.length a1 + List.length [TStay.mk a3 a4]) * (16 : Nat) ≤ (140737488355328 : Nat) ∧ List.length a1 + List.length [TStay.mk a3 a4] ≤ (9223372036854775807 : Nat))) (
   .grd (decide (List.length (a1 ++ [TStay.mk a3 a4]) = List.length (a1 ++ [TStay.mk a3 a4]))) (
   .ret (a0, (a1 ++ [TStay.mk a3 a4], ()))))))
theorem agBehindO_eq (x : (Int × ((List TStay) × (Int × (Int × (Int × Unit)))))) : gsTr Try.prog cod [clStay, GS.pf delStay, FS.pf eqStay, FS.pf agTaken, FS.pf agCheck, FS.pf agPlace, FS.pf agLate, FS.pf agNew, FS.pf containsInt, FS.pf eqInt, FS.pf agesLives, FS.pf agesRight, FS.pf agesRoom] [] 30 65 agBehindO_ap agBehindO_rp x = agBehindO_tree x := by kernel_rfl
def agBehindO_fn (x : (Int × ((List TStay) × (Int × (Int × (Int × Unit)))))) : Option (Int × ((List TStay) × Unit)) := (agBehindO_tree x).eval
def agBehindO : GS Try.prog := ⟨65, [0, 0, 0], agBehindO_ap, agBehindO_rp, agBehindO_fn, fun x r h ys m g he hg => gs_sound (cod := cod) (Γ := [clStay, GS.pf delStay, FS.pf eqStay, FS.pf agTaken, FS.pf agCheck, FS.pf agPlace, FS.pf agLate, FS.pf agNew, FS.pf containsInt, FS.pf eqInt, FS.pf agesLives, FS.pf agesRight, FS.pf agesRoom]) (Λs := []) (n := 30) ((congrArg Tr.eval (agBehindO_eq x)).trans h) he hg⟩
def agTakeO_L36_8 : LS := ⟨8, [(4, 4), (2, 2)], ⟨45, [(4, .v (.one (.ptr 4 0))), (1, .v (.one (.i .i64))), (2, .v (.one (.ptr 2 0))), (29, .v (.one (.i .i64))), (8, .v (.one (.i .u64))), (28, .v (.one (.i .i64)))], [(4, .cells [.i .i64, .nil]), (2, .cells [.i .i64, .st 8 false])]⟩, [⟨none, [(4, 4), (42000, 42000)], ⟨45, [(4, .v (.one (.ptr 4 0))), (5, .v (.one (.i .i64))), (6, .v (.one (.i .i64)))], [(4, .cells [.i .i64, .own 42000]), (42000, .row 83 8 true true)]⟩⟩, ⟨some 0, [(4, 4)], ⟨45, [(4, .v (.one (.ptr 4 0)))], [(4, .cells [.i .i64, .nil])]⟩⟩], []⟩
def agTakeO_step36_8 : (Int × (Int × (Int × (Int × (Int × (Int × ((List TStay) × Unit))))))) → Tr ((Int × (Int × (Int × (Int × (Int × (Int × ((List TStay) × Unit))))))) ⊕ ((Int × (Int × (Int × ((List TStay) × Unit)))) ⊕ (Int × Unit))) :=
  fun (a0, a1, a2, a3, a4, a5, a6, _) =>
  .ite (decide (a1 < a3)) (
   .grd (decide ((0 : Int) ≤ a1)) (
   .ite (decide (bits BinOp.and IntKind.u64 (Int.fdiv a2 ((2 : Int) ^ min (Int.toNat a1) (64 : Nat))) (1 : Int) = (0 : Int))) (
    .opt (β := (Int × ((List TStay) × Unit))) ((agBehindO_fn (a5, (a6, ((-1 : Int), (a1, (a0, ()))))))) (fun r0 =>
    .grd (decide (List.length r0.2.fst = List.length r0.2.1)) (
    .ret (Sum.inr (Sum.inl (a1, ((0 : Int), (r0.1, (r0.2.1, ()))))))))) (
    .ret (Sum.inl (a0, (IntKind.wrap IntKind.i64 (a1 + (1 : Int)), (a2, (a3, (a4, (a5, (a6, ()))))))))))) (
   .ret (Sum.inr (Sum.inr (a4, ()))))
def agTakeO_loop36_8 (x : (Int × (Int × (Int × (Int × (Int × (Int × ((List TStay) × Unit)))))))) : Option ((Int × (Int × (Int × ((List TStay) × Unit)))) ⊕ (Int × Unit)) := loopO 360008 (fun x => (agTakeO_step36_8 x).eval) 18446744073709551616 x
def agTakeO_ap : SP := ⟨45, [(0, .v (.agg [.i .i64, .st 8 false])), (1, .v (.one (.i .i64)))], []⟩
def agTakeO_rp : SP := ⟨1, [(0, .tup [.agg [.i .i64, .own 2000000], .one (.i .i64), .one (.i .i64)])], [(2000000, .row 83 8 true true)]⟩
def agTakeO_tree : (Int × ((List TStay) × (Int × Unit))) → Tr (Int × (Int × (Int × ((List TStay) × Unit)))) :=
  fun (a0, a1, a2, _) =>
  .opt (β := (Int × Unit)) ((agCheck_fn (a0, (a1, ())))) (fun r0 =>
  .ite (!decide (r0.1 = (0 : Int))) (
   .grd (true) (
   .ret ((0 : Int), ((0 : Int), (r0.1, ([], ())))))) (
   .opt (β := (Bool × Unit)) ((agLate_fn (a0, (a1, (a2, ()))))) (fun r1 =>
   .ite (!r1.1) (
    .grd (true) (
    .ret ((0 : Int), ((0 : Int), ((1 : Int), ([], ())))))) (
    .opt (β := (Int × (Bool × Unit))) ((agTaken_fn (a0, (a1, ())))) (fun r2 =>
    .opt (β := ((Int × (Int × (Int × ((List TStay) × Unit)))) ⊕ (Int × Unit))) ((agTakeO_loop36_8 (a2, ((0 : Int), (r2.1, (a0, ((0 : Int), (a0, (a1, ()))))))))) (fun r3 =>
    .sum (β := (Int × (Int × (Int × ((List TStay) × Unit))))) (γ := (Int × Unit)) (r3) (fun r4 =>
     .grd (decide (List.length r4.2.2.2.fst = List.length r4.2.2.2.1)) (
     .ret (r4.2.2.1, (r4.1, (r4.2.1, (r4.2.2.2.1, ())))))) (fun r4 =>
     .grd (true) (
     .ret ((0 : Int), ((0 : Int), ((6 : Int), ([], ()))))))))))))
theorem agTakeO_eq (x : (Int × ((List TStay) × (Int × Unit)))) : gnTr Try.prog cod [clStay, GS.pf delStay, FS.pf eqStay, FS.pf agTaken, FS.pf agCheck, FS.pf agPlace, FS.pf agLate, FS.pf agNew, FS.pf containsInt, FS.pf eqInt, FS.pf agesLives, FS.pf agesRight, FS.pf agesRoom, GS.pf agBehindO] [(36, agTakeO_L36_8)] [(1001, 2000000, 83, 8)] 30 36 agTakeO_ap agTakeO_rp x = agTakeO_tree x := by kernel_rfl
def agTakeO_fn (x : (Int × ((List TStay) × (Int × Unit)))) : Option (Int × (Int × (Int × ((List TStay) × Unit)))) := (agTakeO_tree x).eval
def agTakeO : GS Try.prog := ⟨36, [0, 0], agTakeO_ap, agTakeO_rp, agTakeO_fn, fun x r h ys m g he hg => gn_sound (cod := cod) (Γ := [clStay, GS.pf delStay, FS.pf eqStay, FS.pf agTaken, FS.pf agCheck, FS.pf agPlace, FS.pf agLate, FS.pf agNew, FS.pf containsInt, FS.pf eqInt, FS.pf agesLives, FS.pf agesRight, FS.pf agesRoom, GS.pf agBehindO]) (Λs := [(36, agTakeO_L36_8)]) (n := 30) ((congrArg Tr.eval (agTakeO_eq x)).trans h) he hg⟩
def agTouchO_ap : SP := ⟨33, [(0, .v (.agg [.i .i64, .st 8 false])), (1, .v (.one (.i .i64))), (2, .v (.one (.i .i64)))], []⟩
def agTouchO_rp : SP := ⟨1, [(0, .tup [.agg [.i .i64, .own 2000000], .one (.i .i64)])], [(2000000, .row 83 8 true true)]⟩
def agTouchO_tree : (Int × ((List TStay) × (Int × (Int × Unit)))) → Tr (Int × (Int × ((List TStay) × Unit))) :=
  fun (a0, a1, a2, a3, _) =>
  .opt (β := (Int × Unit)) ((agCheck_fn (a0, (a1, ())))) (fun r0 =>
  .ite (!decide (r0.1 = (0 : Int))) (
   .grd (true) (
   .ret ((0 : Int), (r0.1, ([], ()))))) (
   .opt (β := (Bool × Unit)) ((agLate_fn (a0, (a1, (a3, ()))))) (fun r1 =>
   .ite (!r1.1) (
    .grd (true) (
    .ret ((0 : Int), ((1 : Int), ([], ()))))) (
    .opt (β := (Int × Unit)) ((agPlace_fn (a0, (a1, (a2, ()))))) (fun r2 =>
    .ite (decide (r2.1 < (0 : Int))) (
     .grd (true) (
     .ret ((0 : Int), ((7 : Int), ([], ()))))) (
     .opt (β := (Int × ((List TStay) × Unit))) ((agBehindO_fn (a0, (a1, (r2.1, (a2, (a3, ()))))))) (fun r3 =>
     .grd (decide (List.length r3.2.fst = List.length r3.2.1)) (
     .ret (r3.1, ((0 : Int), (r3.2.1, ())))))))))))
theorem agTouchO_eq (x : (Int × ((List TStay) × (Int × (Int × Unit))))) : gnTr Try.prog cod [clStay, GS.pf delStay, FS.pf eqStay, FS.pf agTaken, FS.pf agCheck, FS.pf agPlace, FS.pf agLate, FS.pf agNew, FS.pf containsInt, FS.pf eqInt, FS.pf agesLives, FS.pf agesRight, FS.pf agesRoom, GS.pf agBehindO, GS.pf agTakeO] [] [(1001, 2000000, 83, 8)] 30 38 agTouchO_ap agTouchO_rp x = agTouchO_tree x := by kernel_rfl
def agTouchO_fn (x : (Int × ((List TStay) × (Int × (Int × Unit))))) : Option (Int × (Int × ((List TStay) × Unit))) := (agTouchO_tree x).eval
def agTouchO : GS Try.prog := ⟨38, [0, 0, 0], agTouchO_ap, agTouchO_rp, agTouchO_fn, fun x r h ys m g he hg => gn_sound (cod := cod) (Γ := [clStay, GS.pf delStay, FS.pf eqStay, FS.pf agTaken, FS.pf agCheck, FS.pf agPlace, FS.pf agLate, FS.pf agNew, FS.pf containsInt, FS.pf eqInt, FS.pf agesLives, FS.pf agesRight, FS.pf agesRoom, GS.pf agBehindO, GS.pf agTakeO]) (Λs := []) (n := 30) ((congrArg Tr.eval (agTouchO_eq x)).trans h) he hg⟩
def agLeaveO_ap : SP := ⟨29, [(0, .v (.agg [.i .i64, .st 8 false])), (1, .v (.one (.i .i64)))], []⟩
def agLeaveO_rp : SP := ⟨1, [(0, .tup [.agg [.i .i64, .own 2000000], .one (.i .i64)])], [(2000000, .row 83 8 true true)]⟩
def agLeaveO_tree : (Int × ((List TStay) × (Int × Unit))) → Tr (Int × (Int × ((List TStay) × Unit))) :=
  fun (a0, a1, a2, _) =>
  .opt (β := (Int × Unit)) ((agCheck_fn (a0, (a1, ())))) (fun r0 =>
  .ite (!decide (r0.1 = (0 : Int))) (
   .grd (true) (
   .ret ((0 : Int), (r0.1, ([], ()))))) (
   .opt (β := (Int × Unit)) ((agPlace_fn (a0, (a1, (a2, ()))))) (fun r1 =>
   .ite (decide (r1.1 < (0 : Int))) (
    .grd (true) (
    .ret ((0 : Int), ((7 : Int), ([], ()))))) (
    .grd (decide (((0 : Nat) + List.length a1) * (16 : Nat) ≤ (140737488355328 : Nat) ∧ (0 : Nat) + List.length a1 ≤ (9223372036854775807 : Nat))) (
    .grd (decide (List.length a1 = List.length a1)) (
    .opt (β := ((List TStay) × Unit)) ((delStay_fn (r1.1, (IntKind.wrap IntKind.i64 (r1.1 + (1 : Int)), (a1, ()))))) (fun r2 =>
    .grd (decide (List.length r2.fst = List.length r2.1)) (
    .ret (a0, ((0 : Int), (r2.1, ())))))))))))
theorem agLeaveO_eq (x : (Int × ((List TStay) × (Int × Unit)))) : gnTr Try.prog cod [clStay, GS.pf delStay, FS.pf eqStay, FS.pf agTaken, FS.pf agCheck, FS.pf agPlace, FS.pf agLate, FS.pf agNew, FS.pf containsInt, FS.pf eqInt, FS.pf agesLives, FS.pf agesRight, FS.pf agesRoom, GS.pf agBehindO, GS.pf agTakeO, GS.pf agTouchO] [] [(1001, 2000000, 83, 8)] 30 34 agLeaveO_ap agLeaveO_rp x = agLeaveO_tree x := by kernel_rfl
def agLeaveO_fn (x : (Int × ((List TStay) × (Int × Unit)))) : Option (Int × (Int × ((List TStay) × Unit))) := (agLeaveO_tree x).eval
def agLeaveO : GS Try.prog := ⟨34, [0, 0], agLeaveO_ap, agLeaveO_rp, agLeaveO_fn, fun x r h ys m g he hg => gn_sound (cod := cod) (Γ := [clStay, GS.pf delStay, FS.pf eqStay, FS.pf agTaken, FS.pf agCheck, FS.pf agPlace, FS.pf agLate, FS.pf agNew, FS.pf containsInt, FS.pf eqInt, FS.pf agesLives, FS.pf agesRight, FS.pf agesRoom, GS.pf agBehindO, GS.pf agTakeO, GS.pf agTouchO]) (Λs := []) (n := 30) ((congrArg Tr.eval (agLeaveO_eq x)).trans h) he hg⟩
def agExpireO_L39_6 : LS := ⟨6, [(4, 4), (8, 8), (2, 2)], ⟨43, [(4, .v (.one (.ptr 4 0))), (8, .v (.one (.own 8))), (2, .v (.one (.ptr 2 0))), (20, .v (.one (.i .i64))), (1, .v (.one (.i .i64))), (18, .v (.one (.st 8 false))), (19, .v (.one (.i .i64)))], [(4, .cells [.i .i64, .nil]), (8, .row 3 0 true true), (2, .cells [.i .i64, .st 8 false])]⟩, [⟨some 0, [(4, 4), (8, 8), (2, 2)], ⟨43, [(4, .v (.one (.ptr 4 0))), (8, .v (.one (.own 8))), (2, .v (.one (.ptr 2 0)))], [(4, .cells [.i .i64, .nil]), (8, .row 3 0 true true), (2, .cells [.i .i64, .st 8 false])]⟩⟩], [(8, 3, 0)]⟩
def agExpireO_step39_6 : (Int × (Int × ((List TStay) × (Int × (Int × ((List Int) × (Int × ((List TStay) × Unit)))))))) → Tr ((Int × (Int × ((List TStay) × (Int × (Int × ((List Int) × (Int × ((List TStay) × Unit)))))))) ⊕ (Int × ((List Int) × (Int × ((List TStay) × Unit))))) :=
  fun (a0, a1, a2, a3, a4, a5, a6, a7, _) =>
  .ite (decide (a0 < a3)) (
   .grd (decide ((0 : Int) ≤ a0)) (
   .opt (β := TStay) (a2[Int.toNat a0]?) (fun r0 =>
   .ite (decide (a1 ≤ r0.at')) (
    .grd (decide (List.length a5 = List.length a5)) (
    .ret (Sum.inr (a4, (a5, (a6, (a7, ()))))))) (
    .grd (decide ((List.length a5 + List.length [r0.room]) * (8 : Nat) ≤ (140737488355328 : Nat) ∧ List.length a5 + List.length [r0.room] ≤ (9223372036854775807 : Nat))) (
    .grd (decide (List.length (a5 ++ [r0.room]) = List.length (a5 ++ [r0.room]))) (
    .ret (Sum.inl (IntKind.wrap IntKind.i64 (a0 + (1 : Int)), (a1, (a2, (a3, (a4, (a5 ++ [r0.room], (a6, (a7, ()))))))))))))))) (
   .grd (decide (List.length a5 = List.length a5)) (
   .ret (Sum.inr (a4, (a5, (a6, (a7, ())))))))
def agExpireO_loop39_6 (x : (Int × (Int × ((List TStay) × (Int × (Int × ((List Int) × (Int × ((List TStay) × Unit))))))))) : Option (Int × ((List Int) × (Int × ((List TStay) × Unit)))) := loopO 390006 (fun x => (agExpireO_step39_6 x).eval) 18446744073709551616 x
def agExpireO_ap : SP := ⟨43, [(0, .v (.agg [.i .i64, .st 8 false])), (1, .v (.one (.i .i64)))], []⟩
def agExpireO_rp : SP := ⟨1, [(0, .tup [.agg [.i .i64, .own 2000000], .one (.own 2000001), .one (.i .i64)])], [(2000000, .row 83 8 true true), (2000001, .row 3 0 true true)]⟩
def agExpireO_tree : (Int × ((List TStay) × (Int × Unit))) → Tr (Int × (Int × ((List TStay) × ((List Int) × Unit)))) :=
  fun (a0, a1, a2, _) =>
  .opt (β := (Int × Unit)) ((agCheck_fn (a0, (a1, ())))) (fun r0 =>
  .ite (!decide (r0.1 = (0 : Int))) (
   .grd (true) (
   .grd (true) (
   .ret ((0 : Int), (r0.1, ([], ([], ()))))))) (
   .grd (true) (
   .opt (β := (Int × ((List Int) × (Int × ((List TStay) × Unit))))) ((agExpireO_loop39_6 ((0 : Int), (a2, (a1, ((↑(List.length a1) : Int), ((0 : Int), ([], (a0, (a1, ())))))))))) (fun r1 =>
   .grd (decide ((0 : Int) ≤ (↑(List.length r1.2.fst) : Int) ∧ (↑(List.length r1.2.fst) : Int) ≤ (↑(List.length r1.2.2.2.1) : Int) ∧ (↑(List.length r1.2.2.2.1) : Int) ≤ (↑(List.length r1.2.2.2.1) : Int))) (
   .grd (decide (((0 : Nat) + List.length (List.drop (Int.toNat (↑(List.length r1.2.fst) : Int)) (List.take (Int.toNat (↑(List.length r1.2.2.2.1) : Int)) r1.2.2.2.1))) * (16 : Nat) ≤ (140737488355328 : Nat) ∧ (0 : Nat) + List.length (List.drop (Int.toNat (↑(List.length r1.2.fst) : Int)) (List.take (Int.toNat (↑(List.length r1.2.2.2.1) : Int)) r1.2.2.2.1)) ≤ (9223372036854775807 : Nat))) (
   .grd (decide (List.length (List.drop (Int.toNat (↑(List.length r1.2.fst) : Int)) (List.take (Int.toNat (↑(List.length r1.2.2.2.1) : Int)) r1.2.2.2.1)) = List.length (List.drop (Int.toNat (↑(List.length r1.2.fst) : Int)) (List.take (Int.toNat (↑(List.length r1.2.2.2.1) : Int)) r1.2.2.2.1)))) (
   .grd (decide (List.length r1.2.fst = List.length r1.2.1)) (
   .ret (r1.2.2.1, ((0 : Int), (List.drop (Int.toNat (↑(List.length r1.2.fst) : Int)) (List.take (Int.toNat (↑(List.length r1.2.2.2.1) : Int)) r1.2.2.2.1), (r1.2.1, ()))))))))))))
theorem agExpireO_eq (x : (Int × ((List TStay) × (Int × Unit)))) : gnTr Try.prog cod [clStay, GS.pf delStay, FS.pf eqStay, FS.pf agTaken, FS.pf agCheck, FS.pf agPlace, FS.pf agLate, FS.pf agNew, FS.pf containsInt, FS.pf eqInt, FS.pf agesLives, FS.pf agesRight, FS.pf agesRoom, GS.pf agBehindO, GS.pf agTakeO, GS.pf agTouchO, GS.pf agLeaveO] [(39, agExpireO_L39_6)] [(1001, 2000000, 83, 8), (1, 2000001, 3, 0)] 30 39 agExpireO_ap agExpireO_rp x = agExpireO_tree x := by kernel_rfl
def agExpireO_fn (x : (Int × ((List TStay) × (Int × Unit)))) : Option (Int × (Int × ((List TStay) × ((List Int) × Unit)))) := (agExpireO_tree x).eval
def agExpireO : GS Try.prog := ⟨39, [0, 0], agExpireO_ap, agExpireO_rp, agExpireO_fn, fun x r h ys m g he hg => gn_sound (cod := cod) (Γ := [clStay, GS.pf delStay, FS.pf eqStay, FS.pf agTaken, FS.pf agCheck, FS.pf agPlace, FS.pf agLate, FS.pf agNew, FS.pf containsInt, FS.pf eqInt, FS.pf agesLives, FS.pf agesRight, FS.pf agesRoom, GS.pf agBehindO, GS.pf agTakeO, GS.pf agTouchO, GS.pf agLeaveO]) (Λs := [(39, agExpireO_L39_6)]) (n := 30) ((congrArg Tr.eval (agExpireO_eq x)).trans h) he hg⟩
def agesOwn_L4012_12 : LS := ⟨12, [(49000, 49000), (25000, 25000), (3, 3)], ⟨93, [(74, .v (.one (.i .i64))), (20, .v (.one (.own 49000))), (64, .v (.agg [.bad, .bad, .bad, .bad])), (7, .v (.one (.own 25000))), (3, .v (.one (.ptr 3 0))), (18, .v (.one (.b))), (65, .v (.one (.kn .i64 3))), (73, .v (.one (.i .i64)))], [(49000, .junk 83 2), (25000, .row 83 8 true true), (3, .cells [.i .i64, .st 8 false])]⟩, [⟨some 2, [(25000, 25000), (3, 3)], ⟨93, [(64, .v (.agg [.bad, .bad, .bad, .bad])), (7, .v (.one (.own 25000))), (3, .v (.one (.ptr 3 0))), (18, .v (.one (.b))), (65, .v (.one (.kn .i64 3)))], [(25000, .row 83 8 true true), (3, .cells [.i .i64, .st 8 false])]⟩⟩], []⟩
def agesOwn_step4012_12 : (Int × (Bool × (Int × (Nat × ((List TStay) × (Int × ((List TStay) × Unit))))))) → Tr ((Int × (Bool × (Int × (Nat × ((List TStay) × (Int × ((List TStay) × Unit))))))) ⊕ (Bool × ((List TStay) × (Int × ((List TStay) × Unit))))) :=
  fun (a0, a1, a2, a3, a4, a5, a6, _) =>
  .ite (decide (a0 < a2)) (
   .grd (decide ((0 : Int) ≤ a0 ∧ a0 < (↑a3 : Int))) (
   .grd (decide (Int.toNat a0 < a3)) (
   .grd (decide (a3 = a3)) (
   .grd (decide (List.length a4 = List.length a4)) (
   .grd (decide (a3 = a3)) (
   .ret (Sum.inl (IntKind.wrap IntKind.i64 (a0 + (1 : Int)), (a1, (a2, (a3, (a4, (a5, (a6, ())))))))))))))) (
   .grd (decide (List.length a4 = List.length a4)) (
   .ret (Sum.inr (a1, (a4, (a5, (a6, ())))))))
def agesOwn_loop4012_12 (x : (Int × (Bool × (Int × (Nat × ((List TStay) × (Int × ((List TStay) × Unit)))))))) : Option (Bool × ((List TStay) × (Int × ((List TStay) × Unit)))) := loopO 40120012 (fun x => (agesOwn_step4012_12 x).eval) 18446744073709551616 x
def agesOwn_L3012_12 : LS := ⟨12, [(43000, 43000), (49000, 49000), (25000, 25000), (3, 3)], ⟨93, [(74, .v (.one (.i .i64))), (20, .v (.one (.own 43000))), (64, .v (.agg [.bad, .bad, .bad, .own 49000])), (7, .v (.one (.own 25000))), (3, .v (.one (.ptr 3 0))), (18, .v (.one (.b))), (65, .v (.one (.kn .i64 2))), (73, .v (.one (.i .i64)))], [(43000, .junk 83 2), (49000, .row 83 8 true true), (25000, .row 83 8 true true), (3, .cells [.i .i64, .st 8 false])]⟩, [⟨some 2, [(49000, 49000), (25000, 25000), (3, 3)], ⟨93, [(64, .v (.agg [.bad, .bad, .bad, .own 49000])), (7, .v (.one (.own 25000))), (3, .v (.one (.ptr 3 0))), (18, .v (.one (.b))), (65, .v (.one (.kn .i64 2)))], [(49000, .row 83 8 true true), (25000, .row 83 8 true true), (3, .cells [.i .i64, .st 8 false])]⟩⟩], []⟩
def agesOwn_step3012_12 : (Int × (Bool × (Int × (Nat × ((List TStay) × ((List TStay) × (Int × ((List TStay) × Unit)))))))) → Tr ((Int × (Bool × (Int × (Nat × ((List TStay) × ((List TStay) × (Int × ((List TStay) × Unit)))))))) ⊕ (Bool × ((List TStay) × ((List TStay) × (Int × ((List TStay) × Unit)))))) :=
  fun (a0, a1, a2, a3, a4, a5, a6, a7, _) =>
  .ite (decide (a0 < a2)) (
   .grd (decide ((0 : Int) ≤ a0 ∧ a0 < (↑a3 : Int))) (
   .grd (decide (Int.toNat a0 < a3)) (
   .grd (decide (a3 = a3)) (
   .grd (decide (List.length a4 = List.length a4)) (
   .grd (decide (List.length a5 = List.length a5)) (
   .grd (decide (a3 = a3)) (
   .ret (Sum.inl (IntKind.wrap IntKind.i64 (a0 + (1 : Int)), (a1, (a2, (a3, (a4, (a5, (a6, (a7, ())))))))))))))))) (
   .grd (decide (List.length a4 = List.length a4)) (
   .grd (decide (List.length a5 = List.length a5)) (
   .ret (Sum.inr (a1, (a4, (a5, (a6, (a7, ())))))))))
def agesOwn_loop3012_12 (x : (Int × (Bool × (Int × (Nat × ((List TStay) × ((List TStay) × (Int × ((List TStay) × Unit))))))))) : Option (Bool × ((List TStay) × ((List TStay) × (Int × ((List TStay) × Unit))))) := loopO 30120012 (fun x => (agesOwn_step3012_12 x).eval) 18446744073709551616 x
def agesOwn_L2012_12 : LS := ⟨12, [(37000, 37000), (43000, 43000), (49000, 49000), (25000, 25000), (3, 3)], ⟨93, [(74, .v (.one (.i .i64))), (20, .v (.one (.own 37000))), (64, .v (.agg [.bad, .bad, .own 43000, .own 49000])), (7, .v (.one (.own 25000))), (3, .v (.one (.ptr 3 0))), (18, .v (.one (.b))), (65, .v (.one (.kn .i64 1))), (73, .v (.one (.i .i64)))], [(37000, .junk 83 2), (43000, .row 83 8 true true), (49000, .row 83 8 true true), (25000, .row 83 8 true true), (3, .cells [.i .i64, .st 8 false])]⟩, [⟨some 2, [(43000, 43000), (49000, 49000), (25000, 25000), (3, 3)], ⟨93, [(64, .v (.agg [.bad, .bad, .own 43000, .own 49000])), (7, .v (.one (.own 25000))), (3, .v (.one (.ptr 3 0))), (18, .v (.one (.b))), (65, .v (.one (.kn .i64 1)))], [(43000, .row 83 8 true true), (49000, .row 83 8 true true), (25000, .row 83 8 true true), (3, .cells [.i .i64, .st 8 false])]⟩⟩], []⟩
def agesOwn_step2012_12 : (Int × (Bool × (Int × (Nat × ((List TStay) × ((List TStay) × ((List TStay) × (Int × ((List TStay) × Unit))))))))) → Tr ((Int × (Bool × (Int × (Nat × ((List TStay) × ((List TStay) × ((List TStay) × (Int × ((List TStay) × Unit))))))))) ⊕ (Bool × ((List TStay) × ((List TStay) × ((List TStay) × (Int × ((List TStay) × Unit))))))) :=
  fun (a0, a1, a2, a3, a4, a5, a6, a7, a8, _) =>
  .ite (decide (a0 < a2)) (
   .grd (decide ((0 : Int) ≤ a0 ∧ a0 < (↑a3 : Int))) (
   .grd (decide (Int.toNat a0 < a3)) (
   .grd (decide (a3 = a3)) (
   .grd (decide (List.length a4 = List.length a4)) (
   .grd (decide (List.length a5 = List.length a5)) (
   .grd (decide (List.length a6 = List.length a6)) (
   .grd (decide (a3 = a3)) (
   .ret (Sum.inl (IntKind.wrap IntKind.i64 (a0 + (1 : Int)), (a1, (a2, (a3, (a4, (a5, (a6, (a7, (a8, ())))))))))))))))))) (
   .grd (decide (List.length a4 = List.length a4)) (
   .grd (decide (List.length a5 = List.length a5)) (
   .grd (decide (List.length a6 = List.length a6)) (
   .ret (Sum.inr (a1, (a4, (a5, (a6, (a7, (a8, ())))))))))))
def agesOwn_loop2012_12 (x : (Int × (Bool × (Int × (Nat × ((List TStay) × ((List TStay) × ((List TStay) × (Int × ((List TStay) × Unit)))))))))) : Option (Bool × ((List TStay) × ((List TStay) × ((List TStay) × (Int × ((List TStay) × Unit)))))) := loopO 20120012 (fun x => (agesOwn_step2012_12 x).eval) 18446744073709551616 x
def agesOwn_L1012_12 : LS := ⟨12, [(29000, 29000), (37000, 37000), (43000, 43000), (49000, 49000), (25000, 25000), (3, 3)], ⟨93, [(74, .v (.one (.i .i64))), (20, .v (.one (.own 29000))), (64, .v (.agg [.bad, .own 37000, .own 43000, .own 49000])), (7, .v (.one (.own 25000))), (3, .v (.one (.ptr 3 0))), (18, .v (.one (.b))), (65, .v (.one (.kn .i64 0))), (73, .v (.one (.i .i64)))], [(29000, .junk 83 2), (37000, .row 83 8 true true), (43000, .row 83 8 true true), (49000, .row 83 8 true true), (25000, .row 83 8 true true), (3, .cells [.i .i64, .st 8 false])]⟩, [⟨some 2, [(37000, 37000), (43000, 43000), (49000, 49000), (25000, 25000), (3, 3)], ⟨93, [(64, .v (.agg [.bad, .own 37000, .own 43000, .own 49000])), (7, .v (.one (.own 25000))), (3, .v (.one (.ptr 3 0))), (18, .v (.one (.b))), (65, .v (.one (.kn .i64 0)))], [(37000, .row 83 8 true true), (43000, .row 83 8 true true), (49000, .row 83 8 true true), (25000, .row 83 8 true true), (3, .cells [.i .i64, .st 8 false])]⟩⟩], []⟩
def agesOwn_step1012_12 : (Int × (Bool × (Int × (Nat × ((List TStay) × ((List TStay) × ((List TStay) × ((List TStay) × (Int × ((List TStay) × Unit)))))))))) → Tr ((Int × (Bool × (Int × (Nat × ((List TStay) × ((List TStay) × ((List TStay) × ((List TStay) × (Int × ((List TStay) × Unit)))))))))) ⊕ (Bool × ((List TStay) × ((List TStay) × ((List TStay) × ((List TStay) × (Int × ((List TStay) × Unit)))))))) :=
  fun (a0, a1, a2, a3, a4, a5, a6, a7, a8, a9, _) =>
  .ite (decide (a0 < a2)) (
   .grd (decide ((0 : Int) ≤ a0 ∧ a0 < (↑a3 : Int))) (
   .grd (decide (Int.toNat a0 < a3)) (
   .grd (decide (a3 = a3)) (
   .grd (decide (List.length a4 = List.length a4)) (
   .grd (decide (List.length a5 = List.length a5)) (
   .grd (decide (List.length a6 = List.length a6)) (
   .grd (decide (List.length a7 = List.length a7)) (
   .grd (decide (a3 = a3)) (
   .ret (Sum.inl (IntKind.wrap IntKind.i64 (a0 + (1 : Int)), (a1, (a2, (a3, (a4, (a5, (a6, (a7, (a8, (a9, ())))))))))))))))))))) (
   .grd (decide (List.length a4 = List.length a4)) (
   .grd (decide (List.length a5 = List.length a5)) (
   .grd (decide (List.length a6 = List.length a6)) (
   .grd (decide (List.length a7 = List.length a7)) (
   .ret (Sum.inr (a1, (a4, (a5, (a6, (a7, (a8, (a9, ())))))))))))))
def agesOwn_loop1012_12 (x : (Int × (Bool × (Int × (Nat × ((List TStay) × ((List TStay) × ((List TStay) × ((List TStay) × (Int × ((List TStay) × Unit))))))))))) : Option (Bool × ((List TStay) × ((List TStay) × ((List TStay) × ((List TStay) × (Int × ((List TStay) × Unit))))))) := loopO 10120012 (fun x => (agesOwn_step1012_12 x).eval) 18446744073709551616 x
def agesOwn_ap : List VP1 := [.agg [.i .i64, .st 8 false], .one (.i .i64), .one (.i .i64)]
def agesOwn_tree : (Int × ((List TStay) × (Int × (Int × Unit)))) → Tr Prop :=
  fun (a0, a1, a2, a3, _) =>
  .grd (decide (((0 : Nat) + List.length a1) * (16 : Nat) ≤ (140737488355328 : Nat) ∧ (0 : Nat) + List.length a1 ≤ (9223372036854775807 : Nat))) (
  .opt (β := (Int × (Int × (Int × ((List TStay) × Unit))))) ((agTakeO_fn (a0, (a1, (a3, ()))))) (fun r0 =>
  .opt (β := (Int × (Int × ((List TStay) × Unit)))) ((agTouchO_fn (a0, (a1, (a2, (a3, ())))))) (fun r1 =>
  .opt (β := (Int × (Int × ((List TStay) × Unit)))) ((agLeaveO_fn (a0, (a1, (a2, ()))))) (fun r2 =>
  .opt (β := (Int × (Int × ((List TStay) × ((List Int) × Unit))))) ((agExpireO_fn (a0, (a1, (a3, ()))))) (fun r3 =>
  .opt (β := (Bool × Unit)) ((eqStay_fn (a1, (a1, ())))) (fun r4 =>
  .ite (true) (
   .ret (AllP fun (n5 : Nat) =>
    .grd (decide ((↑n5 : Int) = (↑n5 : Int))) (
    .grd (decide (n5 = n5)) (
    .grd (decide (List.length r1.2.2.fst = List.length r1.2.2.1)) (
    .grd (decide (List.length r2.2.2.fst = List.length r2.2.2.1)) (
    .grd (decide (List.length r3.2.2.fst = List.length r3.2.2.1)) (
    .grd (decide (List.length a1 = List.length a1)) (
    .grd (decide (n5 = n5)) (
    .opt (β := (Bool × ((List TStay) × ((List TStay) × ((List TStay) × ((List TStay) × (Int × ((List TStay) × Unit)))))))) ((agesOwn_loop1012_12 ((0 : Int), (r4.1, ((↑n5 : Int), (n5, (r1.2.2.1, (r2.2.2.1, (r3.2.2.1, (a1, (a0, (a1, ())))))))))))) (fun r6 =>
    .ite (true) (
     .ret (AllP fun (n7 : Nat) =>
      .grd (decide ((↑n7 : Int) = (↑n7 : Int))) (
      .grd (decide (n7 = n7)) (
      .grd (decide (List.length r6.2.2.fst = List.length r6.2.2.1)) (
      .grd (decide (List.length r6.2.2.2.fst = List.length r6.2.2.2.1)) (
      .grd (decide (List.length r6.2.2.2.2.fst = List.length r6.2.2.2.2.1)) (
      .grd (decide (n7 = n7)) (
      .opt (β := (Bool × ((List TStay) × ((List TStay) × ((List TStay) × (Int × ((List TStay) × Unit))))))) ((agesOwn_loop2012_12 ((0 : Int), (r6.1, ((↑n7 : Int), (n7, (r6.2.2.1, (r6.2.2.2.1, (r6.2.2.2.2.1, (r6.2.2.2.2.2.1, (r6.2.2.2.2.2.2.1, ()))))))))))) (fun r8 =>
      .ite (true) (
       .ret (AllP fun (n9 : Nat) =>
        .grd (decide ((↑n9 : Int) = (↑n9 : Int))) (
        .grd (decide (n9 = n9)) (
        .grd (decide (List.length r8.2.2.fst = List.length r8.2.2.1)) (
        .grd (decide (List.length r8.2.2.2.fst = List.length r8.2.2.2.1)) (
        .grd (decide (n9 = n9)) (
        .opt (β := (Bool × ((List TStay) × ((List TStay) × (Int × ((List TStay) × Unit)))))) ((agesOwn_loop3012_12 ((0 : Int), (r8.1, ((↑n9 : Int), (n9, (r8.2.2.1, (r8.2.2.2.1, (r8.2.2.2.2.1, (r8.2.2.2.2.2.1, ())))))))))) (fun r10 =>
        .ite (true) (
         .ret (AllP fun (n11 : Nat) =>
          .grd (decide ((↑n11 : Int) = (↑n11 : Int))) (
          .grd (decide (n11 = n11)) (
          .grd (decide (List.length r10.2.2.fst = List.length r10.2.2.1)) (
          .grd (decide (n11 = n11)) (
          .opt (β := (Bool × ((List TStay) × (Int × ((List TStay) × Unit))))) ((agesOwn_loop4012_12 ((0 : Int), (r10.1, ((↑n11 : Int), (n11, (r10.2.2.1, (r10.2.2.2.1, (r10.2.2.2.2.1, ()))))))))) (fun r12 =>
          .ite (false) (
           .fail 3) (
           .opt (β := (Bool × Unit)) ((agesLives_fn ())) (fun r13 =>
           .ite (r13.1) (
            .ite (r12.1) (
             .opt (β := (Bool × Unit)) ((eqStay_fn (r12.2.2.2.1, (r12.2.1, ())))) (fun r14 =>
             .ret (r14.1 = true))) (
             .ret (false = true))) (
            .ret (false = true))))))))))) (
         .opt (β := (Bool × Unit)) ((agesLives_fn ())) (fun r11 =>
         .ite (r11.1) (
          .ite (r10.1) (
           .opt (β := (Bool × Unit)) ((eqStay_fn (r10.2.2.2.2.1, (r10.2.2.1, ())))) (fun r12 =>
           .ret (r12.1 = true))) (
           .ret (false = true))) (
          .ret (false = true)))))))))))) (
       .opt (β := (Bool × Unit)) ((agesLives_fn ())) (fun r9 =>
       .ite (r9.1) (
        .ite (r8.1) (
         .opt (β := (Bool × Unit)) ((eqStay_fn (r8.2.2.2.2.2.1, (r8.2.2.2.1, ())))) (fun r10 =>
         .ret (r10.1 = true))) (
         .ret (false = true))) (
        .ret (false = true))))))))))))) (
     .opt (β := (Bool × Unit)) ((agesLives_fn ())) (fun r7 =>
     .ite (r7.1) (
      .ite (r6.1) (
       .opt (β := (Bool × Unit)) ((eqStay_fn (r6.2.2.2.2.2.2.1, (r6.2.2.2.2.1, ())))) (fun r8 =>
       .ret (r8.1 = true))) (
       .ret (false = true))) (
      .ret (false = true)))))))))))))) (
   .opt (β := (Bool × Unit)) ((agesLives_fn ())) (fun r5 =>
   .ite (r5.1) (
    .ite (r4.1) (
     .opt (β := (Bool × Unit)) ((eqStay_fn (a1, (a1, ())))) (fun r6 =>
     .ret (r6.1 = true))) (
     .ret (false = true))) (
    .ret (false = true))))))))))
theorem agesOwn_eq (x : (Int × ((List TStay) × (Int × (Int × Unit))))) : lawJ Try.prog cod [clStay, GS.pf delStay, FS.pf eqStay, FS.pf agTaken, FS.pf agCheck, FS.pf agPlace, FS.pf agLate, FS.pf agNew, FS.pf containsInt, FS.pf eqInt, FS.pf agesLives, FS.pf agesRight, FS.pf agesRoom, GS.pf agBehindO, GS.pf agTakeO, GS.pf agTouchO, GS.pf agLeaveO, GS.pf agExpireO] [(4012, agesOwn_L4012_12), (3012, agesOwn_L3012_12), (2012, agesOwn_L2012_12), (1012, agesOwn_L1012_12)] [(10, 20)] [8] 30 12 agesOwn_ap x = agesOwn_tree x := by kernel_rfl
noncomputable def agesOwn : FS Try.prog := jFS 12 agesOwn_ap agesOwn_tree fun x h => lawJ_sound (cod := cod) (Γ := [clStay, GS.pf delStay, FS.pf eqStay, FS.pf agTaken, FS.pf agCheck, FS.pf agPlace, FS.pf agLate, FS.pf agNew, FS.pf containsInt, FS.pf eqInt, FS.pf agesLives, FS.pf agesRight, FS.pf agesRoom, GS.pf agBehindO, GS.pf agTakeO, GS.pf agTouchO, GS.pf agLeaveO, GS.pf agExpireO]) (Λs := [(4012, agesOwn_L4012_12), (3012, agesOwn_L3012_12), (2012, agesOwn_L2012_12), (1012, agesOwn_L1012_12)]) (opn := [(10, 20)]) (un := [8]) (n := 30) (agesOwn_eq x ▸ h)
end Go.Proofs.Ytgdlhdkofcicjaa.X
