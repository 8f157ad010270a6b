/- Functions of the program, as trees (printed by a program of mine: tool/XTool, xg.py), each with the proof that the machine comes to what its tree says. Conditions: none. -/
import Derived.Test.YtgdlhdkofcicjaaCod
import Derived.KernelRfl
namespace Go.Proofs.Ytgdlhdkofcicjaa.X
open Go Go.RowKit Go.Proofs.Ytgdlhdkofcicjaa.Abs
set_option maxRecDepth 100000
set_option linter.unusedVariables false
theorem clStay_h1 (xs : List (τ 8)) : (bodyTr Go.Proofs.Try.prog cod 37 [.one (.nn (.st 8 xs))]).eval = (cloneRes 83 8 16 xs).eval := by kernel_rfl
theorem clStay_h2 : (bodyTr Go.Proofs.Try.prog cod 37 [.one .nil]).eval = some (.one .nil, []) := by kernel_rfl
def clStay : PF Go.Proofs.Try.prog := clonePF Go.Proofs.Try.prog cod 37 83 8 16 clStay_h1 clStay_h2
def delStay_ap : SP := ⟨33, [(0, .v (.one (.own 1000100))), (1, .v (.one (.i .i64))), (2, .v (.one (.i .i64)))], [(1000100, .row 83 8 true true)]⟩
def delStay_rp : SP := ⟨1, [(0, .v (.one (.own 1000100)))], [(1000100, .row 83 8 true true)]⟩
def delStay_tree : (Int × (Int × ((List TStay) × Unit))) → Tr ((List TStay) × Unit) :=
  fun (a0, a1, a2, _) =>
  .grd (decide ((0 : Int) ≤ a0 ∧ a0 ≤ a1 ∧ a1 ≤ (↑(List.length a2) : Int) ∧ (↑(List.length a2) : Int) ≤ (↑(List.length a2) : Int))) (
  .ite (decide (a0 = a1)) (
   .grd (decide (List.length a2 = List.length a2)) (
   .ret (a2, ()))) (
   .grd (decide ((0 : Int) ≤ a0 ∧ a0 ≤ (↑(List.length a2) : Int))) (
   .grd (decide ((0 : Int) ≤ a1 ∧ a1 ≤ (↑(List.length a2) : Int) ∧ (↑(List.length a2) : Int) ≤ (↑(List.length a2) : Int))) (
   .grd (decide (Int.toNat a1 + Int.toNat ((↑(List.length a2) : Int) - a1) ≤ List.length a2)) (
   .grd (decide (Int.toNat a0 + List.length (List.take (Int.toNat ((↑(List.length a2) : Int) - a1)) (List.drop (Int.toNat a1) a2)) ≤ List.length a2)) (
   .grd (decide ((0 : Int) ≤ (↑(Int.toNat a0 + List.length (List.take (Int.toNat ((↑(List.length a2) : Int) - a1)) (List.drop (Int.toNat a1) a2))) : Int) ∧ (↑(Int.toNat a0 + List.length (List.take (Int.toNat ((↑(List.length a2) : Int) - a1)) (List.drop (Int.toNat a1) a2))) : Int) ≤ (↑(List.length a2) : Int) ∧ (↑(List.length a2) : Int) ≤ (↑(List.length (List.take (Int.toNat a0) a2 ++ List.take (Int.toNat ((↑(List.length a2) : Int) - a1)) (List.drop (Int.toNat a1) a2) ++ List.drop (Int.toNat a0 + List.length (List.take (Int.toNat ((↑(List.length a2) : Int) - a1)) (List.drop (Int.toNat a1) a2))) a2)) : Int))) (
   .grd (decide (Int.toNat (↑(Int.toNat a0 + List.length (List.take (Int.toNat ((↑(List.length a2) : Int) - a1)) (List.drop (Int.toNat a1) a2))) : Int) + Int.toNat ((↑(List.length a2) : Int) - (↑(Int.toNat a0 + List.length (List.take (Int.toNat ((↑(List.length a2) : Int) - a1)) (List.drop (Int.toNat a1) a2))) : Int)) ≤ List.length (List.take (Int.toNat a0) a2 ++ List.take (Int.toNat ((↑(List.length a2) : Int) - a1)) (List.drop (Int.toNat a1) a2) ++ List.drop (Int.toNat a0 + List.length (List.take (Int.toNat ((↑(List.length a2) : Int) - a1)) (List.drop (Int.toNat a1) a2))) a2))) (
   .grd (decide (Int.toNat a0 + List.length (List.take (Int.toNat ((↑(List.length a2) : Int) - a1)) (List.drop (Int.toNat a1) a2)) = List.length (List.take (Int.toNat a0 + List.length (List.take (Int.toNat ((↑(List.length a2) : Int) - a1)) (List.drop (Int.toNat a1) a2))) (List.take (Int.toNat (↑(Int.toNat a0 + List.length (List.take (Int.toNat ((↑(List.length a2) : Int) - a1)) (List.drop (Int.toNat a1) a2))) : Int)) (List.take (Int.toNat a0) a2 ++ List.take (Int.toNat ((↑(List.length a2) : Int) - a1)) (List.drop (Int.toNat a1) a2) ++ List.drop (Int.toNat a0 + List.length (List.take (Int.toNat ((↑(List.length a2) : Int) - a1)) (List.drop (Int.toNat a1) a2))) a2) ++ List.replicate (Int.toNat ((↑(List.length a2) : Int) - (↑(Int.toNat a0 + List.length (List.take (Int.toNat ((↑(List.length a2) : Int) - a1)) (List.drop (Int.toNat a1) a2))) : Int))) (TStay.mk (0 : Int) (0 : Int)) ++ List.drop (Int.toNat (↑(Int.toNat a0 + List.length (List.take (Int.toNat ((↑(List.length a2) : Int) - a1)) (List.drop (Int.toNat a1) a2))) : Int) + List.length (List.replicate (Int.toNat ((↑(List.length a2) : Int) - (↑(Int.toNat a0 + List.length (List.take (Int.toNat ((↑(List.length a2) : Int) - a1)) (List.drop (Int.toNat a1) a2))) : Int))) (TStay.mk (0 : Int) (0 : Int)))) (List.take (Int.toNat a0) a2 ++ List.take (Int.toNat ((↑(List.length a2) : Int) - a1)) (List.drop (Int.toNat a1) a2) ++ List.drop (Int.toNat a0 + List.length (List.take (Int.toNat ((↑(List.length a2) : Int) - a1)) (List.drop (Int.toNat a1) a2))) a2))))) (
   .ret (List.take (Int.toNat a0 + List.length (List.take (Int.toNat ((↑(List.length a2) : Int) - a1)) (List.drop (Int.toNat a1) a2))) (List.take (Int.toNat (↑(Int.toNat a0 + List.length (List.take (Int.toNat ((↑(List.length a2) : Int) - a1)) (List.drop (Int.toNat a1) a2))) : Int)) (List.take (Int.toNat a0) a2 ++ List.take (Int.toNat ((↑(List.length a2) : Int) - a1)) (List.drop (Int.toNat a1) a2) ++ List.drop (Int.toNat a0 + List.length (List.take (Int.toNat ((↑(List.length a2) : Int) - a1)) (List.drop (Int.toNat a1) a2))) a2) ++ List.replicate (Int.toNat ((↑(List.length a2) : Int) - (↑(Int.toNat a0 + List.length (List.take (Int.toNat ((↑(List.length a2) : Int) - a1)) (List.drop (Int.toNat a1) a2))) : Int))) (TStay.mk (0 : Int) (0 : Int)) ++ List.drop (Int.toNat (↑(Int.toNat a0 + List.length (List.take (Int.toNat ((↑(List.length a2) : Int) - a1)) (List.drop (Int.toNat a1) a2))) : Int) + List.length (List.replicate (Int.toNat ((↑(List.length a2) : Int) - (↑(Int.toNat a0 + List.length (List.take (Int.toNat ((↑(List.length a2) : Int) - a1)) (List.drop (Int.toNat a1) a2))) : Int))) (TStay.mk (0 : Int) (0 : Int)))) (List.take (Int.toNat a0) a2 ++ List.take (Int.toNat ((↑(List.length a2) : Int) - a1)) (List.drop (Int.toNat a1) a2) ++ List.drop (Int.toNat a0 + List.length (List.take (Int.toNat ((↑(List.length a2) : Int) - a1)) (List.drop (Int.toNat a1) a2))) a2)), ()))))))))))
theorem delStay_eq (x : (Int × (Int × ((List TStay) × Unit)))) : gsTr Try.prog cod [clStay] [] 30 62 delStay_ap delStay_rp x = delStay_tree x := by kernel_rfl
def delStay_fn (x : (Int × (Int × ((List TStay) × Unit)))) : Option ((List TStay) × Unit) := (delStay_tree x).eval
def delStay : GS Try.prog := ⟨62, [1, 0, 0], delStay_ap, delStay_rp, delStay_fn, fun x r h ys m g he hg => gs_sound (cod := cod) (Γ := [clStay]) (Λs := []) (n := 30) ((congrArg Tr.eval (delStay_eq x)).trans h) he hg⟩
def eqStay_L40_4 : LS := ⟨4, [], ⟨26, [(13, .v (.one (.i .i64))), (1, .v (.one (.st 8 false))), (0, .v (.one (.st 8 false))), (12, .v (.one (.i .i64)))], []⟩, [⟨none, [], ⟨26, [(4, .v (.one (.b)))], []⟩⟩, ⟨some 0, [], ⟨26, [], []⟩⟩], []⟩
def eqStay_step40_4 : (Int × ((List TStay) × ((List TStay) × (Int × Unit)))) → Tr ((Int × ((List TStay) × ((List TStay) × (Int × Unit)))) ⊕ ((Bool × Unit) ⊕ Unit)) :=
  fun (a0, a1, a2, a3, _) =>
  .ite (decide (a0 < a3)) (
   .grd (decide ((0 : Int) ≤ a0)) (
   .opt (β := TStay) (a2[Int.toNat a0]?) (fun r0 =>
   .grd (decide ((0 : Int) ≤ a0)) (
   .opt (β := TStay) (a1[Int.toNat a0]?) (fun r1 =>
   .ite (!(decide (r0.room = r1.room) && (decide (r0.at' = r1.at') && true))) (
    .ret (Sum.inr (Sum.inl (false, ())))) (
    .ret (Sum.inl (IntKind.wrap IntKind.i64 (a0 + (1 : Int)), (a1, (a2, (a3, ()))))))))))) (
   .ret (Sum.inr (Sum.inr ())))
def eqStay_loop40_4 (x : (Int × ((List TStay) × ((List TStay) × (Int × Unit))))) : Option ((Bool × Unit) ⊕ Unit) := loopO 400004 (fun x => (eqStay_step40_4 x).eval) 18446744073709551616 x
def eqStay_ap : List VP1 := [.one (.st 8 false), .one (.st 8 false)]
def eqStay_rp : SP := ⟨1, [(0, .v (.one (.b)))], []⟩
def eqStay_tree : ((List TStay) × ((List TStay) × Unit)) → Tr (Bool × Unit) :=
  fun (a0, a1, _) =>
  .ite (!decide ((↑(List.length a0) : Int) = (↑(List.length a1) : Int))) (
   .ret (false, ())) (
   .opt (β := ((Bool × Unit) ⊕ Unit)) ((eqStay_loop40_4 ((0 : Int), (a1, (a0, ((↑(List.length a0) : Int), ())))))) (fun r0 =>
   .sum (β := (Bool × Unit)) (γ := Unit) (r0) (fun r1 =>
    .ret (r1.1, ())) (fun r1 =>
    .ret (true, ()))))
theorem eqStay_eq (x : ((List TStay) × ((List TStay) × Unit))) : fnTr Try.prog cod [clStay, GS.pf delStay] [(40, eqStay_L40_4)] 30 40 eqStay_ap eqStay_rp x = eqStay_tree x := by kernel_rfl
def eqStay_fn (x : ((List TStay) × ((List TStay) × Unit))) : Option (Bool × Unit) := (eqStay_tree x).eval
def eqStay : FS Try.prog := ⟨40, eqStay_ap, eqStay_rp, eqStay_fn, fun x r h => fnTr_sound (cod := cod) (Γ := [clStay, GS.pf delStay]) (Λs := [(40, eqStay_L40_4)]) (n := 30) ((congrArg Tr.eval (eqStay_eq x)).trans h)⟩
def agTaken_L64_3 : LS := ⟨3, [(1, 1)], ⟨56, [(10, .v (.one (.i .i64))), (4, .v (.one (.i .u64))), (1, .v (.one (.ptr 1 0))), (8, .v (.one (.st 8 false))), (9, .v (.one (.i .i64)))], [(1, .cells [.i .i64, .st 8 false])]⟩, [⟨none, [], ⟨56, [(2, .v (.one (.i .u64))), (3, .v (.one (.b)))], []⟩⟩, ⟨some 0, [], ⟨56, [(4, .v (.one (.i .u64)))], []⟩⟩], []⟩
def agTaken_step64_3 : (Int × (Int × ((List TStay) × (Int × (Int × ((List TStay) × Unit)))))) → Tr ((Int × (Int × ((List TStay) × (Int × (Int × ((List TStay) × Unit)))))) ⊕ ((Int × (Bool × Unit)) ⊕ (Int × Unit))) :=
  fun (a0, a1, a2, a3, a4, a5, _) =>
  .ite (decide (a0 < a3)) (
   .grd (decide ((0 : Int) ≤ a0)) (
   .opt (β := TStay) (a2[Int.toNat a0]?) (fun r0 =>
   .ite (decide (r0.room < (0 : Int))) (
    .ret (Sum.inr (Sum.inl ((0 : Int), (false, ()))))) (
    .ite (decide (a4 ≤ r0.room)) (
     .ret (Sum.inr (Sum.inl ((0 : Int), (false, ()))))) (
     .grd (decide ((0 : Int) ≤ r0.room)) (
     .ite (decide (bits BinOp.and IntKind.u64 (Int.fdiv a1 ((2 : Int) ^ min (Int.toNat r0.room) (64 : Nat))) (1 : Int) = (1 : Int))) (
      .ret (Sum.inr (Sum.inl ((0 : Int), (false, ()))))) (
      .ite (decide ((0 : Int) < a0)) (
       .grd (decide ((0 : Int) ≤ IntKind.wrap IntKind.i64 (a0 - (1 : Int)))) (
       .opt (β := TStay) (a5[Int.toNat (IntKind.wrap IntKind.i64 (a0 - (1 : Int)))]?) (fun r1 =>
       .ite (decide (r0.at' < r1.at')) (
        .ret (Sum.inr (Sum.inl ((0 : Int), (false, ()))))) (
        .grd (decide ((0 : Int) ≤ r0.room)) (
        .ret (Sum.inl (IntKind.wrap IntKind.i64 (a0 + (1 : Int)), (bits BinOp.or IntKind.u64 a1 (IntKind.wrap IntKind.u64 ((1 : Int) * (2 : Int) ^ min (Int.toNat r0.room) (64 : Nat))), (a2, (a3, (a4, (a5, ())))))))))))) (
       .grd (decide ((0 : Int) ≤ r0.room)) (
       .ret (Sum.inl (IntKind.wrap IntKind.i64 (a0 + (1 : Int)), (bits BinOp.or IntKind.u64 a1 (IntKind.wrap IntKind.u64 ((1 : Int) * (2 : Int) ^ min (Int.toNat r0.room) (64 : Nat))), (a2, (a3, (a4, (a5, ())))))))))))))))) (
   .ret (Sum.inr (Sum.inr (a1, ()))))
def agTaken_loop64_3 (x : (Int × (Int × ((List TStay) × (Int × (Int × ((List TStay) × Unit))))))) : Option ((Int × (Bool × Unit)) ⊕ (Int × Unit)) := loopO 640003 (fun x => (agTaken_step64_3 x).eval) 18446744073709551616 x
def agTaken_ap : List VP1 := [.agg [.i .i64, .st 8 false]]
def agTaken_rp : SP := ⟨1, [(0, .tup [.one (.i .u64), .one (.b)])], []⟩
def agTaken_tree : (Int × ((List TStay) × Unit)) → Tr (Int × (Bool × Unit)) :=
  fun (a0, a1, _) =>
  .opt (β := ((Int × (Bool × Unit)) ⊕ (Int × Unit))) ((agTaken_loop64_3 ((0 : Int), ((0 : Int), (a1, ((↑(List.length a1) : Int), (a0, (a1, ())))))))) (fun r0 =>
  .sum (β := (Int × (Bool × Unit))) (γ := (Int × Unit)) (r0) (fun r1 =>
   .ret (r1.1, (r1.2.1, ()))) (fun r1 =>
   .ret (r1.1, (true, ()))))
theorem agTaken_eq (x : (Int × ((List TStay) × Unit))) : fnTr Try.prog cod [clStay, GS.pf delStay, FS.pf eqStay] [(64, agTaken_L64_3)] 30 64 agTaken_ap agTaken_rp x = agTaken_tree x := by kernel_rfl
def agTaken_fn (x : (Int × ((List TStay) × Unit))) : Option (Int × (Bool × Unit)) := (agTaken_tree x).eval
def agTaken : FS Try.prog := ⟨64, agTaken_ap, agTaken_rp, agTaken_fn, fun x r h => fnTr_sound (cod := cod) (Γ := [clStay, GS.pf delStay, FS.pf eqStay]) (Λs := [(64, agTaken_L64_3)]) (n := 30) ((congrArg Tr.eval (agTaken_eq x)).trans h)⟩
def agCheck_ap : List VP1 := [.agg [.i .i64, .st 8 false]]
def agCheck_rp : SP := ⟨1, [(0, .v (.one (.i .i64)))], []⟩
def agCheck_tree : (Int × ((List TStay) × Unit)) → Tr (Int × Unit) :=
  fun (a0, a1, _) =>
  .ite (decide (a0 < (1 : Int))) (
   .ret ((1 : Int), ())) (
   .ite (decide ((64 : Int) < a0)) (
    .ret ((1 : Int), ())) (
    .opt (β := (Int × (Bool × Unit))) ((agTaken_fn (a0, (a1, ())))) (fun r0 =>
    .ite (!r0.2.1) (
     .ret ((4 : Int), ())) (
     .ret ((0 : Int), ())))))
theorem agCheck_eq (x : (Int × ((List TStay) × Unit))) : fnTr Try.prog cod [clStay, GS.pf delStay, FS.pf eqStay, FS.pf agTaken] [] 30 60 agCheck_ap agCheck_rp x = agCheck_tree x := by kernel_rfl
def agCheck_fn (x : (Int × ((List TStay) × Unit))) : Option (Int × Unit) := (agCheck_tree x).eval
def agCheck : FS Try.prog := ⟨60, agCheck_ap, agCheck_rp, agCheck_fn, fun x r h => fnTr_sound (cod := cod) (Γ := [clStay, GS.pf delStay, FS.pf eqStay, FS.pf agTaken]) (Λs := []) (n := 30) ((congrArg Tr.eval (agCheck_eq x)).trans h)⟩
def agPlace_L70_2 : LS := ⟨2, [(1000200, 1000200)], ⟨19, [(8, .v (.one (.i .i64))), (0, .v (.one (.st 8 false))), (1, .v (.one (.clp 71 [(1000200, 0)]))), (7, .v (.one (.i .i64)))], [(1000200, .cells [.i .i64])]⟩, [⟨none, [(1000200, 1000200)], ⟨19, [(4, .v (.one (.i .i64)))], [(1000200, .cells [.i .i64])]⟩⟩, ⟨some 0, [(1000200, 1000200)], ⟨19, [], [(1000200, .cells [.i .i64])]⟩⟩], []⟩
def agPlace_step70_2 : (Int × ((List TStay) × (Int × (Int × Unit)))) → Tr ((Int × ((List TStay) × (Int × (Int × Unit)))) ⊕ ((Int × (Int × Unit)) ⊕ (Int × Unit))) :=
  fun (a0, a1, a2, a3, _) =>
  .ite (decide (a0 < a2)) (
   .grd (decide ((0 : Int) ≤ a0)) (
   .opt (β := TStay) (a1[Int.toNat a0]?) (fun r0 =>
   .ite (decide (r0.room = a3)) (
    .ret (Sum.inr (Sum.inl (a0, (a3, ()))))) (
    .ret (Sum.inl (IntKind.wrap IntKind.i64 (a0 + (1 : Int)), (a1, (a2, (a3, ()))))))))) (
   .ret (Sum.inr (Sum.inr (a3, ()))))
def agPlace_loop70_2 (x : (Int × ((List TStay) × (Int × (Int × Unit))))) : Option ((Int × (Int × Unit)) ⊕ (Int × Unit)) := loopO 700002 (fun x => (agPlace_step70_2 x).eval) 18446744073709551616 x
def agPlace_ap : List VP1 := [.agg [.i .i64, .st 8 false], .one (.i .i64)]
def agPlace_rp : SP := ⟨1, [(0, .v (.one (.i .i64)))], []⟩
def agPlace_tree : (Int × ((List TStay) × (Int × Unit))) → Tr (Int × Unit) :=
  fun (a0, a1, a2, _) =>
  .opt (β := ((Int × (Int × Unit)) ⊕ (Int × Unit))) ((agPlace_loop70_2 ((0 : Int), (a1, ((↑(List.length a1) : Int), (a2, ())))))) (fun r0 =>
  .sum (β := (Int × (Int × Unit))) (γ := (Int × Unit)) (r0) (fun r1 =>
   .ret (r1.1, ())) (fun r1 =>
   .ret ((-1 : Int), ())))
theorem agPlace_eq (x : (Int × ((List TStay) × (Int × Unit)))) : fnTr Try.prog cod [clStay, GS.pf delStay, FS.pf eqStay, FS.pf agTaken, FS.pf agCheck] [(70, agPlace_L70_2)] 30 61 agPlace_ap agPlace_rp x = agPlace_tree x := by kernel_rfl
def agPlace_fn (x : (Int × ((List TStay) × (Int × Unit)))) : Option (Int × Unit) := (agPlace_tree x).eval
def agPlace : FS Try.prog := ⟨61, agPlace_ap, agPlace_rp, agPlace_fn, fun x r h => fnTr_sound (cod := cod) (Γ := [clStay, GS.pf delStay, FS.pf eqStay, FS.pf agTaken, FS.pf agCheck]) (Λs := [(70, agPlace_L70_2)]) (n := 30) ((congrArg Tr.eval (agPlace_eq x)).trans h)⟩
def agLate_ap : List VP1 := [.agg [.i .i64, .st 8 false], .one (.i .i64)]
def agLate_rp : SP := ⟨1, [(0, .v (.one (.b)))], []⟩
def agLate_tree : (Int × ((List TStay) × (Int × Unit))) → Tr (Bool × Unit) :=
  fun (a0, a1, a2, _) =>
  .ite (decide ((↑(List.length a1) : Int) = (0 : Int))) (
   .ret (true, ())) (
   .grd (decide ((0 : Int) ≤ IntKind.wrap IntKind.i64 ((↑(List.length a1) : Int) - (1 : Int)))) (
   .opt (β := TStay) (a1[Int.toNat (IntKind.wrap IntKind.i64 ((↑(List.length a1) : Int) - (1 : Int)))]?) (fun r0 =>
   .ret (decide (r0.at' ≤ a2), ()))))
theorem agLate_eq (x : (Int × ((List TStay) × (Int × Unit)))) : fnTr Try.prog cod [clStay, GS.pf delStay, FS.pf eqStay, FS.pf agTaken, FS.pf agCheck, FS.pf agPlace] [] 30 63 agLate_ap agLate_rp x = agLate_tree x := by kernel_rfl
def agLate_fn (x : (Int × ((List TStay) × (Int × Unit)))) : Option (Bool × Unit) := (agLate_tree x).eval
def agLate : FS Try.prog := ⟨63, agLate_ap, agLate_rp, agLate_fn, fun x r h => fnTr_sound (cod := cod) (Γ := [clStay, GS.pf delStay, FS.pf eqStay, FS.pf agTaken, FS.pf agCheck, FS.pf agPlace]) (Λs := []) (n := 30) ((congrArg Tr.eval (agLate_eq x)).trans h)⟩
def agBehind_ap : List VP1 := [.agg [.i .i64, .st 8 false], .one (.i .i64), .agg [.i .i64, .i .i64]]
def agBehind_rp : SP := ⟨1, [(0, .v (.agg [.i .i64, .st 8 true]))], []⟩
def agBehind_tree : (Int × ((List TStay) × (Int × (Int × (Int × Unit))))) → Tr (Int × ((List TStay) × Unit)) :=
  fun (a0, a1, a2, a3, a4, _) =>
  .grd (decide (((0 : Nat) + List.length a1) * (16 : Nat) ≤ (140737488355328 : Nat) ∧ (0 : Nat) + List.length a1 ≤ (9223372036854775807 : Nat))) (
  .ite (decide ((0 : Int) ≤ a2)) (
   .grd (decide (List.length a1 = List.length a1)) (
   .opt (β := ((List TStay) × Unit)) ((delStay_fn (a2, (IntKind.wrap IntKind.i64 (a2 + (1 : Int)), (a1, ()))))) (fun r0 =>
   .grd (decide ((List.length r0.1 + List.length [TStay.mk a3 a4]) * (16 : Nat) ≤ (140737488355328 : Nat) ∧ List.length r0.1 + List.length [TStay.mk a3 a4] ≤ (9223372036854775807 : Nat))) (
   .ret (a0, (r0.1 ++ [TStay.mk a3 a4], ())))))) (
   .grd (decide ((List.length a1 + List.length [TStay.mk a3 a4]) * (16 : Nat) ≤ (140737488355328 : Nat) ∧ List.length a1 + List.length [TStay.mk a3 a4] ≤ (9223372036854775807 : Nat))) (
   .ret (a0, (a1 ++ [TStay.mk a3 a4], ())))))
theorem agBehind_eq (x : (Int × ((List TStay) × (Int × (Int × (Int × Unit)))))) : fnTr Try.prog cod [clStay, GS.pf delStay, FS.pf eqStay, FS.pf agTaken, FS.pf agCheck, FS.pf agPlace, FS.pf agLate] [] 30 65 agBehind_ap agBehind_rp x = agBehind_tree x := by kernel_rfl
def agBehind_fn (x : (Int × ((List TStay) × (Int × (Int × (Int × Unit)))))) : Option (Int × ((List TStay) × Unit)) := (agBehind_tree x).eval
def agBehind : FS Try.prog := ⟨65, agBehind_ap, agBehind_rp, agBehind_fn, fun x r h => fnTr_sound (cod := cod) (Γ := [clStay, GS.pf delStay, FS.pf eqStay, FS.pf agTaken, FS.pf agCheck, FS.pf agPlace, FS.pf agLate]) (Λs := []) (n := 30) ((congrArg Tr.eval (agBehind_eq x)).trans h)⟩
def agTake_L36_8 : LS := ⟨8, [(4, 4), (2, 2)], ⟨45, [(4, .v (.one (.ptr 4 0))), (1, .v (.one (.i .i64))), (2, .v (.one (.ptr 2 0))), (29, .v (.one (.i .i64))), (8, .v (.one (.i .u64))), (28, .v (.one (.i .i64)))], [(4, .cells [.i .i64, .nil]), (2, .cells [.i .i64, .st 8 false])]⟩, [⟨none, [(4, 4)], ⟨45, [(4, .v (.one (.ptr 4 0))), (5, .v (.one (.i .i64))), (6, .v (.one (.i .i64)))], [(4, .cells [.i .i64, .st 8 true])]⟩⟩, ⟨some 0, [(4, 4)], ⟨45, [(4, .v (.one (.ptr 4 0)))], [(4, .cells [.i .i64, .nil])]⟩⟩], []⟩
def agTake_step36_8 : (Int × (Int × (Int × (Int × (Int × (Int × ((List TStay) × Unit))))))) → Tr ((Int × (Int × (Int × (Int × (Int × (Int × ((List TStay) × Unit))))))) ⊕ ((Int × (Int × (Int × ((List TStay) × Unit)))) ⊕ (Int × Unit))) :=
  fun (a0, a1, a2, a3, a4, a5, a6, _) =>
  .ite (decide (a1 < a3)) (
   .grd (decide ((0 : Int) ≤ a1)) (
   .ite (decide (bits BinOp.and IntKind.u64 (Int.fdiv a2 ((2 : Int) ^ min (Int.toNat a1) (64 : Nat))) (1 : Int) = (0 : Int))) (
    .opt (β := (Int × ((List TStay) × Unit))) ((agBehind_fn (a5, (a6, ((-1 : Int), (a1, (a0, ()))))))) (fun r0 =>
    .ret (Sum.inr (Sum.inl (a1, ((0 : Int), (r0.1, (r0.2.1, ())))))))) (
    .ret (Sum.inl (a0, (IntKind.wrap IntKind.i64 (a1 + (1 : Int)), (a2, (a3, (a4, (a5, (a6, ()))))))))))) (
   .ret (Sum.inr (Sum.inr (a4, ()))))
def agTake_loop36_8 (x : (Int × (Int × (Int × (Int × (Int × (Int × ((List TStay) × Unit)))))))) : Option ((Int × (Int × (Int × ((List TStay) × Unit)))) ⊕ (Int × Unit)) := loopO 360008 (fun x => (agTake_step36_8 x).eval) 18446744073709551616 x
def agTake_ap : List VP1 := [.agg [.i .i64, .st 8 false], .one (.i .i64)]
def agTake_rp : SP := ⟨1, [(0, .tup [.agg [.i .i64, .st 8 true], .one (.i .i64), .one (.i .i64)])], []⟩
def agTake_tree : (Int × ((List TStay) × (Int × Unit))) → Tr (Int × ((List TStay) × (Int × (Int × Unit)))) :=
  fun (a0, a1, a2, _) =>
  .opt (β := (Int × Unit)) ((agCheck_fn (a0, (a1, ())))) (fun r0 =>
  .ite (!decide (r0.1 = (0 : Int))) (
   .ret ((0 : Int), ([], ((0 : Int), (r0.1, ()))))) (
   .opt (β := (Bool × Unit)) ((agLate_fn (a0, (a1, (a2, ()))))) (fun r1 =>
   .ite (!r1.1) (
    .ret ((0 : Int), ([], ((0 : Int), ((1 : Int), ()))))) (
    .opt (β := (Int × (Bool × Unit))) ((agTaken_fn (a0, (a1, ())))) (fun r2 =>
    .opt (β := ((Int × (Int × (Int × ((List TStay) × Unit)))) ⊕ (Int × Unit))) ((agTake_loop36_8 (a2, ((0 : Int), (r2.1, (a0, ((0 : Int), (a0, (a1, ()))))))))) (fun r3 =>
    .sum (β := (Int × (Int × (Int × ((List TStay) × Unit))))) (γ := (Int × Unit)) (r3) (fun r4 =>
     .ret (r4.2.2.1, (r4.2.2.2.1, (r4.1, (r4.2.1, ()))))) (fun r4 =>
     .ret ((0 : Int), ([], ((0 : Int), ((6 : Int), ())))))))))))
theorem agTake_eq (x : (Int × ((List TStay) × (Int × Unit)))) : fnTr Try.prog cod [clStay, GS.pf delStay, FS.pf eqStay, FS.pf agTaken, FS.pf agCheck, FS.pf agPlace, FS.pf agLate, FS.pf agBehind] [(36, agTake_L36_8)] 30 36 agTake_ap agTake_rp x = agTake_tree x := by kernel_rfl
def agTake_fn (x : (Int × ((List TStay) × (Int × Unit)))) : Option (Int × ((List TStay) × (Int × (Int × Unit)))) := (agTake_tree x).eval
def agTake : FS Try.prog := ⟨36, agTake_ap, agTake_rp, agTake_fn, fun x r h => fnTr_sound (cod := cod) (Γ := [clStay, GS.pf delStay, FS.pf eqStay, FS.pf agTaken, FS.pf agCheck, FS.pf agPlace, FS.pf agLate, FS.pf agBehind]) (Λs := [(36, agTake_L36_8)]) (n := 30) ((congrArg Tr.eval (agTake_eq x)).trans h)⟩
def agTouch_ap : List VP1 := [.agg [.i .i64, .st 8 false], .one (.i .i64), .one (.i .i64)]
def agTouch_rp : SP := ⟨1, [(0, .tup [.agg [.i .i64, .st 8 true], .one (.i .i64)])], []⟩
def agTouch_tree : (Int × ((List TStay) × (Int × (Int × Unit)))) → Tr (Int × ((List TStay) × (Int × Unit))) :=
  fun (a0, a1, a2, a3, _) =>
  .opt (β := (Int × Unit)) ((agCheck_fn (a0, (a1, ())))) (fun r0 =>
  .ite (!decide (r0.1 = (0 : Int))) (
   .ret ((0 : Int), ([], (r0.1, ())))) (
   .opt (β := (Bool × Unit)) ((agLate_fn (a0, (a1, (a3, ()))))) (fun r1 =>
   .ite (!r1.1) (
    .ret ((0 : Int), ([], ((1 : Int), ())))) (
    .opt (β := (Int × Unit)) ((agPlace_fn (a0, (a1, (a2, ()))))) (fun r2 =>
    .ite (decide (r2.1 < (0 : Int))) (
     .ret ((0 : Int), ([], ((7 : Int), ())))) (
     .opt (β := (Int × ((List TStay) × Unit))) ((agBehind_fn (a0, (a1, (r2.1, (a2, (a3, ()))))))) (fun r3 =>
     .ret (r3.1, (r3.2.1, ((0 : Int), ()))))))))))
theorem agTouch_eq (x : (Int × ((List TStay) × (Int × (Int × Unit))))) : fnTr Try.prog cod [clStay, GS.pf delStay, FS.pf eqStay, FS.pf agTaken, FS.pf agCheck, FS.pf agPlace, FS.pf agLate, FS.pf agBehind, FS.pf agTake] [] 30 38 agTouch_ap agTouch_rp x = agTouch_tree x := by kernel_rfl
def agTouch_fn (x : (Int × ((List TStay) × (Int × (Int × Unit))))) : Option (Int × ((List TStay) × (Int × Unit))) := (agTouch_tree x).eval
def agTouch : FS Try.prog := ⟨38, agTouch_ap, agTouch_rp, agTouch_fn, fun x r h => fnTr_sound (cod := cod) (Γ := [clStay, GS.pf delStay, FS.pf eqStay, FS.pf agTaken, FS.pf agCheck, FS.pf agPlace, FS.pf agLate, FS.pf agBehind, FS.pf agTake]) (Λs := []) (n := 30) ((congrArg Tr.eval (agTouch_eq x)).trans h)⟩
def agLeave_ap : List VP1 := [.agg [.i .i64, .st 8 false], .one (.i .i64)]
def agLeave_rp : SP := ⟨1, [(0, .tup [.agg [.i .i64, .st 8 true], .one (.i .i64)])], []⟩
def agLeave_tree : (Int × ((List TStay) × (Int × Unit))) → Tr (Int × ((List TStay) × (Int × Unit))) :=
  fun (a0, a1, a2, _) =>
  .opt (β := (Int × Unit)) ((agCheck_fn (a0, (a1, ())))) (fun r0 =>
  .ite (!decide (r0.1 = (0 : Int))) (
   .ret ((0 : Int), ([], (r0.1, ())))) (
   .opt (β := (Int × Unit)) ((agPlace_fn (a0, (a1, (a2, ()))))) (fun r1 =>
   .ite (decide (r1.1 < (0 : Int))) (
    .ret ((0 : Int), ([], ((7 : Int), ())))) (
    .grd (decide (((0 : Nat) + List.length a1) * (16 : Nat) ≤ (140737488355328 : Nat) ∧ (0 : Nat) + List.length a1 ≤ (9223372036854775807 : Nat))) (
    .grd (decide (List.length a1 = List.length a1)) (
    .opt (β := ((List TStay) × Unit)) ((delStay_fn (r1.1, (IntKind.wrap IntKind.i64 (r1.1 + (1 : Int)), (a1, ()))))) (fun r2 =>
    .ret (a0, (r2.1, ((0 : Int), ()))))))))))
theorem agLeave_eq (x : (Int × ((List TStay) × (Int × Unit)))) : fnTr Try.prog cod [clStay, GS.pf delStay, FS.pf eqStay, FS.pf agTaken, FS.pf agCheck, FS.pf agPlace, FS.pf agLate, FS.pf agBehind, FS.pf agTake, FS.pf agTouch] [] 30 34 agLeave_ap agLeave_rp x = agLeave_tree x := by kernel_rfl
def agLeave_fn (x : (Int × ((List TStay) × (Int × Unit)))) : Option (Int × ((List TStay) × (Int × Unit))) := (agLeave_tree x).eval
def agLeave : FS Try.prog := ⟨34, agLeave_ap, agLeave_rp, agLeave_fn, fun x r h => fnTr_sound (cod := cod) (Γ := [clStay, GS.pf delStay, FS.pf eqStay, FS.pf agTaken, FS.pf agCheck, FS.pf agPlace, FS.pf agLate, FS.pf agBehind, FS.pf agTake, FS.pf agTouch]) (Λs := []) (n := 30) ((congrArg Tr.eval (agLeave_eq x)).trans h)⟩
def agExpire_L39_6 : LS := ⟨6, [(4, 4), (8, 8), (2, 2)], ⟨43, [(4, .v (.one (.ptr 4 0))), (8, .v (.one (.own 8))), (2, .v (.one (.ptr 2 0))), (20, .v (.one (.i .i64))), (1, .v (.one (.i .i64))), (18, .v (.one (.st 8 false))), (19, .v (.one (.i .i64)))], [(4, .cells [.i .i64, .nil]), (8, .row 3 0 true true), (2, .cells [.i .i64, .st 8 false])]⟩, [⟨some 0, [(4, 4), (8, 8), (2, 2)], ⟨43, [(4, .v (.one (.ptr 4 0))), (8, .v (.one (.own 8))), (2, .v (.one (.ptr 2 0)))], [(4, .cells [.i .i64, .nil]), (8, .row 3 0 true true), (2, .cells [.i .i64, .st 8 false])]⟩⟩], [(8, 3, 0)]⟩
def agExpire_step39_6 : (Int × (Int × ((List TStay) × (Int × (Int × ((List Int) × (Int × ((List TStay) × Unit)))))))) → Tr ((Int × (Int × ((List TStay) × (Int × (Int × ((List Int) × (Int × ((List TStay) × Unit)))))))) ⊕ (Int × ((List Int) × (Int × ((List TStay) × Unit))))) :=
  fun (a0, a1, a2, a3, a4, a5, a6, a7, _) =>
  .ite (decide (a0 < a3)) (
   .grd (decide ((0 : Int) ≤ a0)) (
   .opt (β := TStay) (a2[Int.toNat a0]?) (fun r0 =>
   .ite (decide (a1 ≤ r0.at')) (
    .grd (decide (List.length a5 = List.length a5)) (
    .ret (Sum.inr (a4, (a5, (a6, (a7, ()))))))) (
    .grd (decide ((List.length a5 + List.length [r0.room]) * (8 : Nat) ≤ (140737488355328 : Nat) ∧ List.length a5 + List.length [r0.room] ≤ (9223372036854775807 : Nat))) (
    .grd (decide (List.length (a5 ++ [r0.room]) = List.length (a5 ++ [r0.room]))) (
    .ret (Sum.inl (IntKind.wrap IntKind.i64 (a0 + (1 : Int)), (a1, (a2, (a3, (a4, (a5 ++ [r0.room], (a6, (a7, ()))))))))))))))) (
   .grd (decide (List.length a5 = List.length a5)) (
   .ret (Sum.inr (a4, (a5, (a6, (a7, ())))))))
def agExpire_loop39_6 (x : (Int × (Int × ((List TStay) × (Int × (Int × ((List Int) × (Int × ((List TStay) × Unit))))))))) : Option (Int × ((List Int) × (Int × ((List TStay) × Unit)))) := loopO 390006 (fun x => (agExpire_step39_6 x).eval) 18446744073709551616 x
def agExpire_ap : List VP1 := [.agg [.i .i64, .st 8 false], .one (.i .i64)]
def agExpire_rp : SP := ⟨1, [(0, .tup [.agg [.i .i64, .st 8 true], .one (.st 0 true), .one (.i .i64)])], []⟩
def agExpire_tree : (Int × ((List TStay) × (Int × Unit))) → Tr (Int × ((List TStay) × ((List Int) × (Int × Unit)))) :=
  fun (a0, a1, a2, _) =>
  .opt (β := (Int × Unit)) ((agCheck_fn (a0, (a1, ())))) (fun r0 =>
  .ite (!decide (r0.1 = (0 : Int))) (
   .ret ((0 : Int), ([], ([], (r0.1, ()))))) (
   .grd (true) (
   .opt (β := (Int × ((List Int) × (Int × ((List TStay) × Unit))))) ((agExpire_loop39_6 ((0 : Int), (a2, (a1, ((↑(List.length a1) : Int), ((0 : Int), ([], (a0, (a1, ())))))))))) (fun r1 =>
   .grd (decide ((0 : Int) ≤ (↑(List.length r1.2.fst) : Int) ∧ (↑(List.length r1.2.fst) : Int) ≤ (↑(List.length r1.2.2.2.1) : Int) ∧ (↑(List.length r1.2.2.2.1) : Int) ≤ (↑(List.length r1.2.2.2.1) : Int))) (
   .grd (decide (((0 : Nat) + List.length (List.drop (Int.toNat (↑(List.length r1.2.fst) : Int)) (List.take (Int.toNat (↑(List.length r1.2.2.2.1) : Int)) r1.2.2.2.1))) * (16 : Nat) ≤ (140737488355328 : Nat) ∧ (0 : Nat) + List.length (List.drop (Int.toNat (↑(List.length r1.2.fst) : Int)) (List.take (Int.toNat (↑(List.length r1.2.2.2.1) : Int)) r1.2.2.2.1)) ≤ (9223372036854775807 : Nat))) (
   .ret (r1.2.2.1, (List.drop (Int.toNat (↑(List.length r1.2.fst) : Int)) (List.take (Int.toNat (↑(List.length r1.2.2.2.1) : Int)) r1.2.2.2.1), (r1.2.1, ((0 : Int), ()))))))))))
theorem agExpire_eq (x : (Int × ((List TStay) × (Int × Unit)))) : fnTr Try.prog cod [clStay, GS.pf delStay, FS.pf eqStay, FS.pf agTaken, FS.pf agCheck, FS.pf agPlace, FS.pf agLate, FS.pf agBehind, FS.pf agTake, FS.pf agTouch, FS.pf agLeave] [(39, agExpire_L39_6)] 30 39 agExpire_ap agExpire_rp x = agExpire_tree x := by kernel_rfl
def agExpire_fn (x : (Int × ((List TStay) × (Int × Unit)))) : Option (Int × ((List TStay) × ((List Int) × (Int × Unit)))) := (agExpire_tree x).eval
def agExpire : FS Try.prog := ⟨39, agExpire_ap, agExpire_rp, agExpire_fn, fun x r h => fnTr_sound (cod := cod) (Γ := [clStay, GS.pf delStay, FS.pf eqStay, FS.pf agTaken, FS.pf agCheck, FS.pf agPlace, FS.pf agLate, FS.pf agBehind, FS.pf agTake, FS.pf agTouch, FS.pf agLeave]) (Λs := [(39, agExpire_L39_6)]) (n := 30) ((congrArg Tr.eval (agExpire_eq x)).trans h)⟩
end Go.Proofs.Ytgdlhdkofcicjaa.X
