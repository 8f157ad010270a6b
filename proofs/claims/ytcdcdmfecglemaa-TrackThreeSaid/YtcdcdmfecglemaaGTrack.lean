/- Functions of the program, as trees (printed by a program of mine: tool/XTool, xg.py), each with the proof that the machine comes to what its tree says. Conditions: none. -/
import Derived.Test.YtcdcdmfecglemaaCod
import Derived.KernelRfl
namespace Go.Proofs.Ytcdcdmfecglemaa.X
open Go Go.RowKit Go.Proofs.Ytcdcdmfecglemaa.Abs
set_option maxRecDepth 100000
set_option linter.unusedVariables false
theorem clTalk_h1 (xs : List (τ 16)) : (bodyTr Go.Proofs.Try.prog cod 19 [.one (.nn (.st 16 xs))]).eval = (cloneRes 35 16 48 xs).eval := by kernel_rfl
theorem clTalk_h2 : (bodyTr Go.Proofs.Try.prog cod 19 [.one .nil]).eval = some (.one .nil, []) := by kernel_rfl
def clTalk : PF Go.Proofs.Try.prog := clonePF Go.Proofs.Try.prog cod 19 35 16 48 clTalk_h1 clTalk_h2
def delTalk_ap : SP := ⟨33, [(0, .v (.one (.own 1000100))), (1, .v (.one (.i .i64))), (2, .v (.one (.i .i64)))], [(1000100, .row 35 16 true true)]⟩
def delTalk_rp : SP := ⟨1, [(0, .v (.one (.own 1000100)))], [(1000100, .row 35 16 true true)]⟩
def delTalk_tree : (Int × (Int × ((List TTalk) × Unit))) → Tr ((List TTalk) × Unit) :=
  fun (a0, a1, a2, _) =>
  .grd (decide ((0 : Int) ≤ a0 ∧ a0 ≤ a1 ∧ a1 ≤ (↑(List.length a2) : Int) ∧ (↑(List.length a2) : Int) ≤ (↑(List.length a2) : Int))) (
  .ite (decide (a0 = a1)) (
   .grd (decide (List.length a2 = List.length a2)) (
   .ret (a2, ()))) (
   .grd (decide ((0 : Int) ≤ a0 ∧ a0 ≤ (↑(List.length a2) : Int))) (
   .grd (decide ((0 : Int) ≤ a1 ∧ a1 ≤ (↑(List.length a2) : Int) ∧ (↑(List.length a2) : Int) ≤ (↑(List.length a2) : Int))) (
   .grd (decide (Int.toNat a1 + Int.toNat ((↑(List.length a2) : Int) - a1) ≤ List.length a2)) (
   .grd (decide (Int.toNat a0 + List.length (List.take (Int.toNat ((↑(List.length a2) : Int) - a1)) (List.drop (Int.toNat a1) a2)) ≤ List.length a2)) (
   .grd (decide ((0 : Int) ≤ (↑(Int.toNat a0 + List.length (List.take (Int.toNat ((↑(List.length a2) : Int) - a1)) (List.drop (Int.toNat a1) a2))) : Int) ∧ (↑(Int.toNat a0 + List.length (List.take (Int.toNat ((↑(List.length a2) : Int) - a1)) (List.drop (Int.toNat a1) a2))) : Int) ≤ (↑(List.length a2) : Int) ∧ (↑(List.length a2) : Int) ≤ (↑(List.length (List.take (Int.toNat a0) a2 ++ List.take (Int.toNat ((↑(List.length a2) : Int) - a1)) (List.drop (Int.toNat a1) a2) ++ List.drop (Int.toNat a0 + List.length (List.take (Int.toNat ((↑(List.length a2) : Int) - a1)) (List.drop (Int.toNat a1) a2))) a2)) : Int))) (
   .grd (decide (Int.toNat (↑(Int.toNat a0 + List.length (List.take (Int.toNat ((↑(List.length a2) : Int) - a1)) (List.drop (Int.toNat a1) a2))) : Int) + Int.toNat ((↑(List.length a2) : Int) - (↑(Int.toNat a0 + List.length (List.take (Int.toNat ((↑(List.length a2) : Int) - a1)) (List.drop (Int.toNat a1) a2))) : Int)) ≤ List.length (List.take (Int.toNat a0) a2 ++ List.take (Int.toNat ((↑(List.length a2) : Int) - a1)) (List.drop (Int.toNat a1) a2) ++ List.drop (Int.toNat a0 + List.length (List.take (Int.toNat ((↑(List.length a2) : Int) - a1)) (List.drop (Int.toNat a1) a2))) a2))) (
   .grd (decide (Int.toNat a0 + List.length (List.take (Int.toNat ((↑(List.length a2) : Int) - a1)) (List.drop (Int.toNat a1) a2)) = List.length (List.take (Int.toNat a0 + List.length (List.take (Int.toNat ((↑(List.length a2) : Int) - a1)) (List.drop (Int.toNat a1) a2))) (List.take (Int.toNat (↑(Int.toNat a0 + List.length (List.take (Int.toNat ((↑(List.length a2) : Int) - a1)) (List.drop (Int.toNat a1) a2))) : Int)) (List.take (Int.toNat a0) a2 ++ List.take (Int.toNat ((↑(List.length a2) : Int) - a1)) (List.drop (Int.toNat a1) a2) ++ List.drop (Int.toNat a0 + List.length (List.take (Int.toNat ((↑(List.length a2) : Int) - a1)) (List.drop (Int.toNat a1) a2))) a2) ++ List.replicate (Int.toNat ((↑(List.length a2) : Int) - (↑(Int.toNat a0 + List.length (List.take (Int.toNat ((↑(List.length a2) : Int) - a1)) (List.drop (Int.toNat a1) a2))) : Int))) (TTalk.mk (0 : Int) (0 : Int) (0 : Int) (0 : Int) (0 : Int) (0 : Int) (0 : Int)) ++ List.drop (Int.toNat (↑(Int.toNat a0 + List.length (List.take (Int.toNat ((↑(List.length a2) : Int) - a1)) (List.drop (Int.toNat a1) a2))) : Int) + List.length (List.replicate (Int.toNat ((↑(List.length a2) : Int) - (↑(Int.toNat a0 + List.length (List.take (Int.toNat ((↑(List.length a2) : Int) - a1)) (List.drop (Int.toNat a1) a2))) : Int))) (TTalk.mk (0 : Int) (0 : Int) (0 : Int) (0 : Int) (0 : Int) (0 : Int) (0 : Int)))) (List.take (Int.toNat a0) a2 ++ List.take (Int.toNat ((↑(List.length a2) : Int) - a1)) (List.drop (Int.toNat a1) a2) ++ List.drop (Int.toNat a0 + List.length (List.take (Int.toNat ((↑(List.length a2) : Int) - a1)) (List.drop (Int.toNat a1) a2))) a2))))) (
   .ret (List.take (Int.toNat a0 + List.length (List.take (Int.toNat ((↑(List.length a2) : Int) - a1)) (List.drop (Int.toNat a1) a2))) (List.take (Int.toNat (↑(Int.toNat a0 + List.length (List.take (Int.toNat ((↑(List.length a2) : Int) - a1)) (List.drop (Int.toNat a1) a2))) : Int)) (List.take (Int.toNat a0) a2 ++ List.take (Int.toNat ((↑(List.length a2) : Int) - a1)) (List.drop (Int.toNat a1) a2) ++ List.drop (Int.toNat a0 + List.length (List.take (Int.toNat ((↑(List.length a2) : Int) - a1)) (List.drop (Int.toNat a1) a2))) a2) ++ List.replicate (Int.toNat ((↑(List.length a2) : Int) - (↑(Int.toNat a0 + List.length (List.take (Int.toNat ((↑(List.length a2) : Int) - a1)) (List.drop (Int.toNat a1) a2))) : Int))) (TTalk.mk (0 : Int) (0 : Int) (0 : Int) (0 : Int) (0 : Int) (0 : Int) (0 : Int)) ++ List.drop (Int.toNat (↑(Int.toNat a0 + List.length (List.take (Int.toNat ((↑(List.length a2) : Int) - a1)) (List.drop (Int.toNat a1) a2))) : Int) + List.length (List.replicate (Int.toNat ((↑(List.length a2) : Int) - (↑(Int.toNat a0 + List.length (List.take (Int.toNat ((↑(List.length a2) : Int) - a1)) (List.drop (Int.toNat a1) a2))) : Int))) (TTalk.mk (0 : Int) (0 : Int) (0 : Int) (0 : Int) (0 : Int) (0 : Int) (0 : Int)))) (List.take (Int.toNat a0) a2 ++ List.take (Int.toNat ((↑(List.length a2) : Int) - a1)) (List.drop (Int.toNat a1) a2) ++ List.drop (Int.toNat a0 + List.length (List.take (Int.toNat ((↑(List.length a2) : Int) - a1)) (List.drop (Int.toNat a1) a2))) a2)), ()))))))))))
theorem delTalk_eq (x : (Int × (Int × ((List TTalk) × Unit)))) : gsTr Try.prog cod [clTalk] [] 30 40 delTalk_ap delTalk_rp x = delTalk_tree x := by kernel_rfl
def delTalk_fn (x : (Int × (Int × ((List TTalk) × Unit)))) : Option ((List TTalk) × Unit) := (delTalk_tree x).eval
def delTalk : GS Try.prog := ⟨40, [1, 0, 0], delTalk_ap, delTalk_rp, delTalk_fn, fun x r h ys m g he hg => gs_sound (cod := cod) (Γ := [clTalk]) (Λs := []) (n := 30) ((congrArg Tr.eval (delTalk_eq x)).trans h) he hg⟩
def eqTalk_L16_4 : LS := ⟨4, [], ⟨26, [(13, .v (.one (.i .i64))), (1, .v (.one (.st 16 false))), (0, .v (.one (.st 16 false))), (12, .v (.one (.i .i64)))], []⟩, [⟨none, [], ⟨26, [(4, .v (.one (.b)))], []⟩⟩, ⟨some 0, [], ⟨26, [], []⟩⟩], []⟩
def eqTalk_step16_4 : (Int × ((List TTalk) × ((List TTalk) × (Int × Unit)))) → Tr ((Int × ((List TTalk) × ((List TTalk) × (Int × Unit)))) ⊕ ((Bool × Unit) ⊕ Unit)) :=
  fun (a0, a1, a2, a3, _) =>
  .ite (decide (a0 < a3)) (
   .grd (decide ((0 : Int) ≤ a0)) (
   .opt (β := TTalk) (a2[Int.toNat a0]?) (fun r0 =>
   .grd (decide ((0 : Int) ≤ a0)) (
   .opt (β := TTalk) (a1[Int.toNat a0]?) (fun r1 =>
   .ite (!(decide (r0.from' = r1.from') && (decide (r0.to = r1.to) && (decide (r0.fromPort = r1.fromPort) && (decide (r0.toPort = r1.toPort) && true))) && (decide (r0.state = r1.state) && (decide (r0.over = r1.over) && (decide (r0.at' = r1.at') && true))))) (
    .ret (Sum.inr (Sum.inl (false, ())))) (
    .ret (Sum.inl (IntKind.wrap IntKind.i64 (a0 + (1 : Int)), (a1, (a2, (a3, ()))))))))))) (
   .ret (Sum.inr (Sum.inr ())))
def eqTalk_loop16_4 (x : (Int × ((List TTalk) × ((List TTalk) × (Int × Unit))))) : Option ((Bool × Unit) ⊕ Unit) := loopO 160004 (fun x => (eqTalk_step16_4 x).eval) 18446744073709551616 x
def eqTalk_ap : List VP1 := [.one (.st 16 false), .one (.st 16 false)]
def eqTalk_rp : SP := ⟨1, [(0, .v (.one (.b)))], []⟩
def eqTalk_tree : ((List TTalk) × ((List TTalk) × Unit)) → Tr (Bool × Unit) :=
  fun (a0, a1, _) =>
  .ite (!decide ((↑(List.length a0) : Int) = (↑(List.length a1) : Int))) (
   .ret (false, ())) (
   .opt (β := ((Bool × Unit) ⊕ Unit)) ((eqTalk_loop16_4 ((0 : Int), (a1, (a0, ((↑(List.length a0) : Int), ())))))) (fun r0 =>
   .sum (β := (Bool × Unit)) (γ := Unit) (r0) (fun r1 =>
    .ret (r1.1, ())) (fun r1 =>
    .ret (true, ()))))
theorem eqTalk_eq (x : ((List TTalk) × ((List TTalk) × Unit))) : fnTr Try.prog cod [clTalk, GS.pf delTalk] [(16, eqTalk_L16_4)] 30 16 eqTalk_ap eqTalk_rp x = eqTalk_tree x := by kernel_rfl
def eqTalk_fn (x : ((List TTalk) × ((List TTalk) × Unit))) : Option (Bool × Unit) := (eqTalk_tree x).eval
def eqTalk : FS Try.prog := ⟨16, eqTalk_ap, eqTalk_rp, eqTalk_fn, fun x r h => fnTr_sound (cod := cod) (Γ := [clTalk, GS.pf delTalk]) (Λs := [(16, eqTalk_L16_4)]) (n := 30) ((congrArg Tr.eval (eqTalk_eq x)).trans h)⟩
def trTurned_ap : List VP1 := [.agg [.i .u32, .i .u32, .i .i64, .i .i64]]
def trTurned_rp : SP := ⟨1, [(0, .v (.agg [.i .u32, .i .u32, .i .i64, .i .i64]))], []⟩
def trTurned_tree : (Int × (Int × (Int × (Int × Unit)))) → Tr (Int × (Int × (Int × (Int × Unit)))) :=
  fun (a0, a1, a2, a3, _) =>
  .ret (a1, (a0, (a3, (a2, ()))))
theorem trTurned_eq (x : (Int × (Int × (Int × (Int × Unit))))) : fnTr Try.prog cod [clTalk, GS.pf delTalk, FS.pf eqTalk] [] 30 70 trTurned_ap trTurned_rp x = trTurned_tree x := by kernel_rfl
def trTurned_fn (x : (Int × (Int × (Int × (Int × Unit))))) : Option (Int × (Int × (Int × (Int × Unit)))) := (trTurned_tree x).eval
def trTurned : FS Try.prog := ⟨70, trTurned_ap, trTurned_rp, trTurned_fn, fun x r h => fnTr_sound (cod := cod) (Γ := [clTalk, GS.pf delTalk, FS.pf eqTalk]) (Λs := []) (n := 30) ((congrArg Tr.eval (trTurned_eq x)).trans h)⟩
def trPort_ap : List VP1 := [.one (.i .i64)]
def trPort_rp : SP := ⟨1, [(0, .v (.one (.b)))], []⟩
def trPort_tree : (Int × Unit) → Tr (Bool × Unit) :=
  fun (a0, _) =>
  .ite (decide ((0 : Int) ≤ a0)) (
   .ret (decide (a0 ≤ (65535 : Int)), ())) (
   .ret (false, ()))
theorem trPort_eq (x : (Int × Unit)) : fnTr Try.prog cod [clTalk, GS.pf delTalk, FS.pf eqTalk, FS.pf trTurned] [] 30 69 trPort_ap trPort_rp x = trPort_tree x := by kernel_rfl
def trPort_fn (x : (Int × Unit)) : Option (Bool × Unit) := (trPort_tree x).eval
def trPort : FS Try.prog := ⟨69, trPort_ap, trPort_rp, trPort_fn, fun x r h => fnTr_sound (cod := cod) (Γ := [clTalk, GS.pf delTalk, FS.pf eqTalk, FS.pf trTurned]) (Λs := []) (n := 30) ((congrArg Tr.eval (trPort_eq x)).trans h)⟩
def trRoad_ap : List VP1 := [.agg [.i .u32, .i .u32, .i .i64, .i .i64]]
def trRoad_rp : SP := ⟨1, [(0, .v (.one (.b)))], []⟩
def trRoad_tree : (Int × (Int × (Int × (Int × Unit)))) → Tr (Bool × Unit) :=
  fun (a0, a1, a2, a3, _) =>
  .opt (β := (Bool × Unit)) ((trPort_fn (a2, ()))) (fun r0 =>
  .ite (r0.1) (
   .opt (β := (Bool × Unit)) ((trPort_fn (a3, ()))) (fun r1 =>
   .ite (r1.1) (
    .opt (β := (Int × (Int × (Int × (Int × Unit))))) ((trTurned_fn (a0, (a1, (a2, (a3, ())))))) (fun r2 =>
    .ret (!(decide (a0 = r2.1) && (decide (a1 = r2.2.1) && (decide (a2 = r2.2.2.1) && (decide (a3 = r2.2.2.2.1) && true)))), ()))) (
    .ret (false, ())))) (
   .ret (false, ())))
theorem trRoad_eq (x : (Int × (Int × (Int × (Int × Unit))))) : fnTr Try.prog cod [clTalk, GS.pf delTalk, FS.pf eqTalk, FS.pf trTurned, FS.pf trPort] [] 30 35 trRoad_ap trRoad_rp x = trRoad_tree x := by kernel_rfl
def trRoad_fn (x : (Int × (Int × (Int × (Int × Unit))))) : Option (Bool × Unit) := (trRoad_tree x).eval
def trRoad : FS Try.prog := ⟨35, trRoad_ap, trRoad_rp, trRoad_fn, fun x r h => fnTr_sound (cod := cod) (Γ := [clTalk, GS.pf delTalk, FS.pf eqTalk, FS.pf trTurned, FS.pf trPort]) (Λs := []) (n := 30) ((congrArg Tr.eval (trRoad_eq x)).trans h)⟩
def trForm_ap : List VP1 := [.agg [.i .u32, .i .u32, .i .i64, .i .i64, .i .i64, .i .i64, .i .i64]]
def trForm_rp : SP := ⟨1, [(0, .v (.one (.b)))], []⟩
def trForm_tree : (Int × (Int × (Int × (Int × (Int × (Int × (Int × Unit))))))) → Tr (Bool × Unit) :=
  fun (a0, a1, a2, a3, a4, a5, a6, _) =>
  .opt (β := (Bool × Unit)) ((trRoad_fn (a0, (a1, (a2, (a3, ())))))) (fun r0 =>
  .ite (!r0.1) (
   .ret (false, ())) (
   .ite (decide (a6 < (0 : Int))) (
    .ret (false, ())) (
    .ite (decide ((1099511627776 : Int) < a6)) (
     .ret (false, ())) (
     .ite (decide (a4 = (1 : Int))) (
      .ret (decide (a5 = (0 : Int)), ())) (
      .ite (decide (a4 = (2 : Int))) (
       .ret (decide (a5 = (0 : Int)), ())) (
       .ite (decide (a4 = (3 : Int))) (
        .ite (decide ((0 : Int) ≤ a5)) (
         .ret (decide (a5 ≤ (2 : Int)), ())) (
         .ret (false, ()))) (
        .ite (decide (a4 = (4 : Int))) (
         .ret (decide (a5 = (3 : Int)), ())) (
         .ret (false, ())))))))))
theorem trForm_eq (x : (Int × (Int × (Int × (Int × (Int × (Int × (Int × Unit)))))))) : fnTr Try.prog cod [clTalk, GS.pf delTalk, FS.pf eqTalk, FS.pf trTurned, FS.pf trPort, FS.pf trRoad] [] 30 68 trForm_ap trForm_rp x = trForm_tree x := by kernel_rfl
def trForm_fn (x : (Int × (Int × (Int × (Int × (Int × (Int × (Int × Unit)))))))) : Option (Bool × Unit) := (trForm_tree x).eval
def trForm : FS Try.prog := ⟨68, trForm_ap, trForm_rp, trForm_fn, fun x r h => fnTr_sound (cod := cod) (Γ := [clTalk, GS.pf delTalk, FS.pf eqTalk, FS.pf trTurned, FS.pf trPort, FS.pf trRoad]) (Λs := []) (n := 30) ((congrArg Tr.eval (trForm_eq x)).trans h)⟩
def trPlace_L43_2 : LS := ⟨2, [(1000200, 1000200)], ⟨19, [(8, .v (.one (.i .i64))), (0, .v (.one (.st 16 false))), (1, .v (.one (.clp 71 [(1000200, 0)]))), (7, .v (.one (.i .i64)))], [(1000200, .cells [.i .u32, .i .u32, .i .i64, .i .i64])]⟩, [⟨none, [(1000200, 1000200)], ⟨19, [(4, .v (.one (.i .i64)))], [(1000200, .cells [.i .u32, .i .u32, .i .i64, .i .i64])]⟩⟩, ⟨some 0, [(1000200, 1000200)], ⟨19, [], [(1000200, .cells [.i .u32, .i .u32, .i .i64, .i .i64])]⟩⟩], []⟩
def trPlace_step43_2 : (Int × ((List TTalk) × (Int × (Int × (Int × (Int × (Int × Unit))))))) → Tr ((Int × ((List TTalk) × (Int × (Int × (Int × (Int × (Int × Unit))))))) ⊕ ((Int × (Int × (Int × (Int × (Int × Unit))))) ⊕ (Int × (Int × (Int × (Int × Unit)))))) :=
  fun (a0, a1, a2, a3, a4, a5, a6, _) =>
  .ite (decide (a0 < a2)) (
   .grd (decide ((0 : Int) ≤ a0)) (
   .opt (β := TTalk) (a1[Int.toNat a0]?) (fun r0 =>
   .ite (decide (r0.from' = a3) && (decide (r0.to = a4) && (decide (r0.fromPort = a5) && (decide (r0.toPort = a6) && true)))) (
    .ite (true) (
     .ret (Sum.inr (Sum.inl (a0, (a3, (a4, (a5, (a6, ())))))))) (
     .ret (Sum.inl (IntKind.wrap IntKind.i64 (a0 + (1 : Int)), (a1, (a2, (a3, (a4, (a5, (a6, ())))))))))) (
    .opt (β := (Int × (Int × (Int × (Int × Unit))))) ((trTurned_fn (a3, (a4, (a5, (a6, ())))))) (fun r1 =>
    .ite (decide (r0.from' = r1.1) && (decide (r0.to = r1.2.1) && (decide (r0.fromPort = r1.2.2.1) && (decide (r0.toPort = r1.2.2.2.1) && true)))) (
     .ret (Sum.inr (Sum.inl (a0, (a3, (a4, (a5, (a6, ())))))))) (
     .ret (Sum.inl (IntKind.wrap IntKind.i64 (a0 + (1 : Int)), (a1, (a2, (a3, (a4, (a5, (a6, ())))))))))))))) (
   .ret (Sum.inr (Sum.inr (a3, (a4, (a5, (a6, ())))))))
def trPlace_loop43_2 (x : (Int × ((List TTalk) × (Int × (Int × (Int × (Int × (Int × Unit)))))))) : Option ((Int × (Int × (Int × (Int × (Int × Unit))))) ⊕ (Int × (Int × (Int × (Int × Unit))))) := loopO 430002 (fun x => (trPlace_step43_2 x).eval) 18446744073709551616 x
def trPlace_ap : List VP1 := [.one (.st 16 false), .agg [.i .u32, .i .u32, .i .i64, .i .i64]]
def trPlace_rp : SP := ⟨1, [(0, .v (.one (.i .i64)))], []⟩
def trPlace_tree : ((List TTalk) × (Int × (Int × (Int × (Int × Unit))))) → Tr (Int × Unit) :=
  fun (a0, a1, a2, a3, a4, _) =>
  .opt (β := ((Int × (Int × (Int × (Int × (Int × Unit))))) ⊕ (Int × (Int × (Int × (Int × Unit)))))) ((trPlace_loop43_2 ((0 : Int), (a0, ((↑(List.length a0) : Int), (a1, (a2, (a3, (a4, ()))))))))) (fun r0 =>
  .sum (β := (Int × (Int × (Int × (Int × (Int × Unit)))))) (γ := (Int × (Int × (Int × (Int × Unit))))) (r0) (fun r1 =>
   .ret (r1.1, ())) (fun r1 =>
   .ret ((-1 : Int), ())))
theorem trPlace_eq (x : ((List TTalk) × (Int × (Int × (Int × (Int × Unit)))))) : fnTr Try.prog cod [clTalk, GS.pf delTalk, FS.pf eqTalk, FS.pf trTurned, FS.pf trPort, FS.pf trRoad, FS.pf trForm] [(43, trPlace_L43_2)] 30 38 trPlace_ap trPlace_rp x = trPlace_tree x := by kernel_rfl
def trPlace_fn (x : ((List TTalk) × (Int × (Int × (Int × (Int × Unit)))))) : Option (Int × Unit) := (trPlace_tree x).eval
def trPlace : FS Try.prog := ⟨38, trPlace_ap, trPlace_rp, trPlace_fn, fun x r h => fnTr_sound (cod := cod) (Γ := [clTalk, GS.pf delTalk, FS.pf eqTalk, FS.pf trTurned, FS.pf trPort, FS.pf trRoad, FS.pf trForm]) (Λs := [(43, trPlace_L43_2)]) (n := 30) ((congrArg Tr.eval (trPlace_eq x)).trans h)⟩
def trCheck_L34_4 : LS := ⟨4, [], ⟨42, [(10, .v (.one (.i .i64))), (0, .v (.one (.st 16 false))), (8, .v (.one (.st 16 false))), (9, .v (.one (.i .i64)))], []⟩, [⟨none, [], ⟨42, [(2, .v (.one (.i .i64)))], []⟩⟩, ⟨some 0, [], ⟨42, [], []⟩⟩], []⟩
def trCheck_step34_4 : (Int × ((List TTalk) × ((List TTalk) × (Int × Unit)))) → Tr ((Int × ((List TTalk) × ((List TTalk) × (Int × Unit)))) ⊕ ((Int × Unit) ⊕ Unit)) :=
  fun (a0, a1, a2, a3, _) =>
  .ite (decide (a0 < a3)) (
   .grd (decide ((0 : Int) ≤ a0)) (
   .opt (β := TTalk) (a2[Int.toNat a0]?) (fun r0 =>
   .opt (β := (Bool × Unit)) ((trForm_fn (r0.from', (r0.to, (r0.fromPort, (r0.toPort, (r0.state, (r0.over, (r0.at', ()))))))))) (fun r1 =>
   .ite (!r1.1) (
    .ret (Sum.inr (Sum.inl ((4 : Int), ())))) (
    .ite (decide ((0 : Int) < a0)) (
     .grd (decide ((0 : Int) ≤ IntKind.wrap IntKind.i64 (a0 - (1 : Int)))) (
     .opt (β := TTalk) (a1[Int.toNat (IntKind.wrap IntKind.i64 (a0 - (1 : Int)))]?) (fun r2 =>
     .ite (decide (r0.at' < r2.at')) (
      .ret (Sum.inr (Sum.inl ((4 : Int), ())))) (
      .opt (β := (Int × Unit)) ((trPlace_fn (a1, (r0.from', (r0.to, (r0.fromPort, (r0.toPort, ()))))))) (fun r3 =>
      .ite (!decide (r3.1 = a0)) (
       .ret (Sum.inr (Sum.inl ((4 : Int), ())))) (
       .ret (Sum.inl (IntKind.wrap IntKind.i64 (a0 + (1 : Int)), (a1, (a2, (a3, ()))))))))))) (
     .opt (β := (Int × Unit)) ((trPlace_fn (a1, (r0.from', (r0.to, (r0.fromPort, (r0.toPort, ()))))))) (fun r2 =>
     .ite (!decide (r2.1 = a0)) (
      .ret (Sum.inr (Sum.inl ((4 : Int), ())))) (
      .ret (Sum.inl (IntKind.wrap IntKind.i64 (a0 + (1 : Int)), (a1, (a2, (a3, ()))))))))))))) (
   .ret (Sum.inr (Sum.inr ())))
def trCheck_loop34_4 (x : (Int × ((List TTalk) × ((List TTalk) × (Int × Unit))))) : Option ((Int × Unit) ⊕ Unit) := loopO 340004 (fun x => (trCheck_step34_4 x).eval) 18446744073709551616 x
def trCheck_ap : List VP1 := [.one (.st 16 false)]
def trCheck_rp : SP := ⟨1, [(0, .v (.one (.i .i64)))], []⟩
def trCheck_tree : ((List TTalk) × Unit) → Tr (Int × Unit) :=
  fun (a0, _) =>
  .ite (decide ((64 : Int) < (↑(List.length a0) : Int))) (
   .ret ((2 : Int), ())) (
   .opt (β := ((Int × Unit) ⊕ Unit)) ((trCheck_loop34_4 ((0 : Int), (a0, (a0, ((↑(List.length a0) : Int), ())))))) (fun r0 =>
   .sum (β := (Int × Unit)) (γ := Unit) (r0) (fun r1 =>
    .ret (r1.1, ())) (fun r1 =>
    .ret ((0 : Int), ()))))
theorem trCheck_eq (x : ((List TTalk) × Unit)) : fnTr Try.prog cod [clTalk, GS.pf delTalk, FS.pf eqTalk, FS.pf trTurned, FS.pf trPort, FS.pf trRoad, FS.pf trForm, FS.pf trPlace] [(34, trCheck_L34_4)] 30 34 trCheck_ap trCheck_rp x = trCheck_tree x := by kernel_rfl
def trCheck_fn (x : ((List TTalk) × Unit)) : Option (Int × Unit) := (trCheck_tree x).eval
def trCheck : FS Try.prog := ⟨34, trCheck_ap, trCheck_rp, trCheck_fn, fun x r h => fnTr_sound (cod := cod) (Γ := [clTalk, GS.pf delTalk, FS.pf eqTalk, FS.pf trTurned, FS.pf trPort, FS.pf trRoad, FS.pf trForm, FS.pf trPlace]) (Λs := [(34, trCheck_L34_4)]) (n := 30) ((congrArg Tr.eval (trCheck_eq x)).trans h)⟩
def trOld_ap : List VP1 := [.agg [.i .u32, .i .u32, .i .i64, .i .i64, .i .i64, .i .i64, .i .i64], .one (.i .i64)]
def trOld_rp : SP := ⟨1, [(0, .v (.one (.b)))], []⟩
def trOld_tree : (Int × (Int × (Int × (Int × (Int × (Int × (Int × (Int × Unit)))))))) → Tr (Bool × Unit) :=
  fun (a0, a1, a2, a3, a4, a5, a6, a7, _) =>
  .ite (decide (a4 = (3 : Int))) (
   .ret (decide ((3000 : Int) < IntKind.wrap IntKind.i64 (a7 - a6)), ())) (
   .ite (decide (a4 = (4 : Int))) (
    .ret (decide ((60 : Int) < IntKind.wrap IntKind.i64 (a7 - a6)), ())) (
    .ret (decide ((30 : Int) < IntKind.wrap IntKind.i64 (a7 - a6)), ())))
theorem trOld_eq (x : (Int × (Int × (Int × (Int × (Int × (Int × (Int × (Int × Unit))))))))) : fnTr Try.prog cod [clTalk, GS.pf delTalk, FS.pf eqTalk, FS.pf trTurned, FS.pf trPort, FS.pf trRoad, FS.pf trForm, FS.pf trPlace, FS.pf trCheck] [] 30 37 trOld_ap trOld_rp x = trOld_tree x := by kernel_rfl
def trOld_fn (x : (Int × (Int × (Int × (Int × (Int × (Int × (Int × (Int × Unit))))))))) : Option (Bool × Unit) := (trOld_tree x).eval
def trOld : FS Try.prog := ⟨37, trOld_ap, trOld_rp, trOld_fn, fun x r h => fnTr_sound (cod := cod) (Γ := [clTalk, GS.pf delTalk, FS.pf eqTalk, FS.pf trTurned, FS.pf trPort, FS.pf trRoad, FS.pf trForm, FS.pf trPlace, FS.pf trCheck]) (Λs := []) (n := 30) ((congrArg Tr.eval (trOld_eq x)).trans h)⟩
def dfTalk_L18_5 : LS := ⟨5, [(1000100, 1000100), (1000200, 1000200)], ⟨42, [(6, .v (.one (.i .i64))), (5, .v (.one (.i .i64))), (0, .v (.one (.own 1000100))), (1, .v (.one (.clp 36 [(1000200, 0)])))], [(1000100, .row 35 16 true true), (1000200, .cells [.i .i64])]⟩, [⟨some 0, [(1000100, 1000100), (1000200, 1000200)], ⟨42, [(5, .v (.one (.i .i64))), (0, .v (.one (.own 1000100)))], [(1000100, .row 35 16 true true), (1000200, .cells [.i .i64])]⟩⟩], []⟩
def dfTalk_step18_5 : (Int × (Int × ((List TTalk) × (Int × Unit)))) → Tr ((Int × (Int × ((List TTalk) × (Int × Unit)))) ⊕ (Int × ((List TTalk) × (Int × Unit)))) :=
  fun (a0, a1, a2, a3, _) =>
  .ite (decide (a0 < (↑(List.length a2) : Int))) (
   .grd (decide ((0 : Int) ≤ a0 ∧ a0 < (↑(List.length a2) : Int))) (
   .opt (β := TTalk) (a2[Int.toNat a0]?) (fun r0 =>
   .opt (β := (Bool × Unit)) ((trOld_fn (r0.from', (r0.to, (r0.fromPort, (r0.toPort, (r0.state, (r0.over, (r0.at', (a3, ())))))))))) (fun r1 =>
   .ite (!r1.1) (
    .grd (decide ((0 : Int) ≤ a1 ∧ a1 < (↑(List.length a2) : Int))) (
    .opt (β := TTalk) (a2[Int.toNat a1]?) (fun r2 =>
    .grd (decide (List.length a2 = List.length (List.set a2 (Int.toNat a1) (TTalk.mk r0.from' r0.to r0.fromPort r0.toPort r0.state r0.over r0.at')))) (
    .ret (Sum.inl (IntKind.wrap IntKind.i64 (a0 + (1 : Int)), (IntKind.wrap IntKind.i64 (a1 + (1 : Int)), (List.set a2 (Int.toNat a1) (TTalk.mk r0.from' r0.to r0.fromPort r0.toPort r0.state r0.over r0.at'), (a3, ()))))))))) (
    .grd (decide (List.length a2 = List.length a2)) (
    .ret (Sum.inl (IntKind.wrap IntKind.i64 (a0 + (1 : Int)), (a1, (a2, (a3, ()))))))))))) (
   .grd (decide (List.length a2 = List.length a2)) (
   .ret (Sum.inr (a1, (a2, (a3, ()))))))
def dfTalk_loop18_5 (x : (Int × (Int × ((List TTalk) × (Int × Unit))))) : Option (Int × ((List TTalk) × (Int × Unit))) := loopO 180005 (fun x => (dfTalk_step18_5 x).eval) 18446744073709551616 x
def dfTalk_L43_2 : LS := ⟨2, [(1000200, 1000200)], ⟨19, [(8, .v (.one (.i .i64))), (0, .v (.one (.st 16 false))), (1, .v (.one (.clp 36 [(1000200, 0)]))), (7, .v (.one (.i .i64)))], [(1000200, .cells [.i .i64])]⟩, [⟨none, [(1000200, 1000200)], ⟨19, [(4, .v (.one (.i .i64)))], [(1000200, .cells [.i .i64])]⟩⟩, ⟨some 0, [(1000200, 1000200)], ⟨19, [], [(1000200, .cells [.i .i64])]⟩⟩], []⟩
def dfTalk_step43_2 : (Int × ((List TTalk) × (Int × (Int × Unit)))) → Tr ((Int × ((List TTalk) × (Int × (Int × Unit)))) ⊕ ((Int × (Int × Unit)) ⊕ (Int × Unit))) :=
  fun (a0, a1, a2, a3, _) =>
  .ite (decide (a0 < a2)) (
   .grd (decide ((0 : Int) ≤ a0)) (
   .opt (β := TTalk) (a1[Int.toNat a0]?) (fun r0 =>
   .opt (β := (Bool × Unit)) ((trOld_fn (r0.from', (r0.to, (r0.fromPort, (r0.toPort, (r0.state, (r0.over, (r0.at', (a3, ())))))))))) (fun r1 =>
   .ite (r1.1) (
    .ret (Sum.inr (Sum.inl (a0, (a3, ()))))) (
    .ret (Sum.inl (IntKind.wrap IntKind.i64 (a0 + (1 : Int)), (a1, (a2, (a3, ())))))))))) (
   .ret (Sum.inr (Sum.inr (a3, ()))))
def dfTalk_loop43_2 (x : (Int × ((List TTalk) × (Int × (Int × Unit))))) : Option ((Int × (Int × Unit)) ⊕ (Int × Unit)) := loopO 430002 (fun x => (dfTalk_step43_2 x).eval) 18446744073709551616 x
def dfTalk_ap : SP := ⟨42, [(0, .v (.one (.own 1000100))), (1, .v (.one (.clp 36 [(1000200, 0)])))], [(1000200, .cells [.i .i64]), (1000100, .row 35 16 true true)]⟩
def dfTalk_rp : SP := ⟨1, [(0, .v (.one (.own 1000100)))], [(1000200, .cells [.i .i64]), (1000100, .row 35 16 true true)]⟩
def dfTalk_tree : (Int × ((List TTalk) × Unit)) → Tr (Int × ((List TTalk) × Unit)) :=
  fun (a0, a1, _) =>
  .opt (β := ((Int × (Int × Unit)) ⊕ (Int × Unit))) ((dfTalk_loop43_2 ((0 : Int), (a1, ((↑(List.length a1) : Int), (a0, ())))))) (fun r0 =>
  .sum (β := (Int × (Int × Unit))) (γ := (Int × Unit)) (r0) (fun r1 =>
   .ite (decide (r1.1 = (-1 : Int))) (
    .grd (decide (List.length a1 = List.length a1)) (
    .ret (r1.2.1, (a1, ())))) (
    .grd (decide (List.length a1 = List.length a1)) (
    .opt (β := (Int × ((List TTalk) × (Int × Unit)))) ((dfTalk_loop18_5 (IntKind.wrap IntKind.i64 (r1.1 + (1 : Int)), (r1.1, (a1, (r1.2.1, ())))))) (fun r2 =>
    .grd (decide ((0 : Int) ≤ r2.1 ∧ r2.1 ≤ (↑(List.length r2.2.fst) : Int) ∧ (↑(List.length r2.2.fst) : Int) ≤ (↑(List.length r2.2.fst) : Int))) (
    .grd (decide (Int.toNat r2.1 + Int.toNat ((↑(List.length r2.2.fst) : Int) - r2.1) ≤ List.length r2.2.1)) (
    .grd (decide ((0 : Int) ≤ r2.1 ∧ r2.1 ≤ (↑(List.length r2.2.fst) : Int))) (
    .grd (decide (Int.toNat r2.1 = List.length (List.take (Int.toNat r2.1) (List.take (Int.toNat r2.1) r2.2.1 ++ List.replicate (Int.toNat ((↑(List.length r2.2.fst) : Int) - r2.1)) (TTalk.mk (0 : Int) (0 : Int) (0 : Int) (0 : Int) (0 : Int) (0 : Int) (0 : Int)) ++ List.drop (Int.toNat r2.1 + List.length (List.replicate (Int.toNat ((↑(List.length r2.2.fst) : Int) - r2.1)) (TTalk.mk (0 : Int) (0 : Int) (0 : Int) (0 : Int) (0 : Int) (0 : Int) (0 : Int)))) r2.2.1)))) (
    .ret (r2.2.2.1, (List.take (Int.toNat r2.1) (List.take (Int.toNat r2.1) r2.2.1 ++ List.replicate (Int.toNat ((↑(List.length r2.2.fst) : Int) - r2.1)) (TTalk.mk (0 : Int) (0 : Int) (0 : Int) (0 : Int) (0 : Int) (0 : Int) (0 : Int)) ++ List.drop (Int.toNat r2.1 + List.length (List.replicate (Int.toNat ((↑(List.length r2.2.fst) : Int) - r2.1)) (TTalk.mk (0 : Int) (0 : Int) (0 : Int) (0 : Int) (0 : Int) (0 : Int) (0 : Int)))) r2.2.1), ())))))))))) (fun r1 =>
   .ite (true) (
    .grd (decide (List.length a1 = List.length a1)) (
    .ret (r1.1, (a1, ())))) (
    .grd (decide (List.length a1 = List.length a1)) (
    .opt (β := (Int × ((List TTalk) × (Int × Unit)))) ((dfTalk_loop18_5 ((0 : Int), ((-1 : Int), (a1, (r1.1, ())))))) (fun r2 =>
    .grd (decide ((0 : Int) ≤ r2.1 ∧ r2.1 ≤ (↑(List.length r2.2.fst) : Int) ∧ (↑(List.length r2.2.fst) : Int) ≤ (↑(List.length r2.2.fst) : Int))) (
    .grd (decide (Int.toNat r2.1 + Int.toNat ((↑(List.length r2.2.fst) : Int) - r2.1) ≤ List.length r2.2.1)) (
    .grd (decide ((0 : Int) ≤ r2.1 ∧ r2.1 ≤ (↑(List.length r2.2.fst) : Int))) (
    .grd (decide (Int.toNat r2.1 = List.length (List.take (Int.toNat r2.1) (List.take (Int.toNat r2.1) r2.2.1 ++ List.replicate (Int.toNat ((↑(List.length r2.2.fst) : Int) - r2.1)) (TTalk.mk (0 : Int) (0 : Int) (0 : Int) (0 : Int) (0 : Int) (0 : Int) (0 : Int)) ++ List.drop (Int.toNat r2.1 + List.length (List.replicate (Int.toNat ((↑(List.length r2.2.fst) : Int) - r2.1)) (TTalk.mk (0 : Int) (0 : Int) (0 : Int) (0 : Int) (0 : Int) (0 : Int) (0 : Int)))) r2.2.1)))) (
    .ret (r2.2.2.1, (List.take (Int.toNat r2.1) (List.take (Int.toNat r2.1) r2.2.1 ++ List.replicate (Int.toNat ((↑(List.length r2.2.fst) : Int) - r2.1)) (TTalk.mk (0 : Int) (0 : Int) (0 : Int) (0 : Int) (0 : Int) (0 : Int) (0 : Int)) ++ List.drop (Int.toNat r2.1 + List.length (List.replicate (Int.toNat ((↑(List.length r2.2.fst) : Int) - r2.1)) (TTalk.mk (0 : Int) (0 : Int) (0 : Int) (0 : Int) (0 : Int) (0 : Int) (0 : Int)))) r2.2.1), ())))))))))))
theorem dfTalk_eq (x : (Int × ((List TTalk) × Unit))) : gsTr Try.prog cod [clTalk, GS.pf delTalk, FS.pf eqTalk, FS.pf trTurned, FS.pf trPort, FS.pf trRoad, FS.pf trForm, FS.pf trPlace, FS.pf trCheck, FS.pf trOld] [(18, dfTalk_L18_5), (43, dfTalk_L43_2)] 30 18 dfTalk_ap dfTalk_rp x = dfTalk_tree x := by kernel_rfl
def dfTalk_fn (x : (Int × ((List TTalk) × Unit))) : Option (Int × ((List TTalk) × Unit)) := (dfTalk_tree x).eval
def dfTalk : GS Try.prog := ⟨18, [1, 0], dfTalk_ap, dfTalk_rp, dfTalk_fn, fun x r h ys m g he hg => gs_sound (cod := cod) (Γ := [clTalk, GS.pf delTalk, FS.pf eqTalk, FS.pf trTurned, FS.pf trPort, FS.pf trRoad, FS.pf trForm, FS.pf trPlace, FS.pf trCheck, FS.pf trOld]) (Λs := [(18, dfTalk_L18_5), (43, dfTalk_L43_2)]) (n := 30) ((congrArg Tr.eval (dfTalk_eq x)).trans h) he hg⟩
def trOpen_ap : SP := ⟨52, [(0, .v (.one (.ptr 1000000 0))), (1, .v (.agg [.b, .b, .b, .b, .b]))], [(1000000, .cells [.i .u32, .i .u32, .i .i64, .i .i64, .i .i64, .i .i64, .i .i64])]⟩
def trOpen_rp : SP := ⟨1, [(0, .v (.one (.b)))], [(1000000, .cells [.i .u32, .i .u32, .i .i64, .i .i64, .i .i64, .i .i64, .i .i64])]⟩
def trOpen_tree : (Bool × (Bool × (Bool × (Bool × (Bool × (Int × (Int × (Int × (Int × (Int × (Int × (Int × Unit)))))))))))) → Tr (Bool × (Int × (Int × (Int × (Int × (Int × (Int × (Int × Unit)))))))) :=
  fun (a0, a1, a2, a3, a4, a5, a6, a7, a8, a9, a10, a11, _) =>
  .ite (!a1) (
   .ret (false, (a5, (a6, (a7, (a8, (a9, (a10, (a11, ()))))))))) (
   .ite (a0) (
    .ret (false, (a5, (a6, (a7, (a8, (a9, (a10, (a11, ()))))))))) (
    .ite (a2) (
     .ite (a4) (
      .ite (decide (bits BinOp.or IntKind.i64 a10 (1 : Int) = (3 : Int))) (
       .ret (true, (a5, (a6, (a7, (a8, ((4 : Int), (bits BinOp.or IntKind.i64 a10 (1 : Int), (a11, ()))))))))) (
       .ret (true, (a5, (a6, (a7, (a8, (if false = true then if (3 : Int) < a9 then (3 : Int) else a9 else if (3 : Int) > a9 then (3 : Int) else a9, (bits BinOp.or IntKind.i64 a10 (1 : Int), (a11, ())))))))))) (
      .ite (a2) (
       .ite (decide (bits BinOp.or IntKind.i64 a10 (2 : Int) = (3 : Int))) (
        .ret (true, (a5, (a6, (a7, (a8, ((4 : Int), (bits BinOp.or IntKind.i64 a10 (2 : Int), (a11, ()))))))))) (
        .ret (true, (a5, (a6, (a7, (a8, (if false = true then if (3 : Int) < a9 then (3 : Int) else a9 else if (3 : Int) > a9 then (3 : Int) else a9, (bits BinOp.or IntKind.i64 a10 (2 : Int), (a11, ())))))))))) (
       .ite (decide (a10 = (3 : Int))) (
        .ret (true, (a5, (a6, (a7, (a8, ((4 : Int), (a10, (a11, ()))))))))) (
        .ret (true, (a5, (a6, (a7, (a8, (if false = true then if (3 : Int) < a9 then (3 : Int) else a9 else if (3 : Int) > a9 then (3 : Int) else a9, (a10, (a11, ())))))))))))) (
     .ite (a2) (
      .ite (decide (bits BinOp.or IntKind.i64 a10 (2 : Int) = (3 : Int))) (
       .ret (true, (a5, (a6, (a7, (a8, ((4 : Int), (bits BinOp.or IntKind.i64 a10 (2 : Int), (a11, ()))))))))) (
       .ret (true, (a5, (a6, (a7, (a8, (if false = true then if (3 : Int) < a9 then (3 : Int) else a9 else if (3 : Int) > a9 then (3 : Int) else a9, (bits BinOp.or IntKind.i64 a10 (2 : Int), (a11, ())))))))))) (
      .ite (decide (a10 = (3 : Int))) (
       .ret (true, (a5, (a6, (a7, (a8, ((4 : Int), (a10, (a11, ()))))))))) (
       .ret (true, (a5, (a6, (a7, (a8, (if false = true then if (3 : Int) < a9 then (3 : Int) else a9 else if (3 : Int) > a9 then (3 : Int) else a9, (a10, (a11, ())))))))))))))
theorem trOpen_eq (x : (Bool × (Bool × (Bool × (Bool × (Bool × (Int × (Int × (Int × (Int × (Int × (Int × (Int × Unit))))))))))))) : gsTr Try.prog cod [clTalk, GS.pf delTalk, FS.pf eqTalk, FS.pf trTurned, FS.pf trPort, FS.pf trRoad, FS.pf trForm, FS.pf trPlace, FS.pf trCheck, FS.pf trOld, GS.pf dfTalk] [] 30 72 trOpen_ap trOpen_rp x = trOpen_tree x := by kernel_rfl
def trOpen_fn (x : (Bool × (Bool × (Bool × (Bool × (Bool × (Int × (Int × (Int × (Int × (Int × (Int × (Int × Unit))))))))))))) : Option (Bool × (Int × (Int × (Int × (Int × (Int × (Int × (Int × Unit)))))))) := (trOpen_tree x).eval
def trOpen : GS Try.prog := ⟨72, [0, 0], trOpen_ap, trOpen_rp, trOpen_fn, fun x r h ys m g he hg => gs_sound (cod := cod) (Γ := [clTalk, GS.pf delTalk, FS.pf eqTalk, FS.pf trTurned, FS.pf trPort, FS.pf trRoad, FS.pf trForm, FS.pf trPlace, FS.pf trCheck, FS.pf trOld, GS.pf dfTalk]) (Λs := []) (n := 30) ((congrArg Tr.eval (trOpen_eq x)).trans h) he hg⟩
def trPasses_ap : SP := ⟨79, [(0, .v (.one (.ptr 1000000 0))), (1, .v (.agg [.b, .b, .b, .b, .b]))], [(1000000, .cells [.i .u32, .i .u32, .i .i64, .i .i64, .i .i64, .i .i64, .i .i64])]⟩
def trPasses_rp : SP := ⟨1, [(0, .v (.one (.b)))], [(1000000, .cells [.i .u32, .i .u32, .i .i64, .i .i64, .i .i64, .i .i64, .i .i64])]⟩
def trPasses_tree : (Bool × (Bool × (Bool × (Bool × (Bool × (Int × (Int × (Int × (Int × (Int × (Int × (Int × Unit)))))))))))) → Tr (Bool × (Int × (Int × (Int × (Int × (Int × (Int × (Int × Unit)))))))) :=
  fun (a0, a1, a2, a3, a4, a5, a6, a7, a8, a9, a10, a11, _) =>
  .ite (a4) (
   .ite (a0) (
    .ite (!a1) (
     .ite (!a4) (
      .ite (a0) (
       .ite (a1) (
        .ite (decide (a9 ≤ (2 : Int))) (
         .ite (!a2) (
          .ret (true, (a5, (a6, (a7, (a8, (a9, (a10, (a11, ()))))))))) (
          .ite (decide (a9 ≤ (2 : Int))) (
           .ite (!a2) (
            .ret (true, (a5, (a6, (a7, (a8, ((2 : Int), (a10, (a11, ()))))))))) (
            .ite (decide (a9 = (1 : Int))) (
             .ret (false, (a5, (a6, (a7, (a8, (a9, (a10, (a11, ()))))))))) (
             .ite (decide (a9 = (2 : Int))) (
              .ite (!a4) (
               .ret (false, (a5, (a6, (a7, (a8, (a9, (a10, (a11, ()))))))))) (
               .opt (β := (Bool × (Int × (Int × (Int × (Int × (Int × (Int × (Int × Unit))))))))) ((trOpen_fn (a0, (a1, (a2, (a3, (a4, (a5, (a6, (a7, (a8, (a9, (a10, (a11, ())))))))))))))) (fun r0 =>
               .ret (r0.1, (r0.2.1, (r0.2.2.1, (r0.2.2.2.1, (r0.2.2.2.2.1, (r0.2.2.2.2.2.1, (r0.2.2.2.2.2.2.1, (r0.2.2.2.2.2.2.2.1, ()))))))))))) (
              .opt (β := (Bool × (Int × (Int × (Int × (Int × (Int × (Int × (Int × Unit))))))))) ((trOpen_fn (a0, (a1, (a2, (a3, (a4, (a5, (a6, (a7, (a8, (a9, (a10, (a11, ())))))))))))))) (fun r0 =>
              .ret (r0.1, (r0.2.1, (r0.2.2.1, (r0.2.2.2.1, (r0.2.2.2.2.1, (r0.2.2.2.2.2.1, (r0.2.2.2.2.2.2.1, (r0.2.2.2.2.2.2.2.1, ()))))))))))))) (
           .ite (decide (a9 = (1 : Int))) (
            .ret (false, (a5, (a6, (a7, (a8, (a9, (a10, (a11, ()))))))))) (
            .ite (decide (a9 = (2 : Int))) (
             .ite (!a4) (
              .ret (false, (a5, (a6, (a7, (a8, (a9, (a10, (a11, ()))))))))) (
              .opt (β := (Bool × (Int × (Int × (Int × (Int × (Int × (Int × (Int × Unit))))))))) ((trOpen_fn (a0, (a1, (a2, (a3, (a4, (a5, (a6, (a7, (a8, (a9, (a10, (a11, ())))))))))))))) (fun r0 =>
              .ret (r0.1, (r0.2.1, (r0.2.2.1, (r0.2.2.2.1, (r0.2.2.2.2.1, (r0.2.2.2.2.2.1, (r0.2.2.2.2.2.2.1, (r0.2.2.2.2.2.2.2.1, ()))))))))))) (
             .opt (β := (Bool × (Int × (Int × (Int × (Int × (Int × (Int × (Int × Unit))))))))) ((trOpen_fn (a0, (a1, (a2, (a3, (a4, (a5, (a6, (a7, (a8, (a9, (a10, (a11, ())))))))))))))) (fun r0 =>
             .ret (r0.1, (r0.2.1, (r0.2.2.1, (r0.2.2.2.1, (r0.2.2.2.2.1, (r0.2.2.2.2.2.1, (r0.2.2.2.2.2.2.1, (r0.2.2.2.2.2.2.2.1, ())))))))))))))) (
         .ite (decide (a9 ≤ (2 : Int))) (
          .ite (!a2) (
           .ret (true, (a5, (a6, (a7, (a8, ((2 : Int), (a10, (a11, ()))))))))) (
           .ite (decide (a9 = (1 : Int))) (
            .ret (false, (a5, (a6, (a7, (a8, (a9, (a10, (a11, ()))))))))) (
            .ite (decide (a9 = (2 : Int))) (
             .ite (!a4) (
              .ret (false, (a5, (a6, (a7, (a8, (a9, (a10, (a11, ()))))))))) (
              .opt (β := (Bool × (Int × (Int × (Int × (Int × (Int × (Int × (Int × Unit))))))))) ((trOpen_fn (a0, (a1, (a2, (a3, (a4, (a5, (a6, (a7, (a8, (a9, (a10, (a11, ())))))))))))))) (fun r0 =>
              .ret (r0.1, (r0.2.1, (r0.2.2.1, (r0.2.2.2.1, (r0.2.2.2.2.1, (r0.2.2.2.2.2.1, (r0.2.2.2.2.2.2.1, (r0.2.2.2.2.2.2.2.1, ()))))))))))) (
             .opt (β := (Bool × (Int × (Int × (Int × (Int × (Int × (Int × (Int × Unit))))))))) ((trOpen_fn (a0, (a1, (a2, (a3, (a4, (a5, (a6, (a7, (a8, (a9, (a10, (a11, ())))))))))))))) (fun r0 =>
             .ret (r0.1, (r0.2.1, (r0.2.2.1, (r0.2.2.2.1, (r0.2.2.2.2.1, (r0.2.2.2.2.2.1, (r0.2.2.2.2.2.2.1, (r0.2.2.2.2.2.2.2.1, ()))))))))))))) (
          .ite (decide (a9 = (1 : Int))) (
           .ret (false, (a5, (a6, (a7, (a8, (a9, (a10, (a11, ()))))))))) (
           .ite (decide (a9 = (2 : Int))) (
            .ite (!a4) (
             .ret (false, (a5, (a6, (a7, (a8, (a9, (a10, (a11, ()))))))))) (
             .opt (β := (Bool × (Int × (Int × (Int × (Int × (Int × (Int × (Int × Unit))))))))) ((trOpen_fn (a0, (a1, (a2, (a3, (a4, (a5, (a6, (a7, (a8, (a9, (a10, (a11, ())))))))))))))) (fun r0 =>
             .ret (r0.1, (r0.2.1, (r0.2.2.1, (r0.2.2.2.1, (r0.2.2.2.2.1, (r0.2.2.2.2.2.1, (r0.2.2.2.2.2.2.1, (r0.2.2.2.2.2.2.2.1, ()))))))))))) (
            .opt (β := (Bool × (Int × (Int × (Int × (Int × (Int × (Int × (Int × Unit))))))))) ((trOpen_fn (a0, (a1, (a2, (a3, (a4, (a5, (a6, (a7, (a8, (a9, (a10, (a11, ())))))))))))))) (fun r0 =>
            .ret (r0.1, (r0.2.1, (r0.2.2.1, (r0.2.2.2.1, (r0.2.2.2.2.1, (r0.2.2.2.2.2.1, (r0.2.2.2.2.2.2.1, (r0.2.2.2.2.2.2.2.1, ())))))))))))))) (
        .ite (decide (a9 ≤ (2 : Int))) (
         .ite (!a2) (
          .ret (true, (a5, (a6, (a7, (a8, (a9, (a10, (a11, ()))))))))) (
          .ite (decide (a9 ≤ (2 : Int))) (
           .ite (decide (a9 = (1 : Int))) (
            .ret (false, (a5, (a6, (a7, (a8, (a9, (a10, (a11, ()))))))))) (
            .ite (decide (a9 = (2 : Int))) (
             .ite (!a4) (
              .ret (false, (a5, (a6, (a7, (a8, (a9, (a10, (a11, ()))))))))) (
              .opt (β := (Bool × (Int × (Int × (Int × (Int × (Int × (Int × (Int × Unit))))))))) ((trOpen_fn (a0, (a1, (a2, (a3, (a4, (a5, (a6, (a7, (a8, (a9, (a10, (a11, ())))))))))))))) (fun r0 =>
              .ret (r0.1, (r0.2.1, (r0.2.2.1, (r0.2.2.2.1, (r0.2.2.2.2.1, (r0.2.2.2.2.2.1, (r0.2.2.2.2.2.2.1, (r0.2.2.2.2.2.2.2.1, ()))))))))))) (
             .opt (β := (Bool × (Int × (Int × (Int × (Int × (Int × (Int × (Int × Unit))))))))) ((trOpen_fn (a0, (a1, (a2, (a3, (a4, (a5, (a6, (a7, (a8, (a9, (a10, (a11, ())))))))))))))) (fun r0 =>
             .ret (r0.1, (r0.2.1, (r0.2.2.1, (r0.2.2.2.1, (r0.2.2.2.2.1, (r0.2.2.2.2.2.1, (r0.2.2.2.2.2.2.1, (r0.2.2.2.2.2.2.2.1, ())))))))))))) (
           .ite (decide (a9 = (1 : Int))) (
            .ret (false, (a5, (a6, (a7, (a8, (a9, (a10, (a11, ()))))))))) (
            .ite (decide (a9 = (2 : Int))) (
             .ite (!a4) (
              .ret (false, (a5, (a6, (a7, (a8, (a9, (a10, (a11, ()))))))))) (
              .opt (β := (Bool × (Int × (Int × (Int × (Int × (Int × (Int × (Int × Unit))))))))) ((trOpen_fn (a0, (a1, (a2, (a3, (a4, (a5, (a6, (a7, (a8, (a9, (a10, (a11, ())))))))))))))) (fun r0 =>
              .ret (r0.1, (r0.2.1, (r0.2.2.1, (r0.2.2.2.1, (r0.2.2.2.2.1, (r0.2.2.2.2.2.1, (r0.2.2.2.2.2.2.1, (r0.2.2.2.2.2.2.2.1, ()))))))))))) (
             .opt (β := (Bool × (Int × (Int × (Int × (Int × (Int × (Int × (Int × Unit))))))))) ((trOpen_fn (a0, (a1, (a2, (a3, (a4, (a5, (a6, (a7, (a8, (a9, (a10, (a11, ())))))))))))))) (fun r0 =>
             .ret (r0.1, (r0.2.1, (r0.2.2.1, (r0.2.2.2.1, (r0.2.2.2.2.1, (r0.2.2.2.2.2.1, (r0.2.2.2.2.2.2.1, (r0.2.2.2.2.2.2.2.1, ())))))))))))))) (
         .ite (decide (a9 ≤ (2 : Int))) (
          .ite (decide (a9 = (1 : Int))) (
           .ret (false, (a5, (a6, (a7, (a8, (a9, (a10, (a11, ()))))))))) (
           .ite (decide (a9 = (2 : Int))) (
            .ite (!a4) (
             .ret (false, (a5, (a6, (a7, (a8, (a9, (a10, (a11, ()))))))))) (
             .opt (β := (Bool × (Int × (Int × (Int × (Int × (Int × (Int × (Int × Unit))))))))) ((trOpen_fn (a0, (a1, (a2, (a3, (a4, (a5, (a6, (a7, (a8, (a9, (a10, (a11, ())))))))))))))) (fun r0 =>
             .ret (r0.1, (r0.2.1, (r0.2.2.1, (r0.2.2.2.1, (r0.2.2.2.2.1, (r0.2.2.2.2.2.1, (r0.2.2.2.2.2.2.1, (r0.2.2.2.2.2.2.2.1, ()))))))))))) (
            .opt (β := (Bool × (Int × (Int × (Int × (Int × (Int × (Int × (Int × Unit))))))))) ((trOpen_fn (a0, (a1, (a2, (a3, (a4, (a5, (a6, (a7, (a8, (a9, (a10, (a11, ())))))))))))))) (fun r0 =>
            .ret (r0.1, (r0.2.1, (r0.2.2.1, (r0.2.2.2.1, (r0.2.2.2.2.1, (r0.2.2.2.2.2.1, (r0.2.2.2.2.2.2.1, (r0.2.2.2.2.2.2.2.1, ())))))))))))) (
          .ite (decide (a9 = (1 : Int))) (
           .ret (false, (a5, (a6, (a7, (a8, (a9, (a10, (a11, ()))))))))) (
           .ite (decide (a9 = (2 : Int))) (
            .ite (!a4) (
             .ret (false, (a5, (a6, (a7, (a8, (a9, (a10, (a11, ()))))))))) (
             .opt (β := (Bool × (Int × (Int × (Int × (Int × (Int × (Int × (Int × Unit))))))))) ((trOpen_fn (a0, (a1, (a2, (a3, (a4, (a5, (a6, (a7, (a8, (a9, (a10, (a11, ())))))))))))))) (fun r0 =>
             .ret (r0.1, (r0.2.1, (r0.2.2.1, (r0.2.2.2.1, (r0.2.2.2.2.1, (r0.2.2.2.2.2.1, (r0.2.2.2.2.2.2.1, (r0.2.2.2.2.2.2.2.1, ()))))))))))) (
            .opt (β := (Bool × (Int × (Int × (Int × (Int × (Int × (Int × (Int × Unit))))))))) ((trOpen_fn (a0, (a1, (a2, (a3, (a4, (a5, (a6, (a7, (a8, (a9, (a10, (a11, ())))))))))))))) (fun r0 =>
            .ret (r0.1, (r0.2.1, (r0.2.2.1, (r0.2.2.2.1, (r0.2.2.2.2.1, (r0.2.2.2.2.2.1, (r0.2.2.2.2.2.2.1, (r0.2.2.2.2.2.2.2.1, ()))))))))))))))) (
       .ite (decide (a9 ≤ (2 : Int))) (
        .ite (!a2) (
         .ret (true, (a5, (a6, (a7, (a8, (a9, (a10, (a11, ()))))))))) (
         .ite (decide (a9 ≤ (2 : Int))) (
          .ite (decide (a9 = (1 : Int))) (
           .ret (false, (a5, (a6, (a7, (a8, (a9, (a10, (a11, ()))))))))) (
           .ite (decide (a9 = (2 : Int))) (
            .ite (!a4) (
             .ret (false, (a5, (a6, (a7, (a8, (a9, (a10, (a11, ()))))))))) (
             .opt (β := (Bool × (Int × (Int × (Int × (Int × (Int × (Int × (Int × Unit))))))))) ((trOpen_fn (a0, (a1, (a2, (a3, (a4, (a5, (a6, (a7, (a8, (a9, (a10, (a11, ())))))))))))))) (fun r0 =>
             .ret (r0.1, (r0.2.1, (r0.2.2.1, (r0.2.2.2.1, (r0.2.2.2.2.1, (r0.2.2.2.2.2.1, (r0.2.2.2.2.2.2.1, (r0.2.2.2.2.2.2.2.1, ()))))))))))) (
            .opt (β := (Bool × (Int × (Int × (Int × (Int × (Int × (Int × (Int × Unit))))))))) ((trOpen_fn (a0, (a1, (a2, (a3, (a4, (a5, (a6, (a7, (a8, (a9, (a10, (a11, ())))))))))))))) (fun r0 =>
            .ret (r0.1, (r0.2.1, (r0.2.2.1, (r0.2.2.2.1, (r0.2.2.2.2.1, (r0.2.2.2.2.2.1, (r0.2.2.2.2.2.2.1, (r0.2.2.2.2.2.2.2.1, ())))))))))))) (
          .ite (decide (a9 = (1 : Int))) (
           .ret (false, (a5, (a6, (a7, (a8, (a9, (a10, (a11, ()))))))))) (
           .ite (decide (a9 = (2 : Int))) (
            .ite (!a4) (
             .ret (false, (a5, (a6, (a7, (a8, (a9, (a10, (a11, ()))))))))) (
             .opt (β := (Bool × (Int × (Int × (Int × (Int × (Int × (Int × (Int × Unit))))))))) ((trOpen_fn (a0, (a1, (a2, (a3, (a4, (a5, (a6, (a7, (a8, (a9, (a10, (a11, ())))))))))))))) (fun r0 =>
             .ret (r0.1, (r0.2.1, (r0.2.2.1, (r0.2.2.2.1, (r0.2.2.2.2.1, (r0.2.2.2.2.2.1, (r0.2.2.2.2.2.2.1, (r0.2.2.2.2.2.2.2.1, ()))))))))))) (
            .opt (β := (Bool × (Int × (Int × (Int × (Int × (Int × (Int × (Int × Unit))))))))) ((trOpen_fn (a0, (a1, (a2, (a3, (a4, (a5, (a6, (a7, (a8, (a9, (a10, (a11, ())))))))))))))) (fun r0 =>
            .ret (r0.1, (r0.2.1, (r0.2.2.1, (r0.2.2.2.1, (r0.2.2.2.2.1, (r0.2.2.2.2.2.1, (r0.2.2.2.2.2.2.1, (r0.2.2.2.2.2.2.2.1, ())))))))))))))) (
        .ite (decide (a9 ≤ (2 : Int))) (
         .ite (decide (a9 = (1 : Int))) (
          .ret (false, (a5, (a6, (a7, (a8, (a9, (a10, (a11, ()))))))))) (
          .ite (decide (a9 = (2 : Int))) (
           .ite (!a4) (
            .ret (false, (a5, (a6, (a7, (a8, (a9, (a10, (a11, ()))))))))) (
            .opt (β := (Bool × (Int × (Int × (Int × (Int × (Int × (Int × (Int × Unit))))))))) ((trOpen_fn (a0, (a1, (a2, (a3, (a4, (a5, (a6, (a7, (a8, (a9, (a10, (a11, ())))))))))))))) (fun r0 =>
            .ret (r0.1, (r0.2.1, (r0.2.2.1, (r0.2.2.2.1, (r0.2.2.2.2.1, (r0.2.2.2.2.2.1, (r0.2.2.2.2.2.2.1, (r0.2.2.2.2.2.2.2.1, ()))))))))))) (
           .opt (β := (Bool × (Int × (Int × (Int × (Int × (Int × (Int × (Int × Unit))))))))) ((trOpen_fn (a0, (a1, (a2, (a3, (a4, (a5, (a6, (a7, (a8, (a9, (a10, (a11, ())))))))))))))) (fun r0 =>
           .ret (r0.1, (r0.2.1, (r0.2.2.1, (r0.2.2.2.1, (r0.2.2.2.2.1, (r0.2.2.2.2.2.1, (r0.2.2.2.2.2.2.1, (r0.2.2.2.2.2.2.2.1, ())))))))))))) (
         .ite (decide (a9 = (1 : Int))) (
          .ret (false, (a5, (a6, (a7, (a8, (a9, (a10, (a11, ()))))))))) (
          .ite (decide (a9 = (2 : Int))) (
           .ite (!a4) (
            .ret (false, (a5, (a6, (a7, (a8, (a9, (a10, (a11, ()))))))))) (
            .opt (β := (Bool × (Int × (Int × (Int × (Int × (Int × (Int × (Int × Unit))))))))) ((trOpen_fn (a0, (a1, (a2, (a3, (a4, (a5, (a6, (a7, (a8, (a9, (a10, (a11, ())))))))))))))) (fun r0 =>
            .ret (r0.1, (r0.2.1, (r0.2.2.1, (r0.2.2.2.1, (r0.2.2.2.2.1, (r0.2.2.2.2.2.1, (r0.2.2.2.2.2.2.1, (r0.2.2.2.2.2.2.2.1, ()))))))))))) (
           .opt (β := (Bool × (Int × (Int × (Int × (Int × (Int × (Int × (Int × Unit))))))))) ((trOpen_fn (a0, (a1, (a2, (a3, (a4, (a5, (a6, (a7, (a8, (a9, (a10, (a11, ())))))))))))))) (fun r0 =>
           .ret (r0.1, (r0.2.1, (r0.2.2.1, (r0.2.2.2.1, (r0.2.2.2.2.1, (r0.2.2.2.2.2.1, (r0.2.2.2.2.2.2.1, (r0.2.2.2.2.2.2.2.1, ()))))))))))))))) (
      .ite (decide (a9 ≤ (2 : Int))) (
       .ite (!a2) (
        .ret (true, (a5, (a6, (a7, (a8, (a9, (a10, (a11, ()))))))))) (
        .ite (decide (a9 ≤ (2 : Int))) (
         .ite (decide (a9 = (1 : Int))) (
          .ret (false, (a5, (a6, (a7, (a8, (a9, (a10, (a11, ()))))))))) (
          .ite (decide (a9 = (2 : Int))) (
           .ite (!a4) (
            .ret (false, (a5, (a6, (a7, (a8, (a9, (a10, (a11, ()))))))))) (
            .opt (β := (Bool × (Int × (Int × (Int × (Int × (Int × (Int × (Int × Unit))))))))) ((trOpen_fn (a0, (a1, (a2, (a3, (a4, (a5, (a6, (a7, (a8, (a9, (a10, (a11, ())))))))))))))) (fun r0 =>
            .ret (r0.1, (r0.2.1, (r0.2.2.1, (r0.2.2.2.1, (r0.2.2.2.2.1, (r0.2.2.2.2.2.1, (r0.2.2.2.2.2.2.1, (r0.2.2.2.2.2.2.2.1, ()))))))))))) (
           .opt (β := (Bool × (Int × (Int × (Int × (Int × (Int × (Int × (Int × Unit))))))))) ((trOpen_fn (a0, (a1, (a2, (a3, (a4, (a5, (a6, (a7, (a8, (a9, (a10, (a11, ())))))))))))))) (fun r0 =>
           .ret (r0.1, (r0.2.1, (r0.2.2.1, (r0.2.2.2.1, (r0.2.2.2.2.1, (r0.2.2.2.2.2.1, (r0.2.2.2.2.2.2.1, (r0.2.2.2.2.2.2.2.1, ())))))))))))) (
         .ite (decide (a9 = (1 : Int))) (
          .ret (false, (a5, (a6, (a7, (a8, (a9, (a10, (a11, ()))))))))) (
          .ite (decide (a9 = (2 : Int))) (
           .ite (!a4) (
            .ret (false, (a5, (a6, (a7, (a8, (a9, (a10, (a11, ()))))))))) (
            .opt (β := (Bool × (Int × (Int × (Int × (Int × (Int × (Int × (Int × Unit))))))))) ((trOpen_fn (a0, (a1, (a2, (a3, (a4, (a5, (a6, (a7, (a8, (a9, (a10, (a11, ())))))))))))))) (fun r0 =>
            .ret (r0.1, (r0.2.1, (r0.2.2.1, (r0.2.2.2.1, (r0.2.2.2.2.1, (r0.2.2.2.2.2.1, (r0.2.2.2.2.2.2.1, (r0.2.2.2.2.2.2.2.1, ()))))))))))) (
           .opt (β := (Bool × (Int × (Int × (Int × (Int × (Int × (Int × (Int × Unit))))))))) ((trOpen_fn (a0, (a1, (a2, (a3, (a4, (a5, (a6, (a7, (a8, (a9, (a10, (a11, ())))))))))))))) (fun r0 =>
           .ret (r0.1, (r0.2.1, (r0.2.2.1, (r0.2.2.2.1, (r0.2.2.2.2.1, (r0.2.2.2.2.2.1, (r0.2.2.2.2.2.2.1, (r0.2.2.2.2.2.2.2.1, ())))))))))))))) (
       .ite (decide (a9 ≤ (2 : Int))) (
        .ite (decide (a9 = (1 : Int))) (
         .ret (false, (a5, (a6, (a7, (a8, (a9, (a10, (a11, ()))))))))) (
         .ite (decide (a9 = (2 : Int))) (
          .ite (!a4) (
           .ret (false, (a5, (a6, (a7, (a8, (a9, (a10, (a11, ()))))))))) (
           .opt (β := (Bool × (Int × (Int × (Int × (Int × (Int × (Int × (Int × Unit))))))))) ((trOpen_fn (a0, (a1, (a2, (a3, (a4, (a5, (a6, (a7, (a8, (a9, (a10, (a11, ())))))))))))))) (fun r0 =>
           .ret (r0.1, (r0.2.1, (r0.2.2.1, (r0.2.2.2.1, (r0.2.2.2.2.1, (r0.2.2.2.2.2.1, (r0.2.2.2.2.2.2.1, (r0.2.2.2.2.2.2.2.1, ()))))))))))) (
          .opt (β := (Bool × (Int × (Int × (Int × (Int × (Int × (Int × (Int × Unit))))))))) ((trOpen_fn (a0, (a1, (a2, (a3, (a4, (a5, (a6, (a7, (a8, (a9, (a10, (a11, ())))))))))))))) (fun r0 =>
          .ret (r0.1, (r0.2.1, (r0.2.2.1, (r0.2.2.2.1, (r0.2.2.2.2.1, (r0.2.2.2.2.2.1, (r0.2.2.2.2.2.2.1, (r0.2.2.2.2.2.2.2.1, ())))))))))))) (
        .ite (decide (a9 = (1 : Int))) (
         .ret (false, (a5, (a6, (a7, (a8, (a9, (a10, (a11, ()))))))))) (
         .ite (decide (a9 = (2 : Int))) (
          .ite (!a4) (
           .ret (false, (a5, (a6, (a7, (a8, (a9, (a10, (a11, ()))))))))) (
           .opt (β := (Bool × (Int × (Int × (Int × (Int × (Int × (Int × (Int × Unit))))))))) ((trOpen_fn (a0, (a1, (a2, (a3, (a4, (a5, (a6, (a7, (a8, (a9, (a10, (a11, ())))))))))))))) (fun r0 =>
           .ret (r0.1, (r0.2.1, (r0.2.2.1, (r0.2.2.2.1, (r0.2.2.2.2.1, (r0.2.2.2.2.2.1, (r0.2.2.2.2.2.2.1, (r0.2.2.2.2.2.2.2.1, ()))))))))))) (
          .opt (β := (Bool × (Int × (Int × (Int × (Int × (Int × (Int × (Int × Unit))))))))) ((trOpen_fn (a0, (a1, (a2, (a3, (a4, (a5, (a6, (a7, (a8, (a9, (a10, (a11, ())))))))))))))) (fun r0 =>
          .ret (r0.1, (r0.2.1, (r0.2.2.1, (r0.2.2.2.1, (r0.2.2.2.2.1, (r0.2.2.2.2.2.1, (r0.2.2.2.2.2.2.1, (r0.2.2.2.2.2.2.2.1, ()))))))))))))))) (
     .ite (!a4) (
      .ite (a0) (
       .ite (a1) (
        .ite (decide (a9 ≤ (2 : Int))) (
         .ite (decide (a9 ≤ (2 : Int))) (
          .ite (!a2) (
           .ret (true, (a5, (a6, (a7, (a8, ((2 : Int), (a10, (a11, ()))))))))) (
           .ite (decide (a9 = (1 : Int))) (
            .ret (false, (a5, (a6, (a7, (a8, (a9, (a10, (a11, ()))))))))) (
            .ite (decide (a9 = (2 : Int))) (
             .ite (!a4) (
              .ret (false, (a5, (a6, (a7, (a8, (a9, (a10, (a11, ()))))))))) (
              .opt (β := (Bool × (Int × (Int × (Int × (Int × (Int × (Int × (Int × Unit))))))))) ((trOpen_fn (a0, (a1, (a2, (a3, (a4, (a5, (a6, (a7, (a8, (a9, (a10, (a11, ())))))))))))))) (fun r0 =>
              .ret (r0.1, (r0.2.1, (r0.2.2.1, (r0.2.2.2.1, (r0.2.2.2.2.1, (r0.2.2.2.2.2.1, (r0.2.2.2.2.2.2.1, (r0.2.2.2.2.2.2.2.1, ()))))))))))) (
             .opt (β := (Bool × (Int × (Int × (Int × (Int × (Int × (Int × (Int × Unit))))))))) ((trOpen_fn (a0, (a1, (a2, (a3, (a4, (a5, (a6, (a7, (a8, (a9, (a10, (a11, ())))))))))))))) (fun r0 =>
             .ret (r0.1, (r0.2.1, (r0.2.2.1, (r0.2.2.2.1, (r0.2.2.2.2.1, (r0.2.2.2.2.2.1, (r0.2.2.2.2.2.2.1, (r0.2.2.2.2.2.2.2.1, ()))))))))))))) (
          .ite (decide (a9 = (1 : Int))) (
           .ret (false, (a5, (a6, (a7, (a8, (a9, (a10, (a11, ()))))))))) (
           .ite (decide (a9 = (2 : Int))) (
            .ite (!a4) (
             .ret (false, (a5, (a6, (a7, (a8, (a9, (a10, (a11, ()))))))))) (
             .opt (β := (Bool × (Int × (Int × (Int × (Int × (Int × (Int × (Int × Unit))))))))) ((trOpen_fn (a0, (a1, (a2, (a3, (a4, (a5, (a6, (a7, (a8, (a9, (a10, (a11, ())))))))))))))) (fun r0 =>
             .ret (r0.1, (r0.2.1, (r0.2.2.1, (r0.2.2.2.1, (r0.2.2.2.2.1, (r0.2.2.2.2.2.1, (r0.2.2.2.2.2.2.1, (r0.2.2.2.2.2.2.2.1, ()))))))))))) (
            .opt (β := (Bool × (Int × (Int × (Int × (Int × (Int × (Int × (Int × Unit))))))))) ((trOpen_fn (a0, (a1, (a2, (a3, (a4, (a5, (a6, (a7, (a8, (a9, (a10, (a11, ())))))))))))))) (fun r0 =>
            .ret (r0.1, (r0.2.1, (r0.2.2.1, (r0.2.2.2.1, (r0.2.2.2.2.1, (r0.2.2.2.2.2.1, (r0.2.2.2.2.2.2.1, (r0.2.2.2.2.2.2.2.1, ()))))))))))))) (
         .ite (decide (a9 ≤ (2 : Int))) (
          .ite (!a2) (
           .ret (true, (a5, (a6, (a7, (a8, ((2 : Int), (a10, (a11, ()))))))))) (
           .ite (decide (a9 = (1 : Int))) (
            .ret (false, (a5, (a6, (a7, (a8, (a9, (a10, (a11, ()))))))))) (
            .ite (decide (a9 = (2 : Int))) (
             .ite (!a4) (
              .ret (false, (a5, (a6, (a7, (a8, (a9, (a10, (a11, ()))))))))) (
              .opt (β := (Bool × (Int × (Int × (Int × (Int × (Int × (Int × (Int × Unit))))))))) ((trOpen_fn (a0, (a1, (a2, (a3, (a4, (a5, (a6, (a7, (a8, (a9, (a10, (a11, ())))))))))))))) (fun r0 =>
              .ret (r0.1, (r0.2.1, (r0.2.2.1, (r0.2.2.2.1, (r0.2.2.2.2.1, (r0.2.2.2.2.2.1, (r0.2.2.2.2.2.2.1, (r0.2.2.2.2.2.2.2.1, ()))))))))))) (
             .opt (β := (Bool × (Int × (Int × (Int × (Int × (Int × (Int × (Int × Unit))))))))) ((trOpen_fn (a0, (a1, (a2, (a3, (a4, (a5, (a6, (a7, (a8, (a9, (a10, (a11, ())))))))))))))) (fun r0 =>
             .ret (r0.1, (r0.2.1, (r0.2.2.1, (r0.2.2.2.1, (r0.2.2.2.2.1, (r0.2.2.2.2.2.1, (r0.2.2.2.2.2.2.1, (r0.2.2.2.2.2.2.2.1, ()))))))))))))) (
          .ite (decide (a9 = (1 : Int))) (
           .ret (false, (a5, (a6, (a7, (a8, (a9, (a10, (a11, ()))))))))) (
           .ite (decide (a9 = (2 : Int))) (
            .ite (!a4) (
             .ret (false, (a5, (a6, (a7, (a8, (a9, (a10, (a11, ()))))))))) (
             .opt (β := (Bool × (Int × (Int × (Int × (Int × (Int × (Int × (Int × Unit))))))))) ((trOpen_fn (a0, (a1, (a2, (a3, (a4, (a5, (a6, (a7, (a8, (a9, (a10, (a11, ())))))))))))))) (fun r0 =>
             .ret (r0.1, (r0.2.1, (r0.2.2.1, (r0.2.2.2.1, (r0.2.2.2.2.1, (r0.2.2.2.2.2.1, (r0.2.2.2.2.2.2.1, (r0.2.2.2.2.2.2.2.1, ()))))))))))) (
            .opt (β := (Bool × (Int × (Int × (Int × (Int × (Int × (Int × (Int × Unit))))))))) ((trOpen_fn (a0, (a1, (a2, (a3, (a4, (a5, (a6, (a7, (a8, (a9, (a10, (a11, ())))))))))))))) (fun r0 =>
            .ret (r0.1, (r0.2.1, (r0.2.2.1, (r0.2.2.2.1, (r0.2.2.2.2.1, (r0.2.2.2.2.2.1, (r0.2.2.2.2.2.2.1, (r0.2.2.2.2.2.2.2.1, ())))))))))))))) (
        .ite (decide (a9 ≤ (2 : Int))) (
         .ite (decide (a9 ≤ (2 : Int))) (
          .ite (decide (a9 = (1 : Int))) (
           .ret (false, (a5, (a6, (a7, (a8, (a9, (a10, (a11, ()))))))))) (
           .ite (decide (a9 = (2 : Int))) (
            .ite (!a4) (
             .ret (false, (a5, (a6, (a7, (a8, (a9, (a10, (a11, ()))))))))) (
             .opt (β := (Bool × (Int × (Int × (Int × (Int × (Int × (Int × (Int × Unit))))))))) ((trOpen_fn (a0, (a1, (a2, (a3, (a4, (a5, (a6, (a7, (a8, (a9, (a10, (a11, ())))))))))))))) (fun r0 =>
             .ret (r0.1, (r0.2.1, (r0.2.2.1, (r0.2.2.2.1, (r0.2.2.2.2.1, (r0.2.2.2.2.2.1, (r0.2.2.2.2.2.2.1, (r0.2.2.2.2.2.2.2.1, ()))))))))))) (
            .opt (β := (Bool × (Int × (Int × (Int × (Int × (Int × (Int × (Int × Unit))))))))) ((trOpen_fn (a0, (a1, (a2, (a3, (a4, (a5, (a6, (a7, (a8, (a9, (a10, (a11, ())))))))))))))) (fun r0 =>
            .ret (r0.1, (r0.2.1, (r0.2.2.1, (r0.2.2.2.1, (r0.2.2.2.2.1, (r0.2.2.2.2.2.1, (r0.2.2.2.2.2.2.1, (r0.2.2.2.2.2.2.2.1, ())))))))))))) (
          .ite (decide (a9 = (1 : Int))) (
           .ret (false, (a5, (a6, (a7, (a8, (a9, (a10, (a11, ()))))))))) (
           .ite (decide (a9 = (2 : Int))) (
            .ite (!a4) (
             .ret (false, (a5, (a6, (a7, (a8, (a9, (a10, (a11, ()))))))))) (
             .opt (β := (Bool × (Int × (Int × (Int × (Int × (Int × (Int × (Int × Unit))))))))) ((trOpen_fn (a0, (a1, (a2, (a3, (a4, (a5, (a6, (a7, (a8, (a9, (a10, (a11, ())))))))))))))) (fun r0 =>
             .ret (r0.1, (r0.2.1, (r0.2.2.1, (r0.2.2.2.1, (r0.2.2.2.2.1, (r0.2.2.2.2.2.1, (r0.2.2.2.2.2.2.1, (r0.2.2.2.2.2.2.2.1, ()))))))))))) (
            .opt (β := (Bool × (Int × (Int × (Int × (Int × (Int × (Int × (Int × Unit))))))))) ((trOpen_fn (a0, (a1, (a2, (a3, (a4, (a5, (a6, (a7, (a8, (a9, (a10, (a11, ())))))))))))))) (fun r0 =>
            .ret (r0.1, (r0.2.1, (r0.2.2.1, (r0.2.2.2.1, (r0.2.2.2.2.1, (r0.2.2.2.2.2.1, (r0.2.2.2.2.2.2.1, (r0.2.2.2.2.2.2.2.1, ()))))))))))))) (
         .ite (decide (a9 ≤ (2 : Int))) (
          .ite (decide (a9 = (1 : Int))) (
           .ret (false, (a5, (a6, (a7, (a8, (a9, (a10, (a11, ()))))))))) (
           .ite (decide (a9 = (2 : Int))) (
            .ite (!a4) (
             .ret (false, (a5, (a6, (a7, (a8, (a9, (a10, (a11, ()))))))))) (
             .opt (β := (Bool × (Int × (Int × (Int × (Int × (Int × (Int × (Int × Unit))))))))) ((trOpen_fn (a0, (a1, (a2, (a3, (a4, (a5, (a6, (a7, (a8, (a9, (a10, (a11, ())))))))))))))) (fun r0 =>
             .ret (r0.1, (r0.2.1, (r0.2.2.1, (r0.2.2.2.1, (r0.2.2.2.2.1, (r0.2.2.2.2.2.1, (r0.2.2.2.2.2.2.1, (r0.2.2.2.2.2.2.2.1, ()))))))))))) (
            .opt (β := (Bool × (Int × (Int × (Int × (Int × (Int × (Int × (Int × Unit))))))))) ((trOpen_fn (a0, (a1, (a2, (a3, (a4, (a5, (a6, (a7, (a8, (a9, (a10, (a11, ())))))))))))))) (fun r0 =>
            .ret (r0.1, (r0.2.1, (r0.2.2.1, (r0.2.2.2.1, (r0.2.2.2.2.1, (r0.2.2.2.2.2.1, (r0.2.2.2.2.2.2.1, (r0.2.2.2.2.2.2.2.1, ())))))))))))) (
          .ite (decide (a9 = (1 : Int))) (
           .ret (false, (a5, (a6, (a7, (a8, (a9, (a10, (a11, ()))))))))) (
           .ite (decide (a9 = (2 : Int))) (
            .ite (!a4) (
             .ret (false, (a5, (a6, (a7, (a8, (a9, (a10, (a11, ()))))))))) (
             .opt (β := (Bool × (Int × (Int × (Int × (Int × (Int × (Int × (Int × Unit))))))))) ((trOpen_fn (a0, (a1, (a2, (a3, (a4, (a5, (a6, (a7, (a8, (a9, (a10, (a11, ())))))))))))))) (fun r0 =>
             .ret (r0.1, (r0.2.1, (r0.2.2.1, (r0.2.2.2.1, (r0.2.2.2.2.1, (r0.2.2.2.2.2.1, (r0.2.2.2.2.2.2.1, (r0.2.2.2.2.2.2.2.1, ()))))))))))) (
            .opt (β := (Bool × (Int × (Int × (Int × (Int × (Int × (Int × (Int × Unit))))))))) ((trOpen_fn (a0, (a1, (a2, (a3, (a4, (a5, (a6, (a7, (a8, (a9, (a10, (a11, ())))))))))))))) (fun r0 =>
            .ret (r0.1, (r0.2.1, (r0.2.2.1, (r0.2.2.2.1, (r0.2.2.2.2.1, (r0.2.2.2.2.2.1, (r0.2.2.2.2.2.2.1, (r0.2.2.2.2.2.2.2.1, ()))))))))))))))) (
       .ite (decide (a9 ≤ (2 : Int))) (
        .ite (decide (a9 ≤ (2 : Int))) (
         .ite (decide (a9 = (1 : Int))) (
          .ret (false, (a5, (a6, (a7, (a8, (a9, (a10, (a11, ()))))))))) (
          .ite (decide (a9 = (2 : Int))) (
           .ite (!a4) (
            .ret (false, (a5, (a6, (a7, (a8, (a9, (a10, (a11, ()))))))))) (
            .opt (β := (Bool × (Int × (Int × (Int × (Int × (Int × (Int × (Int × Unit))))))))) ((trOpen_fn (a0, (a1, (a2, (a3, (a4, (a5, (a6, (a7, (a8, (a9, (a10, (a11, ())))))))))))))) (fun r0 =>
            .ret (r0.1, (r0.2.1, (r0.2.2.1, (r0.2.2.2.1, (r0.2.2.2.2.1, (r0.2.2.2.2.2.1, (r0.2.2.2.2.2.2.1, (r0.2.2.2.2.2.2.2.1, ()))))))))))) (
           .opt (β := (Bool × (Int × (Int × (Int × (Int × (Int × (Int × (Int × Unit))))))))) ((trOpen_fn (a0, (a1, (a2, (a3, (a4, (a5, (a6, (a7, (a8, (a9, (a10, (a11, ())))))))))))))) (fun r0 =>
           .ret (r0.1, (r0.2.1, (r0.2.2.1, (r0.2.2.2.1, (r0.2.2.2.2.1, (r0.2.2.2.2.2.1, (r0.2.2.2.2.2.2.1, (r0.2.2.2.2.2.2.2.1, ())))))))))))) (
         .ite (decide (a9 = (1 : Int))) (
          .ret (false, (a5, (a6, (a7, (a8, (a9, (a10, (a11, ()))))))))) (
          .ite (decide (a9 = (2 : Int))) (
           .ite (!a4) (
            .ret (false, (a5, (a6, (a7, (a8, (a9, (a10, (a11, ()))))))))) (
            .opt (β := (Bool × (Int × (Int × (Int × (Int × (Int × (Int × (Int × Unit))))))))) ((trOpen_fn (a0, (a1, (a2, (a3, (a4, (a5, (a6, (a7, (a8, (a9, (a10, (a11, ())))))))))))))) (fun r0 =>
            .ret (r0.1, (r0.2.1, (r0.2.2.1, (r0.2.2.2.1, (r0.2.2.2.2.1, (r0.2.2.2.2.2.1, (r0.2.2.2.2.2.2.1, (r0.2.2.2.2.2.2.2.1, ()))))))))))) (
           .opt (β := (Bool × (Int × (Int × (Int × (Int × (Int × (Int × (Int × Unit))))))))) ((trOpen_fn (a0, (a1, (a2, (a3, (a4, (a5, (a6, (a7, (a8, (a9, (a10, (a11, ())))))))))))))) (fun r0 =>
           .ret (r0.1, (r0.2.1, (r0.2.2.1, (r0.2.2.2.1, (r0.2.2.2.2.1, (r0.2.2.2.2.2.1, (r0.2.2.2.2.2.2.1, (r0.2.2.2.2.2.2.2.1, ()))))))))))))) (
        .ite (decide (a9 ≤ (2 : Int))) (
         .ite (decide (a9 = (1 : Int))) (
          .ret (false, (a5, (a6, (a7, (a8, (a9, (a10, (a11, ()))))))))) (
          .ite (decide (a9 = (2 : Int))) (
           .ite (!a4) (
            .ret (false, (a5, (a6, (a7, (a8, (a9, (a10, (a11, ()))))))))) (
            .opt (β := (Bool × (Int × (Int × (Int × (Int × (Int × (Int × (Int × Unit))))))))) ((trOpen_fn (a0, (a1, (a2, (a3, (a4, (a5, (a6, (a7, (a8, (a9, (a10, (a11, ())))))))))))))) (fun r0 =>
            .ret (r0.1, (r0.2.1, (r0.2.2.1, (r0.2.2.2.1, (r0.2.2.2.2.1, (r0.2.2.2.2.2.1, (r0.2.2.2.2.2.2.1, (r0.2.2.2.2.2.2.2.1, ()))))))))))) (
           .opt (β := (Bool × (Int × (Int × (Int × (Int × (Int × (Int × (Int × Unit))))))))) ((trOpen_fn (a0, (a1, (a2, (a3, (a4, (a5, (a6, (a7, (a8, (a9, (a10, (a11, ())))))))))))))) (fun r0 =>
           .ret (r0.1, (r0.2.1, (r0.2.2.1, (r0.2.2.2.1, (r0.2.2.2.2.1, (r0.2.2.2.2.2.1, (r0.2.2.2.2.2.2.1, (r0.2.2.2.2.2.2.2.1, ())))))))))))) (
         .ite (decide (a9 = (1 : Int))) (
          .ret (false, (a5, (a6, (a7, (a8, (a9, (a10, (a11, ()))))))))) (
          .ite (decide (a9 = (2 : Int))) (
           .ite (!a4) (
            .ret (false, (a5, (a6, (a7, (a8, (a9, (a10, (a11, ()))))))))) (
            .opt (β := (Bool × (Int × (Int × (Int × (Int × (Int × (Int × (Int × Unit))))))))) ((trOpen_fn (a0, (a1, (a2, (a3, (a4, (a5, (a6, (a7, (a8, (a9, (a10, (a11, ())))))))))))))) (fun r0 =>
            .ret (r0.1, (r0.2.1, (r0.2.2.1, (r0.2.2.2.1, (r0.2.2.2.2.1, (r0.2.2.2.2.2.1, (r0.2.2.2.2.2.2.1, (r0.2.2.2.2.2.2.2.1, ()))))))))))) (
           .opt (β := (Bool × (Int × (Int × (Int × (Int × (Int × (Int × (Int × Unit))))))))) ((trOpen_fn (a0, (a1, (a2, (a3, (a4, (a5, (a6, (a7, (a8, (a9, (a10, (a11, ())))))))))))))) (fun r0 =>
           .ret (r0.1, (r0.2.1, (r0.2.2.1, (r0.2.2.2.1, (r0.2.2.2.2.1, (r0.2.2.2.2.2.1, (r0.2.2.2.2.2.2.1, (r0.2.2.2.2.2.2.2.1, ()))))))))))))))) (
      .ite (decide (a9 ≤ (2 : Int))) (
       .ite (decide (a9 ≤ (2 : Int))) (
        .ite (decide (a9 = (1 : Int))) (
         .ret (false, (a5, (a6, (a7, (a8, (a9, (a10, (a11, ()))))))))) (
         .ite (decide (a9 = (2 : Int))) (
          .ite (!a4) (
           .ret (false, (a5, (a6, (a7, (a8, (a9, (a10, (a11, ()))))))))) (
           .opt (β := (Bool × (Int × (Int × (Int × (Int × (Int × (Int × (Int × Unit))))))))) ((trOpen_fn (a0, (a1, (a2, (a3, (a4, (a5, (a6, (a7, (a8, (a9, (a10, (a11, ())))))))))))))) (fun r0 =>
           .ret (r0.1, (r0.2.1, (r0.2.2.1, (r0.2.2.2.1, (r0.2.2.2.2.1, (r0.2.2.2.2.2.1, (r0.2.2.2.2.2.2.1, (r0.2.2.2.2.2.2.2.1, ()))))))))))) (
          .opt (β := (Bool × (Int × (Int × (Int × (Int × (Int × (Int × (Int × Unit))))))))) ((trOpen_fn (a0, (a1, (a2, (a3, (a4, (a5, (a6, (a7, (a8, (a9, (a10, (a11, ())))))))))))))) (fun r0 =>
          .ret (r0.1, (r0.2.1, (r0.2.2.1, (r0.2.2.2.1, (r0.2.2.2.2.1, (r0.2.2.2.2.2.1, (r0.2.2.2.2.2.2.1, (r0.2.2.2.2.2.2.2.1, ())))))))))))) (
        .ite (decide (a9 = (1 : Int))) (
         .ret (false, (a5, (a6, (a7, (a8, (a9, (a10, (a11, ()))))))))) (
         .ite (decide (a9 = (2 : Int))) (
          .ite (!a4) (
           .ret (false, (a5, (a6, (a7, (a8, (a9, (a10, (a11, ()))))))))) (
           .opt (β := (Bool × (Int × (Int × (Int × (Int × (Int × (Int × (Int × Unit))))))))) ((trOpen_fn (a0, (a1, (a2, (a3, (a4, (a5, (a6, (a7, (a8, (a9, (a10, (a11, ())))))))))))))) (fun r0 =>
           .ret (r0.1, (r0.2.1, (r0.2.2.1, (r0.2.2.2.1, (r0.2.2.2.2.1, (r0.2.2.2.2.2.1, (r0.2.2.2.2.2.2.1, (r0.2.2.2.2.2.2.2.1, ()))))))))))) (
          .opt (β := (Bool × (Int × (Int × (Int × (Int × (Int × (Int × (Int × Unit))))))))) ((trOpen_fn (a0, (a1, (a2, (a3, (a4, (a5, (a6, (a7, (a8, (a9, (a10, (a11, ())))))))))))))) (fun r0 =>
          .ret (r0.1, (r0.2.1, (r0.2.2.1, (r0.2.2.2.1, (r0.2.2.2.2.1, (r0.2.2.2.2.2.1, (r0.2.2.2.2.2.2.1, (r0.2.2.2.2.2.2.2.1, ()))))))))))))) (
       .ite (decide (a9 ≤ (2 : Int))) (
        .ite (decide (a9 = (1 : Int))) (
         .ret (false, (a5, (a6, (a7, (a8, (a9, (a10, (a11, ()))))))))) (
         .ite (decide (a9 = (2 : Int))) (
          .ite (!a4) (
           .ret (false, (a5, (a6, (a7, (a8, (a9, (a10, (a11, ()))))))))) (
           .opt (β := (Bool × (Int × (Int × (Int × (Int × (Int × (Int × (Int × Unit))))))))) ((trOpen_fn (a0, (a1, (a2, (a3, (a4, (a5, (a6, (a7, (a8, (a9, (a10, (a11, ())))))))))))))) (fun r0 =>
           .ret (r0.1, (r0.2.1, (r0.2.2.1, (r0.2.2.2.1, (r0.2.2.2.2.1, (r0.2.2.2.2.2.1, (r0.2.2.2.2.2.2.1, (r0.2.2.2.2.2.2.2.1, ()))))))))))) (
          .opt (β := (Bool × (Int × (Int × (Int × (Int × (Int × (Int × (Int × Unit))))))))) ((trOpen_fn (a0, (a1, (a2, (a3, (a4, (a5, (a6, (a7, (a8, (a9, (a10, (a11, ())))))))))))))) (fun r0 =>
          .ret (r0.1, (r0.2.1, (r0.2.2.1, (r0.2.2.2.1, (r0.2.2.2.2.1, (r0.2.2.2.2.2.1, (r0.2.2.2.2.2.2.1, (r0.2.2.2.2.2.2.2.1, ())))))))))))) (
        .ite (decide (a9 = (1 : Int))) (
         .ret (false, (a5, (a6, (a7, (a8, (a9, (a10, (a11, ()))))))))) (
         .ite (decide (a9 = (2 : Int))) (
          .ite (!a4) (
           .ret (false, (a5, (a6, (a7, (a8, (a9, (a10, (a11, ()))))))))) (
           .opt (β := (Bool × (Int × (Int × (Int × (Int × (Int × (Int × (Int × Unit))))))))) ((trOpen_fn (a0, (a1, (a2, (a3, (a4, (a5, (a6, (a7, (a8, (a9, (a10, (a11, ())))))))))))))) (fun r0 =>
           .ret (r0.1, (r0.2.1, (r0.2.2.1, (r0.2.2.2.1, (r0.2.2.2.2.1, (r0.2.2.2.2.2.1, (r0.2.2.2.2.2.2.1, (r0.2.2.2.2.2.2.2.1, ()))))))))))) (
          .opt (β := (Bool × (Int × (Int × (Int × (Int × (Int × (Int × (Int × Unit))))))))) ((trOpen_fn (a0, (a1, (a2, (a3, (a4, (a5, (a6, (a7, (a8, (a9, (a10, (a11, ())))))))))))))) (fun r0 =>
          .ret (r0.1, (r0.2.1, (r0.2.2.1, (r0.2.2.2.1, (r0.2.2.2.2.1, (r0.2.2.2.2.2.1, (r0.2.2.2.2.2.2.1, (r0.2.2.2.2.2.2.2.1, ())))))))))))))))) (
    .ite (!a4) (
     .ite (a0) (
      .ite (a1) (
       .ite (decide (a9 ≤ (2 : Int))) (
        .ite (decide (a9 ≤ (2 : Int))) (
         .ite (!a2) (
          .ret (true, (a5, (a6, (a7, (a8, ((2 : Int), (a10, (a11, ()))))))))) (
          .ite (decide (a9 = (1 : Int))) (
           .ret (false, (a5, (a6, (a7, (a8, (a9, (a10, (a11, ()))))))))) (
           .ite (decide (a9 = (2 : Int))) (
            .ite (!a4) (
             .ret (false, (a5, (a6, (a7, (a8, (a9, (a10, (a11, ()))))))))) (
             .opt (β := (Bool × (Int × (Int × (Int × (Int × (Int × (Int × (Int × Unit))))))))) ((trOpen_fn (a0, (a1, (a2, (a3, (a4, (a5, (a6, (a7, (a8, (a9, (a10, (a11, ())))))))))))))) (fun r0 =>
             .ret (r0.1, (r0.2.1, (r0.2.2.1, (r0.2.2.2.1, (r0.2.2.2.2.1, (r0.2.2.2.2.2.1, (r0.2.2.2.2.2.2.1, (r0.2.2.2.2.2.2.2.1, ()))))))))))) (
            .opt (β := (Bool × (Int × (Int × (Int × (Int × (Int × (Int × (Int × Unit))))))))) ((trOpen_fn (a0, (a1, (a2, (a3, (a4, (a5, (a6, (a7, (a8, (a9, (a10, (a11, ())))))))))))))) (fun r0 =>
            .ret (r0.1, (r0.2.1, (r0.2.2.1, (r0.2.2.2.1, (r0.2.2.2.2.1, (r0.2.2.2.2.2.1, (r0.2.2.2.2.2.2.1, (r0.2.2.2.2.2.2.2.1, ()))))))))))))) (
         .ite (decide (a9 = (1 : Int))) (
          .ret (false, (a5, (a6, (a7, (a8, (a9, (a10, (a11, ()))))))))) (
          .ite (decide (a9 = (2 : Int))) (
           .ite (!a4) (
            .ret (false, (a5, (a6, (a7, (a8, (a9, (a10, (a11, ()))))))))) (
            .opt (β := (Bool × (Int × (Int × (Int × (Int × (Int × (Int × (Int × Unit))))))))) ((trOpen_fn (a0, (a1, (a2, (a3, (a4, (a5, (a6, (a7, (a8, (a9, (a10, (a11, ())))))))))))))) (fun r0 =>
            .ret (r0.1, (r0.2.1, (r0.2.2.1, (r0.2.2.2.1, (r0.2.2.2.2.1, (r0.2.2.2.2.2.1, (r0.2.2.2.2.2.2.1, (r0.2.2.2.2.2.2.2.1, ()))))))))))) (
           .opt (β := (Bool × (Int × (Int × (Int × (Int × (Int × (Int × (Int × Unit))))))))) ((trOpen_fn (a0, (a1, (a2, (a3, (a4, (a5, (a6, (a7, (a8, (a9, (a10, (a11, ())))))))))))))) (fun r0 =>
           .ret (r0.1, (r0.2.1, (r0.2.2.1, (r0.2.2.2.1, (r0.2.2.2.2.1, (r0.2.2.2.2.2.1, (r0.2.2.2.2.2.2.1, (r0.2.2.2.2.2.2.2.1, ()))))))))))))) (
        .ite (decide (a9 ≤ (2 : Int))) (
         .ite (!a2) (
          .ret (true, (a5, (a6, (a7, (a8, ((2 : Int), (a10, (a11, ()))))))))) (
          .ite (decide (a9 = (1 : Int))) (
           .ret (false, (a5, (a6, (a7, (a8, (a9, (a10, (a11, ()))))))))) (
           .ite (decide (a9 = (2 : Int))) (
            .ite (!a4) (
             .ret (false, (a5, (a6, (a7, (a8, (a9, (a10, (a11, ()))))))))) (
             .opt (β := (Bool × (Int × (Int × (Int × (Int × (Int × (Int × (Int × Unit))))))))) ((trOpen_fn (a0, (a1, (a2, (a3, (a4, (a5, (a6, (a7, (a8, (a9, (a10, (a11, ())))))))))))))) (fun r0 =>
             .ret (r0.1, (r0.2.1, (r0.2.2.1, (r0.2.2.2.1, (r0.2.2.2.2.1, (r0.2.2.2.2.2.1, (r0.2.2.2.2.2.2.1, (r0.2.2.2.2.2.2.2.1, ()))))))))))) (
            .opt (β := (Bool × (Int × (Int × (Int × (Int × (Int × (Int × (Int × Unit))))))))) ((trOpen_fn (a0, (a1, (a2, (a3, (a4, (a5, (a6, (a7, (a8, (a9, (a10, (a11, ())))))))))))))) (fun r0 =>
            .ret (r0.1, (r0.2.1, (r0.2.2.1, (r0.2.2.2.1, (r0.2.2.2.2.1, (r0.2.2.2.2.2.1, (r0.2.2.2.2.2.2.1, (r0.2.2.2.2.2.2.2.1, ()))))))))))))) (
         .ite (decide (a9 = (1 : Int))) (
          .ret (false, (a5, (a6, (a7, (a8, (a9, (a10, (a11, ()))))))))) (
          .ite (decide (a9 = (2 : Int))) (
           .ite (!a4) (
            .ret (false, (a5, (a6, (a7, (a8, (a9, (a10, (a11, ()))))))))) (
            .opt (β := (Bool × (Int × (Int × (Int × (Int × (Int × (Int × (Int × Unit))))))))) ((trOpen_fn (a0, (a1, (a2, (a3, (a4, (a5, (a6, (a7, (a8, (a9, (a10, (a11, ())))))))))))))) (fun r0 =>
            .ret (r0.1, (r0.2.1, (r0.2.2.1, (r0.2.2.2.1, (r0.2.2.2.2.1, (r0.2.2.2.2.2.1, (r0.2.2.2.2.2.2.1, (r0.2.2.2.2.2.2.2.1, ()))))))))))) (
           .opt (β := (Bool × (Int × (Int × (Int × (Int × (Int × (Int × (Int × Unit))))))))) ((trOpen_fn (a0, (a1, (a2, (a3, (a4, (a5, (a6, (a7, (a8, (a9, (a10, (a11, ())))))))))))))) (fun r0 =>
           .ret (r0.1, (r0.2.1, (r0.2.2.1, (r0.2.2.2.1, (r0.2.2.2.2.1, (r0.2.2.2.2.2.1, (r0.2.2.2.2.2.2.1, (r0.2.2.2.2.2.2.2.1, ())))))))))))))) (
       .ite (decide (a9 ≤ (2 : Int))) (
        .ite (decide (a9 ≤ (2 : Int))) (
         .ite (decide (a9 = (1 : Int))) (
          .ret (false, (a5, (a6, (a7, (a8, (a9, (a10, (a11, ()))))))))) (
          .ite (decide (a9 = (2 : Int))) (
           .ite (!a4) (
            .ret (false, (a5, (a6, (a7, (a8, (a9, (a10, (a11, ()))))))))) (
            .opt (β := (Bool × (Int × (Int × (Int × (Int × (Int × (Int × (Int × Unit))))))))) ((trOpen_fn (a0, (a1, (a2, (a3, (a4, (a5, (a6, (a7, (a8, (a9, (a10, (a11, ())))))))))))))) (fun r0 =>
            .ret (r0.1, (r0.2.1, (r0.2.2.1, (r0.2.2.2.1, (r0.2.2.2.2.1, (r0.2.2.2.2.2.1, (r0.2.2.2.2.2.2.1, (r0.2.2.2.2.2.2.2.1, ()))))))))))) (
           .opt (β := (Bool × (Int × (Int × (Int × (Int × (Int × (Int × (Int × Unit))))))))) ((trOpen_fn (a0, (a1, (a2, (a3, (a4, (a5, (a6, (a7, (a8, (a9, (a10, (a11, ())))))))))))))) (fun r0 =>
           .ret (r0.1, (r0.2.1, (r0.2.2.1, (r0.2.2.2.1, (r0.2.2.2.2.1, (r0.2.2.2.2.2.1, (r0.2.2.2.2.2.2.1, (r0.2.2.2.2.2.2.2.1, ())))))))))))) (
         .ite (decide (a9 = (1 : Int))) (
          .ret (false, (a5, (a6, (a7, (a8, (a9, (a10, (a11, ()))))))))) (
          .ite (decide (a9 = (2 : Int))) (
           .ite (!a4) (
            .ret (false, (a5, (a6, (a7, (a8, (a9, (a10, (a11, ()))))))))) (
            .opt (β := (Bool × (Int × (Int × (Int × (Int × (Int × (Int × (Int × Unit))))))))) ((trOpen_fn (a0, (a1, (a2, (a3, (a4, (a5, (a6, (a7, (a8, (a9, (a10, (a11, ())))))))))))))) (fun r0 =>
            .ret (r0.1, (r0.2.1, (r0.2.2.1, (r0.2.2.2.1, (r0.2.2.2.2.1, (r0.2.2.2.2.2.1, (r0.2.2.2.2.2.2.1, (r0.2.2.2.2.2.2.2.1, ()))))))))))) (
           .opt (β := (Bool × (Int × (Int × (Int × (Int × (Int × (Int × (Int × Unit))))))))) ((trOpen_fn (a0, (a1, (a2, (a3, (a4, (a5, (a6, (a7, (a8, (a9, (a10, (a11, ())))))))))))))) (fun r0 =>
           .ret (r0.1, (r0.2.1, (r0.2.2.1, (r0.2.2.2.1, (r0.2.2.2.2.1, (r0.2.2.2.2.2.1, (r0.2.2.2.2.2.2.1, (r0.2.2.2.2.2.2.2.1, ()))))))))))))) (
        .ite (decide (a9 ≤ (2 : Int))) (
         .ite (decide (a9 = (1 : Int))) (
          .ret (false, (a5, (a6, (a7, (a8, (a9, (a10, (a11, ()))))))))) (
          .ite (decide (a9 = (2 : Int))) (
           .ite (!a4) (
            .ret (false, (a5, (a6, (a7, (a8, (a9, (a10, (a11, ()))))))))) (
            .opt (β := (Bool × (Int × (Int × (Int × (Int × (Int × (Int × (Int × Unit))))))))) ((trOpen_fn (a0, (a1, (a2, (a3, (a4, (a5, (a6, (a7, (a8, (a9, (a10, (a11, ())))))))))))))) (fun r0 =>
            .ret (r0.1, (r0.2.1, (r0.2.2.1, (r0.2.2.2.1, (r0.2.2.2.2.1, (r0.2.2.2.2.2.1, (r0.2.2.2.2.2.2.1, (r0.2.2.2.2.2.2.2.1, ()))))))))))) (
           .opt (β := (Bool × (Int × (Int × (Int × (Int × (Int × (Int × (Int × Unit))))))))) ((trOpen_fn (a0, (a1, (a2, (a3, (a4, (a5, (a6, (a7, (a8, (a9, (a10, (a11, ())))))))))))))) (fun r0 =>
           .ret (r0.1, (r0.2.1, (r0.2.2.1, (r0.2.2.2.1, (r0.2.2.2.2.1, (r0.2.2.2.2.2.1, (r0.2.2.2.2.2.2.1, (r0.2.2.2.2.2.2.2.1, ())))))))))))) (
         .ite (decide (a9 = (1 : Int))) (
          .ret (false, (a5, (a6, (a7, (a8, (a9, (a10, (a11, ()))))))))) (
          .ite (decide (a9 = (2 : Int))) (
           .ite (!a4) (
            .ret (false, (a5, (a6, (a7, (a8, (a9, (a10, (a11, ()))))))))) (
            .opt (β := (Bool × (Int × (Int × (Int × (Int × (Int × (Int × (Int × Unit))))))))) ((trOpen_fn (a0, (a1, (a2, (a3, (a4, (a5, (a6, (a7, (a8, (a9, (a10, (a11, ())))))))))))))) (fun r0 =>
            .ret (r0.1, (r0.2.1, (r0.2.2.1, (r0.2.2.2.1, (r0.2.2.2.2.1, (r0.2.2.2.2.2.1, (r0.2.2.2.2.2.2.1, (r0.2.2.2.2.2.2.2.1, ()))))))))))) (
           .opt (β := (Bool × (Int × (Int × (Int × (Int × (Int × (Int × (Int × Unit))))))))) ((trOpen_fn (a0, (a1, (a2, (a3, (a4, (a5, (a6, (a7, (a8, (a9, (a10, (a11, ())))))))))))))) (fun r0 =>
           .ret (r0.1, (r0.2.1, (r0.2.2.1, (r0.2.2.2.1, (r0.2.2.2.2.1, (r0.2.2.2.2.2.1, (r0.2.2.2.2.2.2.1, (r0.2.2.2.2.2.2.2.1, ()))))))))))))))) (
      .ite (decide (a9 ≤ (2 : Int))) (
       .ite (decide (a9 ≤ (2 : Int))) (
        .ite (decide (a9 = (1 : Int))) (
         .ret (false, (a5, (a6, (a7, (a8, (a9, (a10, (a11, ()))))))))) (
         .ite (decide (a9 = (2 : Int))) (
          .ite (!a4) (
           .ret (false, (a5, (a6, (a7, (a8, (a9, (a10, (a11, ()))))))))) (
           .opt (β := (Bool × (Int × (Int × (Int × (Int × (Int × (Int × (Int × Unit))))))))) ((trOpen_fn (a0, (a1, (a2, (a3, (a4, (a5, (a6, (a7, (a8, (a9, (a10, (a11, ())))))))))))))) (fun r0 =>
           .ret (r0.1, (r0.2.1, (r0.2.2.1, (r0.2.2.2.1, (r0.2.2.2.2.1, (r0.2.2.2.2.2.1, (r0.2.2.2.2.2.2.1, (r0.2.2.2.2.2.2.2.1, ()))))))))))) (
          .opt (β := (Bool × (Int × (Int × (Int × (Int × (Int × (Int × (Int × Unit))))))))) ((trOpen_fn (a0, (a1, (a2, (a3, (a4, (a5, (a6, (a7, (a8, (a9, (a10, (a11, ())))))))))))))) (fun r0 =>
          .ret (r0.1, (r0.2.1, (r0.2.2.1, (r0.2.2.2.1, (r0.2.2.2.2.1, (r0.2.2.2.2.2.1, (r0.2.2.2.2.2.2.1, (r0.2.2.2.2.2.2.2.1, ())))))))))))) (
        .ite (decide (a9 = (1 : Int))) (
         .ret (false, (a5, (a6, (a7, (a8, (a9, (a10, (a11, ()))))))))) (
         .ite (decide (a9 = (2 : Int))) (
          .ite (!a4) (
           .ret (false, (a5, (a6, (a7, (a8, (a9, (a10, (a11, ()))))))))) (
           .opt (β := (Bool × (Int × (Int × (Int × (Int × (Int × (Int × (Int × Unit))))))))) ((trOpen_fn (a0, (a1, (a2, (a3, (a4, (a5, (a6, (a7, (a8, (a9, (a10, (a11, ())))))))))))))) (fun r0 =>
           .ret (r0.1, (r0.2.1, (r0.2.2.1, (r0.2.2.2.1, (r0.2.2.2.2.1, (r0.2.2.2.2.2.1, (r0.2.2.2.2.2.2.1, (r0.2.2.2.2.2.2.2.1, ()))))))))))) (
          .opt (β := (Bool × (Int × (Int × (Int × (Int × (Int × (Int × (Int × Unit))))))))) ((trOpen_fn (a0, (a1, (a2, (a3, (a4, (a5, (a6, (a7, (a8, (a9, (a10, (a11, ())))))))))))))) (fun r0 =>
          .ret (r0.1, (r0.2.1, (r0.2.2.1, (r0.2.2.2.1, (r0.2.2.2.2.1, (r0.2.2.2.2.2.1, (r0.2.2.2.2.2.2.1, (r0.2.2.2.2.2.2.2.1, ()))))))))))))) (
       .ite (decide (a9 ≤ (2 : Int))) (
        .ite (decide (a9 = (1 : Int))) (
         .ret (false, (a5, (a6, (a7, (a8, (a9, (a10, (a11, ()))))))))) (
         .ite (decide (a9 = (2 : Int))) (
          .ite (!a4) (
           .ret (false, (a5, (a6, (a7, (a8, (a9, (a10, (a11, ()))))))))) (
           .opt (β := (Bool × (Int × (Int × (Int × (Int × (Int × (Int × (Int × Unit))))))))) ((trOpen_fn (a0, (a1, (a2, (a3, (a4, (a5, (a6, (a7, (a8, (a9, (a10, (a11, ())))))))))))))) (fun r0 =>
           .ret (r0.1, (r0.2.1, (r0.2.2.1, (r0.2.2.2.1, (r0.2.2.2.2.1, (r0.2.2.2.2.2.1, (r0.2.2.2.2.2.2.1, (r0.2.2.2.2.2.2.2.1, ()))))))))))) (
          .opt (β := (Bool × (Int × (Int × (Int × (Int × (Int × (Int × (Int × Unit))))))))) ((trOpen_fn (a0, (a1, (a2, (a3, (a4, (a5, (a6, (a7, (a8, (a9, (a10, (a11, ())))))))))))))) (fun r0 =>
          .ret (r0.1, (r0.2.1, (r0.2.2.1, (r0.2.2.2.1, (r0.2.2.2.2.1, (r0.2.2.2.2.2.1, (r0.2.2.2.2.2.2.1, (r0.2.2.2.2.2.2.2.1, ())))))))))))) (
        .ite (decide (a9 = (1 : Int))) (
         .ret (false, (a5, (a6, (a7, (a8, (a9, (a10, (a11, ()))))))))) (
         .ite (decide (a9 = (2 : Int))) (
          .ite (!a4) (
           .ret (false, (a5, (a6, (a7, (a8, (a9, (a10, (a11, ()))))))))) (
           .opt (β := (Bool × (Int × (Int × (Int × (Int × (Int × (Int × (Int × Unit))))))))) ((trOpen_fn (a0, (a1, (a2, (a3, (a4, (a5, (a6, (a7, (a8, (a9, (a10, (a11, ())))))))))))))) (fun r0 =>
           .ret (r0.1, (r0.2.1, (r0.2.2.1, (r0.2.2.2.1, (r0.2.2.2.2.1, (r0.2.2.2.2.2.1, (r0.2.2.2.2.2.2.1, (r0.2.2.2.2.2.2.2.1, ()))))))))))) (
          .opt (β := (Bool × (Int × (Int × (Int × (Int × (Int × (Int × (Int × Unit))))))))) ((trOpen_fn (a0, (a1, (a2, (a3, (a4, (a5, (a6, (a7, (a8, (a9, (a10, (a11, ())))))))))))))) (fun r0 =>
          .ret (r0.1, (r0.2.1, (r0.2.2.1, (r0.2.2.2.1, (r0.2.2.2.2.1, (r0.2.2.2.2.2.1, (r0.2.2.2.2.2.2.1, (r0.2.2.2.2.2.2.2.1, ()))))))))))))))) (
     .ite (decide (a9 ≤ (2 : Int))) (
      .ite (decide (a9 ≤ (2 : Int))) (
       .ite (decide (a9 = (1 : Int))) (
        .ret (false, (a5, (a6, (a7, (a8, (a9, (a10, (a11, ()))))))))) (
        .ite (decide (a9 = (2 : Int))) (
         .ite (!a4) (
          .ret (false, (a5, (a6, (a7, (a8, (a9, (a10, (a11, ()))))))))) (
          .opt (β := (Bool × (Int × (Int × (Int × (Int × (Int × (Int × (Int × Unit))))))))) ((trOpen_fn (a0, (a1, (a2, (a3, (a4, (a5, (a6, (a7, (a8, (a9, (a10, (a11, ())))))))))))))) (fun r0 =>
          .ret (r0.1, (r0.2.1, (r0.2.2.1, (r0.2.2.2.1, (r0.2.2.2.2.1, (r0.2.2.2.2.2.1, (r0.2.2.2.2.2.2.1, (r0.2.2.2.2.2.2.2.1, ()))))))))))) (
         .opt (β := (Bool × (Int × (Int × (Int × (Int × (Int × (Int × (Int × Unit))))))))) ((trOpen_fn (a0, (a1, (a2, (a3, (a4, (a5, (a6, (a7, (a8, (a9, (a10, (a11, ())))))))))))))) (fun r0 =>
         .ret (r0.1, (r0.2.1, (r0.2.2.1, (r0.2.2.2.1, (r0.2.2.2.2.1, (r0.2.2.2.2.2.1, (r0.2.2.2.2.2.2.1, (r0.2.2.2.2.2.2.2.1, ())))))))))))) (
       .ite (decide (a9 = (1 : Int))) (
        .ret (false, (a5, (a6, (a7, (a8, (a9, (a10, (a11, ()))))))))) (
        .ite (decide (a9 = (2 : Int))) (
         .ite (!a4) (
          .ret (false, (a5, (a6, (a7, (a8, (a9, (a10, (a11, ()))))))))) (
          .opt (β := (Bool × (Int × (Int × (Int × (Int × (Int × (Int × (Int × Unit))))))))) ((trOpen_fn (a0, (a1, (a2, (a3, (a4, (a5, (a6, (a7, (a8, (a9, (a10, (a11, ())))))))))))))) (fun r0 =>
          .ret (r0.1, (r0.2.1, (r0.2.2.1, (r0.2.2.2.1, (r0.2.2.2.2.1, (r0.2.2.2.2.2.1, (r0.2.2.2.2.2.2.1, (r0.2.2.2.2.2.2.2.1, ()))))))))))) (
         .opt (β := (Bool × (Int × (Int × (Int × (Int × (Int × (Int × (Int × Unit))))))))) ((trOpen_fn (a0, (a1, (a2, (a3, (a4, (a5, (a6, (a7, (a8, (a9, (a10, (a11, ())))))))))))))) (fun r0 =>
         .ret (r0.1, (r0.2.1, (r0.2.2.1, (r0.2.2.2.1, (r0.2.2.2.2.1, (r0.2.2.2.2.2.1, (r0.2.2.2.2.2.2.1, (r0.2.2.2.2.2.2.2.1, ()))))))))))))) (
      .ite (decide (a9 ≤ (2 : Int))) (
       .ite (decide (a9 = (1 : Int))) (
        .ret (false, (a5, (a6, (a7, (a8, (a9, (a10, (a11, ()))))))))) (
        .ite (decide (a9 = (2 : Int))) (
         .ite (!a4) (
          .ret (false, (a5, (a6, (a7, (a8, (a9, (a10, (a11, ()))))))))) (
          .opt (β := (Bool × (Int × (Int × (Int × (Int × (Int × (Int × (Int × Unit))))))))) ((trOpen_fn (a0, (a1, (a2, (a3, (a4, (a5, (a6, (a7, (a8, (a9, (a10, (a11, ())))))))))))))) (fun r0 =>
          .ret (r0.1, (r0.2.1, (r0.2.2.1, (r0.2.2.2.1, (r0.2.2.2.2.1, (r0.2.2.2.2.2.1, (r0.2.2.2.2.2.2.1, (r0.2.2.2.2.2.2.2.1, ()))))))))))) (
         .opt (β := (Bool × (Int × (Int × (Int × (Int × (Int × (Int × (Int × Unit))))))))) ((trOpen_fn (a0, (a1, (a2, (a3, (a4, (a5, (a6, (a7, (a8, (a9, (a10, (a11, ())))))))))))))) (fun r0 =>
         .ret (r0.1, (r0.2.1, (r0.2.2.1, (r0.2.2.2.1, (r0.2.2.2.2.1, (r0.2.2.2.2.2.1, (r0.2.2.2.2.2.2.1, (r0.2.2.2.2.2.2.2.1, ())))))))))))) (
       .ite (decide (a9 = (1 : Int))) (
        .ret (false, (a5, (a6, (a7, (a8, (a9, (a10, (a11, ()))))))))) (
        .ite (decide (a9 = (2 : Int))) (
         .ite (!a4) (
          .ret (false, (a5, (a6, (a7, (a8, (a9, (a10, (a11, ()))))))))) (
          .opt (β := (Bool × (Int × (Int × (Int × (Int × (Int × (Int × (Int × Unit))))))))) ((trOpen_fn (a0, (a1, (a2, (a3, (a4, (a5, (a6, (a7, (a8, (a9, (a10, (a11, ())))))))))))))) (fun r0 =>
          .ret (r0.1, (r0.2.1, (r0.2.2.1, (r0.2.2.2.1, (r0.2.2.2.2.1, (r0.2.2.2.2.2.1, (r0.2.2.2.2.2.2.1, (r0.2.2.2.2.2.2.2.1, ()))))))))))) (
         .opt (β := (Bool × (Int × (Int × (Int × (Int × (Int × (Int × (Int × Unit))))))))) ((trOpen_fn (a0, (a1, (a2, (a3, (a4, (a5, (a6, (a7, (a8, (a9, (a10, (a11, ())))))))))))))) (fun r0 =>
         .ret (r0.1, (r0.2.1, (r0.2.2.1, (r0.2.2.2.1, (r0.2.2.2.2.1, (r0.2.2.2.2.2.1, (r0.2.2.2.2.2.2.1, (r0.2.2.2.2.2.2.2.1, ())))))))))))))))) (
   .ite (!a4) (
    .ite (a0) (
     .ite (a1) (
      .ite (decide (a9 ≤ (2 : Int))) (
       .ite (decide (a9 ≤ (2 : Int))) (
        .ite (!a2) (
         .ret (true, (a5, (a6, (a7, (a8, ((2 : Int), (a10, (a11, ()))))))))) (
         .ite (decide (a9 = (1 : Int))) (
          .ret (false, (a5, (a6, (a7, (a8, (a9, (a10, (a11, ()))))))))) (
          .ite (decide (a9 = (2 : Int))) (
           .ite (!a4) (
            .ret (false, (a5, (a6, (a7, (a8, (a9, (a10, (a11, ()))))))))) (
            .opt (β := (Bool × (Int × (Int × (Int × (Int × (Int × (Int × (Int × Unit))))))))) ((trOpen_fn (a0, (a1, (a2, (a3, (a4, (a5, (a6, (a7, (a8, (a9, (a10, (a11, ())))))))))))))) (fun r0 =>
            .ret (r0.1, (r0.2.1, (r0.2.2.1, (r0.2.2.2.1, (r0.2.2.2.2.1, (r0.2.2.2.2.2.1, (r0.2.2.2.2.2.2.1, (r0.2.2.2.2.2.2.2.1, ()))))))))))) (
           .opt (β := (Bool × (Int × (Int × (Int × (Int × (Int × (Int × (Int × Unit))))))))) ((trOpen_fn (a0, (a1, (a2, (a3, (a4, (a5, (a6, (a7, (a8, (a9, (a10, (a11, ())))))))))))))) (fun r0 =>
           .ret (r0.1, (r0.2.1, (r0.2.2.1, (r0.2.2.2.1, (r0.2.2.2.2.1, (r0.2.2.2.2.2.1, (r0.2.2.2.2.2.2.1, (r0.2.2.2.2.2.2.2.1, ()))))))))))))) (
        .ite (decide (a9 = (1 : Int))) (
         .ret (false, (a5, (a6, (a7, (a8, (a9, (a10, (a11, ()))))))))) (
         .ite (decide (a9 = (2 : Int))) (
          .ite (!a4) (
           .ret (false, (a5, (a6, (a7, (a8, (a9, (a10, (a11, ()))))))))) (
           .opt (β := (Bool × (Int × (Int × (Int × (Int × (Int × (Int × (Int × Unit))))))))) ((trOpen_fn (a0, (a1, (a2, (a3, (a4, (a5, (a6, (a7, (a8, (a9, (a10, (a11, ())))))))))))))) (fun r0 =>
           .ret (r0.1, (r0.2.1, (r0.2.2.1, (r0.2.2.2.1, (r0.2.2.2.2.1, (r0.2.2.2.2.2.1, (r0.2.2.2.2.2.2.1, (r0.2.2.2.2.2.2.2.1, ()))))))))))) (
          .opt (β := (Bool × (Int × (Int × (Int × (Int × (Int × (Int × (Int × Unit))))))))) ((trOpen_fn (a0, (a1, (a2, (a3, (a4, (a5, (a6, (a7, (a8, (a9, (a10, (a11, ())))))))))))))) (fun r0 =>
          .ret (r0.1, (r0.2.1, (r0.2.2.1, (r0.2.2.2.1, (r0.2.2.2.2.1, (r0.2.2.2.2.2.1, (r0.2.2.2.2.2.2.1, (r0.2.2.2.2.2.2.2.1, ()))))))))))))) (
       .ite (decide (a9 ≤ (2 : Int))) (
        .ite (!a2) (
         .ret (true, (a5, (a6, (a7, (a8, ((2 : Int), (a10, (a11, ()))))))))) (
         .ite (decide (a9 = (1 : Int))) (
          .ret (false, (a5, (a6, (a7, (a8, (a9, (a10, (a11, ()))))))))) (
          .ite (decide (a9 = (2 : Int))) (
           .ite (!a4) (
            .ret (false, (a5, (a6, (a7, (a8, (a9, (a10, (a11, ()))))))))) (
            .opt (β := (Bool × (Int × (Int × (Int × (Int × (Int × (Int × (Int × Unit))))))))) ((trOpen_fn (a0, (a1, (a2, (a3, (a4, (a5, (a6, (a7, (a8, (a9, (a10, (a11, ())))))))))))))) (fun r0 =>
            .ret (r0.1, (r0.2.1, (r0.2.2.1, (r0.2.2.2.1, (r0.2.2.2.2.1, (r0.2.2.2.2.2.1, (r0.2.2.2.2.2.2.1, (r0.2.2.2.2.2.2.2.1, ()))))))))))) (
           .opt (β := (Bool × (Int × (Int × (Int × (Int × (Int × (Int × (Int × Unit))))))))) ((trOpen_fn (a0, (a1, (a2, (a3, (a4, (a5, (a6, (a7, (a8, (a9, (a10, (a11, ())))))))))))))) (fun r0 =>
           .ret (r0.1, (r0.2.1, (r0.2.2.1, (r0.2.2.2.1, (r0.2.2.2.2.1, (r0.2.2.2.2.2.1, (r0.2.2.2.2.2.2.1, (r0.2.2.2.2.2.2.2.1, ()))))))))))))) (
        .ite (decide (a9 = (1 : Int))) (
         .ret (false, (a5, (a6, (a7, (a8, (a9, (a10, (a11, ()))))))))) (
         .ite (decide (a9 = (2 : Int))) (
          .ite (!a4) (
           .ret (false, (a5, (a6, (a7, (a8, (a9, (a10, (a11, ()))))))))) (
           .opt (β := (Bool × (Int × (Int × (Int × (Int × (Int × (Int × (Int × Unit))))))))) ((trOpen_fn (a0, (a1, (a2, (a3, (a4, (a5, (a6, (a7, (a8, (a9, (a10, (a11, ())))))))))))))) (fun r0 =>
           .ret (r0.1, (r0.2.1, (r0.2.2.1, (r0.2.2.2.1, (r0.2.2.2.2.1, (r0.2.2.2.2.2.1, (r0.2.2.2.2.2.2.1, (r0.2.2.2.2.2.2.2.1, ()))))))))))) (
          .opt (β := (Bool × (Int × (Int × (Int × (Int × (Int × (Int × (Int × Unit))))))))) ((trOpen_fn (a0, (a1, (a2, (a3, (a4, (a5, (a6, (a7, (a8, (a9, (a10, (a11, ())))))))))))))) (fun r0 =>
          .ret (r0.1, (r0.2.1, (r0.2.2.1, (r0.2.2.2.1, (r0.2.2.2.2.1, (r0.2.2.2.2.2.1, (r0.2.2.2.2.2.2.1, (r0.2.2.2.2.2.2.2.1, ())))))))))))))) (
      .ite (decide (a9 ≤ (2 : Int))) (
       .ite (decide (a9 ≤ (2 : Int))) (
        .ite (decide (a9 = (1 : Int))) (
         .ret (false, (a5, (a6, (a7, (a8, (a9, (a10, (a11, ()))))))))) (
         .ite (decide (a9 = (2 : Int))) (
          .ite (!a4) (
           .ret (false, (a5, (a6, (a7, (a8, (a9, (a10, (a11, ()))))))))) (
           .opt (β := (Bool × (Int × (Int × (Int × (Int × (Int × (Int × (Int × Unit))))))))) ((trOpen_fn (a0, (a1, (a2, (a3, (a4, (a5, (a6, (a7, (a8, (a9, (a10, (a11, ())))))))))))))) (fun r0 =>
           .ret (r0.1, (r0.2.1, (r0.2.2.1, (r0.2.2.2.1, (r0.2.2.2.2.1, (r0.2.2.2.2.2.1, (r0.2.2.2.2.2.2.1, (r0.2.2.2.2.2.2.2.1, ()))))))))))) (
          .opt (β := (Bool × (Int × (Int × (Int × (Int × (Int × (Int × (Int × Unit))))))))) ((trOpen_fn (a0, (a1, (a2, (a3, (a4, (a5, (a6, (a7, (a8, (a9, (a10, (a11, ())))))))))))))) (fun r0 =>
          .ret (r0.1, (r0.2.1, (r0.2.2.1, (r0.2.2.2.1, (r0.2.2.2.2.1, (r0.2.2.2.2.2.1, (r0.2.2.2.2.2.2.1, (r0.2.2.2.2.2.2.2.1, ())))))))))))) (
        .ite (decide (a9 = (1 : Int))) (
         .ret (false, (a5, (a6, (a7, (a8, (a9, (a10, (a11, ()))))))))) (
         .ite (decide (a9 = (2 : Int))) (
          .ite (!a4) (
           .ret (false, (a5, (a6, (a7, (a8, (a9, (a10, (a11, ()))))))))) (
           .opt (β := (Bool × (Int × (Int × (Int × (Int × (Int × (Int × (Int × Unit))))))))) ((trOpen_fn (a0, (a1, (a2, (a3, (a4, (a5, (a6, (a7, (a8, (a9, (a10, (a11, ())))))))))))))) (fun r0 =>
           .ret (r0.1, (r0.2.1, (r0.2.2.1, (r0.2.2.2.1, (r0.2.2.2.2.1, (r0.2.2.2.2.2.1, (r0.2.2.2.2.2.2.1, (r0.2.2.2.2.2.2.2.1, ()))))))))))) (
          .opt (β := (Bool × (Int × (Int × (Int × (Int × (Int × (Int × (Int × Unit))))))))) ((trOpen_fn (a0, (a1, (a2, (a3, (a4, (a5, (a6, (a7, (a8, (a9, (a10, (a11, ())))))))))))))) (fun r0 =>
          .ret (r0.1, (r0.2.1, (r0.2.2.1, (r0.2.2.2.1, (r0.2.2.2.2.1, (r0.2.2.2.2.2.1, (r0.2.2.2.2.2.2.1, (r0.2.2.2.2.2.2.2.1, ()))))))))))))) (
       .ite (decide (a9 ≤ (2 : Int))) (
        .ite (decide (a9 = (1 : Int))) (
         .ret (false, (a5, (a6, (a7, (a8, (a9, (a10, (a11, ()))))))))) (
         .ite (decide (a9 = (2 : Int))) (
          .ite (!a4) (
           .ret (false, (a5, (a6, (a7, (a8, (a9, (a10, (a11, ()))))))))) (
           .opt (β := (Bool × (Int × (Int × (Int × (Int × (Int × (Int × (Int × Unit))))))))) ((trOpen_fn (a0, (a1, (a2, (a3, (a4, (a5, (a6, (a7, (a8, (a9, (a10, (a11, ())))))))))))))) (fun r0 =>
           .ret (r0.1, (r0.2.1, (r0.2.2.1, (r0.2.2.2.1, (r0.2.2.2.2.1, (r0.2.2.2.2.2.1, (r0.2.2.2.2.2.2.1, (r0.2.2.2.2.2.2.2.1, ()))))))))))) (
          .opt (β := (Bool × (Int × (Int × (Int × (Int × (Int × (Int × (Int × Unit))))))))) ((trOpen_fn (a0, (a1, (a2, (a3, (a4, (a5, (a6, (a7, (a8, (a9, (a10, (a11, ())))))))))))))) (fun r0 =>
          .ret (r0.1, (r0.2.1, (r0.2.2.1, (r0.2.2.2.1, (r0.2.2.2.2.1, (r0.2.2.2.2.2.1, (r0.2.2.2.2.2.2.1, (r0.2.2.2.2.2.2.2.1, ())))))))))))) (
        .ite (decide (a9 = (1 : Int))) (
         .ret (false, (a5, (a6, (a7, (a8, (a9, (a10, (a11, ()))))))))) (
         .ite (decide (a9 = (2 : Int))) (
          .ite (!a4) (
           .ret (false, (a5, (a6, (a7, (a8, (a9, (a10, (a11, ()))))))))) (
           .opt (β := (Bool × (Int × (Int × (Int × (Int × (Int × (Int × (Int × Unit))))))))) ((trOpen_fn (a0, (a1, (a2, (a3, (a4, (a5, (a6, (a7, (a8, (a9, (a10, (a11, ())))))))))))))) (fun r0 =>
           .ret (r0.1, (r0.2.1, (r0.2.2.1, (r0.2.2.2.1, (r0.2.2.2.2.1, (r0.2.2.2.2.2.1, (r0.2.2.2.2.2.2.1, (r0.2.2.2.2.2.2.2.1, ()))))))))))) (
          .opt (β := (Bool × (Int × (Int × (Int × (Int × (Int × (Int × (Int × Unit))))))))) ((trOpen_fn (a0, (a1, (a2, (a3, (a4, (a5, (a6, (a7, (a8, (a9, (a10, (a11, ())))))))))))))) (fun r0 =>
          .ret (r0.1, (r0.2.1, (r0.2.2.1, (r0.2.2.2.1, (r0.2.2.2.2.1, (r0.2.2.2.2.2.1, (r0.2.2.2.2.2.2.1, (r0.2.2.2.2.2.2.2.1, ()))))))))))))))) (
     .ite (decide (a9 ≤ (2 : Int))) (
      .ite (decide (a9 ≤ (2 : Int))) (
       .ite (decide (a9 = (1 : Int))) (
        .ret (false, (a5, (a6, (a7, (a8, (a9, (a10, (a11, ()))))))))) (
        .ite (decide (a9 = (2 : Int))) (
         .ite (!a4) (
          .ret (false, (a5, (a6, (a7, (a8, (a9, (a10, (a11, ()))))))))) (
          .opt (β := (Bool × (Int × (Int × (Int × (Int × (Int × (Int × (Int × Unit))))))))) ((trOpen_fn (a0, (a1, (a2, (a3, (a4, (a5, (a6, (a7, (a8, (a9, (a10, (a11, ())))))))))))))) (fun r0 =>
          .ret (r0.1, (r0.2.1, (r0.2.2.1, (r0.2.2.2.1, (r0.2.2.2.2.1, (r0.2.2.2.2.2.1, (r0.2.2.2.2.2.2.1, (r0.2.2.2.2.2.2.2.1, ()))))))))))) (
         .opt (β := (Bool × (Int × (Int × (Int × (Int × (Int × (Int × (Int × Unit))))))))) ((trOpen_fn (a0, (a1, (a2, (a3, (a4, (a5, (a6, (a7, (a8, (a9, (a10, (a11, ())))))))))))))) (fun r0 =>
         .ret (r0.1, (r0.2.1, (r0.2.2.1, (r0.2.2.2.1, (r0.2.2.2.2.1, (r0.2.2.2.2.2.1, (r0.2.2.2.2.2.2.1, (r0.2.2.2.2.2.2.2.1, ())))))))))))) (
       .ite (decide (a9 = (1 : Int))) (
        .ret (false, (a5, (a6, (a7, (a8, (a9, (a10, (a11, ()))))))))) (
        .ite (decide (a9 = (2 : Int))) (
         .ite (!a4) (
          .ret (false, (a5, (a6, (a7, (a8, (a9, (a10, (a11, ()))))))))) (
          .opt (β := (Bool × (Int × (Int × (Int × (Int × (Int × (Int × (Int × Unit))))))))) ((trOpen_fn (a0, (a1, (a2, (a3, (a4, (a5, (a6, (a7, (a8, (a9, (a10, (a11, ())))))))))))))) (fun r0 =>
          .ret (r0.1, (r0.2.1, (r0.2.2.1, (r0.2.2.2.1, (r0.2.2.2.2.1, (r0.2.2.2.2.2.1, (r0.2.2.2.2.2.2.1, (r0.2.2.2.2.2.2.2.1, ()))))))))))) (
         .opt (β := (Bool × (Int × (Int × (Int × (Int × (Int × (Int × (Int × Unit))))))))) ((trOpen_fn (a0, (a1, (a2, (a3, (a4, (a5, (a6, (a7, (a8, (a9, (a10, (a11, ())))))))))))))) (fun r0 =>
         .ret (r0.1, (r0.2.1, (r0.2.2.1, (r0.2.2.2.1, (r0.2.2.2.2.1, (r0.2.2.2.2.2.1, (r0.2.2.2.2.2.2.1, (r0.2.2.2.2.2.2.2.1, ()))))))))))))) (
      .ite (decide (a9 ≤ (2 : Int))) (
       .ite (decide (a9 = (1 : Int))) (
        .ret (false, (a5, (a6, (a7, (a8, (a9, (a10, (a11, ()))))))))) (
        .ite (decide (a9 = (2 : Int))) (
         .ite (!a4) (
          .ret (false, (a5, (a6, (a7, (a8, (a9, (a10, (a11, ()))))))))) (
          .opt (β := (Bool × (Int × (Int × (Int × (Int × (Int × (Int × (Int × Unit))))))))) ((trOpen_fn (a0, (a1, (a2, (a3, (a4, (a5, (a6, (a7, (a8, (a9, (a10, (a11, ())))))))))))))) (fun r0 =>
          .ret (r0.1, (r0.2.1, (r0.2.2.1, (r0.2.2.2.1, (r0.2.2.2.2.1, (r0.2.2.2.2.2.1, (r0.2.2.2.2.2.2.1, (r0.2.2.2.2.2.2.2.1, ()))))))))))) (
         .opt (β := (Bool × (Int × (Int × (Int × (Int × (Int × (Int × (Int × Unit))))))))) ((trOpen_fn (a0, (a1, (a2, (a3, (a4, (a5, (a6, (a7, (a8, (a9, (a10, (a11, ())))))))))))))) (fun r0 =>
         .ret (r0.1, (r0.2.1, (r0.2.2.1, (r0.2.2.2.1, (r0.2.2.2.2.1, (r0.2.2.2.2.2.1, (r0.2.2.2.2.2.2.1, (r0.2.2.2.2.2.2.2.1, ())))))))))))) (
       .ite (decide (a9 = (1 : Int))) (
        .ret (false, (a5, (a6, (a7, (a8, (a9, (a10, (a11, ()))))))))) (
        .ite (decide (a9 = (2 : Int))) (
         .ite (!a4) (
          .ret (false, (a5, (a6, (a7, (a8, (a9, (a10, (a11, ()))))))))) (
          .opt (β := (Bool × (Int × (Int × (Int × (Int × (Int × (Int × (Int × Unit))))))))) ((trOpen_fn (a0, (a1, (a2, (a3, (a4, (a5, (a6, (a7, (a8, (a9, (a10, (a11, ())))))))))))))) (fun r0 =>
          .ret (r0.1, (r0.2.1, (r0.2.2.1, (r0.2.2.2.1, (r0.2.2.2.2.1, (r0.2.2.2.2.2.1, (r0.2.2.2.2.2.2.1, (r0.2.2.2.2.2.2.2.1, ()))))))))))) (
         .opt (β := (Bool × (Int × (Int × (Int × (Int × (Int × (Int × (Int × Unit))))))))) ((trOpen_fn (a0, (a1, (a2, (a3, (a4, (a5, (a6, (a7, (a8, (a9, (a10, (a11, ())))))))))))))) (fun r0 =>
         .ret (r0.1, (r0.2.1, (r0.2.2.1, (r0.2.2.2.1, (r0.2.2.2.2.1, (r0.2.2.2.2.2.1, (r0.2.2.2.2.2.2.1, (r0.2.2.2.2.2.2.2.1, ()))))))))))))))) (
    .ite (decide (a9 ≤ (2 : Int))) (
     .ite (decide (a9 ≤ (2 : Int))) (
      .ite (decide (a9 = (1 : Int))) (
       .ret (false, (a5, (a6, (a7, (a8, (a9, (a10, (a11, ()))))))))) (
       .ite (decide (a9 = (2 : Int))) (
        .ite (!a4) (
         .ret (false, (a5, (a6, (a7, (a8, (a9, (a10, (a11, ()))))))))) (
         .opt (β := (Bool × (Int × (Int × (Int × (Int × (Int × (Int × (Int × Unit))))))))) ((trOpen_fn (a0, (a1, (a2, (a3, (a4, (a5, (a6, (a7, (a8, (a9, (a10, (a11, ())))))))))))))) (fun r0 =>
         .ret (r0.1, (r0.2.1, (r0.2.2.1, (r0.2.2.2.1, (r0.2.2.2.2.1, (r0.2.2.2.2.2.1, (r0.2.2.2.2.2.2.1, (r0.2.2.2.2.2.2.2.1, ()))))))))))) (
        .opt (β := (Bool × (Int × (Int × (Int × (Int × (Int × (Int × (Int × Unit))))))))) ((trOpen_fn (a0, (a1, (a2, (a3, (a4, (a5, (a6, (a7, (a8, (a9, (a10, (a11, ())))))))))))))) (fun r0 =>
        .ret (r0.1, (r0.2.1, (r0.2.2.1, (r0.2.2.2.1, (r0.2.2.2.2.1, (r0.2.2.2.2.2.1, (r0.2.2.2.2.2.2.1, (r0.2.2.2.2.2.2.2.1, ())))))))))))) (
      .ite (decide (a9 = (1 : Int))) (
       .ret (false, (a5, (a6, (a7, (a8, (a9, (a10, (a11, ()))))))))) (
       .ite (decide (a9 = (2 : Int))) (
        .ite (!a4) (
         .ret (false, (a5, (a6, (a7, (a8, (a9, (a10, (a11, ()))))))))) (
         .opt (β := (Bool × (Int × (Int × (Int × (Int × (Int × (Int × (Int × Unit))))))))) ((trOpen_fn (a0, (a1, (a2, (a3, (a4, (a5, (a6, (a7, (a8, (a9, (a10, (a11, ())))))))))))))) (fun r0 =>
         .ret (r0.1, (r0.2.1, (r0.2.2.1, (r0.2.2.2.1, (r0.2.2.2.2.1, (r0.2.2.2.2.2.1, (r0.2.2.2.2.2.2.1, (r0.2.2.2.2.2.2.2.1, ()))))))))))) (
        .opt (β := (Bool × (Int × (Int × (Int × (Int × (Int × (Int × (Int × Unit))))))))) ((trOpen_fn (a0, (a1, (a2, (a3, (a4, (a5, (a6, (a7, (a8, (a9, (a10, (a11, ())))))))))))))) (fun r0 =>
        .ret (r0.1, (r0.2.1, (r0.2.2.1, (r0.2.2.2.1, (r0.2.2.2.2.1, (r0.2.2.2.2.2.1, (r0.2.2.2.2.2.2.1, (r0.2.2.2.2.2.2.2.1, ()))))))))))))) (
     .ite (decide (a9 ≤ (2 : Int))) (
      .ite (decide (a9 = (1 : Int))) (
       .ret (false, (a5, (a6, (a7, (a8, (a9, (a10, (a11, ()))))))))) (
       .ite (decide (a9 = (2 : Int))) (
        .ite (!a4) (
         .ret (false, (a5, (a6, (a7, (a8, (a9, (a10, (a11, ()))))))))) (
         .opt (β := (Bool × (Int × (Int × (Int × (Int × (Int × (Int × (Int × Unit))))))))) ((trOpen_fn (a0, (a1, (a2, (a3, (a4, (a5, (a6, (a7, (a8, (a9, (a10, (a11, ())))))))))))))) (fun r0 =>
         .ret (r0.1, (r0.2.1, (r0.2.2.1, (r0.2.2.2.1, (r0.2.2.2.2.1, (r0.2.2.2.2.2.1, (r0.2.2.2.2.2.2.1, (r0.2.2.2.2.2.2.2.1, ()))))))))))) (
        .opt (β := (Bool × (Int × (Int × (Int × (Int × (Int × (Int × (Int × Unit))))))))) ((trOpen_fn (a0, (a1, (a2, (a3, (a4, (a5, (a6, (a7, (a8, (a9, (a10, (a11, ())))))))))))))) (fun r0 =>
        .ret (r0.1, (r0.2.1, (r0.2.2.1, (r0.2.2.2.1, (r0.2.2.2.2.1, (r0.2.2.2.2.2.1, (r0.2.2.2.2.2.2.1, (r0.2.2.2.2.2.2.2.1, ())))))))))))) (
      .ite (decide (a9 = (1 : Int))) (
       .ret (false, (a5, (a6, (a7, (a8, (a9, (a10, (a11, ()))))))))) (
       .ite (decide (a9 = (2 : Int))) (
        .ite (!a4) (
         .ret (false, (a5, (a6, (a7, (a8, (a9, (a10, (a11, ()))))))))) (
         .opt (β := (Bool × (Int × (Int × (Int × (Int × (Int × (Int × (Int × Unit))))))))) ((trOpen_fn (a0, (a1, (a2, (a3, (a4, (a5, (a6, (a7, (a8, (a9, (a10, (a11, ())))))))))))))) (fun r0 =>
         .ret (r0.1, (r0.2.1, (r0.2.2.1, (r0.2.2.2.1, (r0.2.2.2.2.1, (r0.2.2.2.2.2.1, (r0.2.2.2.2.2.2.1, (r0.2.2.2.2.2.2.2.1, ()))))))))))) (
        .opt (β := (Bool × (Int × (Int × (Int × (Int × (Int × (Int × (Int × Unit))))))))) ((trOpen_fn (a0, (a1, (a2, (a3, (a4, (a5, (a6, (a7, (a8, (a9, (a10, (a11, ())))))))))))))) (fun r0 =>
        .ret (r0.1, (r0.2.1, (r0.2.2.1, (r0.2.2.2.1, (r0.2.2.2.2.1, (r0.2.2.2.2.2.1, (r0.2.2.2.2.2.2.1, (r0.2.2.2.2.2.2.2.1, ())))))))))))))))
theorem trPasses_eq (x : (Bool × (Bool × (Bool × (Bool × (Bool × (Int × (Int × (Int × (Int × (Int × (Int × (Int × Unit))))))))))))) : gsTr Try.prog cod [clTalk, GS.pf delTalk, FS.pf eqTalk, FS.pf trTurned, FS.pf trPort, FS.pf trRoad, FS.pf trForm, FS.pf trPlace, FS.pf trCheck, FS.pf trOld, GS.pf dfTalk, GS.pf trOpen] [] 30 39 trPasses_ap trPasses_rp x = trPasses_tree x := by kernel_rfl
def trPasses_fn (x : (Bool × (Bool × (Bool × (Bool × (Bool × (Int × (Int × (Int × (Int × (Int × (Int × (Int × Unit))))))))))))) : Option (Bool × (Int × (Int × (Int × (Int × (Int × (Int × (Int × Unit)))))))) := (trPasses_tree x).eval
def trPasses : GS Try.prog := ⟨39, [0, 0], trPasses_ap, trPasses_rp, trPasses_fn, fun x r h ys m g he hg => gs_sound (cod := cod) (Γ := [clTalk, GS.pf delTalk, FS.pf eqTalk, FS.pf trTurned, FS.pf trPort, FS.pf trRoad, FS.pf trForm, FS.pf trPlace, FS.pf trCheck, FS.pf trOld, GS.pf dfTalk, GS.pf trOpen]) (Λs := []) (n := 30) ((congrArg Tr.eval (trPasses_eq x)).trans h) he hg⟩
def trHear_ap : List VP1 := [.one (.st 16 false), .agg [.i .u32, .i .u32, .i .i64, .i .i64], .one (.i .i64), .one (.i .i64)]
def trHear_rp : SP := ⟨1, [(0, .tup [.one (.st 16 true), .one (.b), .one (.i .i64)])], []⟩
def trHear_tree : ((List TTalk) × (Int × (Int × (Int × (Int × (Int × (Int × Unit))))))) → Tr ((List TTalk) × (Bool × (Int × Unit))) :=
  fun (a0, a1, a2, a3, a4, a5, a6, _) =>
  .grd (decide (((0 : Nat) + List.length a0) * (48 : Nat) ≤ (140737488355328 : Nat) ∧ (0 : Nat) + List.length a0 ≤ (9223372036854775807 : Nat))) (
  .opt (β := (Int × Unit)) ((trCheck_fn (a0, ()))) (fun r0 =>
  .ite (!decide (r0.1 = (0 : Int))) (
   .ret (a0, (false, (r0.1, ())))) (
   .ite (decide ((0 : Int) < (↑(List.length a0) : Int))) (
    .grd (decide ((0 : Int) ≤ IntKind.wrap IntKind.i64 ((↑(List.length a0) : Int) - (1 : Int)) ∧ IntKind.wrap IntKind.i64 ((↑(List.length a0) : Int) - (1 : Int)) < (↑(List.length a0) : Int))) (
    .opt (β := TTalk) (a0[Int.toNat (IntKind.wrap IntKind.i64 ((↑(List.length a0) : Int) - (1 : Int)))]?) (fun r1 =>
    .opt (β := (Bool × Unit)) ((trRoad_fn (a1, (a2, (a3, (a4, ())))))) (fun r2 =>
    .ite (!r2.1) (
     .ret (a0, (false, ((1 : Int), ())))) (
     .ite (decide (a5 < (0 : Int))) (
      .ret (a0, (false, ((1 : Int), ())))) (
      .ite (decide ((255 : Int) < a5)) (
       .ret (a0, (false, ((1 : Int), ())))) (
       .ite (decide (a6 < r1.at')) (
        .ret (a0, (false, ((1 : Int), ())))) (
        .ite (decide ((1099511627776 : Int) < a6)) (
         .ret (a0, (false, ((1 : Int), ())))) (
         .grd (decide (((0 : Nat) + List.length a0) * (48 : Nat) ≤ (140737488355328 : Nat) ∧ (0 : Nat) + List.length a0 ≤ (9223372036854775807 : Nat))) (
         .grd (decide (List.length a0 = List.length a0)) (
         .opt (β := (Int × ((List TTalk) × Unit))) ((dfTalk_fn (a6, (a0, ())))) (fun r3 =>
         .opt (β := (Int × Unit)) ((trPlace_fn (r3.2.1, (a1, (a2, (a3, (a4, ()))))))) (fun r4 =>
         .ite (decide (r4.1 < (0 : Int))) (
          .ite (!((!decide (bits BinOp.and IntKind.i64 a5 (2 : Int) = (0 : Int))) == true && ((!decide (bits BinOp.and IntKind.i64 a5 (16 : Int) = (0 : Int))) == false && ((!decide (bits BinOp.and IntKind.i64 a5 (1 : Int) = (0 : Int))) == false && ((!decide (bits BinOp.and IntKind.i64 a5 (4 : Int) = (0 : Int))) == false && true))))) (
           .ret (r3.2.1, (false, ((0 : Int), ())))) (
           .ite (decide ((↑(List.length r3.2.fst) : Int) = (64 : Int))) (
            .ret (a0, (false, ((6 : Int), ())))) (
            .grd (decide ((List.length r3.2.1 + List.length [TTalk.mk a1 a2 a3 a4 (1 : Int) (0 : Int) r3.1]) * (48 : Nat) ≤ (140737488355328 : Nat) ∧ List.length r3.2.1 + List.length [TTalk.mk a1 a2 a3 a4 (1 : Int) (0 : Int) r3.1] ≤ (9223372036854775807 : Nat))) (
            .ret (r3.2.1 ++ [TTalk.mk a1 a2 a3 a4 (1 : Int) (0 : Int) r3.1], (true, ((0 : Int), ()))))))) (
          .grd (decide ((0 : Int) ≤ r4.1 ∧ r4.1 < (↑(List.length r3.2.fst) : Int))) (
          .opt (β := TTalk) (r3.2.1[Int.toNat r4.1]?) (fun r5 =>
          .ite (!!decide (bits BinOp.and IntKind.i64 a5 (4 : Int) = (0 : Int))) (
           .opt (β := (Bool × (Int × (Int × (Int × (Int × (Int × (Int × (Int × Unit))))))))) ((trPasses_fn (!decide (bits BinOp.and IntKind.i64 a5 (2 : Int) = (0 : Int)), (!decide (bits BinOp.and IntKind.i64 a5 (16 : Int) = (0 : Int)), (!decide (bits BinOp.and IntKind.i64 a5 (1 : Int) = (0 : Int)), (!decide (bits BinOp.and IntKind.i64 a5 (4 : Int) = (0 : Int)), (decide (r5.from' = a1) && (decide (r5.to = a2) && (decide (r5.fromPort = a3) && (decide (r5.toPort = a4) && true))), (r5.from', (r5.to, (r5.fromPort, (r5.toPort, (r5.state, (r5.over, (r5.at', ())))))))))))))) (fun r6 =>
           .ite (!r6.1) (
            .ret (r3.2.1, (false, ((0 : Int), ())))) (
            .grd (decide (List.length r3.2.fst = List.length r3.2.1)) (
            .opt (β := ((List TTalk) × Unit)) ((delTalk_fn (r4.1, (IntKind.wrap IntKind.i64 (r4.1 + (1 : Int)), (r3.2.1, ()))))) (fun r7 =>
            .ite (!decide (bits BinOp.and IntKind.i64 a5 (4 : Int) = (0 : Int))) (
             .ret (r7.1, (true, ((0 : Int), ())))) (
             .grd (decide ((List.length r7.1 + List.length [TTalk.mk r6.2.1 r6.2.2.1 r6.2.2.2.1 r6.2.2.2.2.1 r6.2.2.2.2.2.1 r6.2.2.2.2.2.2.1 r3.1]) * (48 : Nat) ≤ (140737488355328 : Nat) ∧ List.length r7.1 + List.length [TTalk.mk r6.2.1 r6.2.2.1 r6.2.2.2.1 r6.2.2.2.2.1 r6.2.2.2.2.2.1 r6.2.2.2.2.2.2.1 r3.1] ≤ (9223372036854775807 : Nat))) (
             .ret (r7.1 ++ [TTalk.mk r6.2.1 r6.2.2.1 r6.2.2.2.1 r6.2.2.2.2.1 r6.2.2.2.2.2.1 r6.2.2.2.2.2.2.1 r3.1], (true, ((0 : Int), ())))))))))) (
           .grd (decide (List.length r3.2.fst = List.length r3.2.1)) (
           .opt (β := ((List TTalk) × Unit)) ((delTalk_fn (r4.1, (IntKind.wrap IntKind.i64 (r4.1 + (1 : Int)), (r3.2.1, ()))))) (fun r6 =>
           .ite (!decide (bits BinOp.and IntKind.i64 a5 (4 : Int) = (0 : Int))) (
            .ret (r6.1, (true, ((0 : Int), ())))) (
            .grd (decide ((List.length r6.1 + List.length [TTalk.mk r5.from' r5.to r5.fromPort r5.toPort r5.state r5.over r3.1]) * (48 : Nat) ≤ (140737488355328 : Nat) ∧ List.length r6.1 + List.length [TTalk.mk r5.from' r5.to r5.fromPort r5.toPort r5.state r5.over r3.1] ≤ (9223372036854775807 : Nat))) (
            .ret (r6.1 ++ [TTalk.mk r5.from' r5.to r5.fromPort r5.toPort r5.state r5.over r3.1], (true, ((0 : Int), ())))))))))))))))))))))))) (
    .opt (β := (Bool × Unit)) ((trRoad_fn (a1, (a2, (a3, (a4, ())))))) (fun r1 =>
    .ite (!r1.1) (
     .ret (a0, (false, ((1 : Int), ())))) (
     .ite (decide (a5 < (0 : Int))) (
      .ret (a0, (false, ((1 : Int), ())))) (
      .ite (decide ((255 : Int) < a5)) (
       .ret (a0, (false, ((1 : Int), ())))) (
       .ite (decide (a6 < (0 : Int))) (
        .ret (a0, (false, ((1 : Int), ())))) (
        .ite (decide ((1099511627776 : Int) < a6)) (
         .ret (a0, (false, ((1 : Int), ())))) (
         .grd (decide (((0 : Nat) + List.length a0) * (48 : Nat) ≤ (140737488355328 : Nat) ∧ (0 : Nat) + List.length a0 ≤ (9223372036854775807 : Nat))) (
         .grd (decide (List.length a0 = List.length a0)) (
         .opt (β := (Int × ((List TTalk) × Unit))) ((dfTalk_fn (a6, (a0, ())))) (fun r2 =>
         .opt (β := (Int × Unit)) ((trPlace_fn (r2.2.1, (a1, (a2, (a3, (a4, ()))))))) (fun r3 =>
         .ite (decide (r3.1 < (0 : Int))) (
          .ite (!((!decide (bits BinOp.and IntKind.i64 a5 (2 : Int) = (0 : Int))) == true && ((!decide (bits BinOp.and IntKind.i64 a5 (16 : Int) = (0 : Int))) == false && ((!decide (bits BinOp.and IntKind.i64 a5 (1 : Int) = (0 : Int))) == false && ((!decide (bits BinOp.and IntKind.i64 a5 (4 : Int) = (0 : Int))) == false && true))))) (
           .ret (r2.2.1, (false, ((0 : Int), ())))) (
           .ite (decide ((↑(List.length r2.2.fst) : Int) = (64 : Int))) (
            .ret (a0, (false, ((6 : Int), ())))) (
            .grd (decide ((List.length r2.2.1 + List.length [TTalk.mk a1 a2 a3 a4 (1 : Int) (0 : Int) r2.1]) * (48 : Nat) ≤ (140737488355328 : Nat) ∧ List.length r2.2.1 + List.length [TTalk.mk a1 a2 a3 a4 (1 : Int) (0 : Int) r2.1] ≤ (9223372036854775807 : Nat))) (
            .ret (r2.2.1 ++ [TTalk.mk a1 a2 a3 a4 (1 : Int) (0 : Int) r2.1], (true, ((0 : Int), ()))))))) (
          .grd (decide ((0 : Int) ≤ r3.1 ∧ r3.1 < (↑(List.length r2.2.fst) : Int))) (
          .opt (β := TTalk) (r2.2.1[Int.toNat r3.1]?) (fun r4 =>
          .ite (!!decide (bits BinOp.and IntKind.i64 a5 (4 : Int) = (0 : Int))) (
           .opt (β := (Bool × (Int × (Int × (Int × (Int × (Int × (Int × (Int × Unit))))))))) ((trPasses_fn (!decide (bits BinOp.and IntKind.i64 a5 (2 : Int) = (0 : Int)), (!decide (bits BinOp.and IntKind.i64 a5 (16 : Int) = (0 : Int)), (!decide (bits BinOp.and IntKind.i64 a5 (1 : Int) = (0 : Int)), (!decide (bits BinOp.and IntKind.i64 a5 (4 : Int) = (0 : Int)), (decide (r4.from' = a1) && (decide (r4.to = a2) && (decide (r4.fromPort = a3) && (decide (r4.toPort = a4) && true))), (r4.from', (r4.to, (r4.fromPort, (r4.toPort, (r4.state, (r4.over, (r4.at', ())))))))))))))) (fun r5 =>
           .ite (!r5.1) (
            .ret (r2.2.1, (false, ((0 : Int), ())))) (
            .grd (decide (List.length r2.2.fst = List.length r2.2.1)) (
            .opt (β := ((List TTalk) × Unit)) ((delTalk_fn (r3.1, (IntKind.wrap IntKind.i64 (r3.1 + (1 : Int)), (r2.2.1, ()))))) (fun r6 =>
            .ite (!decide (bits BinOp.and IntKind.i64 a5 (4 : Int) = (0 : Int))) (
             .ret (r6.1, (true, ((0 : Int), ())))) (
             .grd (decide ((List.length r6.1 + List.length [TTalk.mk r5.2.1 r5.2.2.1 r5.2.2.2.1 r5.2.2.2.2.1 r5.2.2.2.2.2.1 r5.2.2.2.2.2.2.1 r2.1]) * (48 : Nat) ≤ (140737488355328 : Nat) ∧ List.length r6.1 + List.length [TTalk.mk r5.2.1 r5.2.2.1 r5.2.2.2.1 r5.2.2.2.2.1 r5.2.2.2.2.2.1 r5.2.2.2.2.2.2.1 r2.1] ≤ (9223372036854775807 : Nat))) (
             .ret (r6.1 ++ [TTalk.mk r5.2.1 r5.2.2.1 r5.2.2.2.1 r5.2.2.2.2.1 r5.2.2.2.2.2.1 r5.2.2.2.2.2.2.1 r2.1], (true, ((0 : Int), ())))))))))) (
           .grd (decide (List.length r2.2.fst = List.length r2.2.1)) (
           .opt (β := ((List TTalk) × Unit)) ((delTalk_fn (r3.1, (IntKind.wrap IntKind.i64 (r3.1 + (1 : Int)), (r2.2.1, ()))))) (fun r5 =>
           .ite (!decide (bits BinOp.and IntKind.i64 a5 (4 : Int) = (0 : Int))) (
            .ret (r5.1, (true, ((0 : Int), ())))) (
            .grd (decide ((List.length r5.1 + List.length [TTalk.mk r4.from' r4.to r4.fromPort r4.toPort r4.state r4.over r2.1]) * (48 : Nat) ≤ (140737488355328 : Nat) ∧ List.length r5.1 + List.length [TTalk.mk r4.from' r4.to r4.fromPort r4.toPort r4.state r4.over r2.1] ≤ (9223372036854775807 : Nat))) (
            .ret (r5.1 ++ [TTalk.mk r4.from' r4.to r4.fromPort r4.toPort r4.state r4.over r2.1], (true, ((0 : Int), ())))))))))))))))))))))))))
theorem trHear_eq (x : ((List TTalk) × (Int × (Int × (Int × (Int × (Int × (Int × Unit)))))))) : fnTr Try.prog cod [clTalk, GS.pf delTalk, FS.pf eqTalk, FS.pf trTurned, FS.pf trPort, FS.pf trRoad, FS.pf trForm, FS.pf trPlace, FS.pf trCheck, FS.pf trOld, GS.pf dfTalk, GS.pf trOpen, GS.pf trPasses] [] 30 14 trHear_ap trHear_rp x = trHear_tree x := by kernel_rfl
def trHear_fn (x : ((List TTalk) × (Int × (Int × (Int × (Int × (Int × (Int × Unit)))))))) : Option ((List TTalk) × (Bool × (Int × Unit))) := (trHear_tree x).eval
def trHear : FS Try.prog := ⟨14, trHear_ap, trHear_rp, trHear_fn, fun x r h => fnTr_sound (cod := cod) (Γ := [clTalk, GS.pf delTalk, FS.pf eqTalk, FS.pf trTurned, FS.pf trPort, FS.pf trRoad, FS.pf trForm, FS.pf trPlace, FS.pf trCheck, FS.pf trOld, GS.pf dfTalk, GS.pf trOpen, GS.pf trPasses]) (Λs := []) (n := 30) ((congrArg Tr.eval (trHear_eq x)).trans h)⟩
def trFind_ap : List VP1 := [.one (.st 16 false), .agg [.i .u32, .i .u32, .i .i64, .i .i64], .one (.i .i64)]
def trFind_rp : SP := ⟨1, [(0, .tup [.agg [.i .u32, .i .u32, .i .i64, .i .i64, .i .i64, .i .i64, .i .i64], .one (.b), .one (.i .i64)])], []⟩
def trFind_tree : ((List TTalk) × (Int × (Int × (Int × (Int × (Int × Unit)))))) → Tr (Int × (Int × (Int × (Int × (Int × (Int × (Int × (Bool × (Int × Unit))))))))) :=
  fun (a0, a1, a2, a3, a4, a5, _) =>
  .opt (β := (Int × Unit)) ((trCheck_fn (a0, ()))) (fun r0 =>
  .ite (!decide (r0.1 = (0 : Int))) (
   .ret ((0 : Int), ((0 : Int), ((0 : Int), ((0 : Int), ((0 : Int), ((0 : Int), ((0 : Int), (false, (r0.1, ())))))))))) (
   .ite (decide (a5 < (0 : Int))) (
    .ret ((0 : Int), ((0 : Int), ((0 : Int), ((0 : Int), ((0 : Int), ((0 : Int), ((0 : Int), (false, ((1 : Int), ())))))))))) (
    .ite (decide ((1099511627776 : Int) < a5)) (
     .ret ((0 : Int), ((0 : Int), ((0 : Int), ((0 : Int), ((0 : Int), ((0 : Int), ((0 : Int), (false, ((1 : Int), ())))))))))) (
     .opt (β := (Int × Unit)) ((trPlace_fn (a0, (a1, (a2, (a3, (a4, ()))))))) (fun r1 =>
     .ite (decide (r1.1 < (0 : Int))) (
      .ret ((0 : Int), ((0 : Int), ((0 : Int), ((0 : Int), ((0 : Int), ((0 : Int), ((0 : Int), (false, ((0 : Int), ())))))))))) (
      .grd (decide ((0 : Int) ≤ r1.1)) (
      .opt (β := TTalk) (a0[Int.toNat r1.1]?) (fun r2 =>
      .opt (β := (Bool × Unit)) ((trOld_fn (r2.from', (r2.to, (r2.fromPort, (r2.toPort, (r2.state, (r2.over, (r2.at', (a5, ())))))))))) (fun r3 =>
      .ite (r3.1) (
       .ret ((0 : Int), ((0 : Int), ((0 : Int), ((0 : Int), ((0 : Int), ((0 : Int), ((0 : Int), (false, ((0 : Int), ())))))))))) (
       .grd (decide ((0 : Int) ≤ r1.1)) (
       .opt (β := TTalk) (a0[Int.toNat r1.1]?) (fun r4 =>
       .ret (r4.from', (r4.to, (r4.fromPort, (r4.toPort, (r4.state, (r4.over, (r4.at', (true, ((0 : Int), ())))))))))))))))))))))
theorem trFind_eq (x : ((List TTalk) × (Int × (Int × (Int × (Int × (Int × Unit))))))) : fnTr Try.prog cod [clTalk, GS.pf delTalk, FS.pf eqTalk, FS.pf trTurned, FS.pf trPort, FS.pf trRoad, FS.pf trForm, FS.pf trPlace, FS.pf trCheck, FS.pf trOld, GS.pf dfTalk, GS.pf trOpen, GS.pf trPasses, FS.pf trHear] [] 30 15 trFind_ap trFind_rp x = trFind_tree x := by kernel_rfl
def trFind_fn (x : ((List TTalk) × (Int × (Int × (Int × (Int × (Int × Unit))))))) : Option (Int × (Int × (Int × (Int × (Int × (Int × (Int × (Bool × (Int × Unit))))))))) := (trFind_tree x).eval
def trFind : FS Try.prog := ⟨15, trFind_ap, trFind_rp, trFind_fn, fun x r h => fnTr_sound (cod := cod) (Γ := [clTalk, GS.pf delTalk, FS.pf eqTalk, FS.pf trTurned, FS.pf trPort, FS.pf trRoad, FS.pf trForm, FS.pf trPlace, FS.pf trCheck, FS.pf trOld, GS.pf dfTalk, GS.pf trOpen, GS.pf trPasses, FS.pf trHear]) (Λs := []) (n := 30) ((congrArg Tr.eval (trFind_eq x)).trans h)⟩
end Go.Proofs.Ytcdcdmfecglemaa.X
