/- Functions of the program, as trees (printed by a program of mine: tool/XTool, xg.py), each with the proof that the machine comes to what its tree says. Conditions: none. -/
import Derived.Test.YtlbmdkclbmcpdaaCod
import Derived.KernelRfl
namespace Go.Proofs.Ytlbmdkclbmcpdaa.X
open Go Go.RowKit Go.Proofs.Ytlbmdkclbmcpdaa.Abs
set_option maxRecDepth 100000
set_option linter.unusedVariables false
theorem clDrop_h1 (xs : List (τ 11)) : (bodyTr Go.Proofs.Try.prog cod 22 [.one (.nn (.st 11 xs))]).eval = (cloneRes 46 11 16 xs).eval := by kernel_rfl
theorem clDrop_h2 : (bodyTr Go.Proofs.Try.prog cod 22 [.one .nil]).eval = some (.one .nil, []) := by kernel_rfl
def clDrop : PF Go.Proofs.Try.prog := clonePF Go.Proofs.Try.prog cod 22 46 11 16 clDrop_h1 clDrop_h2
theorem clBool_h1 (xs : List (τ 1)) : (bodyTr Go.Proofs.Try.prog cod 24 [.one (.nn (.st 1 xs))]).eval = (cloneRes 4 1 1 xs).eval := by kernel_rfl
theorem clBool_h2 : (bodyTr Go.Proofs.Try.prog cod 24 [.one .nil]).eval = some (.one .nil, []) := by kernel_rfl
def clBool : PF Go.Proofs.Try.prog := clonePF Go.Proofs.Try.prog cod 24 4 1 1 clBool_h1 clBool_h2
def eqBool_L23_4 : LS := ⟨4, [], ⟨26, [(13, .v (.one (.i .i64))), (1, .v (.one (.st 1 false))), (0, .v (.one (.st 1 false))), (12, .v (.one (.i .i64)))], []⟩, [⟨none, [], ⟨26, [(4, .v (.one (.b)))], []⟩⟩, ⟨some 0, [], ⟨26, [], []⟩⟩], []⟩
def eqBool_step23_4 : (Int × ((List Bool) × ((List Bool) × (Int × Unit)))) → Tr ((Int × ((List Bool) × ((List Bool) × (Int × Unit)))) ⊕ ((Bool × Unit) ⊕ Unit)) :=
  fun (a0, a1, a2, a3, _) =>
  .ite (decide (a0 < a3)) (
   .grd (decide ((0 : Int) ≤ a0)) (
   .opt (β := Bool) (a2[Int.toNat a0]?) (fun r0 =>
   .grd (decide ((0 : Int) ≤ a0)) (
   .opt (β := Bool) (a1[Int.toNat a0]?) (fun r1 =>
   .ite (!r0 == r1) (
    .ret (Sum.inr (Sum.inl (false, ())))) (
    .ret (Sum.inl (IntKind.wrap IntKind.i64 (a0 + (1 : Int)), (a1, (a2, (a3, ()))))))))))) (
   .ret (Sum.inr (Sum.inr ())))
def eqBool_loop23_4 (x : (Int × ((List Bool) × ((List Bool) × (Int × Unit))))) : Option ((Bool × Unit) ⊕ Unit) := loopO 230004 (fun x => (eqBool_step23_4 x).eval) 18446744073709551616 x
def eqBool_ap : List VP1 := [.one (.st 1 false), .one (.st 1 false)]
def eqBool_rp : SP := ⟨1, [(0, .v (.one (.b)))], []⟩
def eqBool_tree : ((List Bool) × ((List Bool) × Unit)) → Tr (Bool × Unit) :=
  fun (a0, a1, _) =>
  .ite (!decide ((↑(List.length a0) : Int) = (↑(List.length a1) : Int))) (
   .ret (false, ())) (
   .opt (β := ((Bool × Unit) ⊕ Unit)) ((eqBool_loop23_4 ((0 : Int), (a1, (a0, ((↑(List.length a0) : Int), ())))))) (fun r0 =>
   .sum (β := (Bool × Unit)) (γ := Unit) (r0) (fun r1 =>
    .ret (r1.1, ())) (fun r1 =>
    .ret (true, ()))))
theorem eqBool_eq (x : ((List Bool) × ((List Bool) × Unit))) : fnTr Try.prog cod [clDrop, clBool] [(23, eqBool_L23_4)] 30 23 eqBool_ap eqBool_rp x = eqBool_tree x := by kernel_rfl
def eqBool_fn (x : ((List Bool) × ((List Bool) × Unit))) : Option (Bool × Unit) := (eqBool_tree x).eval
def eqBool : FS Try.prog := ⟨23, eqBool_ap, eqBool_rp, eqBool_fn, fun x r h => fnTr_sound (cod := cod) (Γ := [clDrop, clBool]) (Λs := [(23, eqBool_L23_4)]) (n := 30) ((congrArg Tr.eval (eqBool_eq x)).trans h)⟩
def buCheck_ap : List VP1 := [.agg [.i .i64, .i .i64, .i .i64, .i .i64]]
def buCheck_rp : SP := ⟨1, [(0, .v (.one (.i .i64)))], []⟩
def buCheck_tree : (Int × (Int × (Int × (Int × Unit)))) → Tr (Int × Unit) :=
  fun (a0, a1, a2, a3, _) =>
  .ite (decide (a0 < (0 : Int))) (
   .ret ((1 : Int), ())) (
   .ite (decide ((1000000 : Int) < a0)) (
    .ret ((1 : Int), ())) (
    .ite (decide (a1 < (1 : Int))) (
     .ret ((1 : Int), ())) (
     .ite (decide ((1000000000 : Int) < a1)) (
      .ret ((1 : Int), ())) (
      .ite (decide (a2 < (0 : Int))) (
       .ret ((4 : Int), ())) (
       .ite (decide (a1 < a2)) (
        .ret ((4 : Int), ())) (
        .ite (decide (a3 < (0 : Int))) (
         .ret ((4 : Int), ())) (
         .ite (decide ((1099511627776 : Int) < a3)) (
          .ret ((4 : Int), ())) (
          .ret ((0 : Int), ())))))))))
theorem buCheck_eq (x : (Int × (Int × (Int × (Int × Unit))))) : fnTr Try.prog cod [clDrop, clBool, FS.pf eqBool] [] 30 33 buCheck_ap buCheck_rp x = buCheck_tree x := by kernel_rfl
def buCheck_fn (x : (Int × (Int × (Int × (Int × Unit))))) : Option (Int × Unit) := (buCheck_tree x).eval
def buCheck : FS Try.prog := ⟨33, buCheck_ap, buCheck_rp, buCheck_fn, fun x r h => fnTr_sound (cod := cod) (Γ := [clDrop, clBool, FS.pf eqBool]) (Λs := []) (n := 30) ((congrArg Tr.eval (buCheck_eq x)).trans h)⟩
def buLev_ap : List VP1 := [.agg [.i .i64, .i .i64, .i .i64, .i .i64], .one (.i .i64)]
def buLev_rp : SP := ⟨1, [(0, .v (.one (.i .i64)))], []⟩
def buLev_tree : (Int × (Int × (Int × (Int × (Int × Unit))))) → Tr (Int × Unit) :=
  fun (a0, a1, a2, a3, a4, _) =>
  .ret (if true = true then if IntKind.wrap IntKind.i64 (a2 + IntKind.wrap IntKind.i64 (a0 * if true = true then if (1000000000 : Int) < IntKind.wrap IntKind.i64 (a4 - a3) then (1000000000 : Int) else IntKind.wrap IntKind.i64 (a4 - a3) else if (1000000000 : Int) > IntKind.wrap IntKind.i64 (a4 - a3) then (1000000000 : Int) else IntKind.wrap IntKind.i64 (a4 - a3))) < a1 then IntKind.wrap IntKind.i64 (a2 + IntKind.wrap IntKind.i64 (a0 * if true = true then if (1000000000 : Int) < IntKind.wrap IntKind.i64 (a4 - a3) then (1000000000 : Int) else IntKind.wrap IntKind.i64 (a4 - a3) else if (1000000000 : Int) > IntKind.wrap IntKind.i64 (a4 - a3) then (1000000000 : Int) else IntKind.wrap IntKind.i64 (a4 - a3))) else a1 else if IntKind.wrap IntKind.i64 (a2 + IntKind.wrap IntKind.i64 (a0 * if true = true then if (1000000000 : Int) < IntKind.wrap IntKind.i64 (a4 - a3) then (1000000000 : Int) else IntKind.wrap IntKind.i64 (a4 - a3) else if (1000000000 : Int) > IntKind.wrap IntKind.i64 (a4 - a3) then (1000000000 : Int) else IntKind.wrap IntKind.i64 (a4 - a3))) > a1 then IntKind.wrap IntKind.i64 (a2 + IntKind.wrap IntKind.i64 (a0 * if true = true then if (1000000000 : Int) < IntKind.wrap IntKind.i64 (a4 - a3) then (1000000000 : Int) else IntKind.wrap IntKind.i64 (a4 - a3) else if (1000000000 : Int) > IntKind.wrap IntKind.i64 (a4 - a3) then (1000000000 : Int) else IntKind.wrap IntKind.i64 (a4 - a3))) else a1, ())
theorem buLev_eq (x : (Int × (Int × (Int × (Int × (Int × Unit)))))) : fnTr Try.prog cod [clDrop, clBool, FS.pf eqBool, FS.pf buCheck] [] 30 34 buLev_ap buLev_rp x = buLev_tree x := by kernel_rfl
def buLev_fn (x : (Int × (Int × (Int × (Int × (Int × Unit)))))) : Option (Int × Unit) := (buLev_tree x).eval
def buLev : FS Try.prog := ⟨34, buLev_ap, buLev_rp, buLev_fn, fun x r h => fnTr_sound (cod := cod) (Γ := [clDrop, clBool, FS.pf eqBool, FS.pf buCheck]) (Λs := []) (n := 30) ((congrArg Tr.eval (buLev_eq x)).trans h)⟩
def buTake_ap : List VP1 := [.agg [.i .i64, .i .i64, .i .i64, .i .i64], .one (.i .i64), .one (.i .i64)]
def buTake_rp : SP := ⟨1, [(0, .tup [.agg [.i .i64, .i .i64, .i .i64, .i .i64], .one (.b), .one (.i .i64)])], []⟩
def buTake_tree : (Int × (Int × (Int × (Int × (Int × (Int × Unit)))))) → Tr (Int × (Int × (Int × (Int × (Bool × (Int × Unit)))))) :=
  fun (a0, a1, a2, a3, a4, a5, _) =>
  .opt (β := (Int × Unit)) ((buCheck_fn (a0, (a1, (a2, (a3, ())))))) (fun r0 =>
  .ite (!decide (r0.1 = (0 : Int))) (
   .ret ((0 : Int), ((0 : Int), ((0 : Int), ((0 : Int), (false, (r0.1, ()))))))) (
   .ite (decide (a4 < a3)) (
    .ret ((0 : Int), ((0 : Int), ((0 : Int), ((0 : Int), (false, ((1 : Int), ()))))))) (
    .ite (decide ((1099511627776 : Int) < a4)) (
     .ret ((0 : Int), ((0 : Int), ((0 : Int), ((0 : Int), (false, ((1 : Int), ()))))))) (
     .ite (decide (a5 < (0 : Int))) (
      .ret ((0 : Int), ((0 : Int), ((0 : Int), ((0 : Int), (false, ((1 : Int), ()))))))) (
      .ite (decide ((1000000000 : Int) < a5)) (
       .ret ((0 : Int), ((0 : Int), ((0 : Int), ((0 : Int), (false, ((1 : Int), ()))))))) (
       .opt (β := (Int × Unit)) ((buLev_fn (a0, (a1, (a2, (a3, (a4, ()))))))) (fun r1 =>
       .ite (decide (r1.1 < a5)) (
        .ret (a0, (a1, (r1.1, (a4, (false, ((0 : Int), ()))))))) (
        .ret (a0, (a1, (IntKind.wrap IntKind.i64 (r1.1 - a5), (a4, (true, ((0 : Int), ()))))))))))))))
theorem buTake_eq (x : (Int × (Int × (Int × (Int × (Int × (Int × Unit))))))) : fnTr Try.prog cod [clDrop, clBool, FS.pf eqBool, FS.pf buCheck, FS.pf buLev] [] 30 25 buTake_ap buTake_rp x = buTake_tree x := by kernel_rfl
def buTake_fn (x : (Int × (Int × (Int × (Int × (Int × (Int × Unit))))))) : Option (Int × (Int × (Int × (Int × (Bool × (Int × Unit)))))) := (buTake_tree x).eval
def buTake : FS Try.prog := ⟨25, buTake_ap, buTake_rp, buTake_fn, fun x r h => fnTr_sound (cod := cod) (Γ := [clDrop, clBool, FS.pf eqBool, FS.pf buCheck, FS.pf buLev]) (Λs := []) (n := 30) ((congrArg Tr.eval (buTake_eq x)).trans h)⟩
def buRun_L15_8 : LS := ⟨8, [(4, 4), (2, 2), (8, 8)], ⟨52, [(4, .v (.one (.ptr 4 0))), (26, .v (.one (.i .i64))), (2, .v (.one (.ptr 2 0))), (8, .v (.one (.own 8))), (24, .v (.one (.st 11 false))), (25, .v (.one (.i .i64)))], [(4, .cells [.i .i64, .i .i64, .i .i64, .i .i64]), (2, .cells [.i .i64, .i .i64, .i .i64, .i .i64]), (8, .row 4 1 true true)]⟩, [⟨none, [(4, 4)], ⟨52, [(4, .v (.one (.ptr 4 0))), (5, .v (.one (.nil))), (6, .v (.one (.i .i64)))], [(4, .cells [.i .i64, .i .i64, .i .i64, .i .i64])]⟩⟩, ⟨some 0, [(4, 4), (8, 8), (2, 2)], ⟨52, [(4, .v (.one (.ptr 4 0))), (8, .v (.one (.own 8))), (2, .v (.one (.ptr 2 0)))], [(4, .cells [.i .i64, .i .i64, .i .i64, .i .i64]), (8, .row 4 1 true true), (2, .cells [.i .i64, .i .i64, .i .i64, .i .i64])]⟩⟩], [(8, 4, 1)]⟩
def buRun_step15_8 : (Int × ((List TDrop) × (Int × (Int × (Int × (Int × (Int × (Int × (Int × (Int × (Int × ((List Bool) × Unit)))))))))))) → Tr ((Int × ((List TDrop) × (Int × (Int × (Int × (Int × (Int × (Int × (Int × (Int × (Int × ((List Bool) × Unit)))))))))))) ⊕ ((Int × (Int × (Int × (Int × (Int × Unit))))) ⊕ (Int × (Int × (Int × (Int × ((List Bool) × (Int × (Int × (Int × (Int × Unit))))))))))) :=
  fun (a0, a1, a2, a3, a4, a5, a6, a7, a8, a9, a10, a11, _) =>
  .ite (decide (a0 < a2)) (
   .grd (decide ((0 : Int) ≤ a0)) (
   .opt (β := TDrop) (a1[Int.toNat a0]?) (fun r0 =>
   .opt (β := (Int × (Int × (Int × (Int × (Bool × (Int × Unit))))))) ((buTake_fn (a7, (a8, (a9, (a10, (r0.at', (r0.n, ())))))))) (fun r1 =>
   .ite (!decide (r1.2.2.2.2.2.1 = (0 : Int))) (
    .ret (Sum.inr (Sum.inl (r1.2.2.2.2.2.1, ((0 : Int), ((0 : Int), ((0 : Int), ((0 : Int), ())))))))) (
    .grd (decide ((List.length a11 + List.length [r1.2.2.2.2.1]) * (1 : Nat) ≤ (140737488355328 : Nat) ∧ List.length a11 + List.length [r1.2.2.2.2.1] ≤ (9223372036854775807 : Nat))) (
    .grd (decide (List.length (a11 ++ [r1.2.2.2.2.1]) = List.length (a11 ++ [r1.2.2.2.2.1]))) (
    .ret (Sum.inl (IntKind.wrap IntKind.i64 (a0 + (1 : Int)), (a1, (a2, (a3, (a4, (a5, (a6, (r1.1, (r1.2.1, (r1.2.2.1, (r1.2.2.2.1, (a11 ++ [r1.2.2.2.2.1], ())))))))))))))))))))) (
   .grd (decide (List.length a11 = List.length a11)) (
   .ret (Sum.inr (Sum.inr (a3, (a4, (a5, (a6, (a11, (a7, (a8, (a9, (a10, ())))))))))))))
def buRun_loop15_8 (x : (Int × ((List TDrop) × (Int × (Int × (Int × (Int × (Int × (Int × (Int × (Int × (Int × ((List Bool) × Unit))))))))))))) : Option ((Int × (Int × (Int × (Int × (Int × Unit))))) ⊕ (Int × (Int × (Int × (Int × ((List Bool) × (Int × (Int × (Int × (Int × Unit)))))))))) := loopO 150008 (fun x => (buRun_step15_8 x).eval) 18446744073709551616 x
def buRun_ap : List VP1 := [.agg [.i .i64, .i .i64, .i .i64, .i .i64], .one (.st 11 false)]
def buRun_rp : SP := ⟨1, [(0, .tup [.agg [.i .i64, .i .i64, .i .i64, .i .i64], .one (.st 1 true), .one (.i .i64)])], []⟩
def buRun_tree : (Int × (Int × (Int × (Int × ((List TDrop) × Unit))))) → Tr (Int × (Int × (Int × (Int × ((List Bool) × (Int × Unit)))))) :=
  fun (a0, a1, a2, a3, a4, _) =>
  .opt (β := (Int × Unit)) ((buCheck_fn (a0, (a1, (a2, (a3, ())))))) (fun r0 =>
  .ite (!decide (r0.1 = (0 : Int))) (
   .ret ((0 : Int), ((0 : Int), ((0 : Int), ((0 : Int), ([], (r0.1, ()))))))) (
   .ite (decide ((500 : Int) < (↑(List.length a4) : Int))) (
    .ret ((0 : Int), ((0 : Int), ((0 : Int), ((0 : Int), ([], ((2 : Int), ()))))))) (
    .grd (true) (
    .opt (β := ((Int × (Int × (Int × (Int × (Int × Unit))))) ⊕ (Int × (Int × (Int × (Int × ((List Bool) × (Int × (Int × (Int × (Int × Unit))))))))))) ((buRun_loop15_8 ((0 : Int), (a4, ((↑(List.length a4) : Int), ((0 : Int), ((0 : Int), ((0 : Int), ((0 : Int), (a0, (a1, (a2, (a3, ([], ())))))))))))))) (fun r1 =>
    .sum (β := (Int × (Int × (Int × (Int × (Int × Unit)))))) (γ := (Int × (Int × (Int × (Int × ((List Bool) × (Int × (Int × (Int × (Int × Unit)))))))))) (r1) (fun r2 =>
     .ret (r2.2.1, (r2.2.2.1, (r2.2.2.2.1, (r2.2.2.2.2.1, ([], (r2.1, ()))))))) (fun r2 =>
     .ret (r2.2.2.2.2.2.1, (r2.2.2.2.2.2.2.1, (r2.2.2.2.2.2.2.2.1, (r2.2.2.2.2.2.2.2.2.1, (r2.2.2.2.2.1, ((0 : Int), ()))))))))))))
theorem buRun_eq (x : (Int × (Int × (Int × (Int × ((List TDrop) × Unit)))))) : fnTr Try.prog cod [clDrop, clBool, FS.pf eqBool, FS.pf buCheck, FS.pf buLev, FS.pf buTake] [(15, buRun_L15_8)] 30 15 buRun_ap buRun_rp x = buRun_tree x := by kernel_rfl
def buRun_fn (x : (Int × (Int × (Int × (Int × ((List TDrop) × Unit)))))) : Option (Int × (Int × (Int × (Int × ((List Bool) × (Int × Unit)))))) := (buRun_tree x).eval
def buRun : FS Try.prog := ⟨15, buRun_ap, buRun_rp, buRun_fn, fun x r h => fnTr_sound (cod := cod) (Γ := [clDrop, clBool, FS.pf eqBool, FS.pf buCheck, FS.pf buLev, FS.pf buTake]) (Λs := [(15, buRun_L15_8)]) (n := 30) ((congrArg Tr.eval (buRun_eq x)).trans h)⟩
def buLevel_ap : List VP1 := [.agg [.i .i64, .i .i64, .i .i64, .i .i64], .one (.i .i64)]
def buLevel_rp : SP := ⟨1, [(0, .tup [.one (.i .i64), .one (.i .i64)])], []⟩
def buLevel_tree : (Int × (Int × (Int × (Int × (Int × Unit))))) → Tr (Int × (Int × Unit)) :=
  fun (a0, a1, a2, a3, a4, _) =>
  .opt (β := (Int × Unit)) ((buCheck_fn (a0, (a1, (a2, (a3, ())))))) (fun r0 =>
  .ite (!decide (r0.1 = (0 : Int))) (
   .ret ((0 : Int), (r0.1, ()))) (
   .ite (decide (a4 < a3)) (
    .ret ((0 : Int), ((1 : Int), ()))) (
    .ite (decide ((1099511627776 : Int) < a4)) (
     .ret ((0 : Int), ((1 : Int), ()))) (
     .opt (β := (Int × Unit)) ((buLev_fn (a0, (a1, (a2, (a3, (a4, ()))))))) (fun r1 =>
     .ret (r1.1, ((0 : Int), ())))))))
theorem buLevel_eq (x : (Int × (Int × (Int × (Int × (Int × Unit)))))) : fnTr Try.prog cod [clDrop, clBool, FS.pf eqBool, FS.pf buCheck, FS.pf buLev, FS.pf buTake, FS.pf buRun] [] 30 18 buLevel_ap buLevel_rp x = buLevel_tree x := by kernel_rfl
def buLevel_fn (x : (Int × (Int × (Int × (Int × (Int × Unit)))))) : Option (Int × (Int × Unit)) := (buLevel_tree x).eval
def buLevel : FS Try.prog := ⟨18, buLevel_ap, buLevel_rp, buLevel_fn, fun x r h => fnTr_sound (cod := cod) (Γ := [clDrop, clBool, FS.pf eqBool, FS.pf buCheck, FS.pf buLev, FS.pf buTake, FS.pf buRun]) (Λs := []) (n := 30) ((congrArg Tr.eval (buLevel_eq x)).trans h)⟩
def buLives_ap : List VP1 := []
def buLives_rp : SP := ⟨1, [(0, .v (.one (.b)))], []⟩
def buLives_tree : Unit → Tr (Bool × Unit) :=
  fun (_) =>
  .opt (β := (Int × (Int × (Int × (Int × ((List Bool) × (Int × Unit))))))) ((buRun_fn ((2 : Int), ((10 : Int), ((5 : Int), ((0 : Int), ([TDrop.mk (1 : Int) (8 : Int), TDrop.mk (2 : Int) (9 : Int)], ()))))))) (fun r0 =>
  .ite (decide (r0.2.2.2.2.2.1 = (0 : Int))) (
   .opt (β := (Bool × Unit)) ((eqBool_fn (r0.2.2.2.2.1, ([false, true], ())))) (fun r1 =>
   .ite (r1.1) (
    .ret (decide (r0.1 = (2 : Int)) && (decide (r0.2.1 = (10 : Int)) && (decide (r0.2.2.1 = (0 : Int)) && (decide (r0.2.2.2.1 = (2 : Int)) && true))), ())) (
    .ret (false, ())))) (
   .ret (false, ())))
theorem buLives_eq (x : Unit) : fnTr Try.prog cod [clDrop, clBool, FS.pf eqBool, FS.pf buCheck, FS.pf buLev, FS.pf buTake, FS.pf buRun, FS.pf buLevel] [] 30 16 buLives_ap buLives_rp x = buLives_tree x := by kernel_rfl
def buLives_fn (x : Unit) : Option (Bool × Unit) := (buLives_tree x).eval
def buLives : FS Try.prog := ⟨16, buLives_ap, buLives_rp, buLives_fn, fun x r h => fnTr_sound (cod := cod) (Γ := [clDrop, clBool, FS.pf eqBool, FS.pf buCheck, FS.pf buLev, FS.pf buTake, FS.pf buRun, FS.pf buLevel]) (Λs := []) (n := 30) ((congrArg Tr.eval (buLives_eq x)).trans h)⟩
def bucketCuts_ap : List VP1 := [.agg [.i .i64, .i .i64, .i .i64, .i .i64], .one (.st 11 false), .one (.st 11 false), .one (.i .i64)]
def bucketCuts_rp : SP := ⟨1, [(0, .v (.one (.b)))], []⟩
def bucketCuts_tree : (Int × (Int × (Int × (Int × ((List TDrop) × ((List TDrop) × (Int × Unit))))))) → Tr (Bool × Unit) :=
  fun (a0, a1, a2, a3, a4, a5, a6, _) =>
  .opt (β := (Int × (Int × (Int × (Int × ((List Bool) × (Int × Unit))))))) ((buRun_fn (a0, (a1, (a2, (a3, (a4, ()))))))) (fun r0 =>
  .opt (β := (Int × (Int × (Int × (Int × ((List Bool) × (Int × Unit))))))) ((buRun_fn (r0.1, (r0.2.1, (r0.2.2.1, (r0.2.2.2.1, (a5, ()))))))) (fun r1 =>
  .grd (decide (((0 : Nat) + List.length a4) * (16 : Nat) ≤ (140737488355328 : Nat) ∧ (0 : Nat) + List.length a4 ≤ (9223372036854775807 : Nat))) (
  .grd (decide ((List.length a4 + List.length a5) * (16 : Nat) ≤ (140737488355328 : Nat) ∧ List.length a4 + List.length a5 ≤ (9223372036854775807 : Nat))) (
  .opt (β := (Int × (Int × (Int × (Int × ((List Bool) × (Int × Unit))))))) ((buRun_fn (a0, (a1, (a2, (a3, (a4 ++ a5, ()))))))) (fun r2 =>
  .opt (β := (Bool × Unit)) ((buLives_fn ())) (fun r3 =>
  .ite (!r3.1) (
   .opt (β := (Bool × Unit)) ((buLives_fn ())) (fun r4 =>
   .ret (r4.1, ()))) (
   .ite (!decide (r0.2.2.2.2.2.1 = (0 : Int))) (
    .opt (β := (Bool × Unit)) ((buLives_fn ())) (fun r4 =>
    .ret (r4.1, ()))) (
    .ite (!decide (r1.2.2.2.2.2.1 = (0 : Int))) (
     .opt (β := (Bool × Unit)) ((buLives_fn ())) (fun r4 =>
     .ret (r4.1, ()))) (
     .ite (decide ((500 : Int) < IntKind.wrap IntKind.i64 ((↑(List.length a4) : Int) + (↑(List.length a5) : Int)))) (
      .opt (β := (Bool × Unit)) ((buLives_fn ())) (fun r4 =>
      .ret (r4.1, ()))) (
      .ite (!decide (r2.2.2.2.2.2.1 = (0 : Int))) (
       .ret (false, ())) (
       .ite (!(decide (r1.1 = r2.1) && (decide (r1.2.1 = r2.2.1) && (decide (r1.2.2.1 = r2.2.2.1) && (decide (r1.2.2.2.1 = r2.2.2.2.1) && true))))) (
        .ret (false, ())) (
        .grd (decide (((0 : Nat) + List.length r0.2.2.2.2.1) * (1 : Nat) ≤ (140737488355328 : Nat) ∧ (0 : Nat) + List.length r0.2.2.2.2.1 ≤ (9223372036854775807 : Nat))) (
        .grd (decide ((List.length r0.2.2.2.2.1 + List.length r1.2.2.2.2.1) * (1 : Nat) ≤ (140737488355328 : Nat) ∧ List.length r0.2.2.2.2.1 + List.length r1.2.2.2.2.1 ≤ (9223372036854775807 : Nat))) (
        .opt (β := (Bool × Unit)) ((eqBool_fn (r2.2.2.2.2.1, (r0.2.2.2.2.1 ++ r1.2.2.2.2.1, ())))) (fun r4 =>
        .ite (!r4.1) (
         .ret (false, ())) (
         .opt (β := (Int × (Int × (Int × (Int × (Bool × (Int × Unit))))))) ((buTake_fn (r1.1, (r1.2.1, (r1.2.2.1, (r1.2.2.2.1, (a6, ((0 : Int), ())))))))) (fun r5 =>
         .ite (!decide (r5.2.2.2.2.2.1 = (0 : Int))) (
          .ret (true, ())) (
          .opt (β := (Int × (Int × Unit))) ((buLevel_fn (r1.1, (r1.2.1, (r1.2.2.1, (r1.2.2.2.1, (IntKind.wrap IntKind.i64 (a6 + (9 : Int)), ()))))))) (fun r6 =>
          .opt (β := (Int × (Int × Unit))) ((buLevel_fn (r5.1, (r5.2.1, (r5.2.2.1, (r5.2.2.2.1, (IntKind.wrap IntKind.i64 (a6 + (9 : Int)), ()))))))) (fun r7 =>
          .ite (r5.2.2.2.2.1) (
           .ite (decide (r6.2.1 = r7.2.1)) (
            .ret (decide (r6.1 = r7.1), ())) (
            .ret (false, ()))) (
           .ret (false, ()))))))))))))))))))))))
theorem bucketCuts_eq (x : (Int × (Int × (Int × (Int × ((List TDrop) × ((List TDrop) × (Int × Unit)))))))) : fnTr Try.prog cod [clDrop, clBool, FS.pf eqBool, FS.pf buCheck, FS.pf buLev, FS.pf buTake, FS.pf buRun, FS.pf buLevel, FS.pf buLives] [] 30 10 bucketCuts_ap bucketCuts_rp x = bucketCuts_tree x := by kernel_rfl
def bucketCuts_fn (x : (Int × (Int × (Int × (Int × ((List TDrop) × ((List TDrop) × (Int × Unit)))))))) : Option (Bool × Unit) := (bucketCuts_tree x).eval
def bucketCuts : FS Try.prog := ⟨10, bucketCuts_ap, bucketCuts_rp, bucketCuts_fn, fun x r h => fnTr_sound (cod := cod) (Γ := [clDrop, clBool, FS.pf eqBool, FS.pf buCheck, FS.pf buLev, FS.pf buTake, FS.pf buRun, FS.pf buLevel, FS.pf buLives]) (Λs := []) (n := 30) ((congrArg Tr.eval (bucketCuts_eq x)).trans h)⟩
end Go.Proofs.Ytlbmdkclbmcpdaa.X
