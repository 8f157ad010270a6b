/- Functions of the program, as trees (printed by a program of mine: tool/XTool, xg.py), each with the proof that the machine comes to what its tree says. Conditions: none. -/
import Derived.Test.YtlbmdkclbmcpdaaDoorCod
import Derived.KernelRfl
import Derived.Test.YtlbmdkclbmcpdaaDoorGPorts
namespace Go.Proofs.YtlbmdkclbmcpdaaDoor.X
open Go Go.RowKit Go.Proofs.YtlbmdkclbmcpdaaDoor.Abs
set_option maxRecDepth 100000
set_option linter.unusedVariables false
def portsLives_ap : List VP1 := []
def portsLives_rp : SP := ⟨1, [(0, .v (.one (.b)))], []⟩
def portsLives_tree : Unit → Tr (Bool × Unit) :=
  fun (_) =>
  .opt (β := (Int × (Int × (Int × (Int × Unit))))) ((portsLet_fn ((1024 : Int), ((0 : Int), ((1025 : Int), ()))))) (fun r0 =>
  .opt (β := (Int × (Int × (Int × (Int × Unit))))) ((portsLet_fn (r0.1, (r0.2.1, ((1025 : Int), ()))))) (fun r1 =>
  .ite (decide (r0.2.2.2.1 = (0 : Int))) (
   .ite (decide (r1.2.2.2.1 = (0 : Int))) (
    .ite (decide (r0.2.2.1 = (1025 : Int))) (
     .ret (decide (r1.2.2.1 = (1027 : Int)), ())) (
     .ret (false, ()))) (
    .ret (false, ()))) (
   .ret (false, ()))))
theorem portsLives_eq (x : Unit) : fnTr Tryd.prog cod [tz64, FS.pf ones64, FS.pf portsCheck, FS.pf portsLet, FS.pf portsEnd, FS.pf portsFree] [] 30 6 portsLives_ap portsLives_rp x = portsLives_tree x := by kernel_rfl
def portsLives_fn (x : Unit) : Option (Bool × Unit) := (portsLives_tree x).eval
def portsLives : FS Tryd.prog := ⟨6, portsLives_ap, portsLives_rp, portsLives_fn, fun x r h => fnTr_sound (cod := cod) (Γ := [tz64, FS.pf ones64, FS.pf portsCheck, FS.pf portsLet, FS.pf portsEnd, FS.pf portsFree]) (Λs := []) (n := 30) ((congrArg Tr.eval (portsLives_eq x)).trans h)⟩
def portsKind_L3_6 : LS := ⟨6, [(2, 2), (5, 5)], ⟨101, [(32, .v (.one (.i .i64))), (1, .v (.one (.i .i64))), (2, .v (.one (.ptr 2 0))), (9, .v (.one (.b))), (8, .v (.one (.b))), (6, .v (.one (.i .i64))), (5, .v (.one (.ptr 5 0)))], [(2, .cells [.i .i64, .i .u64]), (5, .cells [.i .i64, .i .u64])]⟩, [⟨some 0, [(2, 2), (5, 5)], ⟨101, [(2, .v (.one (.ptr 2 0))), (1, .v (.one (.i .i64))), (6, .v (.one (.i .i64))), (9, .v (.one (.b))), (8, .v (.one (.b))), (5, .v (.one (.ptr 5 0)))], [(2, .cells [.i .i64, .i .u64]), (5, .cells [.i .i64, .i .u64])]⟩⟩], []⟩
def portsKind_step3_6 : (Int × (Int × (Bool × (Bool × (Int × (Int × (Int × (Int × (Int × Unit))))))))) → Tr ((Int × (Int × (Bool × (Bool × (Int × (Int × (Int × (Int × (Int × Unit))))))))) ⊕ (Int × (Int × (Bool × (Bool × (Int × (Int × (Int × (Int × Unit))))))))) :=
  fun (a0, a1, a2, a3, a4, a5, a6, a7, a8, _) =>
  .ite (decide (a0 < (64 : Int))) (
   .grd (decide ((0 : Int) ≤ a0)) (
   .ite (a3) (
    .ite (a2) (
     .ret (Sum.inl (IntKind.wrap IntKind.i64 (a0 + (1 : Int)), (a1, (true, (true, (a4, (a5, (a6, (a7, (a8, ()))))))))))) (
     .ite (decide (bits BinOp.and IntKind.u64 (Int.fdiv a6 ((2 : Int) ^ min (Int.toNat a0) (64 : Nat))) (1 : Int) = (0 : Int))) (
      .ret (Sum.inl (IntKind.wrap IntKind.i64 (a0 + (1 : Int)), (a1, (decide (IntKind.wrap IntKind.i64 (a5 + a0) = a1), (true, (a4, (a5, (a6, (a7, (a8, ()))))))))))) (
      .ret (Sum.inl (IntKind.wrap IntKind.i64 (a0 + (1 : Int)), (a1, (false, (true, (a4, (a5, (a6, (a7, (a8, ()))))))))))))) (
    .ite (decide (bits BinOp.and IntKind.u64 (Int.fdiv a6 ((2 : Int) ^ min (Int.toNat a0) (64 : Nat))) (1 : Int) = (0 : Int))) (
     .grd (true) (
     .grd (true) (
     .ite (a2) (
      .ret (Sum.inl (IntKind.wrap IntKind.i64 (a0 + (1 : Int)), (a1, (true, (decide (Int.tmod (IntKind.wrap IntKind.i64 (a5 + a0)) (2 : Int) = Int.tmod a1 (2 : Int)), (a4, (a5, (a6, (a7, (a8, ()))))))))))) (
      .ite (decide (bits BinOp.and IntKind.u64 (Int.fdiv a6 ((2 : Int) ^ min (Int.toNat a0) (64 : Nat))) (1 : Int) = (0 : Int))) (
       .ret (Sum.inl (IntKind.wrap IntKind.i64 (a0 + (1 : Int)), (a1, (decide (IntKind.wrap IntKind.i64 (a5 + a0) = a1), (decide (Int.tmod (IntKind.wrap IntKind.i64 (a5 + a0)) (2 : Int) = Int.tmod a1 (2 : Int)), (a4, (a5, (a6, (a7, (a8, ()))))))))))) (
       .ret (Sum.inl (IntKind.wrap IntKind.i64 (a0 + (1 : Int)), (a1, (false, (decide (Int.tmod (IntKind.wrap IntKind.i64 (a5 + a0)) (2 : Int) = Int.tmod a1 (2 : Int)), (a4, (a5, (a6, (a7, (a8, ()))))))))))))))) (
     .ite (a2) (
      .ret (Sum.inl (IntKind.wrap IntKind.i64 (a0 + (1 : Int)), (a1, (true, (false, (a4, (a5, (a6, (a7, (a8, ()))))))))))) (
      .ite (decide (bits BinOp.and IntKind.u64 (Int.fdiv a6 ((2 : Int) ^ min (Int.toNat a0) (64 : Nat))) (1 : Int) = (0 : Int))) (
       .ret (Sum.inl (IntKind.wrap IntKind.i64 (a0 + (1 : Int)), (a1, (decide (IntKind.wrap IntKind.i64 (a5 + a0) = a1), (false, (a4, (a5, (a6, (a7, (a8, ()))))))))))) (
       .ret (Sum.inl (IntKind.wrap IntKind.i64 (a0 + (1 : Int)), (a1, (false, (false, (a4, (a5, (a6, (a7, (a8, ())))))))))))))))) (
   .ret (Sum.inr (a1, (a4, (a2, (a3, (a5, (a6, (a7, (a8, ()))))))))))
def portsKind_loop3_6 (x : (Int × (Int × (Bool × (Bool × (Int × (Int × (Int × (Int × (Int × Unit)))))))))) : Option (Int × (Int × (Bool × (Bool × (Int × (Int × (Int × (Int × Unit)))))))) := loopO 30006 (fun x => (portsKind_step3_6 x).eval) 18446744073709551616 x
def portsKind_ap : List VP1 := [.agg [.i .i64, .i .u64], .one (.i .i64)]
def portsKind_rp : SP := ⟨1, [(0, .v (.one (.b)))], []⟩
def portsKind_tree : (Int × (Int × (Int × Unit))) → Tr (Bool × Unit) :=
  fun (a0, a1, a2, _) =>
  .opt (β := (Int × (Int × (Int × (Int × Unit))))) ((portsLet_fn (a0, (a1, (a2, ()))))) (fun r0 =>
  .opt (β := (Bool × Unit)) ((portsLives_fn ())) (fun r1 =>
  .ite (!r1.1) (
   .opt (β := (Bool × Unit)) ((portsLives_fn ())) (fun r2 =>
   .ite (r2.1) (
    .ret (decide (r0.2.2.1 = (0 : Int)), ())) (
    .ret (false, ())))) (
   .ite (!decide (r0.2.2.2.1 = (0 : Int))) (
    .opt (β := (Bool × Unit)) ((portsLives_fn ())) (fun r2 =>
    .ite (r2.1) (
     .ret (decide (r0.2.2.1 = (0 : Int)), ())) (
     .ret (false, ())))) (
    .opt (β := (Int × (Int × (Bool × (Bool × (Int × (Int × (Int × (Int × Unit))))))))) ((portsKind_loop3_6 ((0 : Int), (a2, (false, (false, (r0.2.2.1, (a0, (a1, (r0.1, (r0.2.1, ()))))))))))) (fun r2 =>
    .opt (β := (Int × (Int × (Int × Unit)))) ((portsEnd_fn (r2.2.2.2.2.2.2.1, (r2.2.2.2.2.2.2.2.1, (r2.2.1, ()))))) (fun r3 =>
    .ite (!r2.2.2.2.1) (
     .ite (!r2.2.2.1) (
      .ite (decide (r3.2.2.1 = (0 : Int))) (
       .ret (decide (r3.1 = r2.2.2.2.2.1) && (decide (r3.2.1 = r2.2.2.2.2.2.1) && true), ())) (
       .ret (false, ()))) (
      .ite (decide (r2.2.1 = r2.1)) (
       .ite (decide (r3.2.2.1 = (0 : Int))) (
        .ret (decide (r3.1 = r2.2.2.2.2.1) && (decide (r3.2.1 = r2.2.2.2.2.2.1) && true), ())) (
        .ret (false, ()))) (
       .ret (false, ())))) (
     .grd (true) (
     .grd (true) (
     .ite (decide (Int.tmod r2.2.1 (2 : Int) = Int.tmod r2.1 (2 : Int))) (
      .ite (!r2.2.2.1) (
       .ite (decide (r3.2.2.1 = (0 : Int))) (
        .ret (decide (r3.1 = r2.2.2.2.2.1) && (decide (r3.2.1 = r2.2.2.2.2.2.1) && true), ())) (
        .ret (false, ()))) (
       .ite (decide (r2.2.1 = r2.1)) (
        .ite (decide (r3.2.2.1 = (0 : Int))) (
         .ret (decide (r3.1 = r2.2.2.2.2.1) && (decide (r3.2.1 = r2.2.2.2.2.2.1) && true), ())) (
         .ret (false, ()))) (
        .ret (false, ())))) (
      .ret (false, ())))))))))))
theorem portsKind_eq (x : (Int × (Int × (Int × Unit)))) : fnTr Tryd.prog cod [tz64, FS.pf ones64, FS.pf portsCheck, FS.pf portsLet, FS.pf portsEnd, FS.pf portsFree, FS.pf portsLives] [(3, portsKind_L3_6)] 30 3 portsKind_ap portsKind_rp x = portsKind_tree x := by kernel_rfl
def portsKind_fn (x : (Int × (Int × (Int × Unit)))) : Option (Bool × Unit) := (portsKind_tree x).eval
def portsKind : FS Tryd.prog := ⟨3, portsKind_ap, portsKind_rp, portsKind_fn, fun x r h => fnTr_sound (cod := cod) (Γ := [tz64, FS.pf ones64, FS.pf portsCheck, FS.pf portsLet, FS.pf portsEnd, FS.pf portsFree, FS.pf portsLives]) (Λs := [(3, portsKind_L3_6)]) (n := 30) ((congrArg Tr.eval (portsKind_eq x)).trans h)⟩
def portsOnce_L4_24 : LS := ⟨24, [(2, 2), (33, 33), (7, 7)], ⟨114, [(15, .v (.one (.i .i64))), (2, .v (.one (.ptr 2 0))), (8, .v (.one (.mp 33))), (7, .v (.one (.ptr 7 0)))], [(2, .cells [.i .i64, .i .u64]), (33, .map 0), (7, .cells [.i .i64, .i .u64])]⟩, [⟨none, [], ⟨114, [(4, .v (.one (.b)))], []⟩⟩, ⟨some 2, [(7, 7), (2, 2)], ⟨114, [(7, .v (.one (.ptr 7 0))), (2, .v (.one (.ptr 2 0)))], [(7, .cells [.i .i64, .i .u64]), (2, .cells [.i .i64, .i .u64])]⟩⟩], []⟩
def portsOnce_step4_24 : (Int × (Int × (Int × ((List (Int × Int)) × (Int × (Int × Unit)))))) → Tr ((Int × (Int × (Int × ((List (Int × Int)) × (Int × (Int × Unit)))))) ⊕ ((Bool × Unit) ⊕ (Int × (Int × (Int × (Int × Unit)))))) :=
  fun (a0, a1, a2, a3, a4, a5, _) =>
  .ite (decide (a0 < IntKind.wrap IntKind.i64 (a4 + (64 : Int)))) (
   .ite (decide (Option.getD (mGet (0 : Nat) a0 a3) (0 : Int) = (1 : Int))) (
    .opt (β := (Int × (Int × (Int × Unit)))) ((portsEnd_fn (a1, (a2, (a0, ()))))) (fun r0 =>
    .ite (!decide (r0.2.2.1 = (0 : Int))) (
     .ret (Sum.inr (Sum.inl (false, ())))) (
     .ret (Sum.inl (IntKind.wrap IntKind.i64 (a0 + (1 : Int)), (r0.1, (r0.2.1, (a3, (a4, (a5, ())))))))))) (
    .ret (Sum.inl (IntKind.wrap IntKind.i64 (a0 + (1 : Int)), (a1, (a2, (a3, (a4, (a5, ()))))))))) (
   .ret (Sum.inr (Sum.inr (a4, (a5, (a1, (a2, ())))))))
def portsOnce_loop4_24 (x : (Int × (Int × (Int × ((List (Int × Int)) × (Int × (Int × Unit))))))) : Option ((Bool × Unit) ⊕ (Int × (Int × (Int × (Int × Unit))))) := loopO 40024 (fun x => (portsOnce_step4_24 x).eval) 18446744073709551616 x
def portsOnce_L4_7 : LS := ⟨7, [(33, 33), (2, 2), (7, 7)], ⟨114, [(35, .v (.one (.i .i64))), (8, .v (.one (.mp 33))), (2, .v (.one (.ptr 2 0))), (1, .v (.one (.st 0 false))), (7, .v (.one (.ptr 7 0))), (34, .v (.one (.i .i64)))], [(33, .map 0), (2, .cells [.i .i64, .i .u64]), (7, .cells [.i .i64, .i .u64])]⟩, [⟨none, [], ⟨114, [(4, .v (.one (.b)))], []⟩⟩, ⟨some 0, [(2, 2), (33, 33), (7, 7)], ⟨114, [(2, .v (.one (.ptr 2 0))), (8, .v (.one (.mp 33))), (7, .v (.one (.ptr 7 0)))], [(2, .cells [.i .i64, .i .u64]), (33, .map 0), (7, .cells [.i .i64, .i .u64])]⟩⟩], []⟩
def portsOnce_step4_7 : (Int × ((List Int) × (Int × ((List (Int × Int)) × (Int × (Int × (Int × (Int × Unit)))))))) → Tr ((Int × ((List Int) × (Int × ((List (Int × Int)) × (Int × (Int × (Int × (Int × Unit)))))))) ⊕ ((Bool × Unit) ⊕ (Int × (Int × ((List (Int × Int)) × (Int × (Int × Unit))))))) :=
  fun (a0, a1, a2, a3, a4, a5, a6, a7, _) =>
  .ite (decide (a0 < a2)) (
   .grd (true) (
   .ite (decide (a0 < (↑(List.length a1) : Int))) (
    .grd (decide ((0 : Int) ≤ a0)) (
    .opt (β := Int) (a1[Int.toNat a0]?) (fun r0 =>
    .opt (β := (Int × (Int × (Int × (Int × Unit))))) ((portsLet_fn (a4, (a5, (if false = true then if (if true = true then if (65535 : Int) < r0 then (65535 : Int) else r0 else if (65535 : Int) > r0 then (65535 : Int) else r0) < (0 : Int) then if true = true then if (65535 : Int) < r0 then (65535 : Int) else r0 else if (65535 : Int) > r0 then (65535 : Int) else r0 else (0 : Int) else if (if true = true then if (65535 : Int) < r0 then (65535 : Int) else r0 else if (65535 : Int) > r0 then (65535 : Int) else r0) > (0 : Int) then if true = true then if (65535 : Int) < r0 then (65535 : Int) else r0 else if (65535 : Int) > r0 then (65535 : Int) else r0 else (0 : Int), ()))))) (fun r1 =>
    .ite (!decide (r1.2.2.2.1 = (0 : Int))) (
     .ret (Sum.inr (Sum.inl (false, ())))) (
     .ite (decide (r1.2.2.1 < r1.1)) (
      .ret (Sum.inr (Sum.inl (false, ())))) (
      .ite (decide (IntKind.wrap IntKind.i64 (r1.1 + (63 : Int)) < r1.2.2.1)) (
       .ret (Sum.inr (Sum.inl (false, ())))) (
       .ite (decide ((1 : Int) < Option.getD (mGet (0 : Nat) r1.2.2.1 (mPut (0 : Nat) r1.2.2.1 (IntKind.wrap IntKind.i64 (Option.getD (mGet (0 : Nat) r1.2.2.1 a3) (0 : Int) + (1 : Int))) a3)) (0 : Int))) (
        .ret (Sum.inr (Sum.inl (false, ())))) (
        .ret (Sum.inl (IntKind.wrap IntKind.i64 (a0 + (1 : Int)), (a1, (a2, (mPut (0 : Nat) r1.2.2.1 (IntKind.wrap IntKind.i64 (Option.getD (mGet (0 : Nat) r1.2.2.1 a3) (0 : Int) + (1 : Int))) a3, (r1.1, (r1.2.1, (a6, (a7, ()))))))))))))))))) (
    .opt (β := (Int × (Int × (Int × (Int × Unit))))) ((portsLet_fn (a4, (a5, (Int.tmod (IntKind.wrap IntKind.i64 (a0 * (7 : Int))) (65536 : Int), ()))))) (fun r0 =>
    .ite (!decide (r0.2.2.2.1 = (0 : Int))) (
     .ret (Sum.inr (Sum.inl (false, ())))) (
     .ite (decide (r0.2.2.1 < r0.1)) (
      .ret (Sum.inr (Sum.inl (false, ())))) (
      .ite (decide (IntKind.wrap IntKind.i64 (r0.1 + (63 : Int)) < r0.2.2.1)) (
       .ret (Sum.inr (Sum.inl (false, ())))) (
       .ite (decide ((1 : Int) < Option.getD (mGet (0 : Nat) r0.2.2.1 (mPut (0 : Nat) r0.2.2.1 (IntKind.wrap IntKind.i64 (Option.getD (mGet (0 : Nat) r0.2.2.1 a3) (0 : Int) + (1 : Int))) a3)) (0 : Int))) (
        .ret (Sum.inr (Sum.inl (false, ())))) (
        .ret (Sum.inl (IntKind.wrap IntKind.i64 (a0 + (1 : Int)), (a1, (a2, (mPut (0 : Nat) r0.2.2.1 (IntKind.wrap IntKind.i64 (Option.getD (mGet (0 : Nat) r0.2.2.1 a3) (0 : Int) + (1 : Int))) a3, (r0.1, (r0.2.1, (a6, (a7, ()))))))))))))))))) (
   .ret (Sum.inr (Sum.inr (a4, (a5, (a3, (a6, (a7, ()))))))))
def portsOnce_loop4_7 (x : (Int × ((List Int) × (Int × ((List (Int × Int)) × (Int × (Int × (Int × (Int × Unit))))))))) : Option ((Bool × Unit) ⊕ (Int × (Int × ((List (Int × Int)) × (Int × (Int × Unit)))))) := loopO 40007 (fun x => (portsOnce_step4_7 x).eval) 18446744073709551616 x
def portsOnce_ap : List VP1 := [.agg [.i .i64, .i .u64], .one (.st 0 false)]
def portsOnce_rp : SP := ⟨1, [(0, .v (.one (.b)))], []⟩
def portsOnce_tree : (Int × (Int × ((List Int) × Unit))) → Tr (Bool × Unit) :=
  fun (a0, a1, a2, _) =>
  .opt (β := (Int × (Int × Unit))) ((portsFree_fn (a0, (a1, ())))) (fun r0 =>
  .opt (β := (Bool × Unit)) ((portsLives_fn ())) (fun r1 =>
  .ite (!r1.1) (
   .opt (β := (Bool × Unit)) ((portsLives_fn ())) (fun r2 =>
   .ite (r2.1) (
    .ret (decide (r0.1 = (0 : Int)), ())) (
    .ret (false, ())))) (
   .ite (!decide (r0.2.1 = (0 : Int))) (
    .opt (β := (Bool × Unit)) ((portsLives_fn ())) (fun r2 =>
    .ite (r2.1) (
     .ret (decide (r0.1 = (0 : Int)), ())) (
     .ret (false, ())))) (
    .opt (β := ((Bool × Unit) ⊕ (Int × (Int × ((List (Int × Int)) × (Int × (Int × Unit))))))) ((portsOnce_loop4_7 ((0 : Int), (a2, (r0.1, ([], (a0, (a1, (a0, (a1, ())))))))))) (fun r2 =>
    .sum (β := (Bool × Unit)) (γ := (Int × (Int × ((List (Int × Int)) × (Int × (Int × Unit)))))) (r2) (fun r3 =>
     .ret (r3.1, ())) (fun r3 =>
     .opt (β := (Int × (Int × (Int × (Int × Unit))))) ((portsLet_fn (r3.1, (r3.2.1, ((80 : Int), ()))))) (fun r4 =>
     .ite (!decide (r4.2.2.2.1 = (6 : Int))) (
      .ret (false, ())) (
      .opt (β := ((Bool × Unit) ⊕ (Int × (Int × (Int × (Int × Unit)))))) ((portsOnce_loop4_24 (r3.2.2.2.1, (r3.1, (r3.2.1, (r3.2.2.1, (r3.2.2.2.1, (r3.2.2.2.2.1, ())))))))) (fun r5 =>
      .sum (β := (Bool × Unit)) (γ := (Int × (Int × (Int × (Int × Unit))))) (r5) (fun r6 =>
       .ret (r6.1, ())) (fun r6 =>
       .ret (decide (r6.2.2.1 = r6.1) && (decide (r6.2.2.2.1 = r6.2.1) && true), ())))))))))))
theorem portsOnce_eq (x : (Int × (Int × ((List Int) × Unit)))) : fnTr Tryd.prog cod [tz64, FS.pf ones64, FS.pf portsCheck, FS.pf portsLet, FS.pf portsEnd, FS.pf portsFree, FS.pf portsLives, FS.pf portsKind] [(4, portsOnce_L4_24), (4, portsOnce_L4_7)] 30 4 portsOnce_ap portsOnce_rp x = portsOnce_tree x := by kernel_rfl
def portsOnce_fn (x : (Int × (Int × ((List Int) × Unit)))) : Option (Bool × Unit) := (portsOnce_tree x).eval
def portsOnce : FS Tryd.prog := ⟨4, portsOnce_ap, portsOnce_rp, portsOnce_fn, fun x r h => fnTr_sound (cod := cod) (Γ := [tz64, FS.pf ones64, FS.pf portsCheck, FS.pf portsLet, FS.pf portsEnd, FS.pf portsFree, FS.pf portsLives, FS.pf portsKind]) (Λs := [(4, portsOnce_L4_24), (4, portsOnce_L4_7)]) (n := 30) ((congrArg Tr.eval (portsOnce_eq x)).trans h)⟩
end Go.Proofs.YtlbmdkclbmcpdaaDoor.X
