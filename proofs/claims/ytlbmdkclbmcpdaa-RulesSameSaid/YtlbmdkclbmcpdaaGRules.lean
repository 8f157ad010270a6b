/- Functions of the program, as trees (printed by a program of mine: tool/XTool, xg.py), each with the proof that the machine comes to what its tree says. Conditions: none. -/
import Derived.Test.YtlbmdkclbmcpdaaCod
import Derived.KernelRfl
namespace Go.Proofs.Ytlbmdkclbmcpdaa.X
open Go Go.RowKit Go.Proofs.Ytlbmdkclbmcpdaa.Abs
set_option maxRecDepth 100000
set_option linter.unusedVariables false
theorem clRule_h1 (xs : List (τ 10)) : (bodyTr Go.Proofs.Try.prog cod 12 [.one (.nn (.st 10 xs))]).eval = (cloneRes 30 10 80 xs).eval := by kernel_rfl
theorem clRule_h2 : (bodyTr Go.Proofs.Try.prog cod 12 [.one .nil]).eval = some (.one .nil, []) := by kernel_rfl
def clRule : PF Go.Proofs.Try.prog := clonePF Go.Proofs.Try.prog cod 12 30 10 80 clRule_h1 clRule_h2
def delRule_ap : SP := ⟨33, [(0, .v (.one (.own 1000100))), (1, .v (.one (.i .i64))), (2, .v (.one (.i .i64)))], [(1000100, .row 30 10 true true)]⟩
def delRule_rp : SP := ⟨1, [(0, .v (.one (.own 1000100)))], [(1000100, .row 30 10 true true)]⟩
def delRule_tree : (Int × (Int × ((List TRule) × Unit))) → Tr ((List TRule) × Unit) :=
  fun (a0, a1, a2, _) =>
  .grd (decide ((0 : Int) ≤ a0 ∧ a0 ≤ a1 ∧ a1 ≤ (↑(List.length a2) : Int) ∧ (↑(List.length a2) : Int) ≤ (↑(List.length a2) : Int))) (
  .ite (decide (a0 = a1)) (
   .grd (decide (List.length a2 = List.length a2)) (
   .ret (a2, ()))) (
   .grd (decide ((0 : Int) ≤ a0 ∧ a0 ≤ (↑(List.length a2) : Int))) (
   .grd (decide ((0 : Int) ≤ a1 ∧ a1 ≤ (↑(List.length a2) : Int) ∧ (↑(List.length a2) : Int) ≤ (↑(List.length a2) : Int))) (
   .grd (decide (Int.toNat a1 + Int.toNat ((↑(List.length a2) : Int) - a1) ≤ List.length a2)) (
   .grd (decide (Int.toNat a0 + List.length (List.take (Int.toNat ((↑(List.length a2) : Int) - a1)) (List.drop (Int.toNat a1) a2)) ≤ List.length a2)) (
   .grd (decide ((0 : Int) ≤ (↑(Int.toNat a0 + List.length (List.take (Int.toNat ((↑(List.length a2) : Int) - a1)) (List.drop (Int.toNat a1) a2))) : Int) ∧ (↑(Int.toNat a0 + List.length (List.take (Int.toNat ((↑(List.length a2) : Int) - a1)) (List.drop (Int.toNat a1) a2))) : Int) ≤ (↑(List.length a2) : Int) ∧ (↑(List.length a2) : Int) ≤ (↑(List.length (List.take (Int.toNat a0) a2 ++ List.take (Int.toNat ((↑(List.length a2) : Int) - a1)) (List.drop (Int.toNat a1) a2) ++ List.drop (Int.toNat a0 + List.length (List.take (Int.toNat ((↑(List.length a2) : Int) - a1)) (List.drop (Int.toNat a1) a2))) a2)) : Int))) (
   .grd (decide (Int.toNat (↑(Int.toNat a0 + List.length (List.take (Int.toNat ((↑(List.length a2) : Int) - a1)) (List.drop (Int.toNat a1) a2))) : Int) + Int.toNat ((↑(List.length a2) : Int) - (↑(Int.toNat a0 + List.length (List.take (Int.toNat ((↑(List.length a2) : Int) - a1)) (List.drop (Int.toNat a1) a2))) : Int)) ≤ List.length (List.take (Int.toNat a0) a2 ++ List.take (Int.toNat ((↑(List.length a2) : Int) - a1)) (List.drop (Int.toNat a1) a2) ++ List.drop (Int.toNat a0 + List.length (List.take (Int.toNat ((↑(List.length a2) : Int) - a1)) (List.drop (Int.toNat a1) a2))) a2))) (
   .grd (decide (Int.toNat a0 + List.length (List.take (Int.toNat ((↑(List.length a2) : Int) - a1)) (List.drop (Int.toNat a1) a2)) = List.length (List.take (Int.toNat a0 + List.length (List.take (Int.toNat ((↑(List.length a2) : Int) - a1)) (List.drop (Int.toNat a1) a2))) (List.take (Int.toNat (↑(Int.toNat a0 + List.length (List.take (Int.toNat ((↑(List.length a2) : Int) - a1)) (List.drop (Int.toNat a1) a2))) : Int)) (List.take (Int.toNat a0) a2 ++ List.take (Int.toNat ((↑(List.length a2) : Int) - a1)) (List.drop (Int.toNat a1) a2) ++ List.drop (Int.toNat a0 + List.length (List.take (Int.toNat ((↑(List.length a2) : Int) - a1)) (List.drop (Int.toNat a1) a2))) a2) ++ List.replicate (Int.toNat ((↑(List.length a2) : Int) - (↑(Int.toNat a0 + List.length (List.take (Int.toNat ((↑(List.length a2) : Int) - a1)) (List.drop (Int.toNat a1) a2))) : Int))) (TRule.mk (0 : Int) (0 : Int) (0 : Int) (0 : Int) (0 : Int) (0 : Int) (0 : Int) (0 : Int) (0 : Int) false) ++ List.drop (Int.toNat (↑(Int.toNat a0 + List.length (List.take (Int.toNat ((↑(List.length a2) : Int) - a1)) (List.drop (Int.toNat a1) a2))) : Int) + List.length (List.replicate (Int.toNat ((↑(List.length a2) : Int) - (↑(Int.toNat a0 + List.length (List.take (Int.toNat ((↑(List.length a2) : Int) - a1)) (List.drop (Int.toNat a1) a2))) : Int))) (TRule.mk (0 : Int) (0 : Int) (0 : Int) (0 : Int) (0 : Int) (0 : Int) (0 : Int) (0 : Int) (0 : Int) false))) (List.take (Int.toNat a0) a2 ++ List.take (Int.toNat ((↑(List.length a2) : Int) - a1)) (List.drop (Int.toNat a1) a2) ++ List.drop (Int.toNat a0 + List.length (List.take (Int.toNat ((↑(List.length a2) : Int) - a1)) (List.drop (Int.toNat a1) a2))) a2))))) (
   .ret (List.take (Int.toNat a0 + List.length (List.take (Int.toNat ((↑(List.length a2) : Int) - a1)) (List.drop (Int.toNat a1) a2))) (List.take (Int.toNat (↑(Int.toNat a0 + List.length (List.take (Int.toNat ((↑(List.length a2) : Int) - a1)) (List.drop (Int.toNat a1) a2))) : Int)) (List.take (Int.toNat a0) a2 ++ List.take (Int.toNat ((↑(List.length a2) : Int) - a1)) (List.drop (Int.toNat a1) a2) ++ List.drop (Int.toNat a0 + List.length (List.take (Int.toNat ((↑(List.length a2) : Int) - a1)) (List.drop (Int.toNat a1) a2))) a2) ++ List.replicate (Int.toNat ((↑(List.length a2) : Int) - (↑(Int.toNat a0 + List.length (List.take (Int.toNat ((↑(List.length a2) : Int) - a1)) (List.drop (Int.toNat a1) a2))) : Int))) (TRule.mk (0 : Int) (0 : Int) (0 : Int) (0 : Int) (0 : Int) (0 : Int) (0 : Int) (0 : Int) (0 : Int) false) ++ List.drop (Int.toNat (↑(Int.toNat a0 + List.length (List.take (Int.toNat ((↑(List.length a2) : Int) - a1)) (List.drop (Int.toNat a1) a2))) : Int) + List.length (List.replicate (Int.toNat ((↑(List.length a2) : Int) - (↑(Int.toNat a0 + List.length (List.take (Int.toNat ((↑(List.length a2) : Int) - a1)) (List.drop (Int.toNat a1) a2))) : Int))) (TRule.mk (0 : Int) (0 : Int) (0 : Int) (0 : Int) (0 : Int) (0 : Int) (0 : Int) (0 : Int) (0 : Int) false))) (List.take (Int.toNat a0) a2 ++ List.take (Int.toNat ((↑(List.length a2) : Int) - a1)) (List.drop (Int.toNat a1) a2) ++ List.drop (Int.toNat a0 + List.length (List.take (Int.toNat ((↑(List.length a2) : Int) - a1)) (List.drop (Int.toNat a1) a2))) a2)), ()))))))))))
theorem delRule_eq (x : (Int × (Int × ((List TRule) × Unit)))) : gsTr Try.prog cod [clRule] [] 30 17 delRule_ap delRule_rp x = delRule_tree x := by kernel_rfl
def delRule_fn (x : (Int × (Int × ((List TRule) × Unit)))) : Option ((List TRule) × Unit) := (delRule_tree x).eval
def delRule : GS Try.prog := ⟨17, delRule_ap, delRule_rp, delRule_fn, fun x r h ys m g he hg => gs_sound (cod := cod) (Γ := [clRule]) (Λs := []) (n := 30) ((congrArg Tr.eval (delRule_eq x)).trans h) he hg⟩
def eqRule_L21_4 : LS := ⟨4, [], ⟨26, [(13, .v (.one (.i .i64))), (1, .v (.one (.st 10 false))), (0, .v (.one (.st 10 false))), (12, .v (.one (.i .i64)))], []⟩, [⟨none, [], ⟨26, [(4, .v (.one (.b)))], []⟩⟩, ⟨some 0, [], ⟨26, [], []⟩⟩], []⟩
def eqRule_step21_4 : (Int × ((List TRule) × ((List TRule) × (Int × Unit)))) → Tr ((Int × ((List TRule) × ((List TRule) × (Int × Unit)))) ⊕ ((Bool × Unit) ⊕ Unit)) :=
  fun (a0, a1, a2, a3, _) =>
  .ite (decide (a0 < a3)) (
   .grd (decide ((0 : Int) ≤ a0)) (
   .opt (β := TRule) (a2[Int.toNat a0]?) (fun r0 =>
   .grd (decide ((0 : Int) ≤ a0)) (
   .opt (β := TRule) (a1[Int.toNat a0]?) (fun r1 =>
   .ite (!(decide (r0.fromAddr = r1.fromAddr) && (decide (r0.fromLong = r1.fromLong) && true) && (decide (r0.toAddr = r1.toAddr) && (decide (r0.toLong = r1.toLong) && true) && (decide (r0.proto = r1.proto) && (decide (r0.fromLow = r1.fromLow) && (decide (r0.fromHigh = r1.fromHigh) && (decide (r0.toLow = r1.toLow) && (decide (r0.toHigh = r1.toHigh) && (r0.pass == r1.pass && true))))))))) (
    .ret (Sum.inr (Sum.inl (false, ())))) (
    .ret (Sum.inl (IntKind.wrap IntKind.i64 (a0 + (1 : Int)), (a1, (a2, (a3, ()))))))))))) (
   .ret (Sum.inr (Sum.inr ())))
def eqRule_loop21_4 (x : (Int × ((List TRule) × ((List TRule) × (Int × Unit))))) : Option ((Bool × Unit) ⊕ Unit) := loopO 210004 (fun x => (eqRule_step21_4 x).eval) 18446744073709551616 x
def eqRule_ap : List VP1 := [.one (.st 10 false), .one (.st 10 false)]
def eqRule_rp : SP := ⟨1, [(0, .v (.one (.b)))], []⟩
def eqRule_tree : ((List TRule) × ((List TRule) × Unit)) → Tr (Bool × Unit) :=
  fun (a0, a1, _) =>
  .ite (!decide ((↑(List.length a0) : Int) = (↑(List.length a1) : Int))) (
   .ret (false, ())) (
   .opt (β := ((Bool × Unit) ⊕ Unit)) ((eqRule_loop21_4 ((0 : Int), (a1, (a0, ((↑(List.length a0) : Int), ())))))) (fun r0 =>
   .sum (β := (Bool × Unit)) (γ := Unit) (r0) (fun r1 =>
    .ret (r1.1, ())) (fun r1 =>
    .ret (true, ()))))
theorem eqRule_eq (x : ((List TRule) × ((List TRule) × Unit))) : fnTr Try.prog cod [clRule, GS.pf delRule] [(21, eqRule_L21_4)] 30 21 eqRule_ap eqRule_rp x = eqRule_tree x := by kernel_rfl
def eqRule_fn (x : ((List TRule) × ((List TRule) × Unit))) : Option (Bool × Unit) := (eqRule_tree x).eval
def eqRule : FS Try.prog := ⟨21, eqRule_ap, eqRule_rp, eqRule_fn, fun x r h => fnTr_sound (cod := cod) (Γ := [clRule, GS.pf delRule]) (Λs := [(21, eqRule_L21_4)]) (n := 30) ((congrArg Tr.eval (eqRule_eq x)).trans h)⟩
def ruNet_ap : List VP1 := [.agg [.i .u32, .i .i64]]
def ruNet_rp : SP := ⟨1, [(0, .v (.one (.b)))], []⟩
def ruNet_tree : (Int × (Int × Unit)) → Tr (Bool × Unit) :=
  fun (a0, a1, _) =>
  .ite (decide ((0 : Int) ≤ a1)) (
   .ite (decide (a1 ≤ (32 : Int))) (
    .grd (decide ((0 : Int) ≤ a1)) (
    .ret (decide (IntKind.wrap IntKind.u32 (a0 * (2 : Int) ^ min (Int.toNat a1) (32 : Nat)) = (0 : Int)), ()))) (
    .ret (false, ()))) (
   .ret (false, ()))
theorem ruNet_eq (x : (Int × (Int × Unit))) : fnTr Try.prog cod [clRule, GS.pf delRule, FS.pf eqRule] [] 30 41 ruNet_ap ruNet_rp x = ruNet_tree x := by kernel_rfl
def ruNet_fn (x : (Int × (Int × Unit))) : Option (Bool × Unit) := (ruNet_tree x).eval
def ruNet : FS Try.prog := ⟨41, ruNet_ap, ruNet_rp, ruNet_fn, fun x r h => fnTr_sound (cod := cod) (Γ := [clRule, GS.pf delRule, FS.pf eqRule]) (Λs := []) (n := 30) ((congrArg Tr.eval (ruNet_eq x)).trans h)⟩
def ruHas_ap : List VP1 := [.agg [.i .u32, .i .i64], .one (.i .u32)]
def ruHas_rp : SP := ⟨1, [(0, .v (.one (.b)))], []⟩
def ruHas_tree : (Int × (Int × (Int × Unit))) → Tr (Bool × Unit) :=
  fun (a0, a1, a2, _) =>
  .grd (decide ((0 : Int) ≤ IntKind.wrap IntKind.i64 ((32 : Int) - a1))) (
  .ret (decide (Int.fdiv (IntKind.wrap IntKind.u64 (bits BinOp.xor IntKind.u32 a2 a0)) ((2 : Int) ^ min (Int.toNat (IntKind.wrap IntKind.i64 ((32 : Int) - a1))) (64 : Nat)) = (0 : Int)), ()))
theorem ruHas_eq (x : (Int × (Int × (Int × Unit)))) : fnTr Try.prog cod [clRule, GS.pf delRule, FS.pf eqRule, FS.pf ruNet] [] 30 39 ruHas_ap ruHas_rp x = ruHas_tree x := by kernel_rfl
def ruHas_fn (x : (Int × (Int × (Int × Unit)))) : Option (Bool × Unit) := (ruHas_tree x).eval
def ruHas : FS Try.prog := ⟨39, ruHas_ap, ruHas_rp, ruHas_fn, fun x r h => fnTr_sound (cod := cod) (Γ := [clRule, GS.pf delRule, FS.pf eqRule, FS.pf ruNet]) (Λs := []) (n := 30) ((congrArg Tr.eval (ruHas_eq x)).trans h)⟩
def ruBounds_ap : List VP1 := [.one (.i .i64), .one (.i .i64)]
def ruBounds_rp : SP := ⟨1, [(0, .v (.one (.b)))], []⟩
def ruBounds_tree : (Int × (Int × Unit)) → Tr (Bool × Unit) :=
  fun (a0, a1, _) =>
  .ite (decide ((0 : Int) ≤ a0)) (
   .ite (decide (a0 ≤ a1)) (
    .ret (decide (a1 ≤ (65535 : Int)), ())) (
    .ret (false, ()))) (
   .ret (false, ()))
theorem ruBounds_eq (x : (Int × (Int × Unit))) : fnTr Try.prog cod [clRule, GS.pf delRule, FS.pf eqRule, FS.pf ruNet, FS.pf ruHas] [] 30 28 ruBounds_ap ruBounds_rp x = ruBounds_tree x := by kernel_rfl
def ruBounds_fn (x : (Int × (Int × Unit))) : Option (Bool × Unit) := (ruBounds_tree x).eval
def ruBounds : FS Try.prog := ⟨28, ruBounds_ap, ruBounds_rp, ruBounds_fn, fun x r h => fnTr_sound (cod := cod) (Γ := [clRule, GS.pf delRule, FS.pf eqRule, FS.pf ruNet, FS.pf ruHas]) (Λs := []) (n := 30) ((congrArg Tr.eval (ruBounds_eq x)).trans h)⟩
def ruRight_ap : List VP1 := [.agg [.i .u32, .i .i64, .i .u32, .i .i64, .i .i64, .i .i64, .i .i64, .i .i64, .i .i64, .b]]
def ruRight_rp : SP := ⟨1, [(0, .v (.one (.b)))], []⟩
def ruRight_tree : (Int × (Int × (Int × (Int × (Int × (Int × (Int × (Int × (Int × (Bool × Unit)))))))))) → Tr (Bool × Unit) :=
  fun (a0, a1, a2, a3, a4, a5, a6, a7, a8, a9, _) =>
  .opt (β := (Bool × Unit)) ((ruNet_fn (a0, (a1, ())))) (fun r0 =>
  .ite (r0.1) (
   .opt (β := (Bool × Unit)) ((ruNet_fn (a2, (a3, ())))) (fun r1 =>
   .ite (r1.1) (
    .ite (decide ((0 : Int) ≤ a4)) (
     .ite (decide (a4 ≤ (255 : Int))) (
      .opt (β := (Bool × Unit)) ((ruBounds_fn (a5, (a6, ())))) (fun r2 =>
      .ite (r2.1) (
       .opt (β := (Bool × Unit)) ((ruBounds_fn (a7, (a8, ())))) (fun r3 =>
       .ret (r3.1, ()))) (
       .ret (false, ())))) (
      .ret (false, ()))) (
     .ret (false, ()))) (
    .ret (false, ())))) (
   .ret (false, ())))
theorem ruRight_eq (x : (Int × (Int × (Int × (Int × (Int × (Int × (Int × (Int × (Int × (Bool × Unit))))))))))) : fnTr Try.prog cod [clRule, GS.pf delRule, FS.pf eqRule, FS.pf ruNet, FS.pf ruHas, FS.pf ruBounds] [] 30 38 ruRight_ap ruRight_rp x = ruRight_tree x := by kernel_rfl
def ruRight_fn (x : (Int × (Int × (Int × (Int × (Int × (Int × (Int × (Int × (Int × (Bool × Unit))))))))))) : Option (Bool × Unit) := (ruRight_tree x).eval
def ruRight : FS Try.prog := ⟨38, ruRight_ap, ruRight_rp, ruRight_fn, fun x r h => fnTr_sound (cod := cod) (Γ := [clRule, GS.pf delRule, FS.pf eqRule, FS.pf ruNet, FS.pf ruHas, FS.pf ruBounds]) (Λs := []) (n := 30) ((congrArg Tr.eval (ruRight_eq x)).trans h)⟩
def ruCheck_L27_4 : LS := ⟨4, [], ⟨18, [(10, .v (.one (.i .i64))), (8, .v (.one (.st 10 false))), (9, .v (.one (.i .i64)))], []⟩, [⟨none, [], ⟨18, [(2, .v (.one (.i .i64)))], []⟩⟩, ⟨some 0, [], ⟨18, [], []⟩⟩], []⟩
def ruCheck_step27_4 : (Int × ((List TRule) × (Int × Unit))) → Tr ((Int × ((List TRule) × (Int × Unit))) ⊕ ((Int × Unit) ⊕ Unit)) :=
  fun (a0, a1, a2, _) =>
  .ite (decide (a0 < a2)) (
   .grd (decide ((0 : Int) ≤ a0)) (
   .opt (β := TRule) (a1[Int.toNat a0]?) (fun r0 =>
   .opt (β := (Bool × Unit)) ((ruRight_fn (r0.fromAddr, (r0.fromLong, (r0.toAddr, (r0.toLong, (r0.proto, (r0.fromLow, (r0.fromHigh, (r0.toLow, (r0.toHigh, (r0.pass, ())))))))))))) (fun r1 =>
   .ite (!r1.1) (
    .ret (Sum.inr (Sum.inl ((4 : Int), ())))) (
    .ret (Sum.inl (IntKind.wrap IntKind.i64 (a0 + (1 : Int)), (a1, (a2, ()))))))))) (
   .ret (Sum.inr (Sum.inr ())))
def ruCheck_loop27_4 (x : (Int × ((List TRule) × (Int × Unit)))) : Option ((Int × Unit) ⊕ Unit) := loopO 270004 (fun x => (ruCheck_step27_4 x).eval) 18446744073709551616 x
def ruCheck_ap : List VP1 := [.one (.st 10 false)]
def ruCheck_rp : SP := ⟨1, [(0, .v (.one (.i .i64)))], []⟩
def ruCheck_tree : ((List TRule) × Unit) → Tr (Int × Unit) :=
  fun (a0, _) =>
  .ite (decide ((64 : Int) < (↑(List.length a0) : Int))) (
   .ret ((2 : Int), ())) (
   .opt (β := ((Int × Unit) ⊕ Unit)) ((ruCheck_loop27_4 ((0 : Int), (a0, ((↑(List.length a0) : Int), ()))))) (fun r0 =>
   .sum (β := (Int × Unit)) (γ := Unit) (r0) (fun r1 =>
    .ret (r1.1, ())) (fun r1 =>
    .ret ((0 : Int), ()))))
theorem ruCheck_eq (x : ((List TRule) × Unit)) : fnTr Try.prog cod [clRule, GS.pf delRule, FS.pf eqRule, FS.pf ruNet, FS.pf ruHas, FS.pf ruBounds, FS.pf ruRight] [(27, ruCheck_L27_4)] 30 27 ruCheck_ap ruCheck_rp x = ruCheck_tree x := by kernel_rfl
def ruCheck_fn (x : ((List TRule) × Unit)) : Option (Int × Unit) := (ruCheck_tree x).eval
def ruCheck : FS Try.prog := ⟨27, ruCheck_ap, ruCheck_rp, ruCheck_fn, fun x r h => fnTr_sound (cod := cod) (Γ := [clRule, GS.pf delRule, FS.pf eqRule, FS.pf ruNet, FS.pf ruHas, FS.pf ruBounds, FS.pf ruRight]) (Λs := [(27, ruCheck_L27_4)]) (n := 30) ((congrArg Tr.eval (ruCheck_eq x)).trans h)⟩
def ruMeets_ap : List VP1 := [.agg [.i .u32, .i .i64, .i .u32, .i .i64, .i .i64, .i .i64, .i .i64, .i .i64, .i .i64, .b], .agg [.i .u32, .i .u32, .i .i64, .i .i64, .i .i64]]
def ruMeets_rp : SP := ⟨1, [(0, .v (.one (.b)))], []⟩
def ruMeets_tree : (Int × (Int × (Int × (Int × (Int × (Int × (Int × (Int × (Int × (Bool × (Int × (Int × (Int × (Int × (Int × Unit))))))))))))))) → Tr (Bool × Unit) :=
  fun (a0, a1, a2, a3, a4, a5, a6, a7, a8, a9, a10, a11, a12, a13, a14, _) =>
  .opt (β := (Bool × Unit)) ((ruHas_fn (a0, (a1, (a10, ()))))) (fun r0 =>
  .ite (r0.1) (
   .opt (β := (Bool × Unit)) ((ruHas_fn (a2, (a3, (a11, ()))))) (fun r1 =>
   .ite (r1.1) (
    .ite (decide (a4 = (0 : Int))) (
     .ite (decide (a5 ≤ a13)) (
      .ite (decide (a13 ≤ a6)) (
       .ite (decide (a7 ≤ a14)) (
        .ret (decide (a14 ≤ a8), ())) (
        .ret (false, ()))) (
       .ret (false, ()))) (
      .ret (false, ()))) (
     .ite (decide (a4 = a12)) (
      .ite (decide (a5 ≤ a13)) (
       .ite (decide (a13 ≤ a6)) (
        .ite (decide (a7 ≤ a14)) (
         .ret (decide (a14 ≤ a8), ())) (
         .ret (false, ()))) (
        .ret (false, ()))) (
       .ret (false, ()))) (
      .ret (false, ())))) (
    .ret (false, ())))) (
   .ret (false, ())))
theorem ruMeets_eq (x : (Int × (Int × (Int × (Int × (Int × (Int × (Int × (Int × (Int × (Bool × (Int × (Int × (Int × (Int × (Int × Unit)))))))))))))))) : fnTr Try.prog cod [clRule, GS.pf delRule, FS.pf eqRule, FS.pf ruNet, FS.pf ruHas, FS.pf ruBounds, FS.pf ruRight, FS.pf ruCheck] [] 30 31 ruMeets_ap ruMeets_rp x = ruMeets_tree x := by kernel_rfl
def ruMeets_fn (x : (Int × (Int × (Int × (Int × (Int × (Int × (Int × (Int × (Int × (Bool × (Int × (Int × (Int × (Int × (Int × Unit)))))))))))))))) : Option (Bool × Unit) := (ruMeets_tree x).eval
def ruMeets : FS Try.prog := ⟨31, ruMeets_ap, ruMeets_rp, ruMeets_fn, fun x r h => fnTr_sound (cod := cod) (Γ := [clRule, GS.pf delRule, FS.pf eqRule, FS.pf ruNet, FS.pf ruHas, FS.pf ruBounds, FS.pf ruRight, FS.pf ruCheck]) (Λs := []) (n := 30) ((congrArg Tr.eval (ruMeets_eq x)).trans h)⟩
def ruDecide_L29_2 : LS := ⟨2, [(1000200, 1000200)], ⟨19, [(8, .v (.one (.i .i64))), (0, .v (.one (.st 10 false))), (1, .v (.one (.clp 30 [(1000200, 0)]))), (7, .v (.one (.i .i64)))], [(1000200, .cells [.i .u32, .i .u32, .i .i64, .i .i64, .i .i64])]⟩, [⟨none, [(1000200, 1000200)], ⟨19, [(4, .v (.one (.i .i64)))], [(1000200, .cells [.i .u32, .i .u32, .i .i64, .i .i64, .i .i64])]⟩⟩, ⟨some 0, [(1000200, 1000200)], ⟨19, [], [(1000200, .cells [.i .u32, .i .u32, .i .i64, .i .i64, .i .i64])]⟩⟩], []⟩
def ruDecide_step29_2 : (Int × ((List TRule) × (Int × (Int × (Int × (Int × (Int × (Int × Unit)))))))) → Tr ((Int × ((List TRule) × (Int × (Int × (Int × (Int × (Int × (Int × Unit)))))))) ⊕ ((Int × (Int × (Int × (Int × (Int × (Int × Unit)))))) ⊕ (Int × (Int × (Int × (Int × (Int × Unit))))))) :=
  fun (a0, a1, a2, a3, a4, a5, a6, a7, _) =>
  .ite (decide (a0 < a2)) (
   .grd (decide ((0 : Int) ≤ a0)) (
   .opt (β := TRule) (a1[Int.toNat a0]?) (fun r0 =>
   .opt (β := (Bool × Unit)) ((ruMeets_fn (r0.fromAddr, (r0.fromLong, (r0.toAddr, (r0.toLong, (r0.proto, (r0.fromLow, (r0.fromHigh, (r0.toLow, (r0.toHigh, (r0.pass, (a3, (a4, (a5, (a6, (a7, ()))))))))))))))))) (fun r1 =>
   .ite (r1.1) (
    .ret (Sum.inr (Sum.inl (a0, (a3, (a4, (a5, (a6, (a7, ()))))))))) (
    .ret (Sum.inl (IntKind.wrap IntKind.i64 (a0 + (1 : Int)), (a1, (a2, (a3, (a4, (a5, (a6, (a7, ())))))))))))))) (
   .ret (Sum.inr (Sum.inr (a3, (a4, (a5, (a6, (a7, ()))))))))
def ruDecide_loop29_2 (x : (Int × ((List TRule) × (Int × (Int × (Int × (Int × (Int × (Int × Unit))))))))) : Option ((Int × (Int × (Int × (Int × (Int × (Int × Unit)))))) ⊕ (Int × (Int × (Int × (Int × (Int × Unit)))))) := loopO 290002 (fun x => (ruDecide_step29_2 x).eval) 18446744073709551616 x
def ruDecide_ap : List VP1 := [.one (.st 10 false), .agg [.i .u32, .i .u32, .i .i64, .i .i64, .i .i64], .one (.b)]
def ruDecide_rp : SP := ⟨1, [(0, .tup [.one (.b), .one (.i .i64), .one (.i .i64)])], []⟩
def ruDecide_tree : ((List TRule) × (Int × (Int × (Int × (Int × (Int × (Bool × Unit))))))) → Tr (Bool × (Int × (Int × Unit))) :=
  fun (a0, a1, a2, a3, a4, a5, a6, _) =>
  .opt (β := (Int × Unit)) ((ruCheck_fn (a0, ()))) (fun r0 =>
  .ite (!decide (r0.1 = (0 : Int))) (
   .ret (false, ((0 : Int), (r0.1, ())))) (
   .ite (decide (a3 < (0 : Int))) (
    .ret (false, ((0 : Int), ((1 : Int), ())))) (
    .ite (decide ((255 : Int) < a3)) (
     .ret (false, ((0 : Int), ((1 : Int), ())))) (
     .opt (β := (Bool × Unit)) ((ruBounds_fn (a4, (a4, ())))) (fun r1 =>
     .ite (!r1.1) (
      .ret (false, ((0 : Int), ((1 : Int), ())))) (
      .opt (β := (Bool × Unit)) ((ruBounds_fn (a5, (a5, ())))) (fun r2 =>
      .ite (!r2.1) (
       .ret (false, ((0 : Int), ((1 : Int), ())))) (
       .opt (β := ((Int × (Int × (Int × (Int × (Int × (Int × Unit)))))) ⊕ (Int × (Int × (Int × (Int × (Int × Unit))))))) ((ruDecide_loop29_2 ((0 : Int), (a0, ((↑(List.length a0) : Int), (a1, (a2, (a3, (a4, (a5, ())))))))))) (fun r3 =>
       .sum (β := (Int × (Int × (Int × (Int × (Int × (Int × Unit))))))) (γ := (Int × (Int × (Int × (Int × (Int × Unit)))))) (r3) (fun r4 =>
        .ite (decide (r4.1 < (0 : Int))) (
         .ret (a6, (r4.1, ((0 : Int), ())))) (
         .grd (decide ((0 : Int) ≤ r4.1)) (
         .opt (β := TRule) (a0[Int.toNat r4.1]?) (fun r5 =>
         .ret (r5.pass, (r4.1, ((0 : Int), ()))))))) (fun r4 =>
        .ite (true) (
         .ret (a6, ((-1 : Int), ((0 : Int), ())))) (
         .grd (false) (
         .opt (β := TRule) (a0[(0 : Nat)]?) (fun r5 =>
         .ret (r5.pass, ((-1 : Int), ((0 : Int), ()))))))))))))))))
theorem ruDecide_eq (x : ((List TRule) × (Int × (Int × (Int × (Int × (Int × (Bool × Unit)))))))) : fnTr Try.prog cod [clRule, GS.pf delRule, FS.pf eqRule, FS.pf ruNet, FS.pf ruHas, FS.pf ruBounds, FS.pf ruRight, FS.pf ruCheck, FS.pf ruMeets] [(29, ruDecide_L29_2)] 30 13 ruDecide_ap ruDecide_rp x = ruDecide_tree x := by kernel_rfl
def ruDecide_fn (x : ((List TRule) × (Int × (Int × (Int × (Int × (Int × (Bool × Unit)))))))) : Option (Bool × (Int × (Int × Unit))) := (ruDecide_tree x).eval
def ruDecide : FS Try.prog := ⟨13, ruDecide_ap, ruDecide_rp, ruDecide_fn, fun x r h => fnTr_sound (cod := cod) (Γ := [clRule, GS.pf delRule, FS.pf eqRule, FS.pf ruNet, FS.pf ruHas, FS.pf ruBounds, FS.pf ruRight, FS.pf ruCheck, FS.pf ruMeets]) (Λs := [(29, ruDecide_L29_2)]) (n := 30) ((congrArg Tr.eval (ruDecide_eq x)).trans h)⟩
def ruCovers0_ap : List VP1 := [.agg [.i .u32, .i .i64, .i .u32, .i .i64, .i .i64, .i .i64, .i .i64, .i .i64, .i .i64, .b], .agg [.i .u32, .i .i64, .i .u32, .i .i64, .i .i64, .i .i64, .i .i64, .i .i64, .i .i64, .b]]
def ruCovers0_rp : SP := ⟨1, [(0, .v (.one (.b)))], []⟩
def ruCovers0_tree : (Int × (Int × (Int × (Int × (Int × (Int × (Int × (Int × (Int × (Bool × (Int × (Int × (Int × (Int × (Int × (Int × (Int × (Int × (Int × (Bool × Unit)))))))))))))))))))) → Tr (Bool × Unit) :=
  fun (a0, a1, a2, a3, a4, a5, a6, a7, a8, a9, a10, a11, a12, a13, a14, a15, a16, a17, a18, a19, _) =>
  .ite (decide (a1 ≤ a11)) (
   .opt (β := (Bool × Unit)) ((ruHas_fn (a0, (a1, (a10, ()))))) (fun r0 =>
   .ite (r0.1) (
    .ite (decide (a3 ≤ a13)) (
     .opt (β := (Bool × Unit)) ((ruHas_fn (a2, (a3, (a12, ()))))) (fun r1 =>
     .ite (r1.1) (
      .ite (decide (a4 = (0 : Int))) (
       .ite (decide (a5 ≤ a15)) (
        .ite (decide (a16 ≤ a6)) (
         .ite (decide (a7 ≤ a17)) (
          .ret (decide (a18 ≤ a8), ())) (
          .ret (false, ()))) (
         .ret (false, ()))) (
        .ret (false, ()))) (
       .ite (decide (a4 = a14)) (
        .ite (decide (a5 ≤ a15)) (
         .ite (decide (a16 ≤ a6)) (
          .ite (decide (a7 ≤ a17)) (
           .ret (decide (a18 ≤ a8), ())) (
           .ret (false, ()))) (
          .ret (false, ()))) (
         .ret (false, ()))) (
        .ret (false, ())))) (
      .ret (false, ())))) (
     .ite (false) (
      .ite (decide (a4 = (0 : Int))) (
       .ite (decide (a5 ≤ a15)) (
        .ite (decide (a16 ≤ a6)) (
         .ite (decide (a7 ≤ a17)) (
          .ret (decide (a18 ≤ a8), ())) (
          .ret (false, ()))) (
         .ret (false, ()))) (
        .ret (false, ()))) (
       .ite (decide (a4 = a14)) (
        .ite (decide (a5 ≤ a15)) (
         .ite (decide (a16 ≤ a6)) (
          .ite (decide (a7 ≤ a17)) (
           .ret (decide (a18 ≤ a8), ())) (
           .ret (false, ()))) (
          .ret (false, ()))) (
         .ret (false, ()))) (
        .ret (false, ())))) (
      .ret (false, ())))) (
    .ret (false, ())))) (
   .ite (false) (
    .ite (decide (a3 ≤ a13)) (
     .opt (β := (Bool × Unit)) ((ruHas_fn (a2, (a3, (a12, ()))))) (fun r0 =>
     .ite (r0.1) (
      .ite (decide (a4 = (0 : Int))) (
       .ite (decide (a5 ≤ a15)) (
        .ite (decide (a16 ≤ a6)) (
         .ite (decide (a7 ≤ a17)) (
          .ret (decide (a18 ≤ a8), ())) (
          .ret (false, ()))) (
         .ret (false, ()))) (
        .ret (false, ()))) (
       .ite (decide (a4 = a14)) (
        .ite (decide (a5 ≤ a15)) (
         .ite (decide (a16 ≤ a6)) (
          .ite (decide (a7 ≤ a17)) (
           .ret (decide (a18 ≤ a8), ())) (
           .ret (false, ()))) (
          .ret (false, ()))) (
         .ret (false, ()))) (
        .ret (false, ())))) (
      .ret (false, ())))) (
     .ite (false) (
      .ite (decide (a4 = (0 : Int))) (
       .ite (decide (a5 ≤ a15)) (
        .ite (decide (a16 ≤ a6)) (
         .ite (decide (a7 ≤ a17)) (
          .ret (decide (a18 ≤ a8), ())) (
          .ret (false, ()))) (
         .ret (false, ()))) (
        .ret (false, ()))) (
       .ite (decide (a4 = a14)) (
        .ite (decide (a5 ≤ a15)) (
         .ite (decide (a16 ≤ a6)) (
          .ite (decide (a7 ≤ a17)) (
           .ret (decide (a18 ≤ a8), ())) (
           .ret (false, ()))) (
          .ret (false, ()))) (
         .ret (false, ()))) (
        .ret (false, ())))) (
      .ret (false, ())))) (
    .ret (false, ())))
theorem ruCovers0_eq (x : (Int × (Int × (Int × (Int × (Int × (Int × (Int × (Int × (Int × (Bool × (Int × (Int × (Int × (Int × (Int × (Int × (Int × (Int × (Int × (Bool × Unit))))))))))))))))))))) : fnTr Try.prog cod [clRule, GS.pf delRule, FS.pf eqRule, FS.pf ruNet, FS.pf ruHas, FS.pf ruBounds, FS.pf ruRight, FS.pf ruCheck, FS.pf ruMeets, FS.pf ruDecide] [] 30 32 ruCovers0_ap ruCovers0_rp x = ruCovers0_tree x := by kernel_rfl
def ruCovers0_fn (x : (Int × (Int × (Int × (Int × (Int × (Int × (Int × (Int × (Int × (Bool × (Int × (Int × (Int × (Int × (Int × (Int × (Int × (Int × (Int × (Bool × Unit))))))))))))))))))))) : Option (Bool × Unit) := (ruCovers0_tree x).eval
def ruCovers0 : FS Try.prog := ⟨32, ruCovers0_ap, ruCovers0_rp, ruCovers0_fn, fun x r h => fnTr_sound (cod := cod) (Γ := [clRule, GS.pf delRule, FS.pf eqRule, FS.pf ruNet, FS.pf ruHas, FS.pf ruBounds, FS.pf ruRight, FS.pf ruCheck, FS.pf ruMeets, FS.pf ruDecide]) (Λs := []) (n := 30) ((congrArg Tr.eval (ruCovers0_eq x)).trans h)⟩
def ruCovers_ap : List VP1 := [.agg [.i .u32, .i .i64, .i .u32, .i .i64, .i .i64, .i .i64, .i .i64, .i .i64, .i .i64, .b], .agg [.i .u32, .i .i64, .i .u32, .i .i64, .i .i64, .i .i64, .i .i64, .i .i64, .i .i64, .b]]
def ruCovers_rp : SP := ⟨1, [(0, .tup [.one (.b), .one (.i .i64)])], []⟩
def ruCovers_tree : (Int × (Int × (Int × (Int × (Int × (Int × (Int × (Int × (Int × (Bool × (Int × (Int × (Int × (Int × (Int × (Int × (Int × (Int × (Int × (Bool × Unit)))))))))))))))))))) → Tr (Bool × (Int × Unit)) :=
  fun (a0, a1, a2, a3, a4, a5, a6, a7, a8, a9, a10, a11, a12, a13, a14, a15, a16, a17, a18, a19, _) =>
  .opt (β := (Int × Unit)) ((ruCheck_fn ([TRule.mk a0 a1 a2 a3 a4 a5 a6 a7 a8 a9, TRule.mk a10 a11 a12 a13 a14 a15 a16 a17 a18 a19], ()))) (fun r0 =>
  .ite (!decide (r0.1 = (0 : Int))) (
   .ret (false, (r0.1, ()))) (
   .opt (β := (Bool × Unit)) ((ruCovers0_fn (a0, (a1, (a2, (a3, (a4, (a5, (a6, (a7, (a8, (a9, (a10, (a11, (a12, (a13, (a14, (a15, (a16, (a17, (a18, (a19, ())))))))))))))))))))))) (fun r1 =>
   .ret (r1.1, ((0 : Int), ())))))
theorem ruCovers_eq (x : (Int × (Int × (Int × (Int × (Int × (Int × (Int × (Int × (Int × (Bool × (Int × (Int × (Int × (Int × (Int × (Int × (Int × (Int × (Int × (Bool × Unit))))))))))))))))))))) : fnTr Try.prog cod [clRule, GS.pf delRule, FS.pf eqRule, FS.pf ruNet, FS.pf ruHas, FS.pf ruBounds, FS.pf ruRight, FS.pf ruCheck, FS.pf ruMeets, FS.pf ruDecide, FS.pf ruCovers0] [] 30 14 ruCovers_ap ruCovers_rp x = ruCovers_tree x := by kernel_rfl
def ruCovers_fn (x : (Int × (Int × (Int × (Int × (Int × (Int × (Int × (Int × (Int × (Bool × (Int × (Int × (Int × (Int × (Int × (Int × (Int × (Int × (Int × (Bool × Unit))))))))))))))))))))) : Option (Bool × (Int × Unit)) := (ruCovers_tree x).eval
def ruCovers : FS Try.prog := ⟨14, ruCovers_ap, ruCovers_rp, ruCovers_fn, fun x r h => fnTr_sound (cod := cod) (Γ := [clRule, GS.pf delRule, FS.pf eqRule, FS.pf ruNet, FS.pf ruHas, FS.pf ruBounds, FS.pf ruRight, FS.pf ruCheck, FS.pf ruMeets, FS.pf ruDecide, FS.pf ruCovers0]) (Λs := []) (n := 30) ((congrArg Tr.eval (ruCovers_eq x)).trans h)⟩
def ruSlim_L29_2 : LS := ⟨2, [(1000200, 1000200)], ⟨19, [(8, .v (.one (.i .i64))), (0, .v (.one (.st 10 false))), (1, .v (.one (.clp 37 [(1000200, 0)]))), (7, .v (.one (.i .i64)))], [(1000200, .cells [.i .u32, .i .i64, .i .u32, .i .i64, .i .i64, .i .i64, .i .i64, .i .i64, .i .i64, .b])]⟩, [⟨none, [(1000200, 1000200)], ⟨19, [(4, .v (.one (.i .i64)))], [(1000200, .cells [.i .u32, .i .i64, .i .u32, .i .i64, .i .i64, .i .i64, .i .i64, .i .i64, .i .i64, .b])]⟩⟩, ⟨some 0, [(1000200, 1000200)], ⟨19, [], [(1000200, .cells [.i .u32, .i .i64, .i .u32, .i .i64, .i .i64, .i .i64, .i .i64, .i .i64, .i .i64, .b])]⟩⟩], []⟩
def ruSlim_step29_2 : (Int × ((List TRule) × (Int × (Int × (Int × (Int × (Int × (Int × (Int × (Int × (Int × (Int × (Bool × Unit))))))))))))) → Tr ((Int × ((List TRule) × (Int × (Int × (Int × (Int × (Int × (Int × (Int × (Int × (Int × (Int × (Bool × Unit))))))))))))) ⊕ ((Int × (Int × (Int × (Int × (Int × (Int × (Int × (Int × (Int × (Int × (Bool × Unit))))))))))) ⊕ (Int × (Int × (Int × (Int × (Int × (Int × (Int × (Int × (Int × (Bool × Unit)))))))))))) :=
  fun (a0, a1, a2, a3, a4, a5, a6, a7, a8, a9, a10, a11, a12, _) =>
  .ite (decide (a0 < a2)) (
   .grd (decide ((0 : Int) ≤ a0)) (
   .opt (β := TRule) (a1[Int.toNat a0]?) (fun r0 =>
   .opt (β := (Bool × Unit)) ((ruCovers0_fn (r0.fromAddr, (r0.fromLong, (r0.toAddr, (r0.toLong, (r0.proto, (r0.fromLow, (r0.fromHigh, (r0.toLow, (r0.toHigh, (r0.pass, (a3, (a4, (a5, (a6, (a7, (a8, (a9, (a10, (a11, (a12, ())))))))))))))))))))))) (fun r1 =>
   .ite (r1.1) (
    .ret (Sum.inr (Sum.inl (a0, (a3, (a4, (a5, (a6, (a7, (a8, (a9, (a10, (a11, (a12, ())))))))))))))) (
    .ret (Sum.inl (IntKind.wrap IntKind.i64 (a0 + (1 : Int)), (a1, (a2, (a3, (a4, (a5, (a6, (a7, (a8, (a9, (a10, (a11, (a12, ()))))))))))))))))))) (
   .ret (Sum.inr (Sum.inr (a3, (a4, (a5, (a6, (a7, (a8, (a9, (a10, (a11, (a12, ())))))))))))))
def ruSlim_loop29_2 (x : (Int × ((List TRule) × (Int × (Int × (Int × (Int × (Int × (Int × (Int × (Int × (Int × (Int × (Bool × Unit)))))))))))))) : Option ((Int × (Int × (Int × (Int × (Int × (Int × (Int × (Int × (Int × (Int × (Bool × Unit))))))))))) ⊕ (Int × (Int × (Int × (Int × (Int × (Int × (Int × (Int × (Int × (Bool × Unit))))))))))) := loopO 290002 (fun x => (ruSlim_step29_2 x).eval) 18446744073709551616 x
def ruSlim_L20_6 : LS := ⟨6, [(5, 5)], ⟨29, [(15, .v (.one (.i .i64))), (5, .v (.one (.own 5))), (13, .v (.one (.st 10 false))), (14, .v (.one (.i .i64)))], [(5, .row 30 10 true true)]⟩, [⟨some 0, [(5, 5)], ⟨29, [(5, .v (.one (.own 5)))], [(5, .row 30 10 true true)]⟩⟩], [(5, 30, 10)]⟩
def ruSlim_step20_6 : (Int × ((List TRule) × (Int × ((List TRule) × Unit)))) → Tr ((Int × ((List TRule) × (Int × ((List TRule) × Unit)))) ⊕ ((List TRule) × Unit)) :=
  fun (a0, a1, a2, a3, _) =>
  .ite (decide (a0 < a2)) (
   .grd (decide ((0 : Int) ≤ a0)) (
   .opt (β := TRule) (a1[Int.toNat a0]?) (fun r0 =>
   .opt (β := ((Int × (Int × (Int × (Int × (Int × (Int × (Int × (Int × (Int × (Int × (Bool × Unit))))))))))) ⊕ (Int × (Int × (Int × (Int × (Int × (Int × (Int × (Int × (Int × (Bool × Unit)))))))))))) ((ruSlim_loop29_2 ((0 : Int), (a3, ((↑(List.length a3) : Int), (r0.fromAddr, (r0.fromLong, (r0.toAddr, (r0.toLong, (r0.proto, (r0.fromLow, (r0.fromHigh, (r0.toLow, (r0.toHigh, (r0.pass, ()))))))))))))))) (fun r1 =>
   .sum (β := (Int × (Int × (Int × (Int × (Int × (Int × (Int × (Int × (Int × (Int × (Bool × Unit)))))))))))) (γ := (Int × (Int × (Int × (Int × (Int × (Int × (Int × (Int × (Int × (Bool × Unit))))))))))) (r1) (fun r2 =>
    .ite (!decide ((0 : Int) ≤ r2.1)) (
     .grd (decide ((List.length a3 + List.length [TRule.mk r2.2.1 r2.2.2.1 r2.2.2.2.1 r2.2.2.2.2.1 r2.2.2.2.2.2.1 r2.2.2.2.2.2.2.1 r2.2.2.2.2.2.2.2.1 r2.2.2.2.2.2.2.2.2.1 r2.2.2.2.2.2.2.2.2.2.1 r2.2.2.2.2.2.2.2.2.2.2.1]) * (80 : Nat) ≤ (140737488355328 : Nat) ∧ List.length a3 + List.length [TRule.mk r2.2.1 r2.2.2.1 r2.2.2.2.1 r2.2.2.2.2.1 r2.2.2.2.2.2.1 r2.2.2.2.2.2.2.1 r2.2.2.2.2.2.2.2.1 r2.2.2.2.2.2.2.2.2.1 r2.2.2.2.2.2.2.2.2.2.1 r2.2.2.2.2.2.2.2.2.2.2.1] ≤ (9223372036854775807 : Nat))) (
     .grd (decide (List.length (a3 ++ [TRule.mk r2.2.1 r2.2.2.1 r2.2.2.2.1 r2.2.2.2.2.1 r2.2.2.2.2.2.1 r2.2.2.2.2.2.2.1 r2.2.2.2.2.2.2.2.1 r2.2.2.2.2.2.2.2.2.1 r2.2.2.2.2.2.2.2.2.2.1 r2.2.2.2.2.2.2.2.2.2.2.1]) = List.length (a3 ++ [TRule.mk r2.2.1 r2.2.2.1 r2.2.2.2.1 r2.2.2.2.2.1 r2.2.2.2.2.2.1 r2.2.2.2.2.2.2.1 r2.2.2.2.2.2.2.2.1 r2.2.2.2.2.2.2.2.2.1 r2.2.2.2.2.2.2.2.2.2.1 r2.2.2.2.2.2.2.2.2.2.2.1]))) (
     .ret (Sum.inl (IntKind.wrap IntKind.i64 (a0 + (1 : Int)), (a1, (a2, (a3 ++ [TRule.mk r2.2.1 r2.2.2.1 r2.2.2.2.1 r2.2.2.2.2.1 r2.2.2.2.2.2.1 r2.2.2.2.2.2.2.1 r2.2.2.2.2.2.2.2.1 r2.2.2.2.2.2.2.2.2.1 r2.2.2.2.2.2.2.2.2.2.1 r2.2.2.2.2.2.2.2.2.2.2.1], ())))))))) (
     .grd (decide (List.length a3 = List.length a3)) (
     .ret (Sum.inl (IntKind.wrap IntKind.i64 (a0 + (1 : Int)), (a1, (a2, (a3, ())))))))) (fun r2 =>
    .ite (true) (
     .grd (decide ((List.length a3 + List.length [TRule.mk r2.1 r2.2.1 r2.2.2.1 r2.2.2.2.1 r2.2.2.2.2.1 r2.2.2.2.2.2.1 r2.2.2.2.2.2.2.1 r2.2.2.2.2.2.2.2.1 r2.2.2.2.2.2.2.2.2.1 r2.2.2.2.2.2.2.2.2.2.1]) * (80 : Nat) ≤ (140737488355328 : Nat) ∧ List.length a3 + List.length [TRule.mk r2.1 r2.2.1 r2.2.2.1 r2.2.2.2.1 r2.2.2.2.2.1 r2.2.2.2.2.2.1 r2.2.2.2.2.2.2.1 r2.2.2.2.2.2.2.2.1 r2.2.2.2.2.2.2.2.2.1 r2.2.2.2.2.2.2.2.2.2.1] ≤ (9223372036854775807 : Nat))) (
     .grd (decide (List.length (a3 ++ [TRule.mk r2.1 r2.2.1 r2.2.2.1 r2.2.2.2.1 r2.2.2.2.2.1 r2.2.2.2.2.2.1 r2.2.2.2.2.2.2.1 r2.2.2.2.2.2.2.2.1 r2.2.2.2.2.2.2.2.2.1 r2.2.2.2.2.2.2.2.2.2.1]) = List.length (a3 ++ [TRule.mk r2.1 r2.2.1 r2.2.2.1 r2.2.2.2.1 r2.2.2.2.2.1 r2.2.2.2.2.2.1 r2.2.2.2.2.2.2.1 r2.2.2.2.2.2.2.2.1 r2.2.2.2.2.2.2.2.2.1 r2.2.2.2.2.2.2.2.2.2.1]))) (
     .ret (Sum.inl (IntKind.wrap IntKind.i64 (a0 + (1 : Int)), (a1, (a2, (a3 ++ [TRule.mk r2.1 r2.2.1 r2.2.2.1 r2.2.2.2.1 r2.2.2.2.2.1 r2.2.2.2.2.2.1 r2.2.2.2.2.2.2.1 r2.2.2.2.2.2.2.2.1 r2.2.2.2.2.2.2.2.2.1 r2.2.2.2.2.2.2.2.2.2.1], ())))))))) (
     .grd (decide (List.length a3 = List.length a3)) (
     .ret (Sum.inl (IntKind.wrap IntKind.i64 (a0 + (1 : Int)), (a1, (a2, (a3, ())))))))))))) (
   .grd (decide (List.length a3 = List.length a3)) (
   .ret (Sum.inr (a3, ()))))
def ruSlim_loop20_6 (x : (Int × ((List TRule) × (Int × ((List TRule) × Unit))))) : Option ((List TRule) × Unit) := loopO 200006 (fun x => (ruSlim_step20_6 x).eval) 18446744073709551616 x
def ruSlim_ap : List VP1 := [.one (.st 10 false)]
def ruSlim_rp : SP := ⟨1, [(0, .tup [.one (.st 10 true), .one (.i .i64)])], []⟩
def ruSlim_tree : ((List TRule) × Unit) → Tr ((List TRule) × (Int × Unit)) :=
  fun (a0, _) =>
  .opt (β := (Int × Unit)) ((ruCheck_fn (a0, ()))) (fun r0 =>
  .ite (!decide (r0.1 = (0 : Int))) (
   .ret ([], (r0.1, ()))) (
   .grd (true) (
   .opt (β := ((List TRule) × Unit)) ((ruSlim_loop20_6 ((0 : Int), (a0, ((↑(List.length a0) : Int), ([], ())))))) (fun r1 =>
   .ret (r1.1, ((0 : Int), ()))))))
theorem ruSlim_eq (x : ((List TRule) × Unit)) : fnTr Try.prog cod [clRule, GS.pf delRule, FS.pf eqRule, FS.pf ruNet, FS.pf ruHas, FS.pf ruBounds, FS.pf ruRight, FS.pf ruCheck, FS.pf ruMeets, FS.pf ruDecide, FS.pf ruCovers0, FS.pf ruCovers] [(29, ruSlim_L29_2), (20, ruSlim_L20_6)] 30 20 ruSlim_ap ruSlim_rp x = ruSlim_tree x := by kernel_rfl
def ruSlim_fn (x : ((List TRule) × Unit)) : Option ((List TRule) × (Int × Unit)) := (ruSlim_tree x).eval
def ruSlim : FS Try.prog := ⟨20, ruSlim_ap, ruSlim_rp, ruSlim_fn, fun x r h => fnTr_sound (cod := cod) (Γ := [clRule, GS.pf delRule, FS.pf eqRule, FS.pf ruNet, FS.pf ruHas, FS.pf ruBounds, FS.pf ruRight, FS.pf ruCheck, FS.pf ruMeets, FS.pf ruDecide, FS.pf ruCovers0, FS.pf ruCovers]) (Λs := [(29, ruSlim_L29_2), (20, ruSlim_L20_6)]) (n := 30) ((congrArg Tr.eval (ruSlim_eq x)).trans h)⟩
end Go.Proofs.Ytlbmdkclbmcpdaa.X
