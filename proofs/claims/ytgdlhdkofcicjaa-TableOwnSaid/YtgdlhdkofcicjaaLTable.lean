/- Functions of the program, as trees (printed by a program of mine: tool/XTool, xg.py), each with the proof that the machine comes to what its tree says. Conditions: none. -/
import Derived.Test.YtgdlhdkofcicjaaCod
import Derived.KernelRfl
import Derived.Test.YtgdlhdkofcicjaaGTable
namespace Go.Proofs.Ytgdlhdkofcicjaa.X
open Go Go.RowKit Go.Proofs.Ytgdlhdkofcicjaa.Abs
set_option maxRecDepth 100000
set_option linter.unusedVariables false
def tableLives_ap : List VP1 := []
def tableLives_rp : SP := ⟨1, [(0, .v (.one (.b)))], []⟩
def tableLives_tree : Unit → Tr (Bool × Unit) :=
  fun (_) =>
  .opt (β := ((List TSlot) × (Int × Unit))) ((taNew_fn ((2 : Int), ()))) (fun r0 =>
  .opt (β := ((List TSlot) × (Int × Unit))) ((taPut_fn (r0.1, ((5 : Int), ((7 : Int), ()))))) (fun r1 =>
  .opt (β := (Int × (Int × Unit))) ((taGet_fn (r1.1, ((5 : Int), ())))) (fun r2 =>
  .ite (decide (r0.2.1 = (0 : Int))) (
   .ite (decide (r1.2.1 = (0 : Int))) (
    .ite (decide (r2.2.1 = (0 : Int))) (
     .ite (decide (r2.1 = (7 : Int))) (
      .ret (decide ((↑(List.length r1.1) : Int) = (4 : Int)), ())) (
      .ret (false, ()))) (
     .ret (false, ()))) (
    .ret (false, ()))) (
   .ret (false, ())))))
theorem tableLives_eq (x : Unit) : fnTr Try.prog cod [clSlot, FS.pf eqSlot, FS.pf bitLen, FS.pf taHome, FS.pf taNew, FS.pf taFind, FS.pf taUsed, FS.pf taCheck, FS.pf taGet, FS.pf taPut, FS.pf taRemove] [] 30 24 tableLives_ap tableLives_rp x = tableLives_tree x := by kernel_rfl
def tableLives_fn (x : Unit) : Option (Bool × Unit) := (tableLives_tree x).eval
def tableLives : FS Try.prog := ⟨24, tableLives_ap, tableLives_rp, tableLives_fn, fun x r h => fnTr_sound (cod := cod) (Γ := [clSlot, FS.pf eqSlot, FS.pf bitLen, FS.pf taHome, FS.pf taNew, FS.pf taFind, FS.pf taUsed, FS.pf taCheck, FS.pf taGet, FS.pf taPut, FS.pf taRemove]) (Λs := []) (n := 30) ((congrArg Tr.eval (tableLives_eq x)).trans h)⟩
def bitsOf_L58_2 : LS := ⟨2, [], ⟨15, [(3, .v (.one (.i .i64))), (4, .v (.one (.i .i64))), (0, .v (.one (.i .i64)))], []⟩, [⟨none, [], ⟨15, [(2, .v (.one (.i .i64)))], []⟩⟩, ⟨some 0, [], ⟨15, [], []⟩⟩], []⟩
def bitsOf_step58_2 : (Int × (Int × (Int × Unit))) → Tr ((Int × (Int × (Int × Unit))) ⊕ ((Int × Unit) ⊕ Unit)) :=
  fun (a0, a1, a2, _) =>
  .ite (decide (a0 ≤ (6 : Int))) (
   .ite (decide (a1 = a2)) (
    .ret (Sum.inr (Sum.inl (a0, ())))) (
    .ret (Sum.inl (IntKind.wrap IntKind.i64 (a0 + (1 : Int)), (IntKind.wrap IntKind.i64 ((2 : Int) * a1), (a2, ())))))) (
   .ret (Sum.inr (Sum.inr ())))
def bitsOf_loop58_2 (x : (Int × (Int × (Int × Unit)))) : Option ((Int × Unit) ⊕ Unit) := loopO 580002 (fun x => (bitsOf_step58_2 x).eval) 18446744073709551616 x
def bitsOf_ap : List VP1 := [.one (.i .i64)]
def bitsOf_rp : SP := ⟨1, [(0, .v (.one (.i .i64)))], []⟩
def bitsOf_tree : (Int × Unit) → Tr (Int × Unit) :=
  fun (a0, _) =>
  .opt (β := ((Int × Unit) ⊕ Unit)) ((bitsOf_loop58_2 ((1 : Int), ((2 : Int), (a0, ()))))) (fun r0 =>
  .sum (β := (Int × Unit)) (γ := Unit) (r0) (fun r1 =>
   .ret (r1.1, ())) (fun r1 =>
   .ret ((0 : Int), ())))
theorem bitsOf_eq (x : (Int × Unit)) : fnTr Try.prog cod [clSlot, FS.pf eqSlot, FS.pf bitLen, FS.pf taHome, FS.pf taNew, FS.pf taFind, FS.pf taUsed, FS.pf taCheck, FS.pf taGet, FS.pf taPut, FS.pf taRemove, FS.pf tableLives] [(58, bitsOf_L58_2)] 30 58 bitsOf_ap bitsOf_rp x = bitsOf_tree x := by kernel_rfl
def bitsOf_fn (x : (Int × Unit)) : Option (Int × Unit) := (bitsOf_tree x).eval
def bitsOf : FS Try.prog := ⟨58, bitsOf_ap, bitsOf_rp, bitsOf_fn, fun x r h => fnTr_sound (cod := cod) (Γ := [clSlot, FS.pf eqSlot, FS.pf bitLen, FS.pf taHome, FS.pf taNew, FS.pf taFind, FS.pf taUsed, FS.pf taCheck, FS.pf taGet, FS.pf taPut, FS.pf taRemove, FS.pf tableLives]) (Λs := [(58, bitsOf_L58_2)]) (n := 30) ((congrArg Tr.eval (bitsOf_eq x)).trans h)⟩
def homeOf_L59_4 : LS := ⟨4, [], ⟨31, [(24, .v (.one (.i .i64))), (7, .v (.one (.i .u64))), (23, .v (.one (.i .i64)))], []⟩, [⟨some 0, [], ⟨31, [(7, .v (.one (.i .u64)))], []⟩⟩], []⟩
def homeOf_step59_4 : (Int × (Int × (Int × Unit))) → Tr ((Int × (Int × (Int × Unit))) ⊕ (Int × Unit)) :=
  fun (a0, a1, a2, _) =>
  .ite (decide (a0 < a2)) (
   .grd (true) (
   .ret (Sum.inl (IntKind.wrap IntKind.i64 (a0 + (1 : Int)), (IntKind.wrap IntKind.u64 (Int.tdiv a1 (2 : Int)), (a2, ())))))) (
   .ret (Sum.inr (a1, ())))
def homeOf_loop59_4 (x : (Int × (Int × (Int × Unit)))) : Option (Int × Unit) := loopO 590004 (fun x => (homeOf_step59_4 x).eval) 18446744073709551616 x
def homeOf_ap : List VP1 := [.one (.i .i64), .one (.i .u64)]
def homeOf_rp : SP := ⟨1, [(0, .v (.one (.i .i64)))], []⟩
def homeOf_tree : (Int × (Int × Unit)) → Tr (Int × Unit) :=
  fun (a0, a1, _) =>
  .grd (true) (
  .grd (true) (
  .grd (true) (
  .opt (β := (Int × Unit)) ((homeOf_loop59_4 ((0 : Int), (IntKind.wrap IntKind.u64 (IntKind.wrap IntKind.u64 (Int.tmod (IntKind.wrap IntKind.u64 (IntKind.wrap IntKind.u64 (IntKind.wrap IntKind.u64 (Int.tdiv a1 (4294967296 : Int)) * (2135587861 : Int)) + IntKind.wrap IntKind.u64 (Int.tmod a1 (4294967296 : Int) * (2654435769 : Int)))) (4294967296 : Int) * (4294967296 : Int)) + IntKind.wrap IntKind.u64 (Int.tmod a1 (4294967296 : Int) * (2135587861 : Int))), (IntKind.wrap IntKind.i64 ((64 : Int) - a0), ()))))) (fun r0 =>
  .ret (IntKind.wrap IntKind.i64 r0.1, ())))))
theorem homeOf_eq (x : (Int × (Int × Unit))) : fnTr Try.prog cod [clSlot, FS.pf eqSlot, FS.pf bitLen, FS.pf taHome, FS.pf taNew, FS.pf taFind, FS.pf taUsed, FS.pf taCheck, FS.pf taGet, FS.pf taPut, FS.pf taRemove, FS.pf tableLives, FS.pf bitsOf] [(59, homeOf_L59_4)] 30 59 homeOf_ap homeOf_rp x = homeOf_tree x := by kernel_rfl
def homeOf_fn (x : (Int × (Int × Unit))) : Option (Int × Unit) := (homeOf_tree x).eval
def homeOf : FS Try.prog := ⟨59, homeOf_ap, homeOf_rp, homeOf_fn, fun x r h => fnTr_sound (cod := cod) (Γ := [clSlot, FS.pf eqSlot, FS.pf bitLen, FS.pf taHome, FS.pf taNew, FS.pf taFind, FS.pf taUsed, FS.pf taCheck, FS.pf taGet, FS.pf taPut, FS.pf taRemove, FS.pf tableLives, FS.pf bitsOf]) (Λs := [(59, homeOf_L59_4)]) (n := 30) ((congrArg Tr.eval (homeOf_eq x)).trans h)⟩
def tableRight_L28_19 : LS := ⟨19, [(7, 7), (1, 1)], ⟨94, [(71, .v (.one (.i .i64))), (7, .v (.one (.ptr 7 0))), (6, .v (.one (.i .i64))), (69, .v (.one (.st 7 false))), (5, .v (.one (.i .i64))), (3, .v (.one (.i .i64))), (1, .v (.one (.ptr 1 0))), (4, .v (.one (.i .i64))), (19, .v (.one (.st 7 false))), (20, .v (.one (.i .i64))), (21, .v (.one (.i .i64))), (70, .v (.one (.i .i64)))], [(7, .cells [.b, .i .u64, .i .i64]), (1, .cells [.st 7 false])]⟩, [⟨none, [], ⟨94, [(2, .v (.one (.i .i64)))], []⟩⟩, ⟨some 4, [(1, 1)], ⟨94, [(5, .v (.one (.i .i64))), (3, .v (.one (.i .i64))), (1, .v (.one (.ptr 1 0))), (4, .v (.one (.i .i64))), (19, .v (.one (.st 7 false))), (20, .v (.one (.i .i64))), (21, .v (.one (.i .i64)))], [(1, .cells [.st 7 false])]⟩⟩], []⟩
def tableRight_step28_19 : (Int × (Int × ((List TSlot) × (Int × (Int × (Int × ((List TSlot) × (Int × (Int × (Int × (Bool × (Int × (Int × ((List TSlot) × Unit)))))))))))))) → Tr ((Int × (Int × ((List TSlot) × (Int × (Int × (Int × ((List TSlot) × (Int × (Int × (Int × (Bool × (Int × (Int × ((List TSlot) × Unit)))))))))))))) ⊕ ((Int × Unit) ⊕ (Int × (Int × (Int × ((List TSlot) × (Int × (Int × ((List TSlot) × Unit))))))))) :=
  fun (a0, a1, a2, a3, a4, a5, a6, a7, a8, a9, a10, a11, a12, a13, _) =>
  .ite (decide (a0 < a9)) (
   .grd (decide ((0 : Int) ≤ a0)) (
   .opt (β := TSlot) (a2[Int.toNat a0]?) (fun r0 =>
   .ite (!decide (a0 = a1)) (
    .ite (r0.used) (
     .ite (decide (r0.key = a11)) (
      .ret (Sum.inr (Sum.inl ((4 : Int), ())))) (
      .ret (Sum.inl (IntKind.wrap IntKind.i64 (a0 + (1 : Int)), (a1, (a2, (a3, (a4, (a5, (a6, (a7, (a8, (a9, (a10, (a11, (a12, (a13, ()))))))))))))))))) (
     .ret (Sum.inl (IntKind.wrap IntKind.i64 (a0 + (1 : Int)), (a1, (a2, (a3, (a4, (a5, (a6, (a7, (a8, (a9, (a10, (a11, (a12, (a13, ()))))))))))))))))) (
    .ret (Sum.inl (IntKind.wrap IntKind.i64 (a0 + (1 : Int)), (a1, (a2, (a3, (a4, (a5, (a6, (a7, (a8, (a9, (a10, (a11, (a12, (a13, ()))))))))))))))))))) (
   .ret (Sum.inr (Sum.inr (a3, (a4, (a5, (a6, (a7, (a8, (a13, ()))))))))))
def tableRight_loop28_19 (x : (Int × (Int × ((List TSlot) × (Int × (Int × (Int × ((List TSlot) × (Int × (Int × (Int × (Bool × (Int × (Int × ((List TSlot) × Unit))))))))))))))) : Option ((Int × Unit) ⊕ (Int × (Int × (Int × ((List TSlot) × (Int × (Int × ((List TSlot) × Unit)))))))) := loopO 280019 (fun x => (tableRight_step28_19 x).eval) 18446744073709551616 x
def tableRight_L28_14 : LS := ⟨14, [(7, 7), (1, 1)], ⟨94, [(3, .v (.one (.i .i64))), (8, .v (.one (.i .i64))), (7, .v (.one (.ptr 7 0))), (1, .v (.one (.ptr 1 0))), (6, .v (.one (.i .i64))), (5, .v (.one (.i .i64))), (4, .v (.one (.i .i64))), (19, .v (.one (.st 7 false))), (20, .v (.one (.i .i64))), (21, .v (.one (.i .i64)))], [(7, .cells [.b, .i .u64, .i .i64]), (1, .cells [.st 7 false])]⟩, [⟨none, [], ⟨94, [(2, .v (.one (.i .i64)))], []⟩⟩, ⟨some 2, [(7, 7), (1, 1)], ⟨94, [(7, .v (.one (.ptr 7 0))), (6, .v (.one (.i .i64))), (5, .v (.one (.i .i64))), (3, .v (.one (.i .i64))), (1, .v (.one (.ptr 1 0))), (4, .v (.one (.i .i64))), (19, .v (.one (.st 7 false))), (20, .v (.one (.i .i64))), (21, .v (.one (.i .i64)))], [(7, .cells [.b, .i .u64, .i .i64]), (1, .cells [.st 7 false])]⟩⟩], []⟩
def tableRight_step28_14 : (Int × (Int × (Int × (Int × (Int × ((List TSlot) × (Int × (Int × (Bool × (Int × (Int × ((List TSlot) × Unit)))))))))))) → Tr ((Int × (Int × (Int × (Int × (Int × ((List TSlot) × (Int × (Int × (Bool × (Int × (Int × ((List TSlot) × Unit)))))))))))) ⊕ ((Int × Unit) ⊕ (Int × (Int × (Int × (Int × ((List TSlot) × (Int × (Int × (Bool × (Int × (Int × ((List TSlot) × Unit))))))))))))) :=
  fun (a0, a1, a2, a3, a4, a5, a6, a7, a8, a9, a10, a11, _) =>
  .ite (!decide (a1 = a2)) (
   .grd (decide ((0 : Int) ≤ a1)) (
   .opt (β := TSlot) (a11[Int.toNat a1]?) (fun r0 =>
   .ite (!r0.used) (
    .ret (Sum.inr (Sum.inl ((4 : Int), ())))) (
    .grd (decide ((0 : Int) ≤ a1)) (
    .opt (β := TSlot) (a11[Int.toNat a1]?) (fun r1 =>
    .ite (decide (r1.key = a9)) (
     .ret (Sum.inr (Sum.inl ((4 : Int), ())))) (
     .grd (decide (a0 ≠ (0 : Int))) (
     .ret (Sum.inl (a0, (Int.tmod (IntKind.wrap IntKind.i64 (a1 + (1 : Int))) a0, (a2, (a3, (a4, (a5, (a6, (a7, (a8, (a9, (a10, (a11, ()))))))))))))))))))))) (
   .ret (Sum.inr (Sum.inr (a2, (a3, (a0, (a4, (a5, (a6, (a7, (a8, (a9, (a10, (a11, ()))))))))))))))
def tableRight_loop28_14 (x : (Int × (Int × (Int × (Int × (Int × ((List TSlot) × (Int × (Int × (Bool × (Int × (Int × ((List TSlot) × Unit))))))))))))) : Option ((Int × Unit) ⊕ (Int × (Int × (Int × (Int × ((List TSlot) × (Int × (Int × (Bool × (Int × (Int × ((List TSlot) × Unit)))))))))))) := loopO 280014 (fun x => (tableRight_step28_14 x).eval) 18446744073709551616 x
def tableRight_L28_7 : LS := ⟨7, [(1, 1)], ⟨94, [(21, .v (.one (.i .i64))), (5, .v (.one (.i .i64))), (3, .v (.one (.i .i64))), (1, .v (.one (.ptr 1 0))), (4, .v (.one (.i .i64))), (19, .v (.one (.st 7 false))), (20, .v (.one (.i .i64)))], [(1, .cells [.st 7 false])]⟩, [⟨none, [], ⟨94, [(2, .v (.one (.i .i64)))], []⟩⟩, ⟨some 0, [], ⟨94, [(5, .v (.one (.i .i64)))], []⟩⟩], []⟩
def tableRight_step28_7 : (Int × (Int × (Int × (Int × ((List TSlot) × (Int × ((List TSlot) × Unit))))))) → Tr ((Int × (Int × (Int × (Int × ((List TSlot) × (Int × ((List TSlot) × Unit))))))) ⊕ ((Int × Unit) ⊕ (Int × Unit))) :=
  fun (a0, a1, a2, a3, a4, a5, a6, _) =>
  .ite (decide (a0 < a5)) (
   .grd (decide ((0 : Int) ≤ a0)) (
   .opt (β := TSlot) (a4[Int.toNat a0]?) (fun r0 =>
   .ite (!r0.used) (
    .ite (!decide (r0.key = (0 : Int))) (
     .ret (Sum.inr (Sum.inl ((4 : Int), ())))) (
     .ite (!decide (r0.value = (0 : Int))) (
      .ret (Sum.inr (Sum.inl ((4 : Int), ())))) (
      .ret (Sum.inl (IntKind.wrap IntKind.i64 (a0 + (1 : Int)), (IntKind.wrap IntKind.i64 (a1 + (1 : Int)), (a2, (a3, (a4, (a5, (a6, ()))))))))))) (
    .opt (β := (Int × Unit)) ((homeOf_fn (a3, (r0.key, ())))) (fun r1 =>
    .opt (β := ((Int × Unit) ⊕ (Int × (Int × (Int × (Int × ((List TSlot) × (Int × (Int × (Bool × (Int × (Int × ((List TSlot) × Unit))))))))))))) ((tableRight_loop28_14 (a2, (r1.1, (a0, (a1, (a3, (a4, (a5, (a0, (r0.used, (r0.key, (r0.value, (a6, ())))))))))))))) (fun r2 =>
    .sum (β := (Int × Unit)) (γ := (Int × (Int × (Int × (Int × ((List TSlot) × (Int × (Int × (Bool × (Int × (Int × ((List TSlot) × Unit)))))))))))) (r2) (fun r3 =>
     .ret (Sum.inr (Sum.inl (r3.1, ())))) (fun r3 =>
     .opt (β := ((Int × Unit) ⊕ (Int × (Int × (Int × ((List TSlot) × (Int × (Int × ((List TSlot) × Unit))))))))) ((tableRight_loop28_19 ((0 : Int), (r3.1, (r3.2.2.2.2.2.2.2.2.2.2.1, (r3.2.1, (r3.2.2.1, (r3.2.2.2.1, (r3.2.2.2.2.1, (r3.2.2.2.2.2.1, (r3.2.2.2.2.2.2.1, ((↑(List.length r3.2.2.2.2.2.2.2.2.2.2.1) : Int), (r3.2.2.2.2.2.2.2.1, (r3.2.2.2.2.2.2.2.2.1, (r3.2.2.2.2.2.2.2.2.2.1, (r3.2.2.2.2.2.2.2.2.2.2.1, ())))))))))))))))) (fun r4 =>
     .sum (β := (Int × Unit)) (γ := (Int × (Int × (Int × ((List TSlot) × (Int × (Int × ((List TSlot) × Unit)))))))) (r4) (fun r5 =>
      .ret (Sum.inr (Sum.inl (r5.1, ())))) (fun r5 =>
      .ret (Sum.inl (IntKind.wrap IntKind.i64 (r5.2.2.2.2.2.1 + (1 : Int)), (r5.1, (r5.2.1, (r5.2.2.1, (r5.2.2.2.1, (r5.2.2.2.2.1, (r5.2.2.2.2.2.2.1, ()))))))))))))))))) (
   .ret (Sum.inr (Sum.inr (a1, ()))))
def tableRight_loop28_7 (x : (Int × (Int × (Int × (Int × ((List TSlot) × (Int × ((List TSlot) × Unit)))))))) : Option ((Int × Unit) ⊕ (Int × Unit)) := loopO 280007 (fun x => (tableRight_step28_7 x).eval) 18446744073709551616 x
def tableRight_ap : List VP1 := [.agg [.st 7 false]]
def tableRight_rp : SP := ⟨1, [(0, .v (.one (.i .i64)))], []⟩
def tableRight_tree : ((List TSlot) × Unit) → Tr (Int × Unit) :=
  fun (a0, _) =>
  .opt (β := (Int × Unit)) ((bitsOf_fn ((↑(List.length a0) : Int), ()))) (fun r0 =>
  .ite (decide (r0.1 = (0 : Int))) (
   .ret ((1 : Int), ())) (
   .opt (β := ((Int × Unit) ⊕ (Int × Unit))) ((tableRight_loop28_7 ((0 : Int), ((0 : Int), ((↑(List.length a0) : Int), (r0.1, (a0, ((↑(List.length a0) : Int), (a0, ()))))))))) (fun r1 =>
   .sum (β := (Int × Unit)) (γ := (Int × Unit)) (r1) (fun r2 =>
    .ret (r2.1, ())) (fun r2 =>
    .ite (decide (r2.1 = (0 : Int))) (
     .ret ((4 : Int), ())) (
     .ret ((0 : Int), ()))))))
theorem tableRight_eq (x : ((List TSlot) × Unit)) : fnTr Try.prog cod [clSlot, FS.pf eqSlot, FS.pf bitLen, FS.pf taHome, FS.pf taNew, FS.pf taFind, FS.pf taUsed, FS.pf taCheck, FS.pf taGet, FS.pf taPut, FS.pf taRemove, FS.pf tableLives, FS.pf bitsOf, FS.pf homeOf] [(28, tableRight_L28_19), (28, tableRight_L28_14), (28, tableRight_L28_7)] 30 28 tableRight_ap tableRight_rp x = tableRight_tree x := by kernel_rfl
def tableRight_fn (x : ((List TSlot) × Unit)) : Option (Int × Unit) := (tableRight_tree x).eval
def tableRight : FS Try.prog := ⟨28, tableRight_ap, tableRight_rp, tableRight_fn, fun x r h => fnTr_sound (cod := cod) (Γ := [clSlot, FS.pf eqSlot, FS.pf bitLen, FS.pf taHome, FS.pf taNew, FS.pf taFind, FS.pf taUsed, FS.pf taCheck, FS.pf taGet, FS.pf taPut, FS.pf taRemove, FS.pf tableLives, FS.pf bitsOf, FS.pf homeOf]) (Λs := [(28, tableRight_L28_19), (28, tableRight_L28_14), (28, tableRight_L28_7)]) (n := 30) ((congrArg Tr.eval (tableRight_eq x)).trans h)⟩
def sameTable_ap : List VP1 := [.agg [.st 7 false], .agg [.st 7 false]]
def sameTable_rp : SP := ⟨1, [(0, .v (.one (.b)))], []⟩
def sameTable_tree : ((List TSlot) × ((List TSlot) × Unit)) → Tr (Bool × Unit) :=
  fun (a0, a1, _) =>
  .opt (β := (Bool × Unit)) ((eqSlot_fn (a0, (a1, ())))) (fun r0 =>
  .ret (r0.1, ()))
theorem sameTable_eq (x : ((List TSlot) × ((List TSlot) × Unit))) : fnTr Try.prog cod [clSlot, FS.pf eqSlot, FS.pf bitLen, FS.pf taHome, FS.pf taNew, FS.pf taFind, FS.pf taUsed, FS.pf taCheck, FS.pf taGet, FS.pf taPut, FS.pf taRemove, FS.pf tableLives, FS.pf bitsOf, FS.pf homeOf, FS.pf tableRight] [] 30 31 sameTable_ap sameTable_rp x = sameTable_tree x := by kernel_rfl
def sameTable_fn (x : ((List TSlot) × ((List TSlot) × Unit))) : Option (Bool × Unit) := (sameTable_tree x).eval
def sameTable : FS Try.prog := ⟨31, sameTable_ap, sameTable_rp, sameTable_fn, fun x r h => fnTr_sound (cod := cod) (Γ := [clSlot, FS.pf eqSlot, FS.pf bitLen, FS.pf taHome, FS.pf taNew, FS.pf taFind, FS.pf taUsed, FS.pf taCheck, FS.pf taGet, FS.pf taPut, FS.pf taRemove, FS.pf tableLives, FS.pf bitsOf, FS.pf homeOf, FS.pf tableRight]) (Λs := []) (n := 30) ((congrArg Tr.eval (sameTable_eq x)).trans h)⟩
def tableUndo_ap : List VP1 := [.agg [.st 7 false], .one (.i .u64), .one (.i .i64)]
def tableUndo_rp : SP := ⟨1, [(0, .v (.one (.b)))], []⟩
def tableUndo_tree : ((List TSlot) × (Int × (Int × Unit))) → Tr (Bool × Unit) :=
  fun (a0, a1, a2, _) =>
  .opt (β := (Int × (Int × Unit))) ((taGet_fn (a0, (a1, ())))) (fun r0 =>
  .opt (β := ((List TSlot) × (Int × Unit))) ((taPut_fn (a0, (a1, (a2, ()))))) (fun r1 =>
  .opt (β := (Bool × Unit)) ((tableLives_fn ())) (fun r2 =>
  .ite (!r2.1) (
   .opt (β := (Bool × Unit)) ((tableLives_fn ())) (fun r3 =>
   .ret (r3.1, ()))) (
   .ite (!decide (r1.2.1 = (0 : Int))) (
    .opt (β := (Bool × Unit)) ((tableLives_fn ())) (fun r3 =>
    .ret (r3.1, ()))) (
    .ite (!decide (r0.2.1 = (7 : Int))) (
     .opt (β := (Bool × Unit)) ((tableLives_fn ())) (fun r3 =>
     .ret (r3.1, ()))) (
     .opt (β := ((List TSlot) × (Int × Unit))) ((taRemove_fn (r1.1, (a1, ())))) (fun r3 =>
     .opt (β := (Int × (Int × Unit))) ((taGet_fn (r1.1, (a1, ())))) (fun r4 =>
     .ite (decide (r3.2.1 = (0 : Int))) (
      .opt (β := (Bool × Unit)) ((sameTable_fn (r3.1, (a0, ())))) (fun r5 =>
      .ite (r5.1) (
       .ite (decide (r4.2.1 = (0 : Int))) (
        .ret (decide (r4.1 = a2), ())) (
        .ret (false, ()))) (
       .ret (false, ())))) (
      .ret (false, ()))))))))))
theorem tableUndo_eq (x : ((List TSlot) × (Int × (Int × Unit)))) : fnTr Try.prog cod [clSlot, FS.pf eqSlot, FS.pf bitLen, FS.pf taHome, FS.pf taNew, FS.pf taFind, FS.pf taUsed, FS.pf taCheck, FS.pf taGet, FS.pf taPut, FS.pf taRemove, FS.pf tableLives, FS.pf bitsOf, FS.pf homeOf, FS.pf tableRight, FS.pf sameTable] [] 30 9 tableUndo_ap tableUndo_rp x = tableUndo_tree x := by kernel_rfl
def tableUndo_fn (x : ((List TSlot) × (Int × (Int × Unit)))) : Option (Bool × Unit) := (tableUndo_tree x).eval
def tableUndo : FS Try.prog := ⟨9, tableUndo_ap, tableUndo_rp, tableUndo_fn, fun x r h => fnTr_sound (cod := cod) (Γ := [clSlot, FS.pf eqSlot, FS.pf bitLen, FS.pf taHome, FS.pf taNew, FS.pf taFind, FS.pf taUsed, FS.pf taCheck, FS.pf taGet, FS.pf taPut, FS.pf taRemove, FS.pf tableLives, FS.pf bitsOf, FS.pf homeOf, FS.pf tableRight, FS.pf sameTable]) (Λs := []) (n := 30) ((congrArg Tr.eval (tableUndo_eq x)).trans h)⟩
end Go.Proofs.Ytgdlhdkofcicjaa.X
