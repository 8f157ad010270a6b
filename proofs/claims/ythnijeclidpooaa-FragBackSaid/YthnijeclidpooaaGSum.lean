/- Functions of the program, as trees (printed by a program of mine: tool/XTool, xg.py), each with the proof that the machine comes to what its tree says. Conditions: none. -/
import Derived.Test.YthnijeclidpooaaCod
import Derived.KernelRfl
namespace Go.Proofs.Ythnijeclidpooaa.X
open Go Go.RowKit Go.Proofs.Ythnijeclidpooaa.Abs
set_option maxRecDepth 100000
set_option linter.unusedVariables false
def sumFold_L90_1 : LS := ⟨1, [], ⟨12, [(0, .v (.one (.i .u64)))], []⟩, [⟨some 0, [], ⟨12, [(0, .v (.one (.i .u64)))], []⟩⟩], []⟩
def sumFold_step90_1 : (Int × Unit) → Tr ((Int × Unit) ⊕ (Int × Unit)) :=
  fun (a0, _) =>
  .ite (decide ((65535 : Int) < a0)) (
   .grd (true) (
   .ret (Sum.inl (IntKind.wrap IntKind.u64 (Int.fdiv a0 ((2 : Int) ^ (16 : Nat)) + bits BinOp.and IntKind.u64 a0 (65535 : Int)), ())))) (
   .ret (Sum.inr (a0, ())))
def sumFold_loop90_1 (x : (Int × Unit)) : Option (Int × Unit) := loopO 900001 (fun x => (sumFold_step90_1 x).eval) 18446744073709551616 x
def sumFold_ap : List VP1 := [.one (.i .u64)]
def sumFold_rp : SP := ⟨1, [(0, .v (.one (.i .u16)))], []⟩
def sumFold_tree : (Int × Unit) → Tr (Int × Unit) :=
  fun (a0, _) =>
  .opt (β := (Int × Unit)) ((sumFold_loop90_1 (a0, ()))) (fun r0 =>
  .ret (IntKind.wrap IntKind.u16 r0.1, ()))
theorem sumFold_eq (x : (Int × Unit)) : fnTr Try.prog cod [] [(90, sumFold_L90_1)] 30 90 sumFold_ap sumFold_rp x = sumFold_tree x := by kernel_rfl
def sumFold_fn (x : (Int × Unit)) : Option (Int × Unit) := (sumFold_tree x).eval
def sumFold : FS Try.prog := ⟨90, sumFold_ap, sumFold_rp, sumFold_fn, fun x r h => fnTr_sound (cod := cod) (Γ := []) (Λs := [(90, sumFold_L90_1)]) (n := 30) ((congrArg Tr.eval (sumFold_eq x)).trans h)⟩
def sumAdd_L86_2 : LS := ⟨2, [], ⟨33, [(1, .v (.one (.s))), (5, .v (.one (.i .u64)))], []⟩, [⟨some 0, [], ⟨33, [(1, .v (.one (.s))), (5, .v (.one (.i .u64)))], []⟩⟩], []⟩
def sumAdd_step86_2 : ((List UInt8) × (Int × Unit)) → Tr (((List UInt8) × (Int × Unit)) ⊕ ((List UInt8) × (Int × Unit))) :=
  fun (a0, a1, _) =>
  .ite (decide ((1 : Int) < (↑(List.length a0) : Int))) (
   .grd (decide ((0 : Int) ≤ (0 : Int) ∧ (0 : Int) < (↑(List.length a0) : Int))) (
   .grd (true) (
   .grd (decide ((0 : Int) ≤ (1 : Int) ∧ (1 : Int) < (↑(List.length a0) : Int))) (
   .grd (decide ((0 : Int) ≤ (2 : Int) ∧ (2 : Int) ≤ (↑(List.length a0) : Int) ∧ (↑(List.length a0) : Int) ≤ (↑(List.length a0) : Int))) (
   .ret (Sum.inl (List.drop (2 : Nat) (List.take (Int.toNat (↑(List.length a0) : Int)) a0), (IntKind.wrap IntKind.u64 (a1 + bits BinOp.or IntKind.u64 (IntKind.wrap IntKind.u64 (IntKind.wrap IntKind.u64 (↑(UInt8.toNat (List.getD a0 (0 : Nat) (0 : UInt8))) : Int) * (2 : Int) ^ (8 : Nat))) (IntKind.wrap IntKind.u64 (↑(UInt8.toNat (List.getD a0 (1 : Nat) (0 : UInt8))) : Int))), ())))))))) (
   .ret (Sum.inr (a0, (a1, ()))))
def sumAdd_loop86_2 (x : ((List UInt8) × (Int × Unit))) : Option ((List UInt8) × (Int × Unit)) := loopO 860002 (fun x => (sumAdd_step86_2 x).eval) 18446744073709551616 x
def sumAdd_ap : List VP1 := [.one (.i .u16), .one (.s)]
def sumAdd_rp : SP := ⟨1, [(0, .v (.one (.i .u16)))], []⟩
def sumAdd_tree : (Int × ((List UInt8) × Unit)) → Tr (Int × Unit) :=
  fun (a0, a1, _) =>
  .opt (β := ((List UInt8) × (Int × Unit))) ((sumAdd_loop86_2 (a1, (IntKind.wrap IntKind.u64 a0, ())))) (fun r0 =>
  .ite (!decide (r0.1 = [])) (
   .grd (decide ((0 : Int) ≤ (0 : Int) ∧ (0 : Int) < (↑(List.length r0.1) : Int))) (
   .grd (true) (
   .opt (β := (Int × Unit)) ((sumFold_fn (IntKind.wrap IntKind.u64 (r0.2.1 + IntKind.wrap IntKind.u64 (IntKind.wrap IntKind.u64 (↑(UInt8.toNat (List.getD r0.1 (0 : Nat) (0 : UInt8))) : Int) * (2 : Int) ^ (8 : Nat))), ()))) (fun r1 =>
   .ret (r1.1, ()))))) (
   .opt (β := (Int × Unit)) ((sumFold_fn (r0.2.1, ()))) (fun r1 =>
   .ret (r1.1, ()))))
theorem sumAdd_eq (x : (Int × ((List UInt8) × Unit))) : fnTr Try.prog cod [FS.pf sumFold] [(86, sumAdd_L86_2)] 30 86 sumAdd_ap sumAdd_rp x = sumAdd_tree x := by kernel_rfl
def sumAdd_fn (x : (Int × ((List UInt8) × Unit))) : Option (Int × Unit) := (sumAdd_tree x).eval
def sumAdd : FS Try.prog := ⟨86, sumAdd_ap, sumAdd_rp, sumAdd_fn, fun x r h => fnTr_sound (cod := cod) (Γ := [FS.pf sumFold]) (Λs := [(86, sumAdd_L86_2)]) (n := 30) ((congrArg Tr.eval (sumAdd_eq x)).trans h)⟩
def sumOf_ap : List VP1 := [.one (.s)]
def sumOf_rp : SP := ⟨1, [(0, .v (.one (.i .u16)))], []⟩
def sumOf_tree : ((List UInt8) × Unit) → Tr (Int × Unit) :=
  fun (a0, _) =>
  .opt (β := (Int × Unit)) ((sumAdd_fn ((0 : Int), (a0, ())))) (fun r0 =>
  .ret (bits BinOp.xor IntKind.u16 (if IntKind.signed IntKind.u16 = true then (-1 : Int) else IntKind.max IntKind.u16) r0.1, ()))
theorem sumOf_eq (x : ((List UInt8) × Unit)) : fnTr Try.prog cod [FS.pf sumFold, FS.pf sumAdd] [] 30 78 sumOf_ap sumOf_rp x = sumOf_tree x := by kernel_rfl
def sumOf_fn (x : ((List UInt8) × Unit)) : Option (Int × Unit) := (sumOf_tree x).eval
def sumOf : FS Try.prog := ⟨78, sumOf_ap, sumOf_rp, sumOf_fn, fun x r h => fnTr_sound (cod := cod) (Γ := [FS.pf sumFold, FS.pf sumAdd]) (Λs := []) (n := 30) ((congrArg Tr.eval (sumOf_eq x)).trans h)⟩
end Go.Proofs.Ythnijeclidpooaa.X
