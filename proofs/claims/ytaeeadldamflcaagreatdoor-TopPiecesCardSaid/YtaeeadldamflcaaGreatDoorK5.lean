/- Texts towards the law TopPieces, put together (part 5): an abstract walk and its proof, functions of the program as trees, and plain laws. Conditions: none. -/
import Derived.KernelRfl
import Derived.Test.YtaeeadldamflcaaGreatDoorProg
import Derived.Shelf.Spec.SlicesInsertGrow
import Derived.WalkKit
import Derived.Handy
import Derived.BigQuiet
import Derived.Deep.QuietTactic
import Derived.RegionTactic
import Derived.Outline
import Derived.Shelf.Strings.Builder1
import Derived.Shelf.Strings.BuilderX
import Derived.Lib.FrozenHead
import Derived.Lib.Builder
import Derived.Lib.AppendStr
import Derived.Lib.UnsafeStr
import Derived.Laws.Externs
import Derived.Lib.TrailingZeros
import Derived.Laws.Bits64b
import Derived.Test.YtaeeadldamflcaaGreatDoorK4
namespace Go.Proofs.YtaeeadldamflcaaGreatDoor.X
open Go Go.RowKit Go.Proofs.YtaeeadldamflcaaGreatDoor.Abs
open Go.IntKind renaming wrap -> wW
set_option maxRecDepth 100000
set_option linter.unusedVariables false
def sumFold_L58_1 : LS := ⟨1, [], ⟨12, [(0, .v (.one (.i .u64)))], []⟩, [⟨some 0, [], ⟨12, [(0, .v (.one (.i .u64)))], []⟩⟩], []⟩
def sumFold_step58_1 : (Int × Unit) -> Tr ((Int × Unit) ⊕ (Int × Unit)) :=
 fun (a0, _) =>
 .ite (decide (65535 < a0)) (
 .grd (true) (
 .ret (Sum.inl (wW .u64 (Int.fdiv a0 ((2 : Int) ^ (16 : Nat)) + bits .and .u64 a0 65535), ())))) (
 .ret (Sum.inr (a0, ())))
def sumFold_loop58_1 (x : (Int × Unit)) : Option (Int × Unit) := loopO 580001 (fun x => (sumFold_step58_1 x).eval) 18446744073709551616 x
def sumFold_ap : List VP1 := [.one (.i .u64)]
def sumFold_rp : SP := ⟨1, [(0, .v (.one (.i .u16)))], []⟩
def sumFold_tree : (Int × Unit) -> Tr (Int × Unit) :=
 fun (a0, _) =>
 .opt ((sumFold_loop58_1 (a0, ()))) (fun r0 =>
 .ret (wW .u16 r0.1, ()))
theorem sumFold_eq (x : (Int × Unit)) : fnTr Tryz.prog cod [] [(58, sumFold_L58_1)] 30 58 sumFold_ap sumFold_rp x = sumFold_tree x := by kernel_rfl
def sumFold_fn (x : (Int × Unit)) : Option (Int × Unit) := (sumFold_tree x).eval
def sumFold : FS Tryz.prog := ⟨58, sumFold_ap, sumFold_rp, sumFold_fn, fun x r h => fnTr_sound (cod := cod) (Γ := []) (Λs := [(58, sumFold_L58_1)]) (n := 30) ((congrArg Tr.eval (sumFold_eq x)).trans h)⟩
def sumAdd_L37_2 : LS := ⟨2, [], ⟨33, [(1, .v (.one (.s))), (5, .v (.one (.i .u64)))], []⟩, [⟨some 0, [], ⟨33, [(1, .v (.one (.s))), (5, .v (.one (.i .u64)))], []⟩⟩], []⟩
def sumAdd_step37_2 : ((List UInt8) × (Int × Unit)) -> Tr (((List UInt8) × (Int × Unit)) ⊕ ((List UInt8) × (Int × Unit))) :=
 fun (a0, a1, _) =>
 .ite (decide (1 < (↑(a0.length) : Int))) (
 .grd (decide ((0 : Int) <= (0 : Int) /\ 0 < (↑(a0.length) : Int))) (
 .grd (true) (
 .grd (decide ((0 : Int) <= (1 : Int) /\ 1 < (↑(a0.length) : Int))) (
 .grd (decide ((0 : Int) <= (2 : Int) /\ 2 <= (↑(a0.length) : Int) /\ (↑(a0.length) : Int) <= (↑(a0.length) : Int))) (
 .ret (Sum.inl (List.drop (2 : Nat) (List.take (Int.toNat (↑(a0.length) : Int)) a0), (wW .u64 (a1 + bits .or .u64 (wW .u64 (wW .u64 (↑(UInt8.toNat (List.getD a0 (0 : Nat) (0 : UInt8))) : Int) * (2 : Int) ^ (8 : Nat))) (wW .u64 (↑(UInt8.toNat (List.getD a0 (1 : Nat) (0 : UInt8))) : Int))), ())))))))) (
 .ret (Sum.inr (a0, (a1, ()))))
def sumAdd_loop37_2 (x : ((List UInt8) × (Int × Unit))) : Option ((List UInt8) × (Int × Unit)) := loopO 370002 (fun x => (sumAdd_step37_2 x).eval) 18446744073709551616 x
def sumAdd_ap : List VP1 := [.one (.i .u16), .one (.s)]
def sumAdd_rp : SP := ⟨1, [(0, .v (.one (.i .u16)))], []⟩
def sumAdd_tree : (Int × ((List UInt8) × Unit)) -> Tr (Int × Unit) :=
 fun (a0, a1, _) =>
 .opt ((sumAdd_loop37_2 (a1, (wW .u64 a0, ())))) (fun r0 =>
 .ite (!decide (r0.1 = [])) (
 .grd (decide ((0 : Int) <= (0 : Int) /\ 0 < (↑(List.length r0.1) : Int))) (
 .grd (true) (
 .opt ((sumFold_fn (wW .u64 (r0.2.1 + wW .u64 (wW .u64 (↑(UInt8.toNat (List.getD r0.1 (0 : Nat) (0 : UInt8))) : Int) * (2 : Int) ^ (8 : Nat))), ()))) (fun r1 =>
 .ret (r1.1, ()))))) (
 .opt ((sumFold_fn (r0.2.1, ()))) (fun r1 =>
 .ret (r1.1, ()))))
theorem sumAdd_eq (x : (Int × ((List UInt8) × Unit))) : fnTr Tryz.prog cod [FS.pf sumFold] [(37, sumAdd_L37_2)] 30 37 sumAdd_ap sumAdd_rp x = sumAdd_tree x := by kernel_rfl
def sumAdd_fn (x : (Int × ((List UInt8) × Unit))) : Option (Int × Unit) := (sumAdd_tree x).eval
def sumAdd : FS Tryz.prog := ⟨37, sumAdd_ap, sumAdd_rp, sumAdd_fn, fun x r h => fnTr_sound (cod := cod) (Γ := [FS.pf sumFold]) (Λs := [(37, sumAdd_L37_2)]) (n := 30) ((congrArg Tr.eval (sumAdd_eq x)).trans h)⟩
def sumOf_ap : List VP1 := [.one (.s)]
def sumOf_rp : SP := ⟨1, [(0, .v (.one (.i .u16)))], []⟩
def sumOf_tree : ((List UInt8) × Unit) -> Tr (Int × Unit) :=
 fun (a0, _) =>
 .opt ((sumAdd_fn (0, (a0, ())))) (fun r0 =>
 .ret (bits BinOp.xor IntKind.u16 (if IntKind.signed IntKind.u16 = true then (-1 : Int) else IntKind.max IntKind.u16) r0.1, ()))
theorem sumOf_eq (x : ((List UInt8) × Unit)) : fnTr Tryz.prog cod [FS.pf sumFold, FS.pf sumAdd] [] 30 31 sumOf_ap sumOf_rp x = sumOf_tree x := by kernel_rfl
def sumOf_fn (x : ((List UInt8) × Unit)) : Option (Int × Unit) := (sumOf_tree x).eval
def sumOf : FS Tryz.prog := ⟨31, sumOf_ap, sumOf_rp, sumOf_fn, fun x r h => fnTr_sound (cod := cod) (Γ := [FS.pf sumFold, FS.pf sumAdd]) (Λs := []) (n := 30) ((congrArg Tr.eval (sumOf_eq x)).trans h)⟩
def sumRight_ap : List VP1 := [.one (.s)]
def sumRight_rp : SP := ⟨1, [(0, .v (.one (.b)))], []⟩
def sumRight_tree : ((List UInt8) × Unit) -> Tr (Bool × Unit) :=
 fun (a0, _) =>
 .opt ((sumAdd_fn (0, (a0, ())))) (fun r0 =>
 .ret (decide (r0.1 = 65535), ()))
theorem sumRight_eq (x : ((List UInt8) × Unit)) : fnTr Tryz.prog cod [FS.pf sumFold, FS.pf sumAdd, FS.pf sumOf] [] 30 16 sumRight_ap sumRight_rp x = sumRight_tree x := by kernel_rfl
def sumRight_fn (x : ((List UInt8) × Unit)) : Option (Bool × Unit) := (sumRight_tree x).eval
def sumRight : FS Tryz.prog := ⟨16, sumRight_ap, sumRight_rp, sumRight_fn, fun x r h => fnTr_sound (cod := cod) (Γ := [FS.pf sumFold, FS.pf sumAdd, FS.pf sumOf]) (Λs := []) (n := 30) ((congrArg Tr.eval (sumRight_eq x)).trans h)⟩
def sumFix_ap : List VP1 := [.one (.i .u16), .one (.i .u16), .one (.i .u16)]
def sumFix_rp : SP := ⟨1, [(0, .v (.one (.i .u16)))], []⟩
def sumFix_tree : (Int × (Int × (Int × Unit))) -> Tr (Int × Unit) :=
 fun (a0, a1, a2, _) =>
 .opt ((sumFold_fn (wW .u64 (wW .u64 (wW .u64 (bits .xor .u16 (if IntKind.signed IntKind.u16 = true then (-1 : Int) else IntKind.max IntKind.u16) a0) + wW .u64 (bits .xor .u16 (if IntKind.signed IntKind.u16 = true then (-1 : Int) else IntKind.max IntKind.u16) a1)) + wW .u64 a2), ()))) (fun r0 =>
 .ret (bits .xor .u16 (if IntKind.signed IntKind.u16 = true then (-1 : Int) else IntKind.max IntKind.u16) r0.1, ()))
theorem sumFix_eq (x : (Int × (Int × (Int × Unit)))) : fnTr Tryz.prog cod [FS.pf sumFold, FS.pf sumAdd, FS.pf sumOf, FS.pf sumRight] [] 30 78 sumFix_ap sumFix_rp x = sumFix_tree x := by kernel_rfl
def sumFix_fn (x : (Int × (Int × (Int × Unit)))) : Option (Int × Unit) := (sumFix_tree x).eval
def sumFix : FS Tryz.prog := ⟨78, sumFix_ap, sumFix_rp, sumFix_fn, fun x r h => fnTr_sound (cod := cod) (Γ := [FS.pf sumFold, FS.pf sumAdd, FS.pf sumOf, FS.pf sumRight]) (Λs := []) (n := 30) ((congrArg Tr.eval (sumFix_eq x)).trans h)⟩
def dgWord_ap : List VP1 := [.one (.i .i64)]
def dgWord_rp : SP := ⟨1, [(0, .v (.one (.s)))], []⟩
def dgWord_tree : (Int × Unit) -> Tr ((List UInt8) × Unit) :=
 fun (a0, _) =>
 .grd (true) (
 .grd (decide (0 <= wW .u8 (Int.fdiv a0 ((2 : Int) ^ (8 : Nat))) /\ wW .u8 (Int.fdiv a0 ((2 : Int) ^ (8 : Nat))) < 256)) (
 .grd (decide (0 <= wW .u8 a0 /\ wW .u8 a0 < 256)) (
 .ret ([UInt8.ofNat (Int.toNat (wW .u8 (Int.fdiv a0 ((2 : Int) ^ (8 : Nat))))), UInt8.ofNat (Int.toNat (wW .u8 a0))], ()))))
noncomputable def gm0 : List (PF Go.Proofs.Tryz.prog) := [FS.pf sumFold, FS.pf sumAdd, FS.pf sumOf, FS.pf sumRight, FS.pf sumFix]
theorem dgWord_eq (x : (Int × Unit)) : fnTr Tryz.prog cod gm0 [] 30 34 dgWord_ap dgWord_rp x = dgWord_tree x := by kernel_rfl
def dgWord_fn (x : (Int × Unit)) : Option ((List UInt8) × Unit) := (dgWord_tree x).eval
def dgWord : FS Tryz.prog := ⟨34, dgWord_ap, dgWord_rp, dgWord_fn, fun x r h => fnTr_sound (cod := cod) (Γ := gm0) (Λs := []) (n := 30) ((congrArg Tr.eval (dgWord_eq x)).trans h)⟩
def dgLong_ap : List VP1 := [.one (.i .u32)]
def dgLong_rp : SP := ⟨1, [(0, .v (.one (.s)))], []⟩
def dgLong_tree : (Int × Unit) -> Tr ((List UInt8) × Unit) :=
 fun (a0, _) =>
 .grd (true) (
 .opt ((dgWord_fn (wW .i64 (Int.fdiv a0 ((2 : Int) ^ (16 : Nat))), ()))) (fun r0 =>
 .opt ((dgWord_fn (wW .i64 a0, ()))) (fun r1 =>
 .grd (decide (List.length r0.1 + List.length r1.1 <= (9223372036854775807 : Nat))) (
 .ret (r0.1 ++ r1.1, ())))))
noncomputable def gm1 : List (PF Go.Proofs.Tryz.prog) := gm0 ++ [FS.pf dgWord]
theorem dgLong_eq (x : (Int × Unit)) : fnTr Tryz.prog cod gm1 [] 30 57 dgLong_ap dgLong_rp x = dgLong_tree x := by kernel_rfl
def dgLong_fn (x : (Int × Unit)) : Option ((List UInt8) × Unit) := (dgLong_tree x).eval
def dgLong : FS Tryz.prog := ⟨57, dgLong_ap, dgLong_rp, dgLong_fn, fun x r h => fnTr_sound (cod := cod) (Γ := gm1) (Λs := []) (n := 30) ((congrArg Tr.eval (dgLong_eq x)).trans h)⟩
def dgWordAt_ap : List VP1 := [.one (.s), .one (.i .i64)]
def dgWordAt_rp : SP := ⟨1, [(0, .v (.one (.i .i64)))], []⟩
def dgWordAt_tree : ((List UInt8) × (Int × Unit)) -> Tr (Int × Unit) :=
 fun (a0, a1, _) =>
 .grd (decide (0 <= a1 /\ a1 < (↑(a0.length) : Int))) (
 .grd (true) (
 .grd (decide (0 <= wW .i64 (a1 + 1) /\ wW .i64 (a1 + 1) < (↑(a0.length) : Int))) (
 .ret (bits .or .i64 (wW .i64 (wW .i64 (↑(UInt8.toNat (List.getD a0 (Int.toNat a1) (0 : UInt8))) : Int) * (2 : Int) ^ (8 : Nat))) (wW .i64 (↑(UInt8.toNat (List.getD a0 (Int.toNat (wW .i64 (a1 + 1))) (0 : UInt8))) : Int)), ()))))
noncomputable def gm2 : List (PF Go.Proofs.Tryz.prog) := gm1 ++ [FS.pf dgLong]
theorem dgWordAt_eq (x : ((List UInt8) × (Int × Unit))) : fnTr Tryz.prog cod gm2 [] 30 100 dgWordAt_ap dgWordAt_rp x = dgWordAt_tree x := by kernel_rfl
def dgWordAt_fn (x : ((List UInt8) × (Int × Unit))) : Option (Int × Unit) := (dgWordAt_tree x).eval
def dgWordAt : FS Tryz.prog := ⟨100, dgWordAt_ap, dgWordAt_rp, dgWordAt_fn, fun x r h => fnTr_sound (cod := cod) (Γ := gm2) (Λs := []) (n := 30) ((congrArg Tr.eval (dgWordAt_eq x)).trans h)⟩
def dgUnder_ap : List VP1 := [.one (.i .u32), .one (.i .u32), .one (.i .i64), .one (.i .i64)]
def dgUnder_rp : SP := ⟨1, [(0, .v (.one (.s)))], []⟩
def dgUnder_tree : (Int × (Int × (Int × (Int × Unit)))) -> Tr ((List UInt8) × Unit) :=
 fun (a0, a1, a2, a3, _) =>
 .opt ((dgLong_fn (a0, ()))) (fun r0 =>
 .opt ((dgLong_fn (a1, ()))) (fun r1 =>
 .grd (decide (List.length r0.1 + List.length r1.1 <= (9223372036854775807 : Nat))) (
 .opt ((dgWord_fn (bits BinOp.and IntKind.i64 a2 255, ()))) (fun r2 =>
 .grd (decide (List.length (r0.1 ++ r1.1) + List.length r2.1 <= (9223372036854775807 : Nat))) (
 .opt ((dgWord_fn (a3, ()))) (fun r3 =>
 .grd (decide (List.length (r0.1 ++ r1.1 ++ r2.1) + List.length r3.1 <= (9223372036854775807 : Nat))) (
 .ret (r0.1 ++ r1.1 ++ r2.1 ++ r3.1, ()))))))))
noncomputable def gm3 : List (PF Go.Proofs.Tryz.prog) := gm2 ++ [FS.pf dgWordAt]
theorem dgUnder_eq (x : (Int × (Int × (Int × (Int × Unit))))) : fnTr Tryz.prog cod gm3 [] 30 35 dgUnder_ap dgUnder_rp x = dgUnder_tree x := by kernel_rfl
def dgUnder_fn (x : (Int × (Int × (Int × (Int × Unit))))) : Option ((List UInt8) × Unit) := (dgUnder_tree x).eval
def dgUnder : FS Tryz.prog := ⟨35, dgUnder_ap, dgUnder_rp, dgUnder_fn, fun x r h => fnTr_sound (cod := cod) (Γ := gm3) (Λs := []) (n := 30) ((congrArg Tr.eval (dgUnder_eq x)).trans h)⟩
def dgPort_ap : List VP1 := [.one (.i .i64)]
def dgPort_rp : SP := ⟨1, [(0, .v (.one (.b)))], []⟩
def dgPort_tree : (Int × Unit) -> Tr (Bool × Unit) :=
 fun (a0, _) =>
 .ite (decide (0 <= a0)) (
 .ret (decide (a0 <= 65535), ())) (
 .ret (false, ()))
noncomputable def gm4 : List (PF Go.Proofs.Tryz.prog) := gm3 ++ [FS.pf dgUnder]
theorem dgPort_eq (x : (Int × Unit)) : fnTr Tryz.prog cod gm4 [] 30 33 dgPort_ap dgPort_rp x = dgPort_tree x := by kernel_rfl
def dgPort_fn (x : (Int × Unit)) : Option (Bool × Unit) := (dgPort_tree x).eval
def dgPort : FS Tryz.prog := ⟨33, dgPort_ap, dgPort_rp, dgPort_fn, fun x r h => fnTr_sound (cod := cod) (Γ := gm4) (Λs := []) (n := 30) ((congrArg Tr.eval (dgPort_eq x)).trans h)⟩
def dgWrite_ap : List VP1 := [.agg [.i .i64, .i .i64, .s], .one (.i .u32), .one (.i .u32)]
def dgWrite_rp : SP := ⟨1, [(0, .tup [.one (.s), .one (.i .i64)])], []⟩
def dgWrite_tree : (Int × (Int × ((List UInt8) × (Int × (Int × Unit))))) -> Tr ((List UInt8) × (Int × Unit)) :=
 fun (a0, a1, a2, a3, a4, _) =>
 .opt ((dgPort_fn (a0, ()))) (fun r0 =>
 .ite (!r0.1) (
 .ret ([], (1, ()))) (
 .opt ((dgPort_fn (a1, ()))) (fun r1 =>
 .ite (!r1.1) (
 .ret ([], (1, ()))) (
 .ite (decide (65507 < (↑(a2.length) : Int))) (
 .ret ([], (2, ()))) (
 .opt ((dgWord_fn (a0, ()))) (fun r2 =>
 .opt ((dgWord_fn (a1, ()))) (fun r3 =>
 .grd (decide (List.length r2.1 + List.length r3.1 <= (9223372036854775807 : Nat))) (
 .opt ((dgWord_fn (wW .i64 ((8 : Int) + (↑(a2.length) : Int)), ()))) (fun r4 =>
 .grd (decide (List.length (r2.1 ++ r3.1) + List.length r4.1 <= (9223372036854775807 : Nat))) (
 .opt ((dgUnder_fn (a3, (a4, (17, (wW .i64 ((8 : Int) + (↑(a2.length) : Int)), ())))))) (fun r5 =>
 .grd (decide (List.length r5.1 + List.length (r2.1 ++ r3.1 ++ r4.1) <= (9223372036854775807 : Nat))) (
 .grd (decide (List.length (r5.1 ++ (r2.1 ++ r3.1 ++ r4.1)) + a2.length <= (9223372036854775807 : Nat))) (
 .opt ((sumOf_fn (r5.1 ++ (r2.1 ++ r3.1 ++ r4.1) ++ a2, ()))) (fun r6 =>
 .ite (decide (r6.1 = 0)) (
 .opt ((dgWord_fn (65535, ()))) (fun r7 =>
 .grd (decide (List.length (r2.1 ++ r3.1 ++ r4.1) + List.length r7.1 <= (9223372036854775807 : Nat))) (
 .grd (decide (List.length (r2.1 ++ r3.1 ++ r4.1 ++ r7.1) + a2.length <= (9223372036854775807 : Nat))) (
 .ret (r2.1 ++ r3.1 ++ r4.1 ++ r7.1 ++ a2, (0, ())))))) (
 .opt ((dgWord_fn (wW .i64 r6.1, ()))) (fun r7 =>
 .grd (decide (List.length (r2.1 ++ r3.1 ++ r4.1) + List.length r7.1 <= (9223372036854775807 : Nat))) (
 .grd (decide (List.length (r2.1 ++ r3.1 ++ r4.1 ++ r7.1) + a2.length <= (9223372036854775807 : Nat))) (
 .ret (r2.1 ++ r3.1 ++ r4.1 ++ r7.1 ++ a2, (0, ()))))))))))))))))))))
noncomputable def gm5 : List (PF Go.Proofs.Tryz.prog) := gm4 ++ [FS.pf dgPort]
theorem dgWrite_eq (x : (Int × (Int × ((List UInt8) × (Int × (Int × Unit)))))) : fnTr Tryz.prog cod gm5 [] 30 12 dgWrite_ap dgWrite_rp x = dgWrite_tree x := by kernel_rfl
def dgWrite_fn (x : (Int × (Int × ((List UInt8) × (Int × (Int × Unit)))))) : Option ((List UInt8) × (Int × Unit)) := (dgWrite_tree x).eval
def dgWrite : FS Tryz.prog := ⟨12, dgWrite_ap, dgWrite_rp, dgWrite_fn, fun x r h => fnTr_sound (cod := cod) (Γ := gm5) (Λs := []) (n := 30) ((congrArg Tr.eval (dgWrite_eq x)).trans h)⟩
def dgRead_ap : List VP1 := [.one (.s), .one (.i .u32), .one (.i .u32)]
def dgRead_rp : SP := ⟨1, [(0, .tup [.agg [.i .i64, .i .i64, .s], .one (.i .i64)])], []⟩
def dgRead_tree : ((List UInt8) × (Int × (Int × Unit))) -> Tr (Int × (Int × ((List UInt8) × (Int × Unit)))) :=
 fun (a0, a1, a2, _) =>
 .ite (decide ((↑(a0.length) : Int) < 8)) (
 .ret (0, (0, ([], (3, ()))))) (
 .opt ((dgWordAt_fn (a0, (4, ())))) (fun r0 =>
 .ite (decide ((↑(a0.length) : Int) < r0.1)) (
 .ret (0, (0, ([], (3, ()))))) (
 .ite (decide (r0.1 < 8)) (
 .ret (0, (0, ([], (4, ()))))) (
 .ite (decide (65515 < r0.1)) (
 .ret (0, (0, ([], (4, ()))))) (
 .opt ((dgWordAt_fn (a0, (6, ())))) (fun r1 =>
 .ite (!decide (r1.1 = 0)) (
 .opt ((dgUnder_fn (a1, (a2, (17, (r0.1, ())))))) (fun r2 =>
 .grd (decide ((0 : Int) <= (0 : Int) /\ 0 <= r0.1 /\ r0.1 <= (↑(a0.length) : Int))) (
 .grd (decide (List.length r2.1 + List.length (List.drop (0 : Nat) (List.take (Int.toNat r0.1) a0)) <= (9223372036854775807 : Nat))) (
 .opt ((sumRight_fn (r2.1 ++ List.drop (0 : Nat) (List.take (Int.toNat r0.1) a0), ()))) (fun r3 =>
 .ite (!r3.1) (
 .ret (0, (0, ([], (5, ()))))) (
 .opt ((dgWordAt_fn (a0, (0, ())))) (fun r4 =>
 .opt ((dgWordAt_fn (a0, (2, ())))) (fun r5 =>
 .grd (decide ((0 : Int) <= (8 : Int) /\ 8 <= r0.1 /\ r0.1 <= (↑(a0.length) : Int))) (
 .ret (r4.1, (r5.1, (List.drop (8 : Nat) (List.take (Int.toNat r0.1) a0), (0, ()))))))))))))) (
 .opt ((dgWordAt_fn (a0, (0, ())))) (fun r2 =>
 .opt ((dgWordAt_fn (a0, (2, ())))) (fun r3 =>
 .grd (decide ((0 : Int) <= (8 : Int) /\ 8 <= r0.1 /\ r0.1 <= (↑(a0.length) : Int))) (
 .ret (r2.1, (r3.1, (List.drop (8 : Nat) (List.take (Int.toNat r0.1) a0), (0, ()))))))))))))))
noncomputable def gm6 : List (PF Go.Proofs.Tryz.prog) := gm5 ++ [FS.pf dgWrite]
theorem dgRead_eq (x : ((List UInt8) × (Int × (Int × Unit)))) : fnTr Tryz.prog cod gm6 [] 30 77 dgRead_ap dgRead_rp x = dgRead_tree x := by kernel_rfl
def dgRead_fn (x : ((List UInt8) × (Int × (Int × Unit)))) : Option (Int × (Int × ((List UInt8) × (Int × Unit)))) := (dgRead_tree x).eval
def dgRead : FS Tryz.prog := ⟨77, dgRead_ap, dgRead_rp, dgRead_fn, fun x r h => fnTr_sound (cod := cod) (Γ := gm6) (Λs := []) (n := 30) ((congrArg Tr.eval (dgRead_eq x)).trans h)⟩
def ipWordAt_ap : List VP1 := [.one (.s), .one (.i .i64)]
def ipWordAt_rp : SP := ⟨1, [(0, .v (.one (.i .i64)))], []⟩
def ipWordAt_tree : ((List UInt8) × (Int × Unit)) -> Tr (Int × Unit) :=
 fun (a0, a1, _) =>
 .grd (decide (0 <= a1 /\ a1 < (↑(a0.length) : Int))) (
 .grd (true) (
 .grd (decide (0 <= wW .i64 (a1 + 1) /\ wW .i64 (a1 + 1) < (↑(a0.length) : Int))) (
 .ret (bits .or .i64 (wW .i64 (wW .i64 (↑(UInt8.toNat (List.getD a0 (Int.toNat a1) (0 : UInt8))) : Int) * (2 : Int) ^ (8 : Nat))) (wW .i64 (↑(UInt8.toNat (List.getD a0 (Int.toNat (wW .i64 (a1 + 1))) (0 : UInt8))) : Int)), ()))))
noncomputable def gm7 : List (PF Go.Proofs.Tryz.prog) := gm6 ++ [FS.pf dgRead]
theorem ipWordAt_eq (x : ((List UInt8) × (Int × Unit))) : fnTr Tryz.prog cod gm7 [] 30 13 ipWordAt_ap ipWordAt_rp x = ipWordAt_tree x := by kernel_rfl
def ipWordAt_fn (x : ((List UInt8) × (Int × Unit))) : Option (Int × Unit) := (ipWordAt_tree x).eval
def ipWordAt : FS Tryz.prog := ⟨13, ipWordAt_ap, ipWordAt_rp, ipWordAt_fn, fun x r h => fnTr_sound (cod := cod) (Γ := gm7) (Λs := []) (n := 30) ((congrArg Tr.eval (ipWordAt_eq x)).trans h)⟩
def ipLongAt_ap : List VP1 := [.one (.s), .one (.i .i64)]
def ipLongAt_rp : SP := ⟨1, [(0, .v (.one (.i .u32)))], []⟩
def ipLongAt_tree : ((List UInt8) × (Int × Unit)) -> Tr (Int × Unit) :=
 fun (a0, a1, _) =>
 .opt ((ipWordAt_fn (a0, (a1, ())))) (fun r0 =>
 .grd (true) (
 .opt ((ipWordAt_fn (a0, (wW .i64 (a1 + 2), ())))) (fun r1 =>
 .ret (bits .or .u32 (wW .u32 (wW .u32 r0.1 * (2 : Int) ^ (16 : Nat))) (wW .u32 r1.1), ()))))
noncomputable def gm8 : List (PF Go.Proofs.Tryz.prog) := gm7 ++ [FS.pf ipWordAt]
theorem ipLongAt_eq (x : ((List UInt8) × (Int × Unit))) : fnTr Tryz.prog cod gm8 [] 30 14 ipLongAt_ap ipLongAt_rp x = ipLongAt_tree x := by kernel_rfl
def ipLongAt_fn (x : ((List UInt8) × (Int × Unit))) : Option (Int × Unit) := (ipLongAt_tree x).eval
def ipLongAt : FS Tryz.prog := ⟨14, ipLongAt_ap, ipLongAt_rp, ipLongAt_fn, fun x r h => fnTr_sound (cod := cod) (Γ := gm8) (Λs := []) (n := 30) ((congrArg Tr.eval (ipLongAt_eq x)).trans h)⟩
def ipByt_ap : List VP1 := [.one (.i .i64)]
def ipByt_rp : SP := ⟨1, [(0, .v (.one (.b)))], []⟩
def ipByt_tree : (Int × Unit) -> Tr (Bool × Unit) :=
 fun (a0, _) =>
 .ite (decide (0 <= a0)) (
 .ret (decide (a0 <= 255), ())) (
 .ret (false, ()))
noncomputable def gm9 : List (PF Go.Proofs.Tryz.prog) := gm8 ++ [FS.pf ipLongAt]
theorem ipByt_eq (x : (Int × Unit)) : fnTr Tryz.prog cod gm9 [] 30 36 ipByt_ap ipByt_rp x = ipByt_tree x := by kernel_rfl
def ipByt_fn (x : (Int × Unit)) : Option (Bool × Unit) := (ipByt_tree x).eval
def ipByt : FS Tryz.prog := ⟨36, ipByt_ap, ipByt_rp, ipByt_fn, fun x r h => fnTr_sound (cod := cod) (Γ := gm9) (Λs := []) (n := 30) ((congrArg Tr.eval (ipByt_eq x)).trans h)⟩
def ipRefused_ap : List VP1 := [.agg [.i .i64, .i .i64, .b, .b, .i .i64, .i .i64, .i .i64, .i .u32, .i .u32, .s, .s]]
def ipRefused_rp : SP := ⟨1, [(0, .v (.one (.i .i64)))], []⟩
abbrev ty0_ : Type := (Int × (Int × (Bool × (Bool × (Int × (Int × (Int × (Int × (Int × ((List UInt8) × ((List UInt8) × Unit)))))))))))
def ipRefused_tree : ty0_ -> Tr (Int × Unit) :=
 fun (a0, a1, a2, a3, a4, a5, a6, a7, a8, a9, a10, _) =>
 .opt ((ipByt_fn (a0, ()))) (fun r0 =>
 .ite (!r0.1) (
 .ret (1, ())) (
 .opt ((ipByt_fn (a5, ()))) (fun r1 =>
 .ite (!r1.1) (
 .ret (1, ())) (
 .opt ((ipByt_fn (a6, ()))) (fun r2 =>
 .ite (!r2.1) (
 .ret (1, ())) (
 .ite (decide (a1 < 0)) (
 .ret (1, ())) (
 .ite (decide (65535 < a1)) (
 .ret (1, ())) (
 .ite (decide (a4 < 0)) (
 .ret (1, ())) (
 .ite (decide (8191 < a4)) (
 .ret (1, ())) (
 .ite (decide (40 < (↑(a9.length) : Int))) (
 .ret (1, ())) (
 .grd (true) (
 .ite (!decide (Int.tmod (↑(a9.length) : Int) (4 : Int) = (0 : Int))) (
 .ret (1, ())) (
 .ite (a2) (
 .ite (a3) (
 .ret (4, ())) (
 .ite (!decide (a4 = 0)) (
 .ret (4, ())) (
 .ite (decide (wW .i64 ((65515 : Int) - (↑(a9.length) : Int)) < (↑(a10.length) : Int))) (
 .ret (2, ())) (
 .ret (0, ()))))) (
 .ite (decide (wW .i64 ((65515 : Int) - (↑(a9.length) : Int)) < (↑(a10.length) : Int))) (
 .ret (2, ())) (
 .ret (0, ()))))))))))))))))
noncomputable def gm10 : List (PF Go.Proofs.Tryz.prog) := gm9 ++ [FS.pf ipByt]
theorem ipRefused_eq (x : ty0_) : fnTr Tryz.prog cod gm10 [] 30 15 ipRefused_ap ipRefused_rp x = ipRefused_tree x := by kernel_rfl
def ipRefused_fn (x : ty0_) : Option (Int × Unit) := (ipRefused_tree x).eval
def ipRefused : FS Tryz.prog := ⟨15, ipRefused_ap, ipRefused_rp, ipRefused_fn, fun x r h => fnTr_sound (cod := cod) (Γ := gm10) (Λs := []) (n := 30) ((congrArg Tr.eval (ipRefused_eq x)).trans h)⟩
def ipWord_ap : List VP1 := [.one (.i .i64)]
def ipWord_rp : SP := ⟨1, [(0, .v (.one (.s)))], []⟩
def ipWord_tree : (Int × Unit) -> Tr ((List UInt8) × Unit) :=
 fun (a0, _) =>
 .grd (true) (
 .grd (decide (0 <= wW .u8 (Int.fdiv a0 ((2 : Int) ^ (8 : Nat))) /\ wW .u8 (Int.fdiv a0 ((2 : Int) ^ (8 : Nat))) < 256)) (
 .grd (decide (0 <= wW .u8 a0 /\ wW .u8 a0 < 256)) (
 .ret ([UInt8.ofNat (Int.toNat (wW .u8 (Int.fdiv a0 ((2 : Int) ^ (8 : Nat))))), UInt8.ofNat (Int.toNat (wW .u8 a0))], ()))))
noncomputable def gm11 : List (PF Go.Proofs.Tryz.prog) := gm10 ++ [FS.pf ipRefused]
theorem ipWord_eq (x : (Int × Unit)) : fnTr Tryz.prog cod gm11 [] 30 29 ipWord_ap ipWord_rp x = ipWord_tree x := by kernel_rfl
def ipWord_fn (x : (Int × Unit)) : Option ((List UInt8) × Unit) := (ipWord_tree x).eval
def ipWord : FS Tryz.prog := ⟨29, ipWord_ap, ipWord_rp, ipWord_fn, fun x r h => fnTr_sound (cod := cod) (Γ := gm11) (Λs := []) (n := 30) ((congrArg Tr.eval (ipWord_eq x)).trans h)⟩
def ipLong_ap : List VP1 := [.one (.i .u32)]
def ipLong_rp : SP := ⟨1, [(0, .v (.one (.s)))], []⟩
def ipLong_tree : (Int × Unit) -> Tr ((List UInt8) × Unit) :=
 fun (a0, _) =>
 .grd (true) (
 .grd (true) (
 .grd (true) (
 .grd (decide (0 <= wW .u8 (Int.fdiv a0 ((2 : Int) ^ (24 : Nat))) /\ wW .u8 (Int.fdiv a0 ((2 : Int) ^ (24 : Nat))) < 256)) (
 .grd (decide (0 <= wW .u8 (Int.fdiv a0 ((2 : Int) ^ (16 : Nat))) /\ wW .u8 (Int.fdiv a0 ((2 : Int) ^ (16 : Nat))) < 256)) (
 .grd (decide (0 <= wW .u8 (Int.fdiv a0 ((2 : Int) ^ (8 : Nat))) /\ wW .u8 (Int.fdiv a0 ((2 : Int) ^ (8 : Nat))) < 256)) (
 .grd (decide (0 <= wW .u8 a0 /\ wW .u8 a0 < 256)) (
 .ret ([UInt8.ofNat (Int.toNat (wW .u8 (Int.fdiv a0 ((2 : Int) ^ (24 : Nat))))), UInt8.ofNat (Int.toNat (wW .u8 (Int.fdiv a0 ((2 : Int) ^ (16 : Nat))))), UInt8.ofNat (Int.toNat (wW .u8 (Int.fdiv a0 ((2 : Int) ^ (8 : Nat))))), UInt8.ofNat (Int.toNat (wW .u8 a0))], ()))))))))
noncomputable def gm12 : List (PF Go.Proofs.Tryz.prog) := gm11 ++ [FS.pf ipWord]
theorem ipLong_eq (x : (Int × Unit)) : fnTr Tryz.prog cod gm12 [] 30 30 ipLong_ap ipLong_rp x = ipLong_tree x := by kernel_rfl
def ipLong_fn (x : (Int × Unit)) : Option ((List UInt8) × Unit) := (ipLong_tree x).eval
def ipLong : FS Tryz.prog := ⟨30, ipLong_ap, ipLong_rp, ipLong_fn, fun x r h => fnTr_sound (cod := cod) (Γ := gm12) (Λs := []) (n := 30) ((congrArg Tr.eval (ipLong_eq x)).trans h)⟩
def ipWrite_ap : List VP1 := [.agg [.i .i64, .i .i64, .b, .b, .i .i64, .i .i64, .i .i64, .i .u32, .i .u32, .s, .s]]
def ipWrite_rp : SP := ⟨1, [(0, .tup [.one (.s), .one (.i .i64)])], []⟩
def ipWrite_tree : ty0_ -> Tr ((List UInt8) × (Int × Unit)) :=
 fun (a0, a1, a2, a3, a4, a5, a6, a7, a8, a9, a10, _) =>
 .opt ((ipRefused_fn (a0, (a1, (a2, (a3, (a4, (a5, (a6, (a7, (a8, (a9, (a10, ()))))))))))))) (fun r0 =>
 .ite (!decide (r0.1 = 0)) (
 .ret ([], (r0.1, ()))) (
 .ite (a2) (
 .ite (a3) (
 .grd (true) (
 .grd (decide (0 <= wW .u8 (bits .or .i64 (64 : Int) (wW .i64 (Int.tdiv (wW .i64 ((20 : Int) + (↑(a9.length) : Int))) (4 : Int)))) /\ wW .u8 (bits .or .i64 (64 : Int) (wW .i64 (Int.tdiv (wW .i64 ((20 : Int) + (↑(a9.length) : Int))) (4 : Int)))) < 256)) (
 .grd (decide (0 <= wW .u8 a0 /\ wW .u8 a0 < 256)) (
 .opt ((ipWord_fn (wW .i64 (wW .i64 ((20 : Int) + (↑(a9.length) : Int)) + (↑(a10.length) : Int)), ()))) (fun r1 =>
 .grd (decide (List.length [UInt8.ofNat (Int.toNat (wW .u8 (bits .or .i64 (64 : Int) (wW .i64 (Int.tdiv (wW .i64 ((20 : Int) + (↑(a9.length) : Int))) (4 : Int)))))), UInt8.ofNat (Int.toNat (wW .u8 a0))] + List.length r1.1 <= (9223372036854775807 : Nat))) (
 .opt ((ipWord_fn (a1, ()))) (fun r2 =>
 .grd (decide (List.length ([UInt8.ofNat (Int.toNat (wW .u8 (bits .or .i64 (64 : Int) (wW .i64 (Int.tdiv (wW .i64 ((20 : Int) + (↑(a9.length) : Int))) (4 : Int)))))), UInt8.ofNat (Int.toNat (wW .u8 a0))] ++ r1.1) + List.length r2.1 <= (9223372036854775807 : Nat))) (
 .opt ((ipWord_fn (bits .or .i64 (bits .or .i64 a4 16384) 8192, ()))) (fun r3 =>
 .grd (decide (List.length ([UInt8.ofNat (Int.toNat (wW .u8 (bits .or .i64 (64 : Int) (wW .i64 (Int.tdiv (wW .i64 ((20 : Int) + (↑(a9.length) : Int))) (4 : Int)))))), UInt8.ofNat (Int.toNat (wW .u8 a0))] ++ r1.1 ++ r2.1) + List.length r3.1 <= (9223372036854775807 : Nat))) (
 .grd (decide (0 <= wW .u8 a5 /\ wW .u8 a5 < 256)) (
 .grd (decide (0 <= wW .u8 a6 /\ wW .u8 a6 < 256)) (
 .grd (decide (List.length ([UInt8.ofNat (Int.toNat (wW .u8 (bits .or .i64 (64 : Int) (wW .i64 (Int.tdiv (wW .i64 ((20 : Int) + (↑(a9.length) : Int))) (4 : Int)))))), UInt8.ofNat (Int.toNat (wW .u8 a0))] ++ r1.1 ++ r2.1 ++ r3.1) + List.length [UInt8.ofNat (Int.toNat (wW .u8 a5)), UInt8.ofNat (Int.toNat (wW .u8 a6))] <= (9223372036854775807 : Nat))) (
 .opt ((ipLong_fn (a7, ()))) (fun r4 =>
 .opt ((ipLong_fn (a8, ()))) (fun r5 =>
 .grd (decide (List.length r4.1 + List.length r5.1 <= (9223372036854775807 : Nat))) (
 .grd (decide (List.length (r4.1 ++ r5.1) + a9.length <= (9223372036854775807 : Nat))) (
 .grd (decide (List.length ([UInt8.ofNat (Int.toNat (wW .u8 (bits .or .i64 (64 : Int) (wW .i64 (Int.tdiv (wW .i64 ((20 : Int) + (↑(a9.length) : Int))) (4 : Int)))))), UInt8.ofNat (Int.toNat (wW .u8 a0))] ++ r1.1 ++ r2.1 ++ r3.1 ++ [UInt8.ofNat (Int.toNat (wW .u8 a5)), UInt8.ofNat (Int.toNat (wW .u8 a6))]) + List.length (r4.1 ++ r5.1 ++ a9) <= (9223372036854775807 : Nat))) (
 .opt ((sumOf_fn ([UInt8.ofNat (Int.toNat (wW .u8 (bits .or .i64 (64 : Int) (wW .i64 (Int.tdiv (wW .i64 ((20 : Int) + (↑(a9.length) : Int))) (4 : Int)))))), UInt8.ofNat (Int.toNat (wW .u8 a0))] ++ r1.1 ++ r2.1 ++ r3.1 ++ [UInt8.ofNat (Int.toNat (wW .u8 a5)), UInt8.ofNat (Int.toNat (wW .u8 a6))] ++ (r4.1 ++ r5.1 ++ a9), ()))) (fun r6 =>
 .opt ((ipWord_fn (wW .i64 r6.1, ()))) (fun r7 =>
 .grd (decide (List.length ([UInt8.ofNat (Int.toNat (wW .u8 (bits .or .i64 (64 : Int) (wW .i64 (Int.tdiv (wW .i64 ((20 : Int) + (↑(a9.length) : Int))) (4 : Int)))))), UInt8.ofNat (Int.toNat (wW .u8 a0))] ++ r1.1 ++ r2.1 ++ r3.1 ++ [UInt8.ofNat (Int.toNat (wW .u8 a5)), UInt8.ofNat (Int.toNat (wW .u8 a6))]) + List.length r7.1 <= (9223372036854775807 : Nat))) (
 .grd (decide (List.length ([UInt8.ofNat (Int.toNat (wW .u8 (bits .or .i64 (64 : Int) (wW .i64 (Int.tdiv (wW .i64 ((20 : Int) + (↑(a9.length) : Int))) (4 : Int)))))), UInt8.ofNat (Int.toNat (wW .u8 a0))] ++ r1.1 ++ r2.1 ++ r3.1 ++ [UInt8.ofNat (Int.toNat (wW .u8 a5)), UInt8.ofNat (Int.toNat (wW .u8 a6))] ++ r7.1) + List.length (r4.1 ++ r5.1 ++ a9) <= (9223372036854775807 : Nat))) (
 .grd (decide (List.length ([UInt8.ofNat (Int.toNat (wW .u8 (bits .or .i64 (64 : Int) (wW .i64 (Int.tdiv (wW .i64 ((20 : Int) + (↑(a9.length) : Int))) (4 : Int)))))), UInt8.ofNat (Int.toNat (wW .u8 a0))] ++ r1.1 ++ r2.1 ++ r3.1 ++ [UInt8.ofNat (Int.toNat (wW .u8 a5)), UInt8.ofNat (Int.toNat (wW .u8 a6))] ++ r7.1 ++ (r4.1 ++ r5.1 ++ a9)) + a10.length <= (9223372036854775807 : Nat))) (
 .ret ([UInt8.ofNat (Int.toNat (wW .u8 (bits .or .i64 (64 : Int) (wW .i64 (Int.tdiv (wW .i64 ((20 : Int) + (↑(a9.length) : Int))) (4 : Int)))))), UInt8.ofNat (Int.toNat (wW .u8 a0))] ++ r1.1 ++ r2.1 ++ r3.1 ++ [UInt8.ofNat (Int.toNat (wW .u8 a5)), UInt8.ofNat (Int.toNat (wW .u8 a6))] ++ r7.1 ++ (r4.1 ++ r5.1 ++ a9) ++ a10, (0, ()))))))))))))))))))))))))) (
 .grd (true) (
 .grd (decide (0 <= wW .u8 (bits .or .i64 (64 : Int) (wW .i64 (Int.tdiv (wW .i64 ((20 : Int) + (↑(a9.length) : Int))) (4 : Int)))) /\ wW .u8 (bits .or .i64 (64 : Int) (wW .i64 (Int.tdiv (wW .i64 ((20 : Int) + (↑(a9.length) : Int))) (4 : Int)))) < 256)) (
 .grd (decide (0 <= wW .u8 a0 /\ wW .u8 a0 < 256)) (
 .opt ((ipWord_fn (wW .i64 (wW .i64 ((20 : Int) + (↑(a9.length) : Int)) + (↑(a10.length) : Int)), ()))) (fun r1 =>
 .grd (decide (List.length [UInt8.ofNat (Int.toNat (wW .u8 (bits .or .i64 (64 : Int) (wW .i64 (Int.tdiv (wW .i64 ((20 : Int) + (↑(a9.length) : Int))) (4 : Int)))))), UInt8.ofNat (Int.toNat (wW .u8 a0))] + List.length r1.1 <= (9223372036854775807 : Nat))) (
 .opt ((ipWord_fn (a1, ()))) (fun r2 =>
 .grd (decide (List.length ([UInt8.ofNat (Int.toNat (wW .u8 (bits .or .i64 (64 : Int) (wW .i64 (Int.tdiv (wW .i64 ((20 : Int) + (↑(a9.length) : Int))) (4 : Int)))))), UInt8.ofNat (Int.toNat (wW .u8 a0))] ++ r1.1) + List.length r2.1 <= (9223372036854775807 : Nat))) (
 .opt ((ipWord_fn (bits .or .i64 a4 16384, ()))) (fun r3 =>
 .grd (decide (List.length ([UInt8.ofNat (Int.toNat (wW .u8 (bits .or .i64 (64 : Int) (wW .i64 (Int.tdiv (wW .i64 ((20 : Int) + (↑(a9.length) : Int))) (4 : Int)))))), UInt8.ofNat (Int.toNat (wW .u8 a0))] ++ r1.1 ++ r2.1) + List.length r3.1 <= (9223372036854775807 : Nat))) (
 .grd (decide (0 <= wW .u8 a5 /\ wW .u8 a5 < 256)) (
 .grd (decide (0 <= wW .u8 a6 /\ wW .u8 a6 < 256)) (
 .grd (decide (List.length ([UInt8.ofNat (Int.toNat (wW .u8 (bits .or .i64 (64 : Int) (wW .i64 (Int.tdiv (wW .i64 ((20 : Int) + (↑(a9.length) : Int))) (4 : Int)))))), UInt8.ofNat (Int.toNat (wW .u8 a0))] ++ r1.1 ++ r2.1 ++ r3.1) + List.length [UInt8.ofNat (Int.toNat (wW .u8 a5)), UInt8.ofNat (Int.toNat (wW .u8 a6))] <= (9223372036854775807 : Nat))) (
 .opt ((ipLong_fn (a7, ()))) (fun r4 =>
 .opt ((ipLong_fn (a8, ()))) (fun r5 =>
 .grd (decide (List.length r4.1 + List.length r5.1 <= (9223372036854775807 : Nat))) (
 .grd (decide (List.length (r4.1 ++ r5.1) + a9.length <= (9223372036854775807 : Nat))) (
 .grd (decide (List.length ([UInt8.ofNat (Int.toNat (wW .u8 (bits .or .i64 (64 : Int) (wW .i64 (Int.tdiv (wW .i64 ((20 : Int) + (↑(a9.length) : Int))) (4 : Int)))))), UInt8.ofNat (Int.toNat (wW .u8 a0))] ++ r1.1 ++ r2.1 ++ r3.1 ++ [UInt8.ofNat (Int.toNat (wW .u8 a5)), UInt8.ofNat (Int.toNat (wW .u8 a6))]) + List.length (r4.1 ++ r5.1 ++ a9) <= (9223372036854775807 : Nat))) (
 .opt ((sumOf_fn ([UInt8.ofNat (Int.toNat (wW .u8 (bits .or .i64 (64 : Int) (wW .i64 (Int.tdiv (wW .i64 ((20 : Int) + (↑(a9.length) : Int))) (4 : Int)))))), UInt8.ofNat (Int.toNat (wW .u8 a0))] ++ r1.1 ++ r2.1 ++ r3.1 ++ [UInt8.ofNat (Int.toNat (wW .u8 a5)), UInt8.ofNat (Int.toNat (wW .u8 a6))] ++ (r4.1 ++ r5.1 ++ a9), ()))) (fun r6 =>
 .opt ((ipWord_fn (wW .i64 r6.1, ()))) (fun r7 =>
 .grd (decide (List.length ([UInt8.ofNat (Int.toNat (wW .u8 (bits .or .i64 (64 : Int) (wW .i64 (Int.tdiv (wW .i64 ((20 : Int) + (↑(a9.length) : Int))) (4 : Int)))))), UInt8.ofNat (Int.toNat (wW .u8 a0))] ++ r1.1 ++ r2.1 ++ r3.1 ++ [UInt8.ofNat (Int.toNat (wW .u8 a5)), UInt8.ofNat (Int.toNat (wW .u8 a6))]) + List.length r7.1 <= (9223372036854775807 : Nat))) (
 .grd (decide (List.length ([UInt8.ofNat (Int.toNat (wW .u8 (bits .or .i64 (64 : Int) (wW .i64 (Int.tdiv (wW .i64 ((20 : Int) + (↑(a9.length) : Int))) (4 : Int)))))), UInt8.ofNat (Int.toNat (wW .u8 a0))] ++ r1.1 ++ r2.1 ++ r3.1 ++ [UInt8.ofNat (Int.toNat (wW .u8 a5)), UInt8.ofNat (Int.toNat (wW .u8 a6))] ++ r7.1) + List.length (r4.1 ++ r5.1 ++ a9) <= (9223372036854775807 : Nat))) (
 .grd (decide (List.length ([UInt8.ofNat (Int.toNat (wW .u8 (bits .or .i64 (64 : Int) (wW .i64 (Int.tdiv (wW .i64 ((20 : Int) + (↑(a9.length) : Int))) (4 : Int)))))), UInt8.ofNat (Int.toNat (wW .u8 a0))] ++ r1.1 ++ r2.1 ++ r3.1 ++ [UInt8.ofNat (Int.toNat (wW .u8 a5)), UInt8.ofNat (Int.toNat (wW .u8 a6))] ++ r7.1 ++ (r4.1 ++ r5.1 ++ a9)) + a10.length <= (9223372036854775807 : Nat))) (
 .ret ([UInt8.ofNat (Int.toNat (wW .u8 (bits .or .i64 (64 : Int) (wW .i64 (Int.tdiv (wW .i64 ((20 : Int) + (↑(a9.length) : Int))) (4 : Int)))))), UInt8.ofNat (Int.toNat (wW .u8 a0))] ++ r1.1 ++ r2.1 ++ r3.1 ++ [UInt8.ofNat (Int.toNat (wW .u8 a5)), UInt8.ofNat (Int.toNat (wW .u8 a6))] ++ r7.1 ++ (r4.1 ++ r5.1 ++ a9) ++ a10, (0, ())))))))))))))))))))))))))) (
 .ite (a3) (
 .grd (true) (
 .grd (decide (0 <= wW .u8 (bits .or .i64 (64 : Int) (wW .i64 (Int.tdiv (wW .i64 ((20 : Int) + (↑(a9.length) : Int))) (4 : Int)))) /\ wW .u8 (bits .or .i64 (64 : Int) (wW .i64 (Int.tdiv (wW .i64 ((20 : Int) + (↑(a9.length) : Int))) (4 : Int)))) < 256)) (
 .grd (decide (0 <= wW .u8 a0 /\ wW .u8 a0 < 256)) (
 .opt ((ipWord_fn (wW .i64 (wW .i64 ((20 : Int) + (↑(a9.length) : Int)) + (↑(a10.length) : Int)), ()))) (fun r1 =>
 .grd (decide (List.length [UInt8.ofNat (Int.toNat (wW .u8 (bits .or .i64 (64 : Int) (wW .i64 (Int.tdiv (wW .i64 ((20 : Int) + (↑(a9.length) : Int))) (4 : Int)))))), UInt8.ofNat (Int.toNat (wW .u8 a0))] + List.length r1.1 <= (9223372036854775807 : Nat))) (
 .opt ((ipWord_fn (a1, ()))) (fun r2 =>
 .grd (decide (List.length ([UInt8.ofNat (Int.toNat (wW .u8 (bits .or .i64 (64 : Int) (wW .i64 (Int.tdiv (wW .i64 ((20 : Int) + (↑(a9.length) : Int))) (4 : Int)))))), UInt8.ofNat (Int.toNat (wW .u8 a0))] ++ r1.1) + List.length r2.1 <= (9223372036854775807 : Nat))) (
 .opt ((ipWord_fn (bits .or .i64 a4 8192, ()))) (fun r3 =>
 .grd (decide (List.length ([UInt8.ofNat (Int.toNat (wW .u8 (bits .or .i64 (64 : Int) (wW .i64 (Int.tdiv (wW .i64 ((20 : Int) + (↑(a9.length) : Int))) (4 : Int)))))), UInt8.ofNat (Int.toNat (wW .u8 a0))] ++ r1.1 ++ r2.1) + List.length r3.1 <= (9223372036854775807 : Nat))) (
 .grd (decide (0 <= wW .u8 a5 /\ wW .u8 a5 < 256)) (
 .grd (decide (0 <= wW .u8 a6 /\ wW .u8 a6 < 256)) (
 .grd (decide (List.length ([UInt8.ofNat (Int.toNat (wW .u8 (bits .or .i64 (64 : Int) (wW .i64 (Int.tdiv (wW .i64 ((20 : Int) + (↑(a9.length) : Int))) (4 : Int)))))), UInt8.ofNat (Int.toNat (wW .u8 a0))] ++ r1.1 ++ r2.1 ++ r3.1) + List.length [UInt8.ofNat (Int.toNat (wW .u8 a5)), UInt8.ofNat (Int.toNat (wW .u8 a6))] <= (9223372036854775807 : Nat))) (
 .opt ((ipLong_fn (a7, ()))) (fun r4 =>
 .opt ((ipLong_fn (a8, ()))) (fun r5 =>
 .grd (decide (List.length r4.1 + List.length r5.1 <= (9223372036854775807 : Nat))) (
 .grd (decide (List.length (r4.1 ++ r5.1) + a9.length <= (9223372036854775807 : Nat))) (
 .grd (decide (List.length ([UInt8.ofNat (Int.toNat (wW .u8 (bits .or .i64 (64 : Int) (wW .i64 (Int.tdiv (wW .i64 ((20 : Int) + (↑(a9.length) : Int))) (4 : Int)))))), UInt8.ofNat (Int.toNat (wW .u8 a0))] ++ r1.1 ++ r2.1 ++ r3.1 ++ [UInt8.ofNat (Int.toNat (wW .u8 a5)), UInt8.ofNat (Int.toNat (wW .u8 a6))]) + List.length (r4.1 ++ r5.1 ++ a9) <= (9223372036854775807 : Nat))) (
 .opt ((sumOf_fn ([UInt8.ofNat (Int.toNat (wW .u8 (bits .or .i64 (64 : Int) (wW .i64 (Int.tdiv (wW .i64 ((20 : Int) + (↑(a9.length) : Int))) (4 : Int)))))), UInt8.ofNat (Int.toNat (wW .u8 a0))] ++ r1.1 ++ r2.1 ++ r3.1 ++ [UInt8.ofNat (Int.toNat (wW .u8 a5)), UInt8.ofNat (Int.toNat (wW .u8 a6))] ++ (r4.1 ++ r5.1 ++ a9), ()))) (fun r6 =>
 .opt ((ipWord_fn (wW .i64 r6.1, ()))) (fun r7 =>
 .grd (decide (List.length ([UInt8.ofNat (Int.toNat (wW .u8 (bits .or .i64 (64 : Int) (wW .i64 (Int.tdiv (wW .i64 ((20 : Int) + (↑(a9.length) : Int))) (4 : Int)))))), UInt8.ofNat (Int.toNat (wW .u8 a0))] ++ r1.1 ++ r2.1 ++ r3.1 ++ [UInt8.ofNat (Int.toNat (wW .u8 a5)), UInt8.ofNat (Int.toNat (wW .u8 a6))]) + List.length r7.1 <= (9223372036854775807 : Nat))) (
 .grd (decide (List.length ([UInt8.ofNat (Int.toNat (wW .u8 (bits .or .i64 (64 : Int) (wW .i64 (Int.tdiv (wW .i64 ((20 : Int) + (↑(a9.length) : Int))) (4 : Int)))))), UInt8.ofNat (Int.toNat (wW .u8 a0))] ++ r1.1 ++ r2.1 ++ r3.1 ++ [UInt8.ofNat (Int.toNat (wW .u8 a5)), UInt8.ofNat (Int.toNat (wW .u8 a6))] ++ r7.1) + List.length (r4.1 ++ r5.1 ++ a9) <= (9223372036854775807 : Nat))) (
 .grd (decide (List.length ([UInt8.ofNat (Int.toNat (wW .u8 (bits .or .i64 (64 : Int) (wW .i64 (Int.tdiv (wW .i64 ((20 : Int) + (↑(a9.length) : Int))) (4 : Int)))))), UInt8.ofNat (Int.toNat (wW .u8 a0))] ++ r1.1 ++ r2.1 ++ r3.1 ++ [UInt8.ofNat (Int.toNat (wW .u8 a5)), UInt8.ofNat (Int.toNat (wW .u8 a6))] ++ r7.1 ++ (r4.1 ++ r5.1 ++ a9)) + a10.length <= (9223372036854775807 : Nat))) (
 .ret ([UInt8.ofNat (Int.toNat (wW .u8 (bits .or .i64 (64 : Int) (wW .i64 (Int.tdiv (wW .i64 ((20 : Int) + (↑(a9.length) : Int))) (4 : Int)))))), UInt8.ofNat (Int.toNat (wW .u8 a0))] ++ r1.1 ++ r2.1 ++ r3.1 ++ [UInt8.ofNat (Int.toNat (wW .u8 a5)), UInt8.ofNat (Int.toNat (wW .u8 a6))] ++ r7.1 ++ (r4.1 ++ r5.1 ++ a9) ++ a10, (0, ()))))))))))))))))))))))))) (
 .grd (true) (
 .grd (decide (0 <= wW .u8 (bits .or .i64 (64 : Int) (wW .i64 (Int.tdiv (wW .i64 ((20 : Int) + (↑(a9.length) : Int))) (4 : Int)))) /\ wW .u8 (bits .or .i64 (64 : Int) (wW .i64 (Int.tdiv (wW .i64 ((20 : Int) + (↑(a9.length) : Int))) (4 : Int)))) < 256)) (
 .grd (decide (0 <= wW .u8 a0 /\ wW .u8 a0 < 256)) (
 .opt ((ipWord_fn (wW .i64 (wW .i64 ((20 : Int) + (↑(a9.length) : Int)) + (↑(a10.length) : Int)), ()))) (fun r1 =>
 .grd (decide (List.length [UInt8.ofNat (Int.toNat (wW .u8 (bits .or .i64 (64 : Int) (wW .i64 (Int.tdiv (wW .i64 ((20 : Int) + (↑(a9.length) : Int))) (4 : Int)))))), UInt8.ofNat (Int.toNat (wW .u8 a0))] + List.length r1.1 <= (9223372036854775807 : Nat))) (
 .opt ((ipWord_fn (a1, ()))) (fun r2 =>
 .grd (decide (List.length ([UInt8.ofNat (Int.toNat (wW .u8 (bits .or .i64 (64 : Int) (wW .i64 (Int.tdiv (wW .i64 ((20 : Int) + (↑(a9.length) : Int))) (4 : Int)))))), UInt8.ofNat (Int.toNat (wW .u8 a0))] ++ r1.1) + List.length r2.1 <= (9223372036854775807 : Nat))) (
 .opt ((ipWord_fn (a4, ()))) (fun r3 =>
 .grd (decide (List.length ([UInt8.ofNat (Int.toNat (wW .u8 (bits .or .i64 (64 : Int) (wW .i64 (Int.tdiv (wW .i64 ((20 : Int) + (↑(a9.length) : Int))) (4 : Int)))))), UInt8.ofNat (Int.toNat (wW .u8 a0))] ++ r1.1 ++ r2.1) + List.length r3.1 <= (9223372036854775807 : Nat))) (
 .grd (decide (0 <= wW .u8 a5 /\ wW .u8 a5 < 256)) (
 .grd (decide (0 <= wW .u8 a6 /\ wW .u8 a6 < 256)) (
 .grd (decide (List.length ([UInt8.ofNat (Int.toNat (wW .u8 (bits .or .i64 (64 : Int) (wW .i64 (Int.tdiv (wW .i64 ((20 : Int) + (↑(a9.length) : Int))) (4 : Int)))))), UInt8.ofNat (Int.toNat (wW .u8 a0))] ++ r1.1 ++ r2.1 ++ r3.1) + List.length [UInt8.ofNat (Int.toNat (wW .u8 a5)), UInt8.ofNat (Int.toNat (wW .u8 a6))] <= (9223372036854775807 : Nat))) (
 .opt ((ipLong_fn (a7, ()))) (fun r4 =>
 .opt ((ipLong_fn (a8, ()))) (fun r5 =>
 .grd (decide (List.length r4.1 + List.length r5.1 <= (9223372036854775807 : Nat))) (
 .grd (decide (List.length (r4.1 ++ r5.1) + a9.length <= (9223372036854775807 : Nat))) (
 .grd (decide (List.length ([UInt8.ofNat (Int.toNat (wW .u8 (bits .or .i64 (64 : Int) (wW .i64 (Int.tdiv (wW .i64 ((20 : Int) + (↑(a9.length) : Int))) (4 : Int)))))), UInt8.ofNat (Int.toNat (wW .u8 a0))] ++ r1.1 ++ r2.1 ++ r3.1 ++ [UInt8.ofNat (Int.toNat (wW .u8 a5)), UInt8.ofNat (Int.toNat (wW .u8 a6))]) + List.length (r4.1 ++ r5.1 ++ a9) <= (9223372036854775807 : Nat))) (
 .opt ((sumOf_fn ([UInt8.ofNat (Int.toNat (wW .u8 (bits .or .i64 (64 : Int) (wW .i64 (Int.tdiv (wW .i64 ((20 : Int) + (↑(a9.length) : Int))) (4 : Int)))))), UInt8.ofNat (Int.toNat (wW .u8 a0))] ++ r1.1 ++ r2.1 ++ r3.1 ++ [UInt8.ofNat (Int.toNat (wW .u8 a5)), UInt8.ofNat (Int.toNat (wW .u8 a6))] ++ (r4.1 ++ r5.1 ++ a9), ()))) (fun r6 =>
 .opt ((ipWord_fn (wW .i64 r6.1, ()))) (fun r7 =>
 .grd (decide (List.length ([UInt8.ofNat (Int.toNat (wW .u8 (bits .or .i64 (64 : Int) (wW .i64 (Int.tdiv (wW .i64 ((20 : Int) + (↑(a9.length) : Int))) (4 : Int)))))), UInt8.ofNat (Int.toNat (wW .u8 a0))] ++ r1.1 ++ r2.1 ++ r3.1 ++ [UInt8.ofNat (Int.toNat (wW .u8 a5)), UInt8.ofNat (Int.toNat (wW .u8 a6))]) + List.length r7.1 <= (9223372036854775807 : Nat))) (
 .grd (decide (List.length ([UInt8.ofNat (Int.toNat (wW .u8 (bits .or .i64 (64 : Int) (wW .i64 (Int.tdiv (wW .i64 ((20 : Int) + (↑(a9.length) : Int))) (4 : Int)))))), UInt8.ofNat (Int.toNat (wW .u8 a0))] ++ r1.1 ++ r2.1 ++ r3.1 ++ [UInt8.ofNat (Int.toNat (wW .u8 a5)), UInt8.ofNat (Int.toNat (wW .u8 a6))] ++ r7.1) + List.length (r4.1 ++ r5.1 ++ a9) <= (9223372036854775807 : Nat))) (
 .grd (decide (List.length ([UInt8.ofNat (Int.toNat (wW .u8 (bits .or .i64 (64 : Int) (wW .i64 (Int.tdiv (wW .i64 ((20 : Int) + (↑(a9.length) : Int))) (4 : Int)))))), UInt8.ofNat (Int.toNat (wW .u8 a0))] ++ r1.1 ++ r2.1 ++ r3.1 ++ [UInt8.ofNat (Int.toNat (wW .u8 a5)), UInt8.ofNat (Int.toNat (wW .u8 a6))] ++ r7.1 ++ (r4.1 ++ r5.1 ++ a9)) + a10.length <= (9223372036854775807 : Nat))) (
 .ret ([UInt8.ofNat (Int.toNat (wW .u8 (bits .or .i64 (64 : Int) (wW .i64 (Int.tdiv (wW .i64 ((20 : Int) + (↑(a9.length) : Int))) (4 : Int)))))), UInt8.ofNat (Int.toNat (wW .u8 a0))] ++ r1.1 ++ r2.1 ++ r3.1 ++ [UInt8.ofNat (Int.toNat (wW .u8 a5)), UInt8.ofNat (Int.toNat (wW .u8 a6))] ++ r7.1 ++ (r4.1 ++ r5.1 ++ a9) ++ a10, (0, ()))))))))))))))))))))))))))))
noncomputable def gm13 : List (PF Go.Proofs.Tryz.prog) := gm12 ++ [FS.pf ipLong]
theorem ipWrite_eq (x : ty0_) : fnTr Tryz.prog cod gm13 [] 30 10 ipWrite_ap ipWrite_rp x = ipWrite_tree x := by kernel_rfl
def ipWrite_fn (x : ty0_) : Option ((List UInt8) × (Int × Unit)) := (ipWrite_tree x).eval
def ipWrite : FS Tryz.prog := ⟨10, ipWrite_ap, ipWrite_rp, ipWrite_fn, fun x r h => fnTr_sound (cod := cod) (Γ := gm13) (Λs := []) (n := 30) ((congrArg Tr.eval (ipWrite_eq x)).trans h)⟩
def ipRead_ap : List VP1 := [.one (.s)]
def ipRead_rp : SP := ⟨1, [(0, .tup [.agg [.i .i64, .i .i64, .b, .b, .i .i64, .i .i64, .i .i64, .i .u32, .i .u32, .s, .s], .one (.i .i64)])], []⟩
abbrev ty1_ : Type := (Int × (Int × (Bool × (Bool × (Int × (Int × (Int × (Int × (Int × ((List UInt8) × ((List UInt8) × (Int × Unit))))))))))))
def ipRead_tree : ((List UInt8) × Unit) -> Tr ty1_ :=
 fun (a0, _) =>
 .ite (decide ((↑(a0.length) : Int) < 20)) (
 .ret (0, (0, (false, (false, (0, (0, (0, (0, (0, ([], ([], (3, ()))))))))))))) (
 .grd (decide ((0 : Int) <= (0 : Int) /\ 0 < (↑(a0.length) : Int))) (
 .opt ((ipWordAt_fn (a0, (2, ())))) (fun r0 =>
 .ite (decide ((↑(a0.length) : Int) < wW .i64 (wW .i64 (bits .and .u8 (↑(UInt8.toNat (List.getD a0 (0 : Nat) (0 : UInt8))) : Int) (15 : Int)) * (4 : Int)))) (
 .ret (0, (0, (false, (false, (0, (0, (0, (0, (0, ([], ([], (3, ()))))))))))))) (
 .ite (decide ((↑(a0.length) : Int) < r0.1)) (
 .ret (0, (0, (false, (false, (0, (0, (0, (0, (0, ([], ([], (3, ()))))))))))))) (
 .opt ((ipWordAt_fn (a0, (6, ())))) (fun r1 =>
 .grd (decide ((0 : Int) <= (0 : Int) /\ 0 < (↑(a0.length) : Int))) (
 .grd (true) (
 .ite (!decide (Int.fdiv (↑(UInt8.toNat (List.getD a0 (0 : Nat) (0 : UInt8))) : Int) ((2 : Int) ^ (4 : Nat)) = 4)) (
 .ret (0, (0, (false, (false, (0, (0, (0, (0, (0, ([], ([], (4, ()))))))))))))) (
 .ite (decide (wW .i64 (wW .i64 (bits .and .u8 (↑(UInt8.toNat (List.getD a0 (0 : Nat) (0 : UInt8))) : Int) (15 : Int)) * (4 : Int)) < 20)) (
 .ret (0, (0, (false, (false, (0, (0, (0, (0, (0, ([], ([], (4, ()))))))))))))) (
 .ite (decide (r0.1 < wW .i64 (wW .i64 (bits .and .u8 (↑(UInt8.toNat (List.getD a0 (0 : Nat) (0 : UInt8))) : Int) (15 : Int)) * (4 : Int)))) (
 .ret (0, (0, (false, (false, (0, (0, (0, (0, (0, ([], ([], (4, ()))))))))))))) (
 .grd (true) (
 .ite (decide (Int.fdiv r1.1 ((2 : Int) ^ (15 : Nat)) = 1)) (
 .ret (0, (0, (false, (false, (0, (0, (0, (0, (0, ([], ([], (4, ()))))))))))))) (
 .grd (decide ((0 : Int) <= (1 : Int) /\ 1 < (↑(a0.length) : Int))) (
 .opt ((ipWordAt_fn (a0, (4, ())))) (fun r2 =>
 .grd (true) (
 .grd (true) (
 .grd (decide ((0 : Int) <= (8 : Int) /\ 8 < (↑(a0.length) : Int))) (
 .grd (decide ((0 : Int) <= (9 : Int) /\ 9 < (↑(a0.length) : Int))) (
 .opt ((ipLongAt_fn (a0, (12, ())))) (fun r3 =>
 .opt ((ipLongAt_fn (a0, (16, ())))) (fun r4 =>
 .grd (decide ((0 : Int) <= (20 : Int) /\ 20 <= wW .i64 (wW .i64 (bits .and .u8 (↑(UInt8.toNat (List.getD a0 (0 : Nat) (0 : UInt8))) : Int) (15 : Int)) * (4 : Int)) /\ wW .i64 (wW .i64 (bits .and .u8 (↑(UInt8.toNat (List.getD a0 (0 : Nat) (0 : UInt8))) : Int) (15 : Int)) * (4 : Int)) <= (↑(a0.length) : Int))) (
 .grd (decide (0 <= wW .i64 (wW .i64 (bits .and .u8 (↑(UInt8.toNat (List.getD a0 (0 : Nat) (0 : UInt8))) : Int) (15 : Int)) * (4 : Int)) /\ wW .i64 (wW .i64 (bits .and .u8 (↑(UInt8.toNat (List.getD a0 (0 : Nat) (0 : UInt8))) : Int) (15 : Int)) * (4 : Int)) <= r0.1 /\ r0.1 <= (↑(a0.length) : Int))) (
 .opt ((ipRefused_fn (wW .i64 (↑(UInt8.toNat (List.getD a0 (1 : Nat) (0 : UInt8))) : Int), (r2.1, (decide (bits .and .i64 (Int.fdiv r1.1 ((2 : Int) ^ (14 : Nat))) (1 : Int) = (1 : Int)), (decide (bits .and .i64 (Int.fdiv r1.1 ((2 : Int) ^ (13 : Nat))) (1 : Int) = (1 : Int)), (bits .and .i64 r1.1 8191, (wW .i64 (↑(UInt8.toNat (List.getD a0 (8 : Nat) (0 : UInt8))) : Int), (wW .i64 (↑(UInt8.toNat (List.getD a0 (9 : Nat) (0 : UInt8))) : Int), (r3.1, (r4.1, (List.drop (20 : Nat) (List.take (Int.toNat (wW .i64 (wW .i64 (bits .and .u8 (↑(UInt8.toNat (List.getD a0 (0 : Nat) (0 : UInt8))) : Int) (15 : Int)) * (4 : Int)))) a0), (List.drop (Int.toNat (wW .i64 (wW .i64 (bits .and .u8 (↑(UInt8.toNat (List.getD a0 (0 : Nat) (0 : UInt8))) : Int) (15 : Int)) * (4 : Int)))) (List.take (Int.toNat r0.1) a0), ()))))))))))))) (fun r5 =>
 .ite (!decide (r5.1 = 0)) (
 .ret (0, (0, (false, (false, (0, (0, (0, (0, (0, ([], ([], (4, ()))))))))))))) (
 .grd (decide ((0 : Int) <= (0 : Int) /\ 0 <= wW .i64 (wW .i64 (bits .and .u8 (↑(UInt8.toNat (List.getD a0 (0 : Nat) (0 : UInt8))) : Int) (15 : Int)) * (4 : Int)) /\ wW .i64 (wW .i64 (bits .and .u8 (↑(UInt8.toNat (List.getD a0 (0 : Nat) (0 : UInt8))) : Int) (15 : Int)) * (4 : Int)) <= (↑(a0.length) : Int))) (
 .opt ((sumRight_fn (List.drop (0 : Nat) (List.take (Int.toNat (wW .i64 (wW .i64 (bits .and .u8 (↑(UInt8.toNat (List.getD a0 (0 : Nat) (0 : UInt8))) : Int) (15 : Int)) * (4 : Int)))) a0), ()))) (fun r6 =>
 .ite (!r6.1) (
 .ret (0, (0, (false, (false, (0, (0, (0, (0, (0, ([], ([], (5, ()))))))))))))) (
 .ret (wW .i64 (↑(UInt8.toNat (List.getD a0 (1 : Nat) (0 : UInt8))) : Int), (r2.1, (decide (bits .and .i64 (Int.fdiv r1.1 ((2 : Int) ^ (14 : Nat))) (1 : Int) = (1 : Int)), (decide (bits .and .i64 (Int.fdiv r1.1 ((2 : Int) ^ (13 : Nat))) (1 : Int) = (1 : Int)), (bits .and .i64 r1.1 8191, (wW .i64 (↑(UInt8.toNat (List.getD a0 (8 : Nat) (0 : UInt8))) : Int), (wW .i64 (↑(UInt8.toNat (List.getD a0 (9 : Nat) (0 : UInt8))) : Int), (r3.1, (r4.1, (List.drop (20 : Nat) (List.take (Int.toNat (wW .i64 (wW .i64 (bits .and .u8 (↑(UInt8.toNat (List.getD a0 (0 : Nat) (0 : UInt8))) : Int) (15 : Int)) * (4 : Int)))) a0), (List.drop (Int.toNat (wW .i64 (wW .i64 (bits .and .u8 (↑(UInt8.toNat (List.getD a0 (0 : Nat) (0 : UInt8))) : Int) (15 : Int)) * (4 : Int)))) (List.take (Int.toNat r0.1) a0), (0, ()))))))))))))))))))))))))))))))))))))))))
noncomputable def gm14 : List (PF Go.Proofs.Tryz.prog) := gm13 ++ [FS.pf ipWrite]
theorem ipRead_eq (x : ((List UInt8) × Unit)) : fnTr Tryz.prog cod gm14 [] 30 5 ipRead_ap ipRead_rp x = ipRead_tree x := by kernel_rfl
def ipRead_fn (x : ((List UInt8) × Unit)) : Option ty1_ := (ipRead_tree x).eval
def ipRead : FS Tryz.prog := ⟨5, ipRead_ap, ipRead_rp, ipRead_fn, fun x r h => fnTr_sound (cod := cod) (Γ := gm14) (Λs := []) (n := 30) ((congrArg Tr.eval (ipRead_eq x)).trans h)⟩
def ipHop_ap : List VP1 := [.one (.s)]
def ipHop_rp : SP := ⟨1, [(0, .tup [.one (.s), .one (.i .i64)])], []⟩
def ipHop_tree : ((List UInt8) × Unit) -> Tr ((List UInt8) × (Int × Unit)) :=
 fun (a0, _) =>
 .opt ((ipRead_fn (a0, ()))) (fun r0 =>
 .ite (!decide (r0.2.2.2.2.2.2.2.2.2.2.2.1 = 0)) (
 .ret ([], (r0.2.2.2.2.2.2.2.2.2.2.2.1, ()))) (
 .ite (decide (r0.2.2.2.2.2.1 < 2)) (
 .ret ([], (7, ()))) (
 .opt ((ipWordAt_fn (a0, (8, ())))) (fun r1 =>
 .grd (true) (
 .opt ((ipWordAt_fn (a0, (10, ())))) (fun r2 =>
 .opt ((sumFix_fn (wW .u16 r2.1, (wW .u16 r1.1, (wW .u16 (bits .or .i64 (wW .i64 (wW .i64 (r0.2.2.2.2.2.1 - 1) * (2 : Int) ^ (8 : Nat))) r0.2.2.2.2.2.2.1), ()))))) (fun r3 =>
 .grd (decide ((0 : Int) <= (0 : Int) /\ (0 : Int) <= (8 : Int) /\ 8 <= (↑(a0.length) : Int))) (
 .opt ((ipWord_fn (wW .i64 (wW .u16 (bits .or .i64 (wW .i64 (wW .i64 (r0.2.2.2.2.2.1 - 1) * (2 : Int) ^ (8 : Nat))) r0.2.2.2.2.2.2.1)), ()))) (fun r4 =>
 .grd (decide (List.length (List.drop (0 : Nat) (List.take (8 : Nat) a0)) + List.length r4.1 <= (9223372036854775807 : Nat))) (
 .opt ((ipWord_fn (wW .i64 r3.1, ()))) (fun r5 =>
 .grd (decide (List.length (List.drop (0 : Nat) (List.take (8 : Nat) a0) ++ r4.1) + List.length r5.1 <= (9223372036854775807 : Nat))) (
 .opt ((ipWordAt_fn (a0, (2, ())))) (fun r6 =>
 .grd (decide ((0 : Int) <= (12 : Int) /\ 12 <= r6.1 /\ r6.1 <= (↑(a0.length) : Int))) (
 .grd (decide (List.length (List.drop (0 : Nat) (List.take (8 : Nat) a0) ++ r4.1 ++ r5.1) + List.length (List.drop (12 : Nat) (List.take (Int.toNat r6.1) a0)) <= (9223372036854775807 : Nat))) (
 .ret (List.drop (0 : Nat) (List.take (8 : Nat) a0) ++ r4.1 ++ r5.1 ++ List.drop (12 : Nat) (List.take (Int.toNat r6.1) a0), (0, ())))))))))))))))))
noncomputable def gm15 : List (PF Go.Proofs.Tryz.prog) := gm14 ++ [FS.pf ipRead]
theorem ipHop_eq (x : ((List UInt8) × Unit)) : fnTr Tryz.prog cod gm15 [] 30 68 ipHop_ap ipHop_rp x = ipHop_tree x := by kernel_rfl
def ipHop_fn (x : ((List UInt8) × Unit)) : Option ((List UInt8) × (Int × Unit)) := (ipHop_tree x).eval
def ipHop : FS Tryz.prog := ⟨68, ipHop_ap, ipHop_rp, ipHop_fn, fun x r h => fnTr_sound (cod := cod) (Γ := gm15) (Λs := []) (n := 30) ((congrArg Tr.eval (ipHop_eq x)).trans h)⟩
def tcWordAt_ap : List VP1 := [.one (.s), .one (.i .i64)]
def tcWordAt_rp : SP := ⟨1, [(0, .v (.one (.i .i64)))], []⟩
def tcWordAt_tree : ((List UInt8) × (Int × Unit)) -> Tr (Int × Unit) :=
 fun (a0, a1, _) =>
 .grd (decide (0 <= a1 /\ a1 < (↑(a0.length) : Int))) (
 .grd (true) (
 .grd (decide (0 <= wW .i64 (a1 + 1) /\ wW .i64 (a1 + 1) < (↑(a0.length) : Int))) (
 .ret (bits .or .i64 (wW .i64 (wW .i64 (↑(UInt8.toNat (List.getD a0 (Int.toNat a1) (0 : UInt8))) : Int) * (2 : Int) ^ (8 : Nat))) (wW .i64 (↑(UInt8.toNat (List.getD a0 (Int.toNat (wW .i64 (a1 + 1))) (0 : UInt8))) : Int)), ()))))
theorem tcWordAt_eq (x : ((List UInt8) × (Int × Unit))) : fnTr Tryz.prog cod gm7 [] 30 98 tcWordAt_ap tcWordAt_rp x = tcWordAt_tree x := by kernel_rfl
def tcWordAt_fn (x : ((List UInt8) × (Int × Unit))) : Option (Int × Unit) := (tcWordAt_tree x).eval
def tcWordAt : FS Tryz.prog := ⟨98, tcWordAt_ap, tcWordAt_rp, tcWordAt_fn, fun x r h => fnTr_sound (cod := cod) (Γ := gm7) (Λs := []) (n := 30) ((congrArg Tr.eval (tcWordAt_eq x)).trans h)⟩
def tcLongAt_ap : List VP1 := [.one (.s), .one (.i .i64)]
def tcLongAt_rp : SP := ⟨1, [(0, .v (.one (.i .u32)))], []⟩
def tcLongAt_tree : ((List UInt8) × (Int × Unit)) -> Tr (Int × Unit) :=
 fun (a0, a1, _) =>
 .opt ((tcWordAt_fn (a0, (a1, ())))) (fun r0 =>
 .grd (true) (
 .opt ((tcWordAt_fn (a0, (wW .i64 (a1 + 2), ())))) (fun r1 =>
 .ret (bits .or .u32 (wW .u32 (wW .u32 r0.1 * (2 : Int) ^ (16 : Nat))) (wW .u32 r1.1), ()))))
noncomputable def gm16 : List (PF Go.Proofs.Tryz.prog) := gm7 ++ [FS.pf tcWordAt]
theorem tcLongAt_eq (x : ((List UInt8) × (Int × Unit))) : fnTr Tryz.prog cod gm16 [] 30 99 tcLongAt_ap tcLongAt_rp x = tcLongAt_tree x := by kernel_rfl
def tcLongAt_fn (x : ((List UInt8) × (Int × Unit))) : Option (Int × Unit) := (tcLongAt_tree x).eval
def tcLongAt : FS Tryz.prog := ⟨99, tcLongAt_ap, tcLongAt_rp, tcLongAt_fn, fun x r h => fnTr_sound (cod := cod) (Γ := gm16) (Λs := []) (n := 30) ((congrArg Tr.eval (tcLongAt_eq x)).trans h)⟩
def tcParse_L97_10 : LS := ⟨10, [(4, 4)], ⟨66, [(57, .v (.one (.i .i64))), (0, .v (.one (.s))), (4, .v (.one (.own 4))), (56, .v (.one (.i .i64)))], [(4, .row 208 4 true true)]⟩, [⟨none, [], ⟨66, [(2, .v (.one (.nil))), (3, .v (.one (.b)))], []⟩⟩, ⟨some 2, [(4, 4)], ⟨66, [(4, .v (.one (.own 4)))], [(4, .row 208 4 true true)]⟩⟩], []⟩
def tcParse_step97_10 : (Int × ((List UInt8) × (Int × ((List TOption) × Unit)))) -> Tr ((Int × ((List UInt8) × (Int × ((List TOption) × Unit)))) ⊕ ((Bool × Unit) ⊕ ((List TOption) × Unit))) :=
 fun (a0, a1, a2, a3, _) =>
 .ite (decide (a0 < a2)) (
 .grd (decide (0 <= a0 /\ a0 < (↑(a1.length) : Int))) (
 .ite (!decide ((↑(UInt8.toNat (List.getD a1 (Int.toNat a0) (0 : UInt8))) : Int) = 0)) (
 .ret (Sum.inr (Sum.inl (false, ())))) (
 .grd (decide (a3.length = a3.length)) (
 .ret (Sum.inl (wW .i64 (a0 + 1), (a1, (a2, (a3, ()))))))))) (
 .grd (decide (a3.length = a3.length)) (
 .ret (Sum.inr (Sum.inr (a3, ())))))
def tcParse_loop97_10 (x : (Int × ((List UInt8) × (Int × ((List TOption) × Unit))))) : Option ((Bool × Unit) ⊕ ((List TOption) × Unit)) := loopO 970010 (fun x => (tcParse_step97_10 x).eval) 18446744073709551616 x
def tcParse_L97_2 : LS := ⟨2, [(4, 4)], ⟨66, [(0, .v (.one (.s))), (4, .v (.one (.own 4)))], [(4, .row 208 4 true true)]⟩, [⟨none, [], ⟨66, [(2, .v (.one (.nil))), (3, .v (.one (.b)))], []⟩⟩, ⟨some 0, [(4, 4)], ⟨66, [(0, .v (.one (.s))), (4, .v (.one (.own 4)))], [(4, .row 208 4 true true)]⟩⟩], [(4, 208, 4)]⟩
def tcParse_step97_2 : ((List UInt8) × ((List TOption) × Unit)) -> Tr (((List UInt8) × ((List TOption) × Unit)) ⊕ ((Bool × Unit) ⊕ ((List UInt8) × ((List TOption) × Unit)))) :=
 fun (a0, a1, _) =>
 .ite (!decide (a0 = [])) (
 .grd (decide ((0 : Int) <= (0 : Int) /\ 0 < (↑(a0.length) : Int))) (
 .ite (!decide ((↑(UInt8.toNat (List.getD a0 (0 : Nat) (0 : UInt8))) : Int) = 0)) (
 .grd (decide ((0 : Int) <= (0 : Int) /\ 0 < (↑(a0.length) : Int))) (
 .ite (decide ((↑(UInt8.toNat (List.getD a0 (0 : Nat) (0 : UInt8))) : Int) = 1)) (
 .grd (decide ((a1.length + List.length [TOption.mk (1 : Int) []]) * (24 : Nat) <= (140737488355328 : Nat) /\ a1.length + List.length [TOption.mk (1 : Int) []] <= (9223372036854775807 : Nat))) (
 .grd (decide ((0 : Int) <= (1 : Int) /\ 1 <= (↑(a0.length) : Int) /\ (↑(a0.length) : Int) <= (↑(a0.length) : Int))) (
 .grd (decide (List.length (a1 ++ [TOption.mk (1 : Int) []]) = List.length (a1 ++ [TOption.mk (1 : Int) []]))) (
 .ret (Sum.inl (List.drop (1 : Nat) (List.take (Int.toNat (↑(a0.length) : Int)) a0), (a1 ++ [TOption.mk (1 : Int) []], ()))))))) (
 .ite (decide ((↑(a0.length) : Int) < 2)) (
 .ret (Sum.inr (Sum.inl (false, ())))) (
 .grd (decide ((0 : Int) <= (1 : Int) /\ 1 < (↑(a0.length) : Int))) (
 .ite (decide ((↑(UInt8.toNat (List.getD a0 (1 : Nat) (0 : UInt8))) : Int) < 2)) (
 .ret (Sum.inr (Sum.inl (false, ())))) (
 .grd (decide ((0 : Int) <= (1 : Int) /\ 1 < (↑(a0.length) : Int))) (
 .ite (decide ((↑(a0.length) : Int) < wW .i64 (↑(UInt8.toNat (List.getD a0 (1 : Nat) (0 : UInt8))) : Int))) (
 .ret (Sum.inr (Sum.inl (false, ())))) (
 .grd (decide ((0 : Int) <= (1 : Int) /\ 1 < (↑(a0.length) : Int))) (
 .grd (decide ((0 : Int) <= (0 : Int) /\ 0 < (↑(a0.length) : Int))) (
 .grd (decide ((0 : Int) <= (2 : Int) /\ 2 <= wW .i64 (↑(UInt8.toNat (List.getD a0 (1 : Nat) (0 : UInt8))) : Int) /\ wW .i64 (↑(UInt8.toNat (List.getD a0 (1 : Nat) (0 : UInt8))) : Int) <= (↑(a0.length) : Int))) (
 .grd (decide ((a1.length + List.length [TOption.mk (wW .i64 (↑(UInt8.toNat (List.getD a0 (0 : Nat) (0 : UInt8))) : Int)) (List.drop (2 : Nat) (List.take (Int.toNat (wW .i64 (↑(UInt8.toNat (List.getD a0 (1 : Nat) (0 : UInt8))) : Int))) a0))]) * (24 : Nat) <= (140737488355328 : Nat) /\ a1.length + List.length [TOption.mk (wW .i64 (↑(UInt8.toNat (List.getD a0 (0 : Nat) (0 : UInt8))) : Int)) (List.drop (2 : Nat) (List.take (Int.toNat (wW .i64 (↑(UInt8.toNat (List.getD a0 (1 : Nat) (0 : UInt8))) : Int))) a0))] <= (9223372036854775807 : Nat))) (
 .grd (decide (0 <= wW .i64 (↑(UInt8.toNat (List.getD a0 (1 : Nat) (0 : UInt8))) : Int) /\ wW .i64 (↑(UInt8.toNat (List.getD a0 (1 : Nat) (0 : UInt8))) : Int) <= (↑(a0.length) : Int) /\ (↑(a0.length) : Int) <= (↑(a0.length) : Int))) (
 .grd (decide (List.length (a1 ++ [TOption.mk (wW .i64 (↑(UInt8.toNat (List.getD a0 (0 : Nat) (0 : UInt8))) : Int)) (List.drop (2 : Nat) (List.take (Int.toNat (wW .i64 (↑(UInt8.toNat (List.getD a0 (1 : Nat) (0 : UInt8))) : Int))) a0))]) = List.length (a1 ++ [TOption.mk (wW .i64 (↑(UInt8.toNat (List.getD a0 (0 : Nat) (0 : UInt8))) : Int)) (List.drop (2 : Nat) (List.take (Int.toNat (wW .i64 (↑(UInt8.toNat (List.getD a0 (1 : Nat) (0 : UInt8))) : Int))) a0))]))) (
 .ret (Sum.inl (List.drop (Int.toNat (wW .i64 (↑(UInt8.toNat (List.getD a0 (1 : Nat) (0 : UInt8))) : Int))) (List.take (Int.toNat (↑(a0.length) : Int)) a0), (a1 ++ [TOption.mk (wW .i64 (↑(UInt8.toNat (List.getD a0 (0 : Nat) (0 : UInt8))) : Int)) (List.drop (2 : Nat) (List.take (Int.toNat (wW .i64 (↑(UInt8.toNat (List.getD a0 (1 : Nat) (0 : UInt8))) : Int))) a0))], ()))))))))))))))))) (
 .grd (decide (a1.length = a1.length)) (
 .ret (Sum.inr (Sum.inr (a0, (a1, ())))))))) (
 .grd (decide (a1.length = a1.length)) (
 .ret (Sum.inr (Sum.inr (a0, (a1, ()))))))
def tcParse_loop97_2 (x : ((List UInt8) × ((List TOption) × Unit))) : Option ((Bool × Unit) ⊕ ((List UInt8) × ((List TOption) × Unit))) := loopO 970002 (fun x => (tcParse_step97_2 x).eval) 18446744073709551616 x
def tcParse_ap : List VP1 := [.one (.s)]
def tcParse_rp : SP := ⟨1, [(0, .tup [.one (.st 4 true), .one (.b)])], []⟩
def tcParse_tree : ((List UInt8) × Unit) -> Tr ((List TOption) × (Bool × Unit)) :=
 fun (a0, _) =>
 .grd (true) (
 .opt ((tcParse_loop97_2 (a0, ([], ())))) (fun r0 =>
 .sum (r0) (fun r1 =>
 .ret ([], (r1.1, ()))) (fun r1 =>
 .grd (decide (List.length r1.2.fst = List.length r1.2.1)) (
 .opt ((tcParse_loop97_10 (0, (r1.1, ((↑(List.length r1.1) : Int), (r1.2.1, ())))))) (fun r2 =>
 .sum (r2) (fun r3 =>
 .ret ([], (r3.1, ()))) (fun r3 =>
 .ret (r3.1, (true, ()))))))))
noncomputable def gm17 : List (PF Go.Proofs.Tryz.prog) := gm16 ++ [FS.pf tcLongAt]
theorem tcParse_eq (x : ((List UInt8) × Unit)) : fnTr Tryz.prog cod gm17 [(97, tcParse_L97_10), (97, tcParse_L97_2)] 30 97 tcParse_ap tcParse_rp x = tcParse_tree x := by kernel_rfl
def tcParse_fn (x : ((List UInt8) × Unit)) : Option ((List TOption) × (Bool × Unit)) := (tcParse_tree x).eval
def tcParse : FS Tryz.prog := ⟨97, tcParse_ap, tcParse_rp, tcParse_fn, fun x r h => fnTr_sound (cod := cod) (Γ := gm17) (Λs := [(97, tcParse_L97_10), (97, tcParse_L97_2)]) (n := 30) ((congrArg Tr.eval (tcParse_eq x)).trans h)⟩
def tcRead_ap : List VP1 := [.one (.s), .one (.i .u32), .one (.i .u32)]
def tcRead_rp : SP := ⟨1, [(0, .tup [.agg [.i .i64, .i .i64, .i .u32, .i .u32, .i .i64, .i .i64, .i .i64, .st 4 true, .s], .one (.i .i64)])], []⟩
abbrev ty2_ : Type := (Int × (Int × (Int × (Int × (Int × (Int × (Int × ((List TOption) × ((List UInt8) × (Int × Unit))))))))))
def tcRead_tree : ((List UInt8) × (Int × (Int × Unit))) -> Tr ty2_ :=
 fun (a0, a1, a2, _) =>
 .ite (decide ((↑(a0.length) : Int) < 20)) (
 .ret (0, (0, (0, (0, (0, (0, (0, ([], ([], (3, ()))))))))))) (
 .grd (decide ((0 : Int) <= (12 : Int) /\ 12 < (↑(a0.length) : Int))) (
 .grd (true) (
 .ite (decide ((↑(a0.length) : Int) < wW .i64 (wW .i64 (Int.tdiv (wW .i64 (↑(UInt8.toNat (List.getD a0 (12 : Nat) (0 : UInt8))) : Int)) (16 : Int)) * (4 : Int)))) (
 .ret (0, (0, (0, (0, (0, (0, (0, ([], ([], (3, ()))))))))))) (
 .ite (decide (wW .i64 (wW .i64 (Int.tdiv (wW .i64 (↑(UInt8.toNat (List.getD a0 (12 : Nat) (0 : UInt8))) : Int)) (16 : Int)) * (4 : Int)) < 20)) (
 .ret (0, (0, (0, (0, (0, (0, (0, ([], ([], (4, ()))))))))))) (
 .grd (decide ((0 : Int) <= (12 : Int) /\ 12 < (↑(a0.length) : Int))) (
 .grd (true) (
 .ite (!decide (Int.tmod (↑(UInt8.toNat (List.getD a0 (12 : Nat) (0 : UInt8))) : Int) (16 : Int) = (0 : Int))) (
 .ret (0, (0, (0, (0, (0, (0, (0, ([], ([], (4, ()))))))))))) (
 .ite (decide (65455 < wW .i64 ((↑(a0.length) : Int) - wW .i64 (wW .i64 (Int.tdiv (wW .i64 (↑(UInt8.toNat (List.getD a0 (12 : Nat) (0 : UInt8))) : Int)) (16 : Int)) * (4 : Int))))) (
 .ret (0, (0, (0, (0, (0, (0, (0, ([], ([], (2, ()))))))))))) (
 .grd (decide ((0 : Int) <= (20 : Int) /\ 20 <= wW .i64 (wW .i64 (Int.tdiv (wW .i64 (↑(UInt8.toNat (List.getD a0 (12 : Nat) (0 : UInt8))) : Int)) (16 : Int)) * (4 : Int)) /\ wW .i64 (wW .i64 (Int.tdiv (wW .i64 (↑(UInt8.toNat (List.getD a0 (12 : Nat) (0 : UInt8))) : Int)) (16 : Int)) * (4 : Int)) <= (↑(a0.length) : Int))) (
 .opt ((tcParse_fn (List.drop (20 : Nat) (List.take (Int.toNat (wW .i64 (wW .i64 (Int.tdiv (wW .i64 (↑(UInt8.toNat (List.getD a0 (12 : Nat) (0 : UInt8))) : Int)) (16 : Int)) * (4 : Int)))) a0), ()))) (fun r0 =>
 .ite (!r0.2.1) (
 .ret (0, (0, (0, (0, (0, (0, (0, ([], ([], (4, ()))))))))))) (
 .opt ((dgUnder_fn (a1, (a2, (6, ((↑(a0.length) : Int), ())))))) (fun r1 =>
 .grd (decide (List.length r1.1 + a0.length <= (9223372036854775807 : Nat))) (
 .opt ((sumRight_fn (r1.1 ++ a0, ()))) (fun r2 =>
 .ite (!r2.1) (
 .ret (0, (0, (0, (0, (0, (0, (0, ([], ([], (5, ()))))))))))) (
 .opt ((tcWordAt_fn (a0, (0, ())))) (fun r3 =>
 .opt ((tcWordAt_fn (a0, (2, ())))) (fun r4 =>
 .opt ((tcLongAt_fn (a0, (4, ())))) (fun r5 =>
 .opt ((tcLongAt_fn (a0, (8, ())))) (fun r6 =>
 .grd (decide ((0 : Int) <= (13 : Int) /\ 13 < (↑(a0.length) : Int))) (
 .opt ((tcWordAt_fn (a0, (14, ())))) (fun r7 =>
 .opt ((tcWordAt_fn (a0, (18, ())))) (fun r8 =>
 .grd (decide (0 <= wW .i64 (wW .i64 (Int.tdiv (wW .i64 (↑(UInt8.toNat (List.getD a0 (12 : Nat) (0 : UInt8))) : Int)) (16 : Int)) * (4 : Int)) /\ wW .i64 (wW .i64 (Int.tdiv (wW .i64 (↑(UInt8.toNat (List.getD a0 (12 : Nat) (0 : UInt8))) : Int)) (16 : Int)) * (4 : Int)) <= (↑(a0.length) : Int) /\ (↑(a0.length) : Int) <= (↑(a0.length) : Int))) (
 .ret (r3.1, (r4.1, (r5.1, (r6.1, (wW .i64 (↑(UInt8.toNat (List.getD a0 (13 : Nat) (0 : UInt8))) : Int), (r7.1, (r8.1, (r0.1, (List.drop (Int.toNat (wW .i64 (wW .i64 (Int.tdiv (wW .i64 (↑(UInt8.toNat (List.getD a0 (12 : Nat) (0 : UInt8))) : Int)) (16 : Int)) * (4 : Int)))) (List.take (Int.toNat (↑(a0.length) : Int)) a0), (0, ()))))))))))))))))))))))))))))))))))
noncomputable def gm18 : List (PF Go.Proofs.Tryz.prog) := gm17 ++ [FS.pf tcParse]
theorem tcRead_eq (x : ((List UInt8) × (Int × (Int × Unit)))) : fnTr Tryz.prog cod gm18 [] 30 76 tcRead_ap tcRead_rp x = tcRead_tree x := by kernel_rfl
def tcRead_fn (x : ((List UInt8) × (Int × (Int × Unit)))) : Option ty2_ := (tcRead_tree x).eval
def tcRead : FS Tryz.prog := ⟨76, tcRead_ap, tcRead_rp, tcRead_fn, fun x r h => fnTr_sound (cod := cod) (Γ := gm18) (Λs := []) (n := 30) ((congrArg Tr.eval (tcRead_eq x)).trans h)⟩
def swEnds_ap : List VP1 := [.one (.s)]
def swEnds_rp : SP := ⟨1, [(0, .tup [.agg [.i .u32, .i .u32, .i .i64, .i .i64, .i .i64], .one (.i .i64)])], []⟩
def swEnds_tree : ((List UInt8) × Unit) -> Tr (Int × (Int × (Int × (Int × (Int × (Int × Unit)))))) :=
 fun (a0, _) =>
 .opt ((ipRead_fn (a0, ()))) (fun r0 =>
 .ite (!decide (r0.2.2.2.2.2.2.2.2.2.2.2.1 = 0)) (
 .ret (0, (0, (0, (0, (0, (r0.2.2.2.2.2.2.2.2.2.2.2.1, ()))))))) (
 .ite (!decide (r0.2.2.2.2.2.2.1 = 6)) (
 .ite (!decide (r0.2.2.2.2.2.2.1 = 17)) (
 .ret (0, (0, (0, (0, (0, (7, ()))))))) (
 .ite (r0.2.2.2.1) (
 .ret (0, (0, (0, (0, (0, (9, ()))))))) (
 .ite (!decide (r0.2.2.2.2.1 = 0)) (
 .ret (0, (0, (0, (0, (0, (9, ()))))))) (
 .ite (decide (r0.2.2.2.2.2.2.1 = 6)) (
 .opt ((tcRead_fn (r0.2.2.2.2.2.2.2.2.2.2.1, (r0.2.2.2.2.2.2.2.1, (r0.2.2.2.2.2.2.2.2.1, ()))))) (fun r1 =>
 .ite (!decide (r1.2.2.2.2.2.2.2.2.2.1 = 0)) (
 .ret (0, (0, (0, (0, (0, (r1.2.2.2.2.2.2.2.2.2.1, ()))))))) (
 .ret (r0.2.2.2.2.2.2.2.1, (r0.2.2.2.2.2.2.2.2.1, (r0.2.2.2.2.2.2.1, (r1.1, (r1.2.1, (0, ()))))))))) (
 .opt ((dgRead_fn (r0.2.2.2.2.2.2.2.2.2.2.1, (r0.2.2.2.2.2.2.2.1, (r0.2.2.2.2.2.2.2.2.1, ()))))) (fun r1 =>
 .ite (!decide (r1.2.2.2.1 = 0)) (
 .ret (0, (0, (0, (0, (0, (r1.2.2.2.1, ()))))))) (
 .ret (r0.2.2.2.2.2.2.2.1, (r0.2.2.2.2.2.2.2.2.1, (r0.2.2.2.2.2.2.1, (r1.1, (r1.2.1, (0, ()))))))))))))) (
 .ite (r0.2.2.2.1) (
 .ret (0, (0, (0, (0, (0, (9, ()))))))) (
 .ite (!decide (r0.2.2.2.2.1 = 0)) (
 .ret (0, (0, (0, (0, (0, (9, ()))))))) (
 .ite (decide (r0.2.2.2.2.2.2.1 = 6)) (
 .opt ((tcRead_fn (r0.2.2.2.2.2.2.2.2.2.2.1, (r0.2.2.2.2.2.2.2.1, (r0.2.2.2.2.2.2.2.2.1, ()))))) (fun r1 =>
 .ite (!decide (r1.2.2.2.2.2.2.2.2.2.1 = 0)) (
 .ret (0, (0, (0, (0, (0, (r1.2.2.2.2.2.2.2.2.2.1, ()))))))) (
 .ret (r0.2.2.2.2.2.2.2.1, (r0.2.2.2.2.2.2.2.2.1, (r0.2.2.2.2.2.2.1, (r1.1, (r1.2.1, (0, ()))))))))) (
 .opt ((dgRead_fn (r0.2.2.2.2.2.2.2.2.2.2.1, (r0.2.2.2.2.2.2.2.1, (r0.2.2.2.2.2.2.2.2.1, ()))))) (fun r1 =>
 .ite (!decide (r1.2.2.2.1 = 0)) (
 .ret (0, (0, (0, (0, (0, (r1.2.2.2.1, ()))))))) (
 .ret (r0.2.2.2.2.2.2.2.1, (r0.2.2.2.2.2.2.2.2.1, (r0.2.2.2.2.2.2.1, (r1.1, (r1.2.1, (0, ()))))))))))))))
noncomputable def gm19 : List (PF Go.Proofs.Tryz.prog) := gm15 ++ [FS.pf ipHop, FS.pf tcWordAt, FS.pf tcLongAt, FS.pf tcParse, FS.pf tcRead]
theorem swEnds_eq (x : ((List UInt8) × Unit)) : fnTr Tryz.prog cod gm19 [] 30 53 swEnds_ap swEnds_rp x = swEnds_tree x := by kernel_rfl
def swEnds_fn (x : ((List UInt8) × Unit)) : Option (Int × (Int × (Int × (Int × (Int × (Int × Unit)))))) := (swEnds_tree x).eval
def swEnds : FS Tryz.prog := ⟨53, swEnds_ap, swEnds_rp, swEnds_fn, fun x r h => fnTr_sound (cod := cod) (Γ := gm19) (Λs := []) (n := 30) ((congrArg Tr.eval (swEnds_eq x)).trans h)⟩
def swWord_ap : List VP1 := [.one (.st 2 false), .one (.i .i64)]
def swWord_rp : SP := ⟨1, [(0, .v (.one (.i .u16)))], []⟩
def swWord_tree : ((List UInt8) × (Int × Unit)) -> Tr (Int × Unit) :=
 fun (a0, a1, _) =>
 .grd (decide (0 <= a1)) (
 .opt (a0[Int.toNat a1]?) (fun r0 =>
 .grd (true) (
 .grd (decide (0 <= wW .i64 (a1 + 1))) (
 .opt (a0[Int.toNat (wW .i64 (a1 + 1))]?) (fun r1 =>
 .ret (bits .or .u16 (wW .u16 (wW .u16 (↑(UInt8.toNat r0) : Int) * (2 : Int) ^ (8 : Nat))) (wW .u16 (↑(UInt8.toNat r1) : Int)), ()))))))
noncomputable def gm20 : List (PF Go.Proofs.Tryz.prog) := gm19 ++ [FS.pf swEnds]
theorem swWord_eq (x : ((List UInt8) × (Int × Unit))) : fnTr Tryz.prog cod gm20 [] 30 54 swWord_ap swWord_rp x = swWord_tree x := by kernel_rfl
def swWord_fn (x : ((List UInt8) × (Int × Unit))) : Option (Int × Unit) := (swWord_tree x).eval
def swWord : FS Tryz.prog := ⟨54, swWord_ap, swWord_rp, swWord_fn, fun x r h => fnTr_sound (cod := cod) (Γ := gm20) (Λs := []) (n := 30) ((congrArg Tr.eval (swWord_eq x)).trans h)⟩
def swPut_ap : SP := ⟨18, [(0, .v (.one (.pre 1500100 1))), (1, .v (.one (.i .i64))), (2, .v (.one (.i .u16)))], [(1500100, .row 5 2 false true)]⟩
def swPut_rp : SP := ⟨1, [(0, .tup [])], [(1500100, .row 5 2 false true)]⟩
def swPut_tree : (Nat × (Int × (Int × ((List UInt8) × Unit)))) -> Tr ((List UInt8) × Unit) :=
 fun (a0, a1, a2, a3, _) =>
 .grd (true) (
 .grd (decide (0 <= a1 /\ a1 < (↑a0 : Int))) (
 .opt (a3[(0 : Nat) + Int.toNat a1]?) (fun r0 =>
 .grd (decide (0 <= wW .u8 (Int.fdiv a2 ((2 : Int) ^ (8 : Nat))) /\ wW .u8 (Int.fdiv a2 ((2 : Int) ^ (8 : Nat))) < 256)) (
 .grd (decide (0 <= wW .i64 (a1 + 1) /\ wW .i64 (a1 + 1) < (↑a0 : Int))) (
 .opt ((List.set a3 ((0 : Nat) + Int.toNat a1) (UInt8.ofNat (Int.toNat (wW .u8 (Int.fdiv a2 ((2 : Int) ^ (8 : Nat)))))))[(0 : Nat) + Int.toNat (wW .i64 (a1 + 1))]?) (fun r1 =>
 .grd (decide (0 <= wW .u8 a2 /\ wW .u8 a2 < 256)) (
 .ret (List.set (List.set a3 ((0 : Nat) + Int.toNat a1) (UInt8.ofNat (Int.toNat (wW .u8 (Int.fdiv a2 ((2 : Int) ^ (8 : Nat))))))) ((0 : Nat) + Int.toNat (wW .i64 (a1 + 1))) (UInt8.ofNat (Int.toNat (wW .u8 a2))), ()))))))))
noncomputable def gm21 : List (PF Go.Proofs.Tryz.prog) := gm20 ++ [FS.pf swWord]
theorem swPut_eq (x : (Nat × (Int × (Int × ((List UInt8) × Unit))))) : gsTr Tryz.prog cod gm21 [] 30 56 swPut_ap swPut_rp x = swPut_tree x := by kernel_rfl
def swPut_fn (x : (Nat × (Int × (Int × ((List UInt8) × Unit))))) : Option ((List UInt8) × Unit) := (swPut_tree x).eval
def swPut : GS Tryz.prog := ⟨56, [2, 0, 0], swPut_ap, swPut_rp, swPut_fn, fun x r h ys m g he hg => gs_sound (cod := cod) (Γ := gm21) (Λs := []) (n := 30) ((congrArg Tr.eval (swPut_eq x)).trans h) he hg⟩
def swChange_L55_3 : LS := ⟨3, [(1500100, 1500100)], ⟨34, [(20, .v (.one (.i .i64))), (2, .v (.one (.i .u16))), (8, .v (.one (.i .u16))), (0, .v (.one (.pre 1500100 1))), (18, .v (.one (.st 0 false))), (19, .v (.one (.i .i64)))], [(1500100, .row 5 2 false true)]⟩, [⟨some 0, [(1500100, 1500100)], ⟨34, [], [(1500100, .row 5 2 false true)]⟩⟩], []⟩
def swChange_step55_3 : (Int × (Int × (Int × (Nat × ((List Int) × (Int × ((List UInt8) × Unit))))))) -> Tr ((Int × (Int × (Int × (Nat × ((List Int) × (Int × ((List UInt8) × Unit))))))) ⊕ ((List UInt8) × Unit)) :=
 fun (a0, a1, a2, a3, a4, a5, a6, _) =>
 .ite (decide (a0 < a5)) (
 .grd (decide (0 <= a0)) (
 .opt (a4[Int.toNat a0]?) (fun r0 =>
 .opt ((swWord_fn (List.take a3 a6, (r0, ())))) (fun r1 =>
 .opt ((sumFix_fn (r1.1, (a2, (a1, ()))))) (fun r2 =>
 .opt ((swPut_fn (a3, (r0, (r2.1, (a6, ())))))) (fun r3 =>
 .ret (Sum.inl (wW .i64 (a0 + 1), (a1, (a2, (a3, (a4, (a5, (r3.1, ())))))))))))))) (
 .ret (Sum.inr (a6, ())))
def swChange_loop55_3 (x : (Int × (Int × (Int × (Nat × ((List Int) × (Int × ((List UInt8) × Unit)))))))) : Option ((List UInt8) × Unit) := loopO 550003 (fun x => (swChange_step55_3 x).eval) 18446744073709551616 x
def swChange_ap : SP := ⟨34, [(0, .v (.one (.pre 1500100 1))), (1, .v (.one (.i .i64))), (2, .v (.one (.i .u16))), (3, .v (.one (.st 0 false)))], [(1500100, .row 5 2 false true)]⟩
def swChange_rp : SP := ⟨1, [(0, .tup [])], [(1500100, .row 5 2 false true)]⟩
def swChange_tree : (Nat × (Int × (Int × ((List Int) × ((List UInt8) × Unit))))) -> Tr ((List UInt8) × Unit) :=
 fun (a0, a1, a2, a3, a4, _) =>
 .opt ((swWord_fn (List.take a0 a4, (a1, ())))) (fun r0 =>
 .opt ((swPut_fn (a0, (a1, (a2, (a4, ())))))) (fun r1 =>
 .opt ((swChange_loop55_3 (0, (a2, (r0.1, (a0, (a3, ((↑(a3.length) : Int), (r1.1, ()))))))))) (fun r2 =>
 .ret (r2.1, ()))))
noncomputable def gm22 : List (PF Go.Proofs.Tryz.prog) := gm21 ++ [GS.pf swPut]
theorem swChange_eq (x : (Nat × (Int × (Int × ((List Int) × ((List UInt8) × Unit)))))) : gsTr Tryz.prog cod gm22 [(55, swChange_L55_3)] 30 55 swChange_ap swChange_rp x = swChange_tree x := by kernel_rfl
def swChange_fn (x : (Nat × (Int × (Int × ((List Int) × ((List UInt8) × Unit)))))) : Option ((List UInt8) × Unit) := (swChange_tree x).eval
def swChange : GS Tryz.prog := ⟨55, [2, 0, 0, 0], swChange_ap, swChange_rp, swChange_fn, fun x r h ys m g he hg => gs_sound (cod := cod) (Γ := gm22) (Λs := [(55, swChange_L55_3)]) (n := 30) ((congrArg Tr.eval (swChange_eq x)).trans h) he hg⟩
def swSwapped_ap : List VP1 := [.one (.s), .one (.i .u32), .one (.i .i64), .one (.i .i64), .one (.i .i64)]
def swSwapped_rp : SP := ⟨1, [(0, .tup [.one (.s), .one (.i .i64)])], []⟩
def swSwapped_tree : ((List UInt8) × (Int × (Int × (Int × (Int × Unit))))) -> Tr ((List UInt8) × (Int × Unit)) :=
 fun (a0, a1, a2, a3, a4, _) =>
 .opt ((swEnds_fn (a0, ()))) (fun r0 =>
 .ite (!decide (r0.2.2.2.2.2.1 = 0)) (
 .ret ([], (r0.2.2.2.2.2.1, ()))) (
 .ite (decide (a2 < 0)) (
 .ret ([], (1, ()))) (
 .ite (decide (65535 < a2)) (
 .ret ([], (1, ()))) (
 .grd (decide (a0.length <= (9223372036854775807 : Nat))) (
 .opt ((swWord_fn (a0, (2, ())))) (fun r1 =>
 .grd (decide (0 <= r1.1 /\ r1.1 <= (↑(a0.length) : Int))) (
 .grd (decide ((0 : Int) <= (0 : Int) /\ 0 < (↑(Int.toNat r1.1) : Int))) (
 .opt (a0[(0 : Nat) + (0 : Nat)]?) (fun r2 =>
 .ite (decide (r0.2.2.1 = 17)) (
 .ite (decide (r0.2.2.1 = 17)) (
 .opt ((swWord_fn (List.take (Int.toNat r1.1) a0, (wW .i64 (wW .i64 (wW .i64 (bits .and .u8 (↑(UInt8.toNat r2) : Int) (15 : Int)) * (4 : Int)) + 6), ())))) (fun r3 =>
 .ite (decide (r3.1 = 0)) (
 .grd (true) (
 .grd (true) (
 .opt ((swChange_fn (Int.toNat r1.1, (a3, (wW .u16 (Int.fdiv a1 ((2 : Int) ^ (16 : Nat))), (List.take (1 : Nat) [10, wW .i64 (wW .i64 (wW .i64 (bits .and .u8 (↑(UInt8.toNat r2) : Int) (15 : Int)) * (4 : Int)) + 6)], (a0, ()))))))) (fun r4 =>
 .opt ((swChange_fn (Int.toNat r1.1, (wW .i64 (a3 + 2), (wW .u16 a1, (List.take (1 : Nat) [10, wW .i64 (wW .i64 (wW .i64 (bits .and .u8 (↑(UInt8.toNat r2) : Int) (15 : Int)) * (4 : Int)) + 6)], (r4.1, ()))))))) (fun r5 =>
 .grd (decide ((0 : Int) <= (1 : Int) /\ 1 <= (↑(1 : Nat) : Int) /\ (↑(1 : Nat) : Int) <= (↑(List.length [10, wW .i64 (wW .i64 (wW .i64 (bits .and .u8 (↑(UInt8.toNat r2) : Int) (15 : Int)) * (4 : Int)) + 6)]) : Int))) (
 .opt ((swChange_fn (Int.toNat r1.1, (wW .i64 (wW .i64 (wW .i64 (bits .and .u8 (↑(UInt8.toNat r2) : Int) (15 : Int)) * (4 : Int)) + a4), (wW .u16 a2, (List.take (0 : Nat) (List.drop (1 : Nat) [10, wW .i64 (wW .i64 (wW .i64 (bits .and .u8 (↑(UInt8.toNat r2) : Int) (15 : Int)) * (4 : Int)) + 6)]), (r5.1, ()))))))) (fun r6 =>
 .ite (decide (r0.2.2.1 = 17)) (
 .ite (!decide (r3.1 = 0)) (
 .opt ((swWord_fn (List.take (Int.toNat r1.1) r6.1, (wW .i64 (wW .i64 (wW .i64 (bits .and .u8 (↑(UInt8.toNat r2) : Int) (15 : Int)) * (4 : Int)) + 6), ())))) (fun r7 =>
 .ite (decide (r7.1 = 0)) (
 .opt ((swPut_fn (Int.toNat r1.1, (wW .i64 (wW .i64 (wW .i64 (bits .and .u8 (↑(UInt8.toNat r2) : Int) (15 : Int)) * (4 : Int)) + 6), (65535, (r6.1, ())))))) (fun r8 =>
 .ret (List.take (Int.toNat r1.1) r8.1, (0, ())))) (
 .ret (List.take (Int.toNat r1.1) r6.1, (0, ()))))) (
 .ret (List.take (Int.toNat r1.1) r6.1, (0, ())))) (
 .ret (List.take (Int.toNat r1.1) r6.1, (0, ())))))))))) (
 .grd (true) (
 .opt ((swChange_fn (Int.toNat r1.1, (a3, (wW .u16 (Int.fdiv a1 ((2 : Int) ^ (16 : Nat))), ([10, wW .i64 (wW .i64 (wW .i64 (bits .and .u8 (↑(UInt8.toNat r2) : Int) (15 : Int)) * (4 : Int)) + 6)], (a0, ()))))))) (fun r4 =>
 .opt ((swChange_fn (Int.toNat r1.1, (wW .i64 (a3 + 2), (wW .u16 a1, ([10, wW .i64 (wW .i64 (wW .i64 (bits .and .u8 (↑(UInt8.toNat r2) : Int) (15 : Int)) * (4 : Int)) + 6)], (r4.1, ()))))))) (fun r5 =>
 .grd (true) (
 .opt ((swChange_fn (Int.toNat r1.1, (wW .i64 (wW .i64 (wW .i64 (bits .and .u8 (↑(UInt8.toNat r2) : Int) (15 : Int)) * (4 : Int)) + a4), (wW .u16 a2, (List.take (1 : Nat) (List.drop (1 : Nat) [10, wW .i64 (wW .i64 (wW .i64 (bits .and .u8 (↑(UInt8.toNat r2) : Int) (15 : Int)) * (4 : Int)) + 6)]), (r5.1, ()))))))) (fun r6 =>
 .ite (decide (r0.2.2.1 = 17)) (
 .ite (!decide (r3.1 = 0)) (
 .opt ((swWord_fn (List.take (Int.toNat r1.1) r6.1, (wW .i64 (wW .i64 (wW .i64 (bits .and .u8 (↑(UInt8.toNat r2) : Int) (15 : Int)) * (4 : Int)) + 6), ())))) (fun r7 =>
 .ite (decide (r7.1 = 0)) (
 .opt ((swPut_fn (Int.toNat r1.1, (wW .i64 (wW .i64 (wW .i64 (bits .and .u8 (↑(UInt8.toNat r2) : Int) (15 : Int)) * (4 : Int)) + 6), (65535, (r6.1, ())))))) (fun r8 =>
 .ret (List.take (Int.toNat r1.1) r8.1, (0, ())))) (
 .ret (List.take (Int.toNat r1.1) r6.1, (0, ()))))) (
 .ret (List.take (Int.toNat r1.1) r6.1, (0, ())))) (
 .ret (List.take (Int.toNat r1.1) r6.1, (0, ()))))))))))) (
 .grd (true) (
 .opt ((swChange_fn (Int.toNat r1.1, (a3, (wW .u16 (Int.fdiv a1 ((2 : Int) ^ (16 : Nat))), ([10, wW .i64 (wW .i64 (wW .i64 (bits .and .u8 (↑(UInt8.toNat r2) : Int) (15 : Int)) * (4 : Int)) + 6)], (a0, ()))))))) (fun r3 =>
 .opt ((swChange_fn (Int.toNat r1.1, (wW .i64 (a3 + 2), (wW .u16 a1, ([10, wW .i64 (wW .i64 (wW .i64 (bits .and .u8 (↑(UInt8.toNat r2) : Int) (15 : Int)) * (4 : Int)) + 6)], (r3.1, ()))))))) (fun r4 =>
 .grd (true) (
 .opt ((swChange_fn (Int.toNat r1.1, (wW .i64 (wW .i64 (wW .i64 (bits .and .u8 (↑(UInt8.toNat r2) : Int) (15 : Int)) * (4 : Int)) + a4), (wW .u16 a2, (List.take (1 : Nat) (List.drop (1 : Nat) [10, wW .i64 (wW .i64 (wW .i64 (bits .and .u8 (↑(UInt8.toNat r2) : Int) (15 : Int)) * (4 : Int)) + 6)]), (r4.1, ()))))))) (fun r5 =>
 .ite (decide (r0.2.2.1 = 17)) (
 .ite (true) (
 .opt ((swWord_fn (List.take (Int.toNat r1.1) r5.1, (wW .i64 (wW .i64 (wW .i64 (bits .and .u8 (↑(UInt8.toNat r2) : Int) (15 : Int)) * (4 : Int)) + 6), ())))) (fun r6 =>
 .ite (decide (r6.1 = 0)) (
 .opt ((swPut_fn (Int.toNat r1.1, (wW .i64 (wW .i64 (wW .i64 (bits .and .u8 (↑(UInt8.toNat r2) : Int) (15 : Int)) * (4 : Int)) + 6), (65535, (r5.1, ())))))) (fun r7 =>
 .ret (List.take (Int.toNat r1.1) r7.1, (0, ())))) (
 .ret (List.take (Int.toNat r1.1) r5.1, (0, ()))))) (
 .ret (List.take (Int.toNat r1.1) r5.1, (0, ())))) (
 .ret (List.take (Int.toNat r1.1) r5.1, (0, ())))))))))) (
 .ite (decide (r0.2.2.1 = 17)) (
 .opt ((swWord_fn (List.take (Int.toNat r1.1) a0, (wW .i64 (wW .i64 (wW .i64 (bits .and .u8 (↑(UInt8.toNat r2) : Int) (15 : Int)) * (4 : Int)) + 16), ())))) (fun r3 =>
 .ite (decide (r3.1 = 0)) (
 .grd (true) (
 .grd (true) (
 .opt ((swChange_fn (Int.toNat r1.1, (a3, (wW .u16 (Int.fdiv a1 ((2 : Int) ^ (16 : Nat))), (List.take (1 : Nat) [10, wW .i64 (wW .i64 (wW .i64 (bits .and .u8 (↑(UInt8.toNat r2) : Int) (15 : Int)) * (4 : Int)) + 16)], (a0, ()))))))) (fun r4 =>
 .opt ((swChange_fn (Int.toNat r1.1, (wW .i64 (a3 + 2), (wW .u16 a1, (List.take (1 : Nat) [10, wW .i64 (wW .i64 (wW .i64 (bits .and .u8 (↑(UInt8.toNat r2) : Int) (15 : Int)) * (4 : Int)) + 16)], (r4.1, ()))))))) (fun r5 =>
 .grd (decide ((0 : Int) <= (1 : Int) /\ 1 <= (↑(1 : Nat) : Int) /\ (↑(1 : Nat) : Int) <= (↑(List.length [10, wW .i64 (wW .i64 (wW .i64 (bits .and .u8 (↑(UInt8.toNat r2) : Int) (15 : Int)) * (4 : Int)) + 16)]) : Int))) (
 .opt ((swChange_fn (Int.toNat r1.1, (wW .i64 (wW .i64 (wW .i64 (bits .and .u8 (↑(UInt8.toNat r2) : Int) (15 : Int)) * (4 : Int)) + a4), (wW .u16 a2, (List.take (0 : Nat) (List.drop (1 : Nat) [10, wW .i64 (wW .i64 (wW .i64 (bits .and .u8 (↑(UInt8.toNat r2) : Int) (15 : Int)) * (4 : Int)) + 16)]), (r5.1, ()))))))) (fun r6 =>
 .ite (decide (r0.2.2.1 = 17)) (
 .ite (!decide (r3.1 = 0)) (
 .opt ((swWord_fn (List.take (Int.toNat r1.1) r6.1, (wW .i64 (wW .i64 (wW .i64 (bits .and .u8 (↑(UInt8.toNat r2) : Int) (15 : Int)) * (4 : Int)) + 16), ())))) (fun r7 =>
 .ite (decide (r7.1 = 0)) (
 .opt ((swPut_fn (Int.toNat r1.1, (wW .i64 (wW .i64 (wW .i64 (bits .and .u8 (↑(UInt8.toNat r2) : Int) (15 : Int)) * (4 : Int)) + 16), (65535, (r6.1, ())))))) (fun r8 =>
 .ret (List.take (Int.toNat r1.1) r8.1, (0, ())))) (
 .ret (List.take (Int.toNat r1.1) r6.1, (0, ()))))) (
 .ret (List.take (Int.toNat r1.1) r6.1, (0, ())))) (
 .ret (List.take (Int.toNat r1.1) r6.1, (0, ())))))))))) (
 .grd (true) (
 .opt ((swChange_fn (Int.toNat r1.1, (a3, (wW .u16 (Int.fdiv a1 ((2 : Int) ^ (16 : Nat))), ([10, wW .i64 (wW .i64 (wW .i64 (bits .and .u8 (↑(UInt8.toNat r2) : Int) (15 : Int)) * (4 : Int)) + 16)], (a0, ()))))))) (fun r4 =>
 .opt ((swChange_fn (Int.toNat r1.1, (wW .i64 (a3 + 2), (wW .u16 a1, ([10, wW .i64 (wW .i64 (wW .i64 (bits .and .u8 (↑(UInt8.toNat r2) : Int) (15 : Int)) * (4 : Int)) + 16)], (r4.1, ()))))))) (fun r5 =>
 .grd (true) (
 .opt ((swChange_fn (Int.toNat r1.1, (wW .i64 (wW .i64 (wW .i64 (bits .and .u8 (↑(UInt8.toNat r2) : Int) (15 : Int)) * (4 : Int)) + a4), (wW .u16 a2, (List.take (1 : Nat) (List.drop (1 : Nat) [10, wW .i64 (wW .i64 (wW .i64 (bits .and .u8 (↑(UInt8.toNat r2) : Int) (15 : Int)) * (4 : Int)) + 16)]), (r5.1, ()))))))) (fun r6 =>
 .ite (decide (r0.2.2.1 = 17)) (
 .ite (!decide (r3.1 = 0)) (
 .opt ((swWord_fn (List.take (Int.toNat r1.1) r6.1, (wW .i64 (wW .i64 (wW .i64 (bits .and .u8 (↑(UInt8.toNat r2) : Int) (15 : Int)) * (4 : Int)) + 16), ())))) (fun r7 =>
 .ite (decide (r7.1 = 0)) (
 .opt ((swPut_fn (Int.toNat r1.1, (wW .i64 (wW .i64 (wW .i64 (bits .and .u8 (↑(UInt8.toNat r2) : Int) (15 : Int)) * (4 : Int)) + 16), (65535, (r6.1, ())))))) (fun r8 =>
 .ret (List.take (Int.toNat r1.1) r8.1, (0, ())))) (
 .ret (List.take (Int.toNat r1.1) r6.1, (0, ()))))) (
 .ret (List.take (Int.toNat r1.1) r6.1, (0, ())))) (
 .ret (List.take (Int.toNat r1.1) r6.1, (0, ()))))))))))) (
 .grd (true) (
 .opt ((swChange_fn (Int.toNat r1.1, (a3, (wW .u16 (Int.fdiv a1 ((2 : Int) ^ (16 : Nat))), ([10, wW .i64 (wW .i64 (wW .i64 (bits .and .u8 (↑(UInt8.toNat r2) : Int) (15 : Int)) * (4 : Int)) + 16)], (a0, ()))))))) (fun r3 =>
 .opt ((swChange_fn (Int.toNat r1.1, (wW .i64 (a3 + 2), (wW .u16 a1, ([10, wW .i64 (wW .i64 (wW .i64 (bits .and .u8 (↑(UInt8.toNat r2) : Int) (15 : Int)) * (4 : Int)) + 16)], (r3.1, ()))))))) (fun r4 =>
 .grd (true) (
 .opt ((swChange_fn (Int.toNat r1.1, (wW .i64 (wW .i64 (wW .i64 (bits .and .u8 (↑(UInt8.toNat r2) : Int) (15 : Int)) * (4 : Int)) + a4), (wW .u16 a2, (List.take (1 : Nat) (List.drop (1 : Nat) [10, wW .i64 (wW .i64 (wW .i64 (bits .and .u8 (↑(UInt8.toNat r2) : Int) (15 : Int)) * (4 : Int)) + 16)]), (r4.1, ()))))))) (fun r5 =>
 .ite (decide (r0.2.2.1 = 17)) (
 .ite (true) (
 .opt ((swWord_fn (List.take (Int.toNat r1.1) r5.1, (wW .i64 (wW .i64 (wW .i64 (bits .and .u8 (↑(UInt8.toNat r2) : Int) (15 : Int)) * (4 : Int)) + 16), ())))) (fun r6 =>
 .ite (decide (r6.1 = 0)) (
 .opt ((swPut_fn (Int.toNat r1.1, (wW .i64 (wW .i64 (wW .i64 (bits .and .u8 (↑(UInt8.toNat r2) : Int) (15 : Int)) * (4 : Int)) + 16), (65535, (r5.1, ())))))) (fun r7 =>
 .ret (List.take (Int.toNat r1.1) r7.1, (0, ())))) (
 .ret (List.take (Int.toNat r1.1) r5.1, (0, ()))))) (
 .ret (List.take (Int.toNat r1.1) r5.1, (0, ())))) (
 .ret (List.take (Int.toNat r1.1) r5.1, (0, ())))))))))))))))))))
noncomputable def gm23 : List (PF Go.Proofs.Tryz.prog) := gm22 ++ [GS.pf swChange]
theorem swSwapped_eq (x : ((List UInt8) × (Int × (Int × (Int × (Int × Unit)))))) : fnTr Tryz.prog cod gm23 [] 30 32 swSwapped_ap swSwapped_rp x = swSwapped_tree x := by kernel_rfl
def swSwapped_fn (x : ((List UInt8) × (Int × (Int × (Int × (Int × Unit)))))) : Option ((List UInt8) × (Int × Unit)) := (swSwapped_tree x).eval
def swSwapped : FS Tryz.prog := ⟨32, swSwapped_ap, swSwapped_rp, swSwapped_fn, fun x r h => fnTr_sound (cod := cod) (Γ := gm23) (Λs := []) (n := 30) ((congrArg Tr.eval (swSwapped_eq x)).trans h)⟩
def swFrom_ap : List VP1 := [.one (.s), .one (.i .u32), .one (.i .i64)]
def swFrom_rp : SP := ⟨1, [(0, .tup [.one (.s), .one (.i .i64)])], []⟩
def swFrom_tree : ((List UInt8) × (Int × (Int × Unit))) -> Tr ((List UInt8) × (Int × Unit)) :=
 fun (a0, a1, a2, _) =>
 .opt ((swSwapped_fn (a0, (a1, (a2, (12, (0, ()))))))) (fun r0 =>
 .ret (r0.1, (r0.2.1, ())))
noncomputable def gm24 : List (PF Go.Proofs.Tryz.prog) := gm23 ++ [FS.pf swSwapped]
theorem swFrom_eq (x : ((List UInt8) × (Int × (Int × Unit)))) : fnTr Tryz.prog cod gm24 [] 30 11 swFrom_ap swFrom_rp x = swFrom_tree x := by kernel_rfl
def swFrom_fn (x : ((List UInt8) × (Int × (Int × Unit)))) : Option ((List UInt8) × (Int × Unit)) := (swFrom_tree x).eval
def swFrom : FS Tryz.prog := ⟨11, swFrom_ap, swFrom_rp, swFrom_fn, fun x r h => fnTr_sound (cod := cod) (Γ := gm24) (Λs := []) (n := 30) ((congrArg Tr.eval (swFrom_eq x)).trans h)⟩
def swTo_ap : List VP1 := [.one (.s), .one (.i .u32), .one (.i .i64)]
def swTo_rp : SP := ⟨1, [(0, .tup [.one (.s), .one (.i .i64)])], []⟩
def swTo_tree : ((List UInt8) × (Int × (Int × Unit))) -> Tr ((List UInt8) × (Int × Unit)) :=
 fun (a0, a1, a2, _) =>
 .opt ((swSwapped_fn (a0, (a1, (a2, (16, (2, ()))))))) (fun r0 =>
 .ret (r0.1, (r0.2.1, ())))
noncomputable def gm25 : List (PF Go.Proofs.Tryz.prog) := gm24 ++ [FS.pf swFrom]
theorem swTo_eq (x : ((List UInt8) × (Int × (Int × Unit)))) : fnTr Tryz.prog cod gm25 [] 30 94 swTo_ap swTo_rp x = swTo_tree x := by kernel_rfl
def swTo_fn (x : ((List UInt8) × (Int × (Int × Unit)))) : Option ((List UInt8) × (Int × Unit)) := (swTo_tree x).eval
def swTo : FS Tryz.prog := ⟨94, swTo_ap, swTo_rp, swTo_fn, fun x r h => fnTr_sound (cod := cod) (Γ := gm25) (Λs := []) (n := 30) ((congrArg Tr.eval (swTo_eq x)).trans h)⟩
end Go.Proofs.YtaeeadldamflcaaGreatDoor.X
namespace Go.Proofs.YtaeeadldamflcaaGreatDoor.Abs
open Go Go.RowKit
set_option linter.unusedVariables false
set_option linter.unusedSimpArgs false
variable {P : Program} {cod : TypeId -> Nat} {w0 : World} {U0 : Nat -> Prop} {X : Nat -> Nat -> Prop} {β0 β : Nat -> Option Place} {U : Nat -> Prop} {s : St} {a : Act} {w : World}

theorem SimB.newKeyR (h : SimB w0 U0 X β0 β U s a w) {k : Nat} (hk0 : 2000000 <= k) (hk : s.blk k = none) {w' : World} {p : Place} {blk : Blk}
  (hos : w'.os = w.os) (htape : w'.tape = w.tape) (hout : w'.output = w.output) (hsize : w.heap.size <= w'.heap.size)
  (hold : ∀ b, b < w.heap.size -> w'.heap[b]? = w.heap[b]?) (hblock : ∀ b, p.has b -> w.heap.size <= b /\ b < w'.heap.size)
  (hrep : RepB w' (upd β k p) U w0.heap.size p blk) :
  SimB w0 U0 X β0 (upd β k p) U (s.set k blk) a w' /\ (∀ k' p', β k' = some p' -> upd β k p k' = some p') := by
 have hupd := h.updOld hk p
 have hUold : ∀ b, U b -> w'.heap[b]? = w.heap[b]? := fun b hb => hold b (h.stab b hb)
 have hget : ∀ k' p', upd β k p k' = some p' -> (k = k' /\ p' = p) \/ (k ≠ k' /\ β k' = some p') := by
  intro k' p' hp
  by_cases e : k = k'
  . subst e; rw [upd_self] at hp; exact .inl ⟨rfl, by simpa using hp.symm⟩
  . rw [upd_ne β e] at hp; exact .inr ⟨e, hp⟩
 refine ⟨?_, hupd⟩
 exact {
  n := h.n, small := h.small, args := h.args, ver0 := h.ver0, defers := h.defers, glob := h.glob.map (fun _ hb => hb) hUold
  hist := fun k' p' hp hb => by
    have e : k ≠ k' := fun e => by subst e; rw [h.args k (.inr hk0)] at hp; cases hp
    rw [St.blk_set, if_neg e] at hb
    rw [upd_ne β e]
    exact h.hist k' p' hp hb
  env := fun t => (h.env t).map (fun _ hb => hb) hUold (Evo.sub hupd)
  mem := fun k' blk' hk' => by
    rw [St.blk_set] at hk'
    by_cases e : k = k'
    . subst e
      rw [if_pos rfl] at hk'
      obtain rfl : blk = blk' := by simpa using hk'
      exact ⟨p, upd_self _ _ _, hrep⟩
    . rw [if_neg e] at hk'
      obtain ⟨p', hp1, hp2⟩ := h.mem k' blk' hk'
      exact ⟨p', hupd _ _ hp1, hp2.mapBlock (fun _ hb => hb) hUold (Evo.sub hupd) (fun b hb => hold b (h.blockOld hp1 b hb))⟩
  dom := fun k' p' hp => by
    rw [St.blk_set]
    rcases hget k' p' hp with ⟨e, _⟩ | ⟨e, hp'⟩
    . rw [if_pos e]; rfl
    . rw [if_neg e]; exact h.dom k' p' hp'
  apart := fun k' p' b hp hb => by
    rcases hget k' p' hp with ⟨e, rfl⟩ | ⟨e, hp'⟩
    . obtain ⟨q1, q2⟩ := hblock b hb
      exact ⟨fun hu => by have := h.stab _ hu; omega, q2⟩
    . obtain ⟨h1, h2⟩ := h.apart k' p' b hp' hb
      exact ⟨h1, by omega⟩
  inj := fun k1 k2 p1 p2 b1 b2 b j hne hp1 hp2 hb1 hb2 hc1 hc2 => by
    rcases hget k1 p1 hp1 with ⟨e1, rfl⟩ | ⟨e1, hp1'⟩ <;> rcases hget k2 p2 hp2 with ⟨e2, rfl⟩ | ⟨e2, hp2'⟩
    . exact hne (e1.symm.trans e2)
    . have := hblock b (covers_block hc1)
      have := h.blockOld hp2' b (covers_block hc2)
      omega
    . have := hblock b (covers_block hc2)
      have := h.blockOld hp1' b (covers_block hc1)
      omega
    . rw [St.blk_set, if_neg e1] at hb1; rw [St.blk_set, if_neg e2] at hb2
      exact h.inj k1 k2 p1 p2 b1 b2 b j hne hp1' hp2' hb1 hb2 hc1 hc2
  stab := fun b hb => by have := h.stab b hb; omega
  old := h.old, new := h.new
  chg := h.chg.trans ⟨hos, htape, hout, hsize, fun b hb => .inl (hold b (Nat.lt_of_lt_of_le hb h.baseLe))⟩
  may := fun k' p' blk' b j hp hb hc hlt => by
    rcases hget k' p' hp with ⟨e, rfl⟩ | ⟨e, hp'⟩
    . have := hblock b (covers_block hc)
      have := h.baseLe
      omega
    . rw [St.blk_set, if_neg e] at hb
      exact h.may k' p' blk' b j hp' hb hc hlt }

def nilSet (k i : Nat) (vs : List V) : Option (List V) :=
 match Nat.blt i 1000 with
 | true => match vs[i]? with
  | some (.one .nil) => some (vs.set i (.one (.own k 0 0)))
  | _ => none
 | false => match vs[i / 1000 - 1]? with
  | some (.agg cs) => match cs[i % 1000]? with
   | some .nil => some (vs.set (i / 1000 - 1) (.agg (cs.set (i % 1000) (.own k 0 0))))
   | _ => none
  | _ => none
theorem nilSet_rep {base : Nat} {k i : Nat} {vs vs' : List V} (h : nilSet k i vs = some vs') (hk : β k = some (.row (.slice none 0 0) 0)) {u : Value} (hv : RepV w β U base u (.tup vs)) : RepV w β U base u (.tup vs') := by
 have hown : RepC w β U base (.slice none 0 0) (.own k 0 0) := ⟨none, 0, .slice none 0 0, 0, rfl, Nat.le_refl _, fun _ => ⟨rfl, rfl⟩, fun x hx => by (cases hx), hk, Nat.le_refl _, fun _ => rfl⟩
 cases hv with
 | tup us _ hl hr =>
  have key : ∀ (i : Nat) (x0 x : V), vs[i]? = some x0 -> (∀ u, RepV w β U base u x0 -> RepV w β U base u x) -> RepV w β U base (.tuple us.toArray) (.tup (vs.set i x)) := by
    intro i x0 x hi hx
    refine .tup us _ (by simpa using hl) fun j u y hu hy => ?_
    by_cases q : i = j
    . subst q
      have hlt : i < vs.length := (List.getElem?_eq_some_iff.1 hi).1
      rw [List.getElem?_set_self hlt] at hy
      obtain rfl : x = y := by simpa using hy
      exact hx u (hr i u _ hu hi)
    . rw [List.getElem?_set_ne q] at hy
      exact hr j u y hu hy
  unfold nilSet at h
  split at h
  . split at h
    . rename_i hi
      cases h
      refine key i _ _ hi fun u hu => ?_
      have hv : u = .slice none 0 0 := hu.toC
      rw [hv]; exact .one _ _ hown
    . cases h
  . split at h
    . rename_i cs hi
      split at h
      . rename_i hc
        cases h
        refine key _ _ _ hi fun u hu => ?_
        cases hu with
        | agg ws _ hl2 h1 h2 =>
         refine .agg ws _ (by simpa using hl2) h1 fun j v c hv hcc => ?_
         by_cases q : i % 1000 = j
         . subst q
           have hlt := (List.getElem?_eq_some_iff.1 hc).1
           rw [List.getElem?_set_self hlt] at hcc
           obtain rfl : C.own k 0 0 = c := by simpa using hcc
           have : v = .slice none 0 0 := h2 _ v _ hv hc
           rw [this]; exact hown
         . rw [List.getElem?_set_ne q] at hcc
           exact h2 j v c hv hcc
      . cases h
    . cases h
def ghostR : List (Nat × Nat × TypeId × Nat) -> St -> St
 | [], s => s
 | (i, k, e, c) :: r, s => match s.get 0 with
  | .tup vs => match nilSet k i vs, s.blk k, Nat.ble 2000000 k with
   | some vs', none, true => ghostR r { n := s.n, env := [(0, .tup vs')], mem := (k, .rowT 0 e c true true []) :: s.mem }
   | _, _, _ => ghostR r s
  | _ => ghostR r s
theorem SimB.ghostR (h : SimB w0 U0 X β0 β U s a w) {vs vs' : List V} {i k : Nat} {e : TypeId} {c : Nat} (ht : s.get 0 = .tup vs) (hi : nilSet k i vs = some vs') (hk : s.blk k = none) (hk0 : 2000000 <= k) :
   Sim w0 U0 X β0 { n := s.n, env := [(0, .tup vs')], mem := (k, .rowT 0 e c true true []) :: s.mem } a w := by
 obtain ⟨h1, h2⟩ := h.newKeyR (w' := w) (p := .row (.slice none 0 0) 0) (blk := .rowT 0 e c true true []) hk0 hk rfl rfl rfl (Nat.le_refl _) (fun _ _ => rfl) (fun b hb => by simp [Place.has, Value.ownBlock] at hb) ⟨rfl, fun r hr => by simp at hr, .inl ⟨rfl, rfl⟩⟩
 refine ⟨_, _, { h1 with env := fun t' => ?_ }⟩
 show RepV w _ U w0.heap.size _ ((look t' [(0, V.tup vs')]).getD (.one .bad))
 rw [look_cons]
 by_cases q : 0 = t'
 . subst q
   rw [if_pos rfl]
   have h3 := h1.env 0
   have h4 : (s.set k (.rowT 0 e c true true [])).get 0 = .tup vs := ht
   rw [h4] at h3
   exact nilSet_rep hi (upd_self _ _ _) h3
 . rw [if_neg q]; exact .bad _
theorem ghostR_fwd : ∀ (gl : List (Nat × Nat × TypeId × Nat)) (s : St), Fwd s (ghostR gl s)
 | [], s => fun _ _ _ _ _ _ h => h
 | (i, k, e, c) :: r, s => by
  unfold Abs.ghostR
  split
  . rename_i vs h0
    split
    . rename_i h1 h2 h3
      intro w0 U0 X β0 a w hs
      obtain ⟨β, U, hb⟩ := hs
      exact ghostR_fwd r _ _ _ _ _ _ _ (hb.ghostR h0 h1 h2 (Nat.le_of_ble_eq_true h3))
    . exact ghostR_fwd r s
  . exact ghostR_fwd r s
theorem ghostR_n : ∀ (gl : List (Nat × Nat × TypeId × Nat)) (s : St), (ghostR gl s).n = s.n
 | [], s => rfl
 | (i, k, e, c) :: r, s => by
  unfold Abs.ghostR
  split
  . split
    . exact ghostR_n r _
    . exact ghostR_n r s
  . exact ghostR_n r s

variable (P) (cod) (Γ : List (PF P)) (Λs : List (FuncId × LS))
def gnTr (gl : List (Nat × Nat × TypeId × Nat)) (n : Nat) (f : FuncId) (ap rp : SP) (x : ap.T) : Tr rp.T :=
 match P.funcs[f]? with
 | some fn => match fn.body with
  | some c => match Nat.beq fn.ntmps ap.n && decide (fn.ntmps <= 900) with
   | true => (exec P cod (ownF Γ) (execFn P cod Γ Λs n) (loopsOf f Λs) f c (V × Mem) [] (ap.put x) fun e _ s => execEnd P fn.results.toList (ap.put x).mem e s).bind fun rm =>
    match normGet (rp.mem.map fun p => (p.1, p.1)) rp (ghostR gl ⟨1, [(0, rm.1)], rm.2⟩) with
    | some (g, y) => grdOb (rp.len y) g (.ret y)
    | none => .stuck 993 (ghostR gl ⟨1, [(0, rm.1)], rm.2⟩)
   | false => .fail 24
  | none => .fail 25
 | none => .fail 28
variable {P} {cod} {Γ} {Λs}
theorem normGet_oneS {ks : List (Nat × Nat)} {sp : SP} {s0 : St} {l : Ob} {y : sp.T} (h : normGet ks sp s0 = some (l, y)) (ho : ObOk (sp.len y) l) (h1 : s0.n = 1) : Fwd s0 ⟨1, [(0, (sp.put y).get 0)], (sp.put y).mem⟩ := by
 have hf := normGet_fwd h ho
 have hn : (sp.put y).n = 1 := by
  unfold normGet at h
  split at h
  . rename_i s1 hs1
    have hw := SP.wk h ho
    rw [<- hw.n]
    unfold St.norm at hs1
    split at hs1
    . cases hs1; exact (tidyP_n _ _ _).trans h1
    . cases hs1
  . cases h
 intro w0 U0 X β0 a w hs
 have hs0 := hs
 obtain ⟨β1, U1, h1⟩ := hs0
 obtain ⟨β, U, h4⟩ := hf w0 U0 X β0 a w hs
 refine ⟨β, U, { h4 with n := by rw [h4.n, hn], small := by simp, env := fun t => ?_ }⟩
 have := h4.env t
 show RepV w β U w0.heap.size (a.tmps.getD t undef) ((look t [(0, (sp.put y).get 0)]).getD (.one .bad))
 cases t with
 | zero => exact this
 | succ t => simp [look]; exact .bad _

theorem gn_sound {gl : List (Nat × Nat × TypeId × Nat)} {Γ : List (PF P)} {Λs : List (FuncId × LS)} {n : Nat} {f : FuncId} {ap rp : SP} {x : ap.T} {r : rp.T} (h : (gnTr P cod Γ Λs gl n f ap rp x).eval = some r)
  {ys : List V} {m : Mem} {g : Ob} (he : entryGet ap ys m = some (g, x)) (hg : ObOk (ap.len x) g) : ACall P f ys m fun r' m' => r' = (rp.put r).get 0 /\ m' = (rp.put r).mem := by
 unfold entryGet at he
 split at he
 case h_2 => cases he
 rename_i hle
 simp only [decide_eq_true_eq] at hle
 unfold gnTr at h
 split at h
 case h_2 => cases h
 rename_i fn hf
 split at h
 case h_2 => cases h
 rename_i c hb
 split at h
 case h_2 => cases h
 rename_i hn
 simp only [Bool.and_eq_true, decide_eq_true_eq] at hn
 obtain ⟨hn1, hn2⟩ := hn
 have hn1 := Nat.eq_of_beq_eq_true hn1
 rw [Tr.eval_bind] at h
 obtain ⟨⟨r0, m0⟩, h1, h2⟩ := Option.bind_eq_some_iff.1 h
 simp only at h2
 split at h2
 case h_2 => cases h2
 rename_i g2 y hy
 obtain ⟨q1, q2⟩ := eval_grdOb h2
 cases q2
 obtain ⟨e, kn', s0', h3, h4, h5⟩ := exec_sound (execFn_sound (cod := cod) (Γ := Γ) (Λs := Λs) n) c KnOk.nil h1
 unfold execEnd at h4
 have h5 := awp_fwdT (tidyE_fwd (P := P) (rs := fn.results.toList) (m := (ap.put x).mem) s0') h5
 generalize tidyE P fn.results.toList (ap.put x).mem s0' = s' at h4 h5
 unfold execEnd0 at h4
 split at h4
 case h_2 => cases h4
 rename_i he'
 split at h4
 case h_2 => cases h4
 rename_i v hv
 split at h4
 case h_2 => cases h4
 rename_i s1 hs1
 split at h4
 case h_2 => cases h4
 rename_i z1 z2 hs2
 cases h4
 have hfw : Fwd ⟨ap.n, argsEnv 0 ys, m⟩ (ap.put x) := normGet_fwd he hg
 have hac : ACall P f ys m fun r' m'' => r' = r0 /\ m'' = s1.mem := by
  refine acall_enter (endKs (ap.put x).mem s'.mem ((trimSt { n := 1, env := [(0, v)], mem := s'.mem }).get 0)) hf hb hn1 rfl (by omega) hle ?_
  have hA : AWp P c (fun e1 s1 => e1 = e /\ s1 = s') ⟨ap.n, argsEnv 0 ys, m⟩ := fun w0 U0 X β0 a w hs => h5 w0 U0 X β0 a w (hfw _ _ _ _ _ _ hs)
  refine awp_mono hA ?_
  rintro e1 s2 ⟨rfl, rfl⟩
  refine ⟨?_, r0, s1.mem, ?_, rfl, rfl⟩
  . cases e1 <;> first | exact .inl rfl | exact .inr rfl | cases he'
  . simp only [hv]
    have hs3 := hs1
    unfold St.norm at hs3
    split at hs3
    . cases hs3
      simp only [List.map_cons, List.map_nil] at hs2 ⊢
      cases hs2
      rw [hs1, trimSt_n]; rfl
    . cases hs3
 refine acall_mono hac ?_
 rintro r' m' ⟨rfl, rfl⟩
 exact ⟨_, _, ⟨rfl, rfl⟩, (ghostR_fwd gl _).trans (normGet_oneS hy q1 (ghostR_n gl _))⟩

end Go.Proofs.YtaeeadldamflcaaGreatDoor.Abs
namespace Go.Proofs.YtaeeadldamflcaaGreatDoor.X
open Go Go.RowKit Go.Proofs.YtaeeadldamflcaaGreatDoor.Abs
open Go.IntKind renaming wrap -> wW
set_option maxRecDepth 100000
set_option linter.unusedVariables false
def fragSplit_L6_15 : LS := ⟨15, [(9, 9), (2, 2)], ⟨91, [(9, .v (.one (.own 9))), (8, .v (.one (.i .i64))), (2, .v (.one (.ptr 2 0))), (10, .v (.one (.s)))], [(9, .row 28 20 true true), (2, .cells [.i .i64, .i .i64, .b, .b, .i .i64, .i .i64, .i .i64, .i .u32, .i .u32, .s, .s])]⟩, [⟨some 1, [(9, 9)], ⟨91, [(9, .v (.one (.own 9)))], [(9, .row 28 20 true true)]⟩⟩], [(9, 28, 20)]⟩
abbrev ty3_ : Type := (Int × ((List UInt8) × ((List TPacket) × (Int × (Int × (Bool × (Bool × (Int × (Int × (Int × (Int × (Int × ((List UInt8) × ((List UInt8) × Unit))))))))))))))
def fragSplit_step6_15 : ty3_ -> Tr (ty3_ ⊕ ((List TPacket) × Unit)) :=
 fun (a0, a1, a2, a3, a4, a5, a6, a7, a8, a9, a10, a11, a12, a13, _) =>
 .ite (!decide (a1 = [])) (
 .ite (decide ((if true = true then if (↑(a1.length) : Int) < a0 then (↑(a1.length) : Int) else a0 else if (↑(a1.length) : Int) > a0 then (↑(a1.length) : Int) else a0) < (↑(a1.length) : Int))) (
 .grd (decide ((0 : Int) <= (0 : Int) /\ (0 <= if true = true then if (↑(a1.length) : Int) < a0 then (↑(a1.length) : Int) else a0 else if (↑(a1.length) : Int) > a0 then (↑(a1.length) : Int) else a0) /\ (if true = true then if (↑(a1.length) : Int) < a0 then (↑(a1.length) : Int) else a0 else if (↑(a1.length) : Int) > a0 then (↑(a1.length) : Int) else a0) <= (↑(a1.length) : Int))) (
 .grd (decide ((0 <= if true = true then if (↑(a1.length) : Int) < a0 then (↑(a1.length) : Int) else a0 else if (↑(a1.length) : Int) > a0 then (↑(a1.length) : Int) else a0) /\ (if true = true then if (↑(a1.length) : Int) < a0 then (↑(a1.length) : Int) else a0 else if (↑(a1.length) : Int) > a0 then (↑(a1.length) : Int) else a0) <= (↑(a1.length) : Int) /\ (↑(a1.length) : Int) <= (↑(a1.length) : Int))) (
 .grd (true) (
 .grd (decide ((a2.length + List.length [TPacket.mk a3 a4 a5 true (wW .i64 (a7 + wW .i64 (Int.tdiv (wW .i64 ((↑(a2.length) : Int) * a0)) (8 : Int)))) a8 a9 a10 a11 a12 (List.drop (0 : Nat) (List.take (Int.toNat (if true = true then if (↑(a1.length) : Int) < a0 then (↑(a1.length) : Int) else a0 else if (↑(a1.length) : Int) > a0 then (↑(a1.length) : Int) else a0)) a1))]) * (88 : Nat) <= (140737488355328 : Nat) /\ a2.length + List.length [TPacket.mk a3 a4 a5 true (wW .i64 (a7 + wW .i64 (Int.tdiv (wW .i64 ((↑(a2.length) : Int) * a0)) (8 : Int)))) a8 a9 a10 a11 a12 (List.drop (0 : Nat) (List.take (Int.toNat (if true = true then if (↑(a1.length) : Int) < a0 then (↑(a1.length) : Int) else a0 else if (↑(a1.length) : Int) > a0 then (↑(a1.length) : Int) else a0)) a1))] <= (9223372036854775807 : Nat))) (
 .grd (decide (List.length (a2 ++ [TPacket.mk a3 a4 a5 true (wW .i64 (a7 + wW .i64 (Int.tdiv (wW .i64 ((↑(a2.length) : Int) * a0)) (8 : Int)))) a8 a9 a10 a11 a12 (List.drop (0 : Nat) (List.take (Int.toNat (if true = true then if (↑(a1.length) : Int) < a0 then (↑(a1.length) : Int) else a0 else if (↑(a1.length) : Int) > a0 then (↑(a1.length) : Int) else a0)) a1))]) = List.length (a2 ++ [TPacket.mk a3 a4 a5 true (wW .i64 (a7 + wW .i64 (Int.tdiv (wW .i64 ((↑(a2.length) : Int) * a0)) (8 : Int)))) a8 a9 a10 a11 a12 (List.drop (0 : Nat) (List.take (Int.toNat (if true = true then if (↑(a1.length) : Int) < a0 then (↑(a1.length) : Int) else a0 else if (↑(a1.length) : Int) > a0 then (↑(a1.length) : Int) else a0)) a1))]))) (
 .ret (Sum.inl (a0, (List.drop (Int.toNat (if true = true then if (↑(a1.length) : Int) < a0 then (↑(a1.length) : Int) else a0 else if (↑(a1.length) : Int) > a0 then (↑(a1.length) : Int) else a0)) (List.take (Int.toNat (↑(a1.length) : Int)) a1), (a2 ++ [TPacket.mk a3 a4 a5 true (wW .i64 (a7 + wW .i64 (Int.tdiv (wW .i64 ((↑(a2.length) : Int) * a0)) (8 : Int)))) a8 a9 a10 a11 a12 (List.drop (0 : Nat) (List.take (Int.toNat (if true = true then if (↑(a1.length) : Int) < a0 then (↑(a1.length) : Int) else a0 else if (↑(a1.length) : Int) > a0 then (↑(a1.length) : Int) else a0)) a1))], (a3, (a4, (a5, (a6, (a7, (a8, (a9, (a10, (a11, (a12, (a13, ()))))))))))))))))))))) (
 .grd (decide ((0 : Int) <= (0 : Int) /\ (0 <= if true = true then if (↑(a1.length) : Int) < a0 then (↑(a1.length) : Int) else a0 else if (↑(a1.length) : Int) > a0 then (↑(a1.length) : Int) else a0) /\ (if true = true then if (↑(a1.length) : Int) < a0 then (↑(a1.length) : Int) else a0 else if (↑(a1.length) : Int) > a0 then (↑(a1.length) : Int) else a0) <= (↑(a1.length) : Int))) (
 .grd (decide ((0 <= if true = true then if (↑(a1.length) : Int) < a0 then (↑(a1.length) : Int) else a0 else if (↑(a1.length) : Int) > a0 then (↑(a1.length) : Int) else a0) /\ (if true = true then if (↑(a1.length) : Int) < a0 then (↑(a1.length) : Int) else a0 else if (↑(a1.length) : Int) > a0 then (↑(a1.length) : Int) else a0) <= (↑(a1.length) : Int) /\ (↑(a1.length) : Int) <= (↑(a1.length) : Int))) (
 .grd (true) (
 .grd (decide ((a2.length + List.length [TPacket.mk a3 a4 a5 a6 (wW .i64 (a7 + wW .i64 (Int.tdiv (wW .i64 ((↑(a2.length) : Int) * a0)) (8 : Int)))) a8 a9 a10 a11 a12 (List.drop (0 : Nat) (List.take (Int.toNat (if true = true then if (↑(a1.length) : Int) < a0 then (↑(a1.length) : Int) else a0 else if (↑(a1.length) : Int) > a0 then (↑(a1.length) : Int) else a0)) a1))]) * (88 : Nat) <= (140737488355328 : Nat) /\ a2.length + List.length [TPacket.mk a3 a4 a5 a6 (wW .i64 (a7 + wW .i64 (Int.tdiv (wW .i64 ((↑(a2.length) : Int) * a0)) (8 : Int)))) a8 a9 a10 a11 a12 (List.drop (0 : Nat) (List.take (Int.toNat (if true = true then if (↑(a1.length) : Int) < a0 then (↑(a1.length) : Int) else a0 else if (↑(a1.length) : Int) > a0 then (↑(a1.length) : Int) else a0)) a1))] <= (9223372036854775807 : Nat))) (
 .grd (decide (List.length (a2 ++ [TPacket.mk a3 a4 a5 a6 (wW .i64 (a7 + wW .i64 (Int.tdiv (wW .i64 ((↑(a2.length) : Int) * a0)) (8 : Int)))) a8 a9 a10 a11 a12 (List.drop (0 : Nat) (List.take (Int.toNat (if true = true then if (↑(a1.length) : Int) < a0 then (↑(a1.length) : Int) else a0 else if (↑(a1.length) : Int) > a0 then (↑(a1.length) : Int) else a0)) a1))]) = List.length (a2 ++ [TPacket.mk a3 a4 a5 a6 (wW .i64 (a7 + wW .i64 (Int.tdiv (wW .i64 ((↑(a2.length) : Int) * a0)) (8 : Int)))) a8 a9 a10 a11 a12 (List.drop (0 : Nat) (List.take (Int.toNat (if true = true then if (↑(a1.length) : Int) < a0 then (↑(a1.length) : Int) else a0 else if (↑(a1.length) : Int) > a0 then (↑(a1.length) : Int) else a0)) a1))]))) (
 .ret (Sum.inl (a0, (List.drop (Int.toNat (if true = true then if (↑(a1.length) : Int) < a0 then (↑(a1.length) : Int) else a0 else if (↑(a1.length) : Int) > a0 then (↑(a1.length) : Int) else a0)) (List.take (Int.toNat (↑(a1.length) : Int)) a1), (a2 ++ [TPacket.mk a3 a4 a5 a6 (wW .i64 (a7 + wW .i64 (Int.tdiv (wW .i64 ((↑(a2.length) : Int) * a0)) (8 : Int)))) a8 a9 a10 a11 a12 (List.drop (0 : Nat) (List.take (Int.toNat (if true = true then if (↑(a1.length) : Int) < a0 then (↑(a1.length) : Int) else a0 else if (↑(a1.length) : Int) > a0 then (↑(a1.length) : Int) else a0)) a1))], (a3, (a4, (a5, (a6, (a7, (a8, (a9, (a10, (a11, (a12, (a13, ())))))))))))))))))))))) (
 .grd (decide (a2.length = a2.length)) (
 .ret (Sum.inr (a2, ()))))
def fragSplit_loop6_15 (x : ty3_) : Option ((List TPacket) × Unit) := loopO 60015 (fun x => (fragSplit_step6_15 x).eval) 18446744073709551616 x
def fragSplit_ap : SP := ⟨91, [(0, .v (.agg [.i .i64, .i .i64, .b, .b, .i .i64, .i .i64, .i .i64, .i .u32, .i .u32, .s, .s])), (1, .v (.one (.i .i64)))], []⟩
def fragSplit_rp : SP := ⟨1, [(0, .tup [.one (.own 2000000), .one (.i .i64)])], [(2000000, .row 28 20 true true)]⟩
def fragSplit_tree : ty1_ -> Tr (Int × ((List TPacket) × Unit)) :=
 fun (a0, a1, a2, a3, a4, a5, a6, a7, a8, a9, a10, a11, _) =>
 .opt ((ipWrite_fn (a0, (a1, (a2, (a3, (a4, (a5, (a6, (a7, (a8, (a9, (a10, ()))))))))))))) (fun r0 =>
 .ite (!decide (r0.2.1 = 0)) (
 .grd (true) (
 .ret (r0.2.1, ([], ())))) (
 .ite (decide (a11 < 68)) (
 .grd (true) (
 .ret (1, ([], ())))) (
 .ite (decide (65535 < a11)) (
 .grd (true) (
 .ret (1, ([], ())))) (
 .ite (decide ((↑(List.length r0.1) : Int) <= a11)) (
 .grd (true) (
 .ret (0, ([TPacket.mk a0 a1 a2 a3 a4 a5 a6 a7 a8 a9 a10], ())))) (
 .ite (a2) (
 .grd (true) (
 .ret (9, ([], ())))) (
 .ite (decide (65515 < wW .i64 (wW .i64 ((8 : Int) * a4) + (↑(a10.length) : Int)))) (
 .grd (true) (
 .ret (2, ([], ())))) (
 .grd (true) (
 .grd (true) (
 .opt ((fragSplit_loop6_15 (wW .i64 (wW .i64 (Int.tdiv (wW .i64 (wW .i64 (a11 - 20) - (↑(a9.length) : Int))) (8 : Int)) * (8 : Int)), (a10, ([], (a0, (a1, (a2, (a3, (a4, (a5, (a6, (a7, (a8, (a9, (a10, ())))))))))))))))) (fun r1 =>
 .grd (decide (List.length r1.fst = List.length r1.1)) (
 .ret (0, (r1.1, ())))))))))))))
noncomputable def gm26 : List (PF Go.Proofs.Tryz.prog) := gm25 ++ [FS.pf swTo]
theorem fragSplit_eq (x : ty1_) : gnTr Tryz.prog cod gm26 [(6, fragSplit_L6_15)] [(0, 2000000, 28, 20)] 30 6 fragSplit_ap fragSplit_rp x = fragSplit_tree x := by kernel_rfl
def fragSplit_fn (x : ty1_) : Option (Int × ((List TPacket) × Unit)) := (fragSplit_tree x).eval
def fragSplit : GS Tryz.prog := ⟨6, [0, 0], fragSplit_ap, fragSplit_rp, fragSplit_fn, fun x r h ys m g he hg => gn_sound (cod := cod) (Γ := gm26) (Λs := [(6, fragSplit_L6_15)]) (n := 30) ((congrArg Tr.eval (fragSplit_eq x)).trans h) he hg⟩
def fEnd_ap : List VP1 := [.agg [.i .i64, .s, .b]]
def fEnd_rp : SP := ⟨1, [(0, .v (.one (.i .i64)))], []⟩
def fEnd_tree : (Int × ((List UInt8) × (Bool × Unit))) -> Tr (Int × Unit) :=
 fun (a0, a1, a2, _) =>
 .ret (wW .i64 (a0 + (↑(a1.length) : Int)), ())
noncomputable def gm27 : List (PF Go.Proofs.Tryz.prog) := gm26 ++ [GS.pf fragSplit]
theorem fEnd_eq (x : (Int × ((List UInt8) × (Bool × Unit)))) : fnTr Tryz.prog cod gm27 [] 30 48 fEnd_ap fEnd_rp x = fEnd_tree x := by kernel_rfl
def fEnd_fn (x : (Int × ((List UInt8) × (Bool × Unit)))) : Option (Int × Unit) := (fEnd_tree x).eval
def fEnd : FS Tryz.prog := ⟨48, fEnd_ap, fEnd_rp, fEnd_fn, fun x r h => fnTr_sound (cod := cod) (Γ := gm27) (Λs := []) (n := 30) ((congrArg Tr.eval (fEnd_eq x)).trans h)⟩
def fRightPart_ap : List VP1 := [.agg [.i .i64, .s, .b]]
def fRightPart_rp : SP := ⟨1, [(0, .v (.one (.b)))], []⟩
def fRightPart_tree : (Int × ((List UInt8) × (Bool × Unit))) -> Tr (Bool × Unit) :=
 fun (a0, a1, a2, _) =>
 .ite (!decide (a1 = [])) (
 .ite (decide (0 <= a0)) (
 .grd (true) (
 .ite (decide (Int.tmod a0 (8 : Int) = (0 : Int))) (
 .ite (decide (a0 <= 65515)) (
 .opt ((fEnd_fn (a0, (a1, (a2, ()))))) (fun r0 =>
 .ite (decide (r0.1 <= 65515)) (
 .ite (a2) (
 .ret (true, ())) (
 .grd (true) (
 .ret (decide (Int.tmod (↑(a1.length) : Int) (8 : Int) = (0 : Int)), ())))) (
 .ret (false, ())))) (
 .ret (false, ()))) (
 .ret (false, ())))) (
 .ret (false, ()))) (
 .ret (false, ()))
noncomputable def gm28 : List (PF Go.Proofs.Tryz.prog) := gm27 ++ [FS.pf fEnd]
theorem fRightPart_eq (x : (Int × ((List UInt8) × (Bool × Unit)))) : fnTr Tryz.prog cod gm28 [] 30 72 fRightPart_ap fRightPart_rp x = fRightPart_tree x := by kernel_rfl
def fRightPart_fn (x : (Int × ((List UInt8) × (Bool × Unit)))) : Option (Bool × Unit) := (fRightPart_tree x).eval
def fRightPart : FS Tryz.prog := ⟨72, fRightPart_ap, fRightPart_rp, fRightPart_fn, fun x r h => fnTr_sound (cod := cod) (Γ := gm28) (Λs := []) (n := 30) ((congrArg Tr.eval (fRightPart_eq x)).trans h)⟩
def fSameKey_ap : List VP1 := [.agg [.i .u32, .i .u32, .i .i64, .i .i64, .i .i64, .i .i64, .s, .st 5 false], .agg [.i .u32, .i .u32, .i .i64, .i .i64, .i .i64, .i .i64, .s, .st 5 false]]
def fSameKey_rp : SP := ⟨1, [(0, .v (.one (.b)))], []⟩
abbrev ty4_ : Type := (Int × (Int × (Int × (Int × (Int × (Int × ((List UInt8) × ((List TPart) × (Int × (Int × (Int × (Int × (Int × (Int × ((List UInt8) × ((List TPart) × Unit))))))))))))))))
def fSameKey_tree : ty4_ -> Tr (Bool × Unit) :=
 fun (a0, a1, a2, a3, a4, a5, a6, a7, a8, a9, a10, a11, a12, a13, a14, a15, _) =>
 .ite (decide (a0 = a8)) (
 .ite (decide (a1 = a9)) (
 .ite (decide (a2 = a10)) (
 .ret (decide (a3 = a11), ())) (
 .ret (false, ()))) (
 .ret (false, ()))) (
 .ret (false, ()))
noncomputable def gm29 : List (PF Go.Proofs.Tryz.prog) := gm28 ++ [FS.pf fRightPart]
theorem fSameKey_eq (x : ty4_) : fnTr Tryz.prog cod gm29 [] 30 25 fSameKey_ap fSameKey_rp x = fSameKey_tree x := by kernel_rfl
def fSameKey_fn (x : ty4_) : Option (Bool × Unit) := (fSameKey_tree x).eval
def fSameKey : FS Tryz.prog := ⟨25, fSameKey_ap, fSameKey_rp, fSameKey_fn, fun x r h => fnTr_sound (cod := cod) (Γ := gm29) (Λs := []) (n := 30) ((congrArg Tr.eval (fSameKey_eq x)).trans h)⟩
def fRightHeap_L45_2 : LS := ⟨2, [(1, 1)], ⟨67, [(8, .v (.one (.i .i64))), (1, .v (.one (.ptr 1 0))), (6, .v (.one (.st 5 false))), (7, .v (.one (.i .i64)))], [(1, .cells [.i .u32, .i .u32, .i .i64, .i .i64, .i .i64, .i .i64, .s, .st 5 false])]⟩, [⟨none, [], ⟨67, [(2, .v (.one (.b)))], []⟩⟩, ⟨some 0, [(1, 1)], ⟨67, [(1, .v (.one (.ptr 1 0)))], [(1, .cells [.i .u32, .i .u32, .i .i64, .i .i64, .i .i64, .i .i64, .s, .st 5 false])]⟩⟩], []⟩
abbrev ty5_ : Type := (Int × ((List TPart) × (Int × (Int × (Int × (Int × (Int × (Int × (Int × ((List UInt8) × ((List TPart) × Unit)))))))))))
def fRightHeap_step45_2 : ty5_ -> Tr (ty5_ ⊕ ((Bool × Unit) ⊕ (Int × (Int × (Int × (Int × (Int × (Int × ((List UInt8) × ((List TPart) × Unit)))))))))) :=
 fun (a0, a1, a2, a3, a4, a5, a6, a7, a8, a9, a10, _) =>
 .ite (decide (a0 < a2)) (
 .grd (decide (0 <= a0)) (
 .opt (a1[Int.toNat a0]?) (fun r0 =>
 .opt ((fRightPart_fn (r0.at', (r0.data, (r0.last, ()))))) (fun r1 =>
 .ite (!r1.1) (
 .ret (Sum.inr (Sum.inl (false, ())))) (
 .ite (decide (0 < a0)) (
 .grd (decide (0 <= wW .i64 (a0 - 1))) (
 .opt (a10[Int.toNat (wW .i64 (a0 - 1))]?) (fun r2 =>
 .ite (r2.last) (
 .ret (Sum.inr (Sum.inl (false, ())))) (
 .grd (decide (0 <= wW .i64 (a0 - 1))) (
 .opt (a10[Int.toNat (wW .i64 (a0 - 1))]?) (fun r3 =>
 .opt ((fEnd_fn (r3.at', (r3.data, (r3.last, ()))))) (fun r4 =>
 .ite (decide (r0.at' < r4.1)) (
 .ret (Sum.inr (Sum.inl (false, ())))) (
 .ret (Sum.inl (wW .i64 (a0 + 1), (a1, (a2, (a3, (a4, (a5, (a6, (a7, (a8, (a9, (a10, ())))))))))))))))))))) (
 .ret (Sum.inl (wW .i64 (a0 + 1), (a1, (a2, (a3, (a4, (a5, (a6, (a7, (a8, (a9, (a10, ())))))))))))))))))) (
 .ret (Sum.inr (Sum.inr (a3, (a4, (a5, (a6, (a7, (a8, (a9, (a10, ())))))))))))
def fRightHeap_loop45_2 (x : ty5_) : Option ((Bool × Unit) ⊕ (Int × (Int × (Int × (Int × (Int × (Int × ((List UInt8) × ((List TPart) × Unit))))))))) := loopO 450002 (fun x => (fRightHeap_step45_2 x).eval) 18446744073709551616 x
def fRightHeap_ap : List VP1 := [.agg [.i .u32, .i .u32, .i .i64, .i .i64, .i .i64, .i .i64, .s, .st 5 false]]
def fRightHeap_rp : SP := ⟨1, [(0, .v (.one (.b)))], []⟩
def fRightHeap_tree : (Int × (Int × (Int × (Int × (Int × (Int × ((List UInt8) × ((List TPart) × Unit)))))))) -> Tr (Bool × Unit) :=
 fun (a0, a1, a2, a3, a4, a5, a6, a7, _) =>
 .opt ((fRightHeap_loop45_2 (0, (a7, ((↑(a7.length) : Int), (a0, (a1, (a2, (a3, (a4, (a5, (a6, (a7, ()))))))))))))) (fun r0 =>
 .sum (r0) (fun r1 =>
 .ret (r1.1, ())) (fun r1 =>
 .ite (decide ((↑(List.length r1.2.2.2.2.2.2.2.1) : Int) = 0)) (
 .ret (false, ())) (
 .grd (true) (
 .opt (r1.2.2.2.2.2.2.2.1[(0 : Nat)]?) (fun r2 =>
 .ite (decide (r2.at' = 0)) (
 .ret (true, ())) (
 .ite (decide (r1.2.2.2.2.1 = 0)) (
 .ite (decide (r1.2.2.2.2.2.1 = 0)) (
 .ret (decide (r1.2.2.2.2.2.2.1 = []), ())) (
 .ret (false, ()))) (
 .ret (false, ()))))))))
noncomputable def gm30 : List (PF Go.Proofs.Tryz.prog) := gm29 ++ [FS.pf fSameKey]
theorem fRightHeap_eq (x : (Int × (Int × (Int × (Int × (Int × (Int × ((List UInt8) × ((List TPart) × Unit))))))))) : fnTr Tryz.prog cod gm30 [(45, fRightHeap_L45_2)] 30 45 fRightHeap_ap fRightHeap_rp x = fRightHeap_tree x := by kernel_rfl
def fRightHeap_fn (x : (Int × (Int × (Int × (Int × (Int × (Int × ((List UInt8) × ((List TPart) × Unit))))))))) : Option (Bool × Unit) := (fRightHeap_tree x).eval
def fRightHeap : FS Tryz.prog := ⟨45, fRightHeap_ap, fRightHeap_rp, fRightHeap_fn, fun x r h => fnTr_sound (cod := cod) (Γ := gm30) (Λs := [(45, fRightHeap_L45_2)]) (n := 30) ((congrArg Tr.eval (fRightHeap_eq x)).trans h)⟩
def fCheck_L23_2 : LS := ⟨2, [(1000200, 1000200)], ⟨19, [(8, .v (.one (.i .i64))), (0, .v (.one (.st 6 false))), (1, .v (.one (.clp 47 [(1000200, 0)]))), (7, .v (.one (.i .i64)))], [(1000200, .cells [.i .u32, .i .u32, .i .i64, .i .i64, .i .i64, .i .i64, .s, .st 5 false])]⟩, [⟨none, [(1000200, 1000200)], ⟨19, [(4, .v (.one (.i .i64)))], [(1000200, .cells [.i .u32, .i .u32, .i .i64, .i .i64, .i .i64, .i .i64, .s, .st 5 false])]⟩⟩, ⟨some 0, [(1000200, 1000200)], ⟨19, [], [(1000200, .cells [.i .u32, .i .u32, .i .i64, .i .i64, .i .i64, .i .i64, .s, .st 5 false])]⟩⟩], []⟩
abbrev ty6_ : Type := (Int × ((List THeap) × (Int × (Int × (Int × (Int × (Int × (Int × (Int × ((List UInt8) × ((List TPart) × Unit)))))))))))
abbrev ty7_ : Type := (Int × (Int × (Int × (Int × (Int × (Int × (Int × ((List UInt8) × ((List TPart) × Unit)))))))))
def fCheck_step23_2 : ty6_ -> Tr (ty6_ ⊕ (ty7_ ⊕ (Int × (Int × (Int × (Int × (Int × (Int × ((List UInt8) × ((List TPart) × Unit)))))))))) :=
 fun (a0, a1, a2, a3, a4, a5, a6, a7, a8, a9, a10, _) =>
 .ite (decide (a0 < a2)) (
 .grd (decide (0 <= a0)) (
 .opt (a1[Int.toNat a0]?) (fun r0 =>
 .opt ((fSameKey_fn (r0.from', (r0.to, (r0.proto, (r0.id, (r0.tos, (r0.life, (r0.options, (r0.parts, (a3, (a4, (a5, (a6, (a7, (a8, (a9, (a10, ())))))))))))))))))) (fun r1 =>
 .ite (r1.1) (
 .ret (Sum.inr (Sum.inl (a0, (a3, (a4, (a5, (a6, (a7, (a8, (a9, (a10, ())))))))))))) (
 .ret (Sum.inl (wW .i64 (a0 + 1), (a1, (a2, (a3, (a4, (a5, (a6, (a7, (a8, (a9, (a10, ()))))))))))))))))) (
 .ret (Sum.inr (Sum.inr (a3, (a4, (a5, (a6, (a7, (a8, (a9, (a10, ())))))))))))
def fCheck_loop23_2 (x : ty6_) : Option (ty7_ ⊕ (Int × (Int × (Int × (Int × (Int × (Int × ((List UInt8) × ((List TPart) × Unit))))))))) := loopO 230002 (fun x => (fCheck_step23_2 x).eval) 18446744073709551616 x
def fCheck_L21_10 : LS := ⟨10, [], ⟨39, [(23, .v (.one (.i .i64))), (0, .v (.one (.st 6 false))), (21, .v (.one (.st 6 false))), (22, .v (.one (.i .i64)))], []⟩, [⟨none, [], ⟨39, [(2, .v (.one (.i .i64)))], []⟩⟩, ⟨some 2, [], ⟨39, [], []⟩⟩], []⟩
def fCheck_step21_10 : (Int × ((List THeap) × ((List THeap) × (Int × Unit)))) -> Tr ((Int × ((List THeap) × ((List THeap) × (Int × Unit)))) ⊕ ((Int × Unit) ⊕ Unit)) :=
 fun (a0, a1, a2, a3, _) =>
 .ite (decide (a0 < a3)) (
 .grd (decide (0 <= a0)) (
 .opt (a2[Int.toNat a0]?) (fun r0 =>
 .opt ((fRightHeap_fn (r0.from', (r0.to, (r0.proto, (r0.id, (r0.tos, (r0.life, (r0.options, (r0.parts, ())))))))))) (fun r1 =>
 .ite (!r1.1) (
 .ret (Sum.inr (Sum.inl (4, ())))) (
 .grd (decide ((0 : Int) <= (0 : Int) /\ 0 <= a0 /\ a0 <= (↑(a1.length) : Int))) (
 .opt ((fCheck_loop23_2 (0, (List.drop (0 : Nat) (List.take (Int.toNat a0) a1), ((↑(List.length (List.drop (0 : Nat) (List.take (Int.toNat a0) a1))) : Int), (r0.from', (r0.to, (r0.proto, (r0.id, (r0.tos, (r0.life, (r0.options, (r0.parts, ()))))))))))))) (fun r2 =>
 .sum (r2) (fun r3 =>
 .ite (decide (0 <= r3.1)) (
 .ret (Sum.inr (Sum.inl (4, ())))) (
 .ret (Sum.inl (wW .i64 (a0 + 1), (a1, (a2, (a3, ()))))))) (fun r3 =>
 .ite (false) (
 .ret (Sum.inr (Sum.inl (4, ())))) (
 .ret (Sum.inl (wW .i64 (a0 + 1), (a1, (a2, (a3, ())))))))))))))) (
 .ret (Sum.inr (Sum.inr ())))
def fCheck_loop21_10 (x : (Int × ((List THeap) × ((List THeap) × (Int × Unit))))) : Option ((Int × Unit) ⊕ Unit) := loopO 210010 (fun x => (fCheck_step21_10 x).eval) 18446744073709551616 x
def fCheck_L21_4 : LS := ⟨4, [], ⟨39, [(12, .v (.one (.i .i64))), (10, .v (.one (.st 6 false))), (0, .v (.one (.st 6 false))), (11, .v (.one (.i .i64)))], []⟩, [⟨none, [], ⟨39, [(2, .v (.one (.i .i64)))], []⟩⟩, ⟨some 0, [], ⟨39, [(0, .v (.one (.st 6 false)))], []⟩⟩], []⟩
def fCheck_step21_4 : (Int × ((List THeap) × ((List THeap) × (Int × Unit)))) -> Tr ((Int × ((List THeap) × ((List THeap) × (Int × Unit)))) ⊕ ((Int × Unit) ⊕ ((List THeap) × Unit))) :=
 fun (a0, a1, a2, a3, _) =>
 .ite (decide (a0 < a3)) (
 .grd (decide (0 <= a0)) (
 .opt (a1[Int.toNat a0]?) (fun r0 =>
 .ite (decide (64 < (↑(List.length r0.parts) : Int))) (
 .ret (Sum.inr (Sum.inl (2, ())))) (
 .ret (Sum.inl (wW .i64 (a0 + 1), (a1, (a2, (a3, ()))))))))) (
 .ret (Sum.inr (Sum.inr (a2, ()))))
def fCheck_loop21_4 (x : (Int × ((List THeap) × ((List THeap) × (Int × Unit))))) : Option ((Int × Unit) ⊕ ((List THeap) × Unit)) := loopO 210004 (fun x => (fCheck_step21_4 x).eval) 18446744073709551616 x
def fCheck_ap : List VP1 := [.one (.st 6 false)]
def fCheck_rp : SP := ⟨1, [(0, .v (.one (.i .i64)))], []⟩
def fCheck_tree : ((List THeap) × Unit) -> Tr (Int × Unit) :=
 fun (a0, _) =>
 .ite (decide (16 < (↑(a0.length) : Int))) (
 .ret (2, ())) (
 .opt ((fCheck_loop21_4 (0, (a0, (a0, ((↑(a0.length) : Int), ())))))) (fun r0 =>
 .sum (r0) (fun r1 =>
 .ret (r1.1, ())) (fun r1 =>
 .opt ((fCheck_loop21_10 (0, (r1.1, (r1.1, ((↑(List.length r1.1) : Int), ())))))) (fun r2 =>
 .sum (r2) (fun r3 =>
 .ret (r3.1, ())) (fun r3 =>
 .ret (0, ()))))))
noncomputable def gm31 : List (PF Go.Proofs.Tryz.prog) := gm30 ++ [FS.pf fRightHeap]
theorem fCheck_eq (x : ((List THeap) × Unit)) : fnTr Tryz.prog cod gm31 [(23, fCheck_L23_2), (21, fCheck_L21_10), (21, fCheck_L21_4)] 30 21 fCheck_ap fCheck_rp x = fCheck_tree x := by kernel_rfl
def fCheck_fn (x : ((List THeap) × Unit)) : Option (Int × Unit) := (fCheck_tree x).eval
def fCheck : FS Tryz.prog := ⟨21, fCheck_ap, fCheck_rp, fCheck_fn, fun x r h => fnTr_sound (cod := cod) (Γ := gm31) (Λs := [(23, fCheck_L23_2), (21, fCheck_L21_10), (21, fCheck_L21_4)]) (n := 30) ((congrArg Tr.eval (fCheck_eq x)).trans h)⟩
def fRefused_ap : List VP1 := [.agg [.i .i64, .i .i64, .b, .b, .i .i64, .i .i64, .i .i64, .i .u32, .i .u32, .s, .s]]
def fRefused_rp : SP := ⟨1, [(0, .v (.one (.i .i64)))], []⟩
def fRefused_tree : ty0_ -> Tr (Int × Unit) :=
 fun (a0, a1, a2, a3, a4, a5, a6, a7, a8, a9, a10, _) =>
 .ite (decide (65515 < wW .i64 (wW .i64 ((8 : Int) * a4) + (↑(a10.length) : Int)))) (
 .ret (2, ())) (
 .ite (decide (a10 = [])) (
 .ret (4, ())) (
 .ite (a3) (
 .grd (true) (
 .ite (!decide (Int.tmod (↑(a10.length) : Int) (8 : Int) = (0 : Int))) (
 .ret (4, ())) (
 .ret (0, ())))) (
 .ret (0, ()))))
noncomputable def gm32 : List (PF Go.Proofs.Tryz.prog) := gm31 ++ [FS.pf fCheck]
theorem fRefused_eq (x : ty0_) : fnTr Tryz.prog cod gm32 [] 30 22 fRefused_ap fRefused_rp x = fRefused_tree x := by kernel_rfl
def fRefused_fn (x : ty0_) : Option (Int × Unit) := (fRefused_tree x).eval
def fRefused : FS Tryz.prog := ⟨22, fRefused_ap, fRefused_rp, fRefused_fn, fun x r h => fnTr_sound (cod := cod) (Γ := gm32) (Λs := []) (n := 30) ((congrArg Tr.eval (fRefused_eq x)).trans h)⟩
theorem clParts_h1 (xs : List (τ 5)) : (bodyTr Go.Proofs.Tryz.prog cod 44 [.one (.nn (.st 5 xs))]).eval = (cloneRes 82 5 32 xs).eval := by kernel_rfl
theorem clParts_h2 : (bodyTr Go.Proofs.Tryz.prog cod 44 [.one .nil]).eval = some (.one .nil, []) := by kernel_rfl
def clParts : PF Go.Proofs.Tryz.prog := clonePF Go.Proofs.Tryz.prog cod 44 82 5 32 clParts_h1 clParts_h2
def fOwn_L20_3 : LS := ⟨3, [(8, 8)], ⟨25, [(11, .v (.one (.i .i64))), (3, .v (.one (.dp 8))), (9, .v (.one (.st 6 false))), (10, .v (.one (.i .i64)))], [(8, .deep 73 82 6)]⟩, [⟨some 0, [(8, 8)], ⟨25, [(3, .v (.one (.dp 8)))], [(8, .deep 73 82 6)]⟩⟩], []⟩
def fOwn_step20_3 : (Int × (Nat × ((List THeap) × (Int × ((List THeap) × Unit))))) -> Tr ((Int × (Nat × ((List THeap) × (Int × ((List THeap) × Unit))))) ⊕ (Nat × ((List THeap) × Unit))) :=
 fun (a0, a1, a2, a3, a4, _) =>
 .ite (decide (a0 < a3)) (
 .grd (decide (0 <= a0)) (
 .opt (a2[Int.toNat a0]?) (fun r0 =>
 .grd (decide (((0 : Nat) + List.length r0.parts) * (32 : Nat) <= (140737488355328 : Nat) /\ (0 : Nat) + List.length r0.parts <= (9223372036854775807 : Nat))) (
 .grd (decide ((a4.length + List.length [THeap.mk r0.from' r0.to r0.proto r0.id r0.tos r0.life r0.options r0.parts]) * (80 : Nat) <= (140737488355328 : Nat) /\ a4.length + List.length [THeap.mk r0.from' r0.to r0.proto r0.id r0.tos r0.life r0.options r0.parts] <= (9223372036854775807 : Nat))) (
 .grd (decide (List.length (a4 ++ [THeap.mk r0.from' r0.to r0.proto r0.id r0.tos r0.life r0.options r0.parts]) = List.length (a4 ++ [THeap.mk r0.from' r0.to r0.proto r0.id r0.tos r0.life r0.options r0.parts]))) (
 .ret (Sum.inl (wW .i64 (a0 + 1), (List.length (a4 ++ [THeap.mk r0.from' r0.to r0.proto r0.id r0.tos r0.life r0.options r0.parts]), (a2, (a3, (a4 ++ [THeap.mk r0.from' r0.to r0.proto r0.id r0.tos r0.life r0.options r0.parts], ())))))))))))) (
 .grd (decide (a4.length = a4.length)) (
 .ret (Sum.inr (a1, (a4, ())))))
def fOwn_loop20_3 (x : (Int × (Nat × ((List THeap) × (Int × ((List THeap) × Unit)))))) : Option (Nat × ((List THeap) × Unit)) := loopO 200003 (fun x => (fOwn_step20_3 x).eval) 18446744073709551616 x
def fOwn_ap : SP := ⟨25, [(0, .v (.one (.st 6 false)))], []⟩
def fOwn_rp : SP := ⟨1, [(0, .v (.one (.dp 2000000)))], [(2000000, .deep 73 82 6)]⟩
def fOwn_tree : ((List THeap) × Unit) -> Tr (Nat × ((List THeap) × Unit)) :=
 fun (a0, _) =>
 .grd (decide ((0 : Int) <= (0 : Int) /\ 0 <= (↑(a0.length) : Int) /\ Int.toNat (↑(a0.length) : Int) * (80 : Nat) <= (140737488355328 : Nat) /\ (↑(a0.length) : Int) <= (↑(9223372036854775807 : Nat) : Int))) (
 .grd (true) (
 .opt ((fOwn_loop20_3 (0, (Int.toNat (↑(a0.length) : Int), (a0, ((↑(a0.length) : Int), (List.replicate (0 : Nat) (THeap.mk (0 : Int) (0 : Int) (0 : Int) (0 : Int) (0 : Int) (0 : Int) [] []), ()))))))) (fun r0 =>
 .grd (decide (List.length r0.2.fst = List.length r0.2.1)) (
 .ret (r0.1, (r0.2.1, ()))))))
noncomputable def gm33 : List (PF Go.Proofs.Tryz.prog) := gm32 ++ [FS.pf fRefused, clParts]
theorem fOwn_eq (x : ((List THeap) × Unit)) : gsTr Tryz.prog cod gm33 [(20, fOwn_L20_3)] 30 20 fOwn_ap fOwn_rp x = fOwn_tree x := by kernel_rfl
def fOwn_fn (x : ((List THeap) × Unit)) : Option (Nat × ((List THeap) × Unit)) := (fOwn_tree x).eval
def fOwn : GS Tryz.prog := ⟨20, [0], fOwn_ap, fOwn_rp, fOwn_fn, fun x r h ys m g he hg => gs_sound (cod := cod) (Γ := gm33) (Λs := [(20, fOwn_L20_3)]) (n := 30) ((congrArg Tr.eval (fOwn_eq x)).trans h) he hg⟩
def fDel_ap : SP := ⟨33, [(0, .v (.one (.dp 1000100))), (1, .v (.one (.i .i64))), (2, .v (.one (.i .i64)))], [(1000100, .deep 73 82 6)]⟩
def fDel_rp : SP := ⟨1, [(0, .v (.one (.dp 1000100)))], [(1000100, .deep 73 82 6)]⟩
def fDel_tree : (Nat × (Int × (Int × ((List THeap) × Unit)))) -> Tr (Nat × ((List THeap) × Unit)) :=
 fun (a0, a1, a2, a3, _) =>
 .grd (decide (0 <= a1 /\ a1 <= a2 /\ a2 <= (↑(a3.length) : Int) /\ (↑(a3.length) : Int) <= (↑(a3.length) : Int))) (
 .ite (decide (a1 = a2)) (
 .grd (decide (a3.length = a3.length)) (
 .ret (a0, (a3, ())))) (
 .grd (decide ((0 : Int) <= (0 : Int) /\ 0 <= a1 /\ a1 <= (↑a0 : Int))) (
 .grd (decide (0 <= a2 /\ a2 <= (↑(a3.length) : Int) /\ (↑(a3.length) : Int) <= (↑a0 : Int))) (
 .grd (decide ((0 : Nat) = (0 : Nat) /\ Int.toNat (a1 - 0) <= Int.toNat a2 /\ Int.toNat a2 + Int.toNat ((↑(a3.length) : Int) - a2) = a3.length)) (
 .grd (decide (0 <= (↑(List.length (List.take (Int.toNat (a1 - 0)) a3 ++ List.drop (Int.toNat a2) a3)) : Int) /\ (↑(List.length (List.take (Int.toNat (a1 - 0)) a3 ++ List.drop (Int.toNat a2) a3)) : Int) <= (↑(a3.length) : Int) /\ (↑(a3.length) : Int) <= (↑(a3.length) : Int))) (
 .grd (decide (List.length (List.take (Int.toNat (a1 - 0)) a3 ++ List.drop (Int.toNat a2) a3) <= Int.toNat (↑(List.length (List.take (Int.toNat (a1 - 0)) a3 ++ List.drop (Int.toNat a2) a3)) : Int))) (
 .grd (decide (List.length (List.take (Int.toNat (a1 - 0)) a3 ++ List.drop (Int.toNat a2) a3) = List.length (List.take (Int.toNat (a1 - 0)) a3 ++ List.drop (Int.toNat a2) a3))) (
 .ret (a3.length, (List.take (Int.toNat (a1 - 0)) a3 ++ List.drop (Int.toNat a2) a3, ()))))))))))
noncomputable def gm34 : List (PF Go.Proofs.Tryz.prog) := gm33 ++ [GS.pf fOwn]
theorem fDel_eq (x : (Nat × (Int × (Int × ((List THeap) × Unit))))) : gsTr Tryz.prog cod gm34 [] 30 26 fDel_ap fDel_rp x = fDel_tree x := by kernel_rfl
def fDel_fn (x : (Nat × (Int × (Int × ((List THeap) × Unit))))) : Option (Nat × ((List THeap) × Unit)) := (fDel_tree x).eval
def fDel : GS Tryz.prog := ⟨26, [1, 0, 0], fDel_ap, fDel_rp, fDel_fn, fun x r h ys m g he hg => gs_sound (cod := cod) (Γ := gm34) (Λs := []) (n := 30) ((congrArg Tr.eval (fDel_eq x)).trans h) he hg⟩
end Go.Proofs.YtaeeadldamflcaaGreatDoor.X
namespace Go.Proofs.YtaeeadldamflcaaGreatDoor.X
open Go Go.RowKit Go.Lib Go.Proofs.YtaeeadldamflcaaGreatDoor.Abs
set_option linter.unusedVariables false
set_option linter.unusedSimpArgs false
theorem run_copyN {P : Program} (w : World) (dT sT ty elem : TypeId) (sz b o dLen dCap : Nat) (a : Addr) (sLen sCap : Nat) (cs : List Value)
  (hu : P.underlying dT = some (.slice elem)) (hs : (P.info? elem).map (·.size) = some sz) (hn : cs.length = Nat.min sLen dLen * sz)
  (hsrc : ∀ j v, cs[j]? = some v -> w.cell? (a.add j) = some v) (hc : ∀ j, j < cs.length -> (w.cell? ⟨b, o + j, none⟩).isSome = true) (hf : ∀ j, j < cs.length -> w.frozen? ⟨b, o + j, none⟩ = false) (h1 : ∀ v ∈ cs, v.oneCell' = true) :
  (Builtin.copy_ #[dT, sT] ty #[.slice (some ⟨b, o, none⟩) dLen dCap, .slice (some a) sLen sCap]).run P w = .ok (goInt (Nat.min sLen dLen)) (w.setCells b o cs) := by
 have hl := run_loadCells_list (P := P) w a cs hsrc
 have hst := run_storeCells_cells (P := P) b o cs 0 w (by simpa using hc) (by simpa using hf) h1
 cases hq : P.info? elem with
 | none => simp [hq] at hs
 | some i =>
  have hi : i.size = sz := by simpa [hq] using hs
  rw [hn] at hl
  simp [Builtin.copy_, run_underlying hu, Builtin.lenOf, Builtin.firstCells, sizeOf, typeInfo, hq, hi, hl, hst]
def InsOk (w w' : World) (v0 v' : Value) (rows : List (List D)) : Prop :=
 w.grownBy w' v0.ownBlock /\ (v'.ownBlock = v0.ownBlock \/ v'.ownBlock = some w.heap.size) /\ (∀ b, v'.ownBlock = some b -> b < w'.heap.size) /\ RowRel w' (fun _ => False) 82 3 v' rows
structure OnePart (w : World) (b o : Nat) (vs : List Value) (r : List D) : Prop where
 len : vs.length = 3
 cell : ∀ j v, vs[j]? = some v -> w.cell? ⟨b, o + j, none⟩ = some v
 one : ∀ v ∈ vs, v.oneCell' = true
 rep : ∀ (j : Nat) (v : Value) (d : D), vs[j]? = some v -> r[j]? = some d -> RepI w (fun _ => False) v d
 rlen : r.length = 3
set_option maxRecDepth 100000 in
set_option maxHeartbeats 4000000 in
theorem Insert_end (v0 : Value) (rows : List (List D)) (vb voff vc : Nat) (vs : List Value) (r : List D) (w : World) (h0 : RowRel w (fun _ => False) 82 3 v0 rows) (hrl : ∀ r ∈ rows, r.length = 3)
  (hv : OnePart w vb voff vs r) (hn : rows.length <= 1000000) :
  Calls Tryz.prog 49 #[v0, .int .i64 rows.length, .slice (some ⟨vb, voff, none⟩) 1 vc] w fun e w' => ∃ v', e = .returned v' /\ InsOk w w' v0 v' (rows ++ [r]) := by
 have hform : ∃ ao c, v0 = .slice ao rows.length c := by
  rcases h0 with ⟨rfl, rfl⟩ | ⟨g, cap, cur, fz, rfl, _⟩
  . exact ⟨_, _, rfl⟩
  . exact ⟨_, _, rfl⟩
 obtain ⟨v', w', hrun, hgrow, hob, hlt, hrow⟩ := append_core (P := Tryz.prog) (w := w) (UU := fun _ => False) (t := 71) (ty := 71) (e := 82) (sz := 3) (zs := [.d (.i .i64 0), .d (.s []), .d (.b false)]) (rows := rows) (new := [r]) (v0 := v0) (ao := some ⟨vb, voff, none⟩) (cap := vc) (by kernel_rfl) (by kernel_rfl) (by kernel_rfl) (by decide) h0 hrl (fun x hx => by rw [List.mem_singleton] at hx; rw [hx]; exact hv.rlen) (fun e => by cases e)
  (fun ad e _ => by
    cases e
    refine ⟨rfl, fun i j r' d hi hj => ?_⟩
    cases i with
    | succ i => simp at hi
    | zero =>
     cases hi
     have hjl : j < vs.length := by have := (List.getElem?_eq_some_iff.1 hj).1; rw [hv.rlen] at this; rw [hv.len]; exact this
     refine ⟨vs[j], ?_, hv.one _ (List.getElem_mem hjl), hv.rep j _ d (List.getElem?_eq_getElem hjl) hj⟩
     rw [Nat.zero_mul, Nat.add_zero]
     exact hv.cell j _ (List.getElem?_eq_getElem hjl))
  (by show rows.length + 1 <= maxLen; unfold maxLen; omega) (by show (rows.length + 1) * 32 <= 140737488355328; omega) (fun b hb => hb.elim)
 obtain ⟨ao, c, rfl⟩ := hform
 cases ao with
 | none =>
  go_enter Tryz.func49, Tryz.ntmps49
  go_wp2_with (at_builtin; refine Lib.wpList_append_run _ rfl _ _ _ _ rfl _ _ rfl rfl _ _ hrun ?_)
  go_ret
  exact ⟨_, rfl, hgrow, hob, hlt, hrow⟩
 | some ad =>
  obtain ⟨ab, ao, asp⟩ := ad
  go_enter Tryz.func49, Tryz.ntmps49
  go_wp2_with (at_builtin; refine Lib.wpList_append_run _ rfl _ _ _ _ rfl _ _ rfl rfl _ _ hrun ?_)
  all_goals (go_ret; exact ⟨_, rfl, hgrow, hob, hlt, hrow⟩)
set_option maxRecDepth 100000 in
set_option maxHeartbeats 4000000 in
theorem Insert_room (g n cap i : Nat) (cur : Array Value) (vb voff vc : Nat) (vs : List Value) (r : List D) (w : World) (hg : w.heap[g]? = some (.cells cur 82 (0, 0))) (hi : i < n) (hroom : n + 1 <= cap) (hcap : cap <= maxLen) (hsz : cur.size = cap * 3)
  (hone : ∀ j, j < n * 3 -> ∀ v, cur[j]? = some v -> v.oneCell' = true) (hv : OnePart w vb voff vs r) (hvb : vb ≠ g) (tA : TypeId) (kA : Nat) (hsa : w.shape? vb = some (tA, kA)) (hfa : w.frozen? ⟨vb, voff, none⟩ = false) (hfe : w.frozen? ⟨vb, kA, none⟩ = false) :
  Calls Tryz.prog 49 #[.slice (some ⟨g, 0, none⟩) n cap, .int .i64 i, .slice (some ⟨vb, voff, none⟩) 1 vc] w fun e w' =>
    e = .returned (.slice (some ⟨g, 0, none⟩) (n + 1) cap) /\ w' = (w.drew.setCells g ((i + 1) * 3) ((cur.toList.drop (i * 3)).take ((n - i) * 3))).setCells g (i * 3) vs := by
 have hz2 : ¬ ((i : Int) = (n : Int)) := by omega
 have hlim : cap <= 9223372036854775807 := hcap
 have hw1 : IntKind.i64.wrap ((i : Int) + 1) = (i : Int) + 1 := by rw [IntKind.wrap_i64]; omega
 have hb1 : (0 : Int) <= (i : Int) + 1 := by omega
 have hin : i <= n := by omega
 have htn : ((i : Int) + 1).toNat = i + 1 := by omega
 have hb2 : ¬ (cap = i + 1) := by omega
 have hb3 : (i : Int) <= (n : Int) + 1 := by omega
 have hb4 : ¬ (cap = i) := by omega
 have hsa' : w.shape? (⟨vb, voff, none⟩ : Addr).block = some (tA, kA) := hsa
 have hsb : w.shape? (⟨g, (i + 1) * 3, none⟩ : Addr).block = some (82, cur.size) := by simp [World.shape?, hg]
 have hov : ∀ lb cb, (callFunc 73 #[.slice (some ⟨vb, voff, none⟩) 1 vc, .slice (some ⟨g, (i + 1) * 3, none⟩) lb cb]).run Tryz.prog w = .ok (.value (.bool false)) w := fun lb cb => by
  rw [run_callFunc_extern Tryz.func73 (by kernel_rfl) (by kernel_rfl) (by kernel_rfl) (e := Extern.SlicesOverlaps.overlaps #[71, 71] #[4]) (by kernel_rfl),
    Lib.run_overlaps_apart w 71 4 82 (by kernel_rfl) 3 (fun _ => by kernel_rfl) ⟨vb, voff, none⟩ ⟨g, (i + 1) * 3, none⟩ 1 vc lb cb hvb tA _ kA _ hsa' hsb (by omega) hfa hfe]
  rfl
 have mixed : Tryz.prog.follows Departure.mixedOrders = true := by kernel_rfl
 obtain ⟨CS, hCS⟩ : ∃ CS, CS = (cur.toList.drop (i * 3)).take ((n - i) * 3) := ⟨_, rfl⟩
 rw [<- hCS]
 have hmul : (n - i) * 3 + i * 3 = n * 3 := by omega
 have hcl : CS.length = (n - i) * 3 := by rw [hCS, List.length_take, List.length_drop, Array.length_toList]; omega
 have hcget : ∀ j v, CS[j]? = some v -> j < (n - i) * 3 /\ cur[i * 3 + j]? = some v := fun j v hj => by
  have h1 := (List.getElem?_eq_some_iff.1 hj).1
  rw [hCS, List.getElem?_take] at hj
  split at hj
  . rename_i h2; rw [List.getElem?_drop, Array.getElem?_toList] at hj; exact ⟨h2, hj⟩
  . cases hj
 have hin1 : ∀ k, k < cap * 3 -> (w.cell? ⟨g, k, none⟩).isSome = true := fun k hk => by simp only [World.cell?, hg]; rw [Array.getElem?_eq_getElem (by omega)]; rfl
 have hfz : ∀ k, w.frozen? ⟨g, k, none⟩ = false := fun k => by simp [World.frozen?, hg]
 have hsz3 : (Tryz.prog.info? 82).map (·.size) = some 3 := by kernel_rfl
 have htu : Tryz.prog.underlying 71 = some (.slice 82) := by kernel_rfl
 have hcp1 : ∀ ty dc sc, (Builtin.copy_ #[71, 71] ty #[.slice (some ⟨g, (i + 1) * 3, none⟩) (n - i) dc, .slice (some ⟨g, i * 3, none⟩) (n + 1 - i) sc]).run Tryz.prog w.drew = .ok (goInt ((n - i : Nat) : Int)) (w.drew.setCells g ((i + 1) * 3) CS) := fun ty dc sc => by
  have h := run_copyN (P := Tryz.prog) w.drew 71 71 ty 82 3 g ((i + 1) * 3) (n - i) dc ⟨g, i * 3, none⟩ (n + 1 - i) sc CS htu hsz3 (by rw [hcl]; congr 1; simp only [Nat.min_def]; split <;> omega)
    (fun j v hj => by
     rw [Addr.add_lit]
     obtain ⟨_, h2⟩ := hcget j v hj
     show w.cell? _ = _
     simp only [World.cell?, hg]; exact h2)
    (fun j hj => hin1 _ (by omega)) (fun j hj => hfz _) (fun v hv => by
     obtain ⟨j, hj⟩ := List.mem_iff_getElem?.1 hv
     obtain ⟨h1, h2⟩ := hcget j v hj
     exact hone _ (by omega) v h2)
  have hm : Nat.min (n + 1 - i) (n - i) = n - i := by simp only [Nat.min_def]; split <;> omega
  rw [hm] at h
  exact h
 obtain ⟨W1, hW1⟩ : ∃ W1, W1 = w.drew.setCells g ((i + 1) * 3) CS := ⟨_, rfl⟩
 have hsp1 : ∀ k, k < cap * 3 -> (W1.cell? ⟨g, k, none⟩).isSome = true := fun k hk => by
  rw [hW1]
  exact isSome_setCells g CS ((i + 1) * 3) w.drew (fun j hj => hin1 _ (by rw [hcl] at hj; omega)) _ (hin1 k hk)
 have hcp2 : ∀ (W : World), (∀ x, W.cell? x = W1.cell? x) -> (∀ x, W.frozen? x = W1.frozen? x) -> ∀ ty dc, (Builtin.copy_ #[71, 71] ty #[.slice (some ⟨g, i * 3, none⟩) (n + 1 - i) dc, .slice (some ⟨vb, voff, none⟩) 1 vc]).run Tryz.prog W = .ok (goInt 1) (W.setCells g (i * 3) vs) := fun W hWc hWf ty dc => by
  have h := run_copyN (P := Tryz.prog) W 71 71 ty 82 3 g (i * 3) (n + 1 - i) dc ⟨vb, voff, none⟩ 1 vc vs htu hsz3 (by rw [hv.len]; simp only [Nat.min_def]; split <;> omega)
    (fun j v hj => by
     rw [Addr.add_lit, hWc, hW1, World.cell?_setCells_out g _ _ _ _ (fun h _ => absurd h hvb)]
     exact hv.cell j v hj)
    (fun j hj => by rw [hWc]; exact hsp1 _ (by rw [hv.len] at hj; omega)) (fun j hj => by rw [hWf, hW1, World.frozen?_setCells]; exact hfz _) hv.one
  have hm : Nat.min 1 (n + 1 - i) = 1 := by simp only [Nat.min_def]; split <;> omega
  rw [hm] at h
  exact h
 rw [<- hW1] at hcp1
 go_enter Tryz.func49, Tryz.ntmps49
 go_wp2_with (simp only [hov])
 go_region_law_o (refine step_copy_runI rfl _ _ 71 71 rfl _ _ (by simp [Act.eval, Act.put]) (by simp [Act.eval, Act.put]) (hcp1 _ _ _) ?_)
 go_wp2_with (at_builtin; refine wpList_copy_runI _ rfl _ _ 71 71 rfl _ _ rfl rfl (hcp2 _ (fun _ => rfl) (fun _ => rfl) _ _) ?_)
 go_ret
 first | exact ⟨rfl, rfl⟩ | exact ⟨rfl, by rw [hW1]⟩ | exact ⟨rfl, by rw [hCS]⟩ | exact ⟨rfl, by rw [hW1, hCS]⟩
def zPart : Value := .agg #[.int .i64 0, .string ⟨#[]⟩, .bool false]
set_option maxRecDepth 100000 in
set_option maxHeartbeats 4000000 in
theorem Insert_grow (g n cap i : Nat) (cur : Array Value) (vb voff vc : Nat) (vs : List Value) (r : List D) (w : World) (hg : w.heap[g]? = some (.cells cur 82 (0, 0))) (hi : i < n) (hnc : n <= cap) (hroom : cap < n + 1) (hbig : n <= 1000000) (hsz : cur.size = cap * 3)
  (hone : ∀ j, j < n * 3 -> ∀ v, cur[j]? = some v -> v.oneCell' = true) (hv : OnePart w vb voff vs r) :
  Calls Tryz.prog 49 #[.slice (some ⟨g, 0, none⟩) n cap, .int .i64 i, .slice (some ⟨vb, voff, none⟩) 1 vc] w fun e w' =>
    e = .returned (.slice (some ⟨w.heap.size, 0, none⟩) (n + 1) (grownCap w (n + 1) cap 82)) /\
    w' = (((w.alloc (.cells ((cur.toList.take (i * 3)).toArray ++ Builtin.zeroCells zPart.cells (n + 1 - i) ++ Builtin.zeroCells zPart.cells (grownCap w (n + 1) cap 82 - (n + 1))) 82)).drew.setCells w.heap.size (i * 3) vs).drew).setCells w.heap.size ((i + 1) * 3) ((cur.toList.drop (i * 3)).take ((n - i) * 3)) := by
 have mixed : Tryz.prog.follows Departure.mixedOrders = true := by kernel_rfl
 have hz2 : ¬ ((i : Int) = (n : Int)) := by omega
 have hz3 : (cap : Int) < (n : Int) + 1 := by omega
 obtain ⟨i0, hi0⟩ := Option.isSome_iff_exists.1 (show (Tryz.prog.info? 82).isSome = true by kernel_rfl)
 have hz0 : i0.zero = some zPart := by have h : (Tryz.prog.info? 82).bind (·.zero) = some zPart := (by kernel_rfl); rw [hi0] at h; exact h
 have hzs : i0.size = 3 := by have h : (Tryz.prog.info? 82).map (·.size) = some 3 := (by kernel_rfl); rw [hi0] at h; exact Option.some.inj h
 have hzb : i0.bytes = 32 := by have h : (Tryz.prog.info? 82).map (·.bytes) = some 32 := (by kernel_rfl); rw [hi0] at h; exact Option.some.inj h
 have hsz3 : (Tryz.prog.info? 82).map (·.size) = some 3 := by kernel_rfl
 have htu : Tryz.prog.underlying 71 = some (.slice 82) := by kernel_rfl
 have htn : Tryz.prog.underlying 3 = some (.int .i64) := by kernel_rfl
 have hgw : g < w.heap.size := (Array.getElem?_eq_some_iff.1 hg).1
 have hvw : vb < w.heap.size := block_lt_of_cell (hv.cell 0 _ (List.getElem?_eq_getElem (by rw [hv.len]; decide)))
 have hkk : (n : Int) + 1 - (i : Int) = ((n + 1 - i : Nat) : Int) := by omega
 have hik : i + (n + 1 - i) = n + 1 := by omega
 have hcapn : cap = n := by omega
 obtain ⟨CS, hCS⟩ : ∃ CS, CS = (cur.toList.drop (i * 3)).take ((n - i) * 3) := ⟨_, rfl⟩
 obtain ⟨OLD, hOLD⟩ : ∃ OLD, OLD = cur.toList.take (i * 3) := ⟨_, rfl⟩
 rw [<- hCS, <- hOLD]
 have hol : OLD.length = i * 3 := by rw [hOLD, List.length_take, Array.length_toList]; omega
 have hcl : CS.length = (n - i) * 3 := by rw [hCS, List.length_take, List.length_drop, Array.length_toList]; omega
 have hcget : ∀ j v, CS[j]? = some v -> j < (n - i) * 3 /\ cur[i * 3 + j]? = some v := fun j v hj => by
  rw [hCS, List.getElem?_take] at hj
  split at hj
  . rename_i h2; rw [List.getElem?_drop, Array.getElem?_toList] at hj; exact ⟨h2, hj⟩
  . cases hj
 have hold : (Builtin.firstCells i0.size i (.slice (some ⟨g, 0, none⟩) i cap)).run Tryz.prog w.drew = .ok OLD.toArray w.drew := by
  rw [hzs]
  exact run_firstCells_some w.drew 3 i ⟨g, 0, none⟩ i cap OLD hol (fun j v hj => by
    rw [Addr.add_lit, Nat.zero_add]
    rw [hOLD, List.getElem?_take] at hj
    split at hj
    . rw [Array.getElem?_toList] at hj
      show w.cell? _ = _
      simp only [World.cell?, hg]; exact hj
    . cases hj)
 have hrz : ∀ ty, (Builtin.append_ #[71, 3] ty #[.slice (some ⟨g, 0, none⟩) i cap, .int .i64 ((n : Int) + 1 - (i : Int))]).run Tryz.prog w =
    .ok (.slice (some ⟨w.heap.size, 0, none⟩) (n + 1) (grownCap w (n + 1) cap 82)) (w.drew.alloc (.cells (OLD.toArray ++ Builtin.zeroCells zPart.cells (n + 1 - i) ++ Builtin.zeroCells zPart.cells (grownCap w (n + 1) cap 82 - (n + 1))) 82)) := fun ty => by
  have h := Lib.run_append_grow_zeros w 71 3 ty 82 i0 _ .i64 .i64 htu htn hi0 hz0 (some ⟨g, 0, none⟩) i cap OLD hold (n + 1 - i) (by omega) (by omega) (by omega) (by omega) (by rw [hzb]; omega) (by rw [hzb, hik]; exact growslice_fits hroom (by omega))
  rw [hik] at h
  rw [hkk]
  exact h
 obtain ⟨G, hG⟩ : ∃ G, G = grownCap w (n + 1) cap 82 := ⟨_, rfl⟩
 obtain ⟨ROW, hROW⟩ : ∃ ROW : Array Value, ROW = OLD.toArray ++ Builtin.zeroCells zPart.cells (n + 1 - i) ++ Builtin.zeroCells zPart.cells (G - (n + 1)) := ⟨_, rfl⟩
 rw [<- hG] at hrz ⊢
 rw [<- hROW] at hrz ⊢
 have hGn : n + 1 <= G := by rw [hG]; exact grownCap_ge w _ _ _
 have hzc : zPart.cells.size = 3 := rfl
 have hRl : ROW.size = G * 3 := by
  rw [hROW]
  simp only [Array.size_append, size_zeroCells, hzc, List.size_toArray, hol]
  omega
 obtain ⟨W1, hW1⟩ : ∃ W1, W1 = w.drew.alloc (.cells ROW 82) := ⟨_, rfl⟩
 rw [<- hW1] at hrz
 have hN : ∀ j, j < (n + 1) * 3 -> (W1.cell? ⟨w.heap.size, j, none⟩).isSome = true := fun j hj => by
  rw [hW1, World.cell?_alloc_at (w := w.drew) ROW _ w.heap.size j rfl, Array.getElem?_eq_getElem (by omega)]; rfl
 have hNf : ∀ j, W1.frozen? ⟨w.heap.size, j, none⟩ = false := fun j => by rw [hW1]; exact World.frozen?_alloc_at (w := w.drew) ROW _ w.heap.size j rfl
 have hOb : ∀ j v, cur[j]? = some v -> W1.cell? ⟨g, j, none⟩ = some v := fun j v h => by
  rw [hW1, World.cell?_alloc_past (w := w.drew) _ g j hgw]
  show w.cell? _ = _
  simp only [World.cell?, hg]; exact h
 have hOv : ∀ j v, w.cell? ⟨vb, j, none⟩ = some v -> W1.cell? ⟨vb, j, none⟩ = some v := fun j v h => by rw [hW1, World.cell?_alloc_past (w := w.drew) _ vb j hvw]; exact h
 have hcpA : ∀ (W : World), (∀ x, W.cell? x = W1.cell? x) -> (∀ x, W.frozen? x = W1.frozen? x) -> ∀ ty dc, (Builtin.copy_ #[71, 71] ty #[.slice (some ⟨w.heap.size, i * 3, none⟩) (n + 1 - i) dc, .slice (some ⟨vb, voff, none⟩) 1 vc]).run Tryz.prog W = .ok (goInt 1) (W.setCells w.heap.size (i * 3) vs) := fun W hWc hWf ty dc => by
  have h := run_copyN (P := Tryz.prog) W 71 71 ty 82 3 w.heap.size (i * 3) (n + 1 - i) dc ⟨vb, voff, none⟩ 1 vc vs htu hsz3 (by rw [hv.len]; simp only [Nat.min_def]; split <;> omega)
    (fun j v hj => by rw [Addr.add_lit, hWc]; exact hOv _ v (hv.cell j v hj))
    (fun j hj => by rw [hWc]; exact hN _ (by rw [hv.len] at hj; omega)) (fun j hj => by rw [hWf]; exact hNf _) hv.one
  have hm : Nat.min 1 (n + 1 - i) = 1 := by simp only [Nat.min_def]; split <;> omega
  rw [hm] at h
  exact h
 have hG63 : G <= 9223372036854775807 := by
  have := grownCap_le_maxLen w (n + 1) cap 82 (by unfold maxLen; omega)
  rw [<- hG] at this
  unfold maxLen at this
  omega
 have hGi : ¬ (G = i) := by omega
 have hGim : ¬ (G = i + 1) := by omega
 have hci : ¬ (cap = i) := by omega
 have hbN : g ≠ w.heap.size := by omega
 have hcpB : ∀ (W : World), (∀ x, W.cell? x = (W1.setCells w.heap.size (i * 3) vs).cell? x) -> (∀ x, W.frozen? x = (W1.setCells w.heap.size (i * 3) vs).frozen? x) -> ∀ ty dc sc, (Builtin.copy_ #[71, 71] ty #[.slice (some ⟨w.heap.size, (i + 1) * 3, none⟩) (n - i) dc, .slice (some ⟨g, i * 3, none⟩) (n - i) sc]).run Tryz.prog W = .ok (goInt ((n - i : Nat) : Int)) (W.setCells w.heap.size ((i + 1) * 3) CS) := fun W hWc hWf ty dc sc => by
  have h := run_copyN (P := Tryz.prog) W 71 71 ty 82 3 w.heap.size ((i + 1) * 3) (n - i) dc ⟨g, i * 3, none⟩ (n - i) sc CS htu hsz3 (by rw [hcl]; congr 1; simp only [Nat.min_def]; split <;> omega)
    (fun j v hj => by
      rw [Addr.add_lit, hWc, World.cell?_setCells_out _ _ _ _ _ (fun h _ => absurd h hbN)]
      exact hOb _ v (hcget j v hj).2)
    (fun j hj => by rw [hWc]; exact isSome_setCells _ vs (i * 3) W1 (fun t ht => hN _ (by rw [hv.len] at ht; omega)) _ (hN _ (by rw [hcl] at hj; omega)))
    (fun j hj => by rw [hWf, World.frozen?_setCells]; exact hNf _) (fun v hv => by
      obtain ⟨j, hj⟩ := List.mem_iff_getElem?.1 hv
      obtain ⟨h1, h2⟩ := hcget j v hj
      exact hone _ (by omega) v h2)
  have hm : Nat.min (n - i) (n - i) = n - i := by simp only [Nat.min_def]; split <;> omega
  rw [hm] at h
  exact h
 subst hW1
 have hE1 : ∀ x, ((w.alloc (.cells ROW 82)).drew).cell? x = (w.drew.alloc (.cells ROW 82)).cell? x := fun x => rfl
 have hE2 : ∀ x, ((w.alloc (.cells ROW 82)).drew).frozen? x = (w.drew.alloc (.cells ROW 82)).frozen? x := fun x => rfl
 have hF1 : ∀ x, (((w.alloc (.cells ROW 82)).drew.setCells w.heap.size (i * 3) vs).drew).cell? x = ((w.drew.alloc (.cells ROW 82)).setCells w.heap.size (i * 3) vs).cell? x := fun x => rfl
 have hF2 : ∀ x, (((w.alloc (.cells ROW 82)).drew.setCells w.heap.size (i * 3) vs).drew).frozen? x = ((w.drew.alloc (.cells ROW 82)).setCells w.heap.size (i * 3) vs).frozen? x := fun x => rfl
 have hw1 : IntKind.i64.wrap ((i : Int) + 1) = (i : Int) + 1 := by rw [IntKind.wrap_i64]; omega
 have hb1 : (0 : Int) <= (i : Int) + 1 := by omega
 have hin : i <= n := by omega
 have htn' : ((i : Int) + 1).toNat = i + 1 := by omega
 have hb3 : (i : Int) <= (n : Int) := by omega
 clear hkk hik hold hROW hG hRl hcapn hcget hol hcl hN hNf hOb hOv hCS hOLD hone hsz hz0 hzs hzb hi0 hzc
 go_enter Tryz.func49, Tryz.ntmps49
 go_wp2_with (first
  | (at_builtin; refine Lib.wpList_append_run _ rfl _ _ _ _ rfl _ _ rfl rfl _ _ (hrz _) ?_)
  | (at_builtin; refine wpList_copy_runI _ rfl _ _ 71 71 rfl _ _ rfl rfl (hcpA _ hE1 hE2 _ _) ?_))
 go_region_law_o (refine step_copy_runI rfl _ _ 71 71 rfl _ _ (by simp [Act.eval, Act.put]) (by simp [Act.eval, Act.put]) (hcpB _ hF1 hF2 3 (G - (i + 1)) (cap - i)) ?_)
 clear hrz hcpA hcpB hE1 hE2 hF1 hF2
 go_wp2
 go_ret
 exact ⟨rfl, rfl⟩
theorem stored {w : World} {g off : Nat} {cur : Array Value} {e : TypeId} {fz : Nat × Nat} (ul : List Value) (hg : w.heap[g]? = some (.cells cur e fz)) (hin : off + ul.length <= cur.size) :
  ∃ cur' : Array Value, (w.setCells g off ul).heap[g]? = some (.cells cur' e fz) /\ cur'.size = cur.size /\ (∀ q, q < off \/ off + ul.length <= q -> cur'[q]? = cur[q]?) /\ ∀ q, q < ul.length -> cur'[off + q]? = ul[q]? := by
 obtain ⟨cur', p1, p2, p3⟩ := setCells_shape g ul off w cur e fz hg
 refine ⟨cur', p1, p2.symm, p3, fun q hq => ?_⟩
 have := World.cell?_setCells_in g ul off w (fun j hj => by
  simp only [World.cell?, hg]; rw [Array.getElem?_eq_getElem (by omega)]; rfl) q hq
 simp only [World.cell?, p1] at this
 rw [List.getElem?_eq_getElem hq]
 exact this
theorem ins_get {α : Type} {l : List α} {i : Nat} (hi : i <= l.length) (x : α) (q : Nat) : (l.take i ++ x :: l.drop i)[q]? = if q < i then l[q]? else if q = i then some x else l[q - 1]? := by
 have hl : (l.take i).length = i := by rw [List.length_take]; omega
 split
 . rename_i h; rw [List.getElem?_append_left (by omega), List.getElem?_take, if_pos h]
 . rename_i h
   rw [List.getElem?_append_right (by omega), hl]
   split
   . rename_i h2; subst h2; simp
   . rename_i h2
     rw [show q - i = (q - i - 1) + 1 by omega, List.getElem?_cons_succ, List.getElem?_drop]
     congr 1; omega
theorem ins_len {α : Type} {l : List α} {i : Nat} (hi : i <= l.length) (x : α) : (l.take i ++ x :: l.drop i).length = l.length + 1 := by
 simp only [List.length_append, List.length_take, List.length_cons, List.length_drop]; omega
theorem ins_rows {w w' : World} {rows : List (List D)} {r : List D} {i : Nat} {cur cur' : Array Value} {vb voff : Nat} {vs : List Value} (hi : i <= rows.length) (hrl : ∀ r ∈ rows, r.length = 3) (hv : OnePart w vb voff vs r)
   (h8 : ∀ (i j : Nat) (r : List D) (d : D), rows[i]? = some r -> r[j]? = some d -> ∃ u, cur[i * 3 + j]? = some u /\ u.oneCell' = true /\ RepI w (fun _ => False) u d)
   (k1 : ∀ q, q < i * 3 -> cur'[q]? = cur[q]?) (k2 : ∀ q, q < 3 -> cur'[i * 3 + q]? = vs[q]?) (k3 : ∀ q, q < (rows.length - i) * 3 -> cur'[(i + 1) * 3 + q]? = cur[i * 3 + q]?) :
   ∀ (i' j : Nat) (r' : List D) (d : D), (rows.take i ++ r :: rows.drop i)[i']? = some r' -> r'[j]? = some d -> ∃ u, cur'[i' * 3 + j]? = some u /\ u.oneCell' = true /\ RepI w' (fun _ => False) u d := by
 have up : ∀ {u : Value} {d : D}, RepI w (fun _ => False) u d -> RepI w' (fun _ => False) u d := fun hr => hr.mono (fun _ hb => hb) (fun _ hb => hb.elim)
 intro i' j r' d hr hd
 rw [ins_get hi] at hr
 split at hr
 . rename_i hlt
   have hj : j < 3 := by have := (List.getElem?_eq_some_iff.1 hd).1; rwa [hrl _ (List.mem_of_getElem? hr)] at this
   obtain ⟨u, z1, z2, z3⟩ := h8 i' j r' d hr hd
   exact ⟨u, by rw [k1 _ (by omega)]; exact z1, z2, up z3⟩
 . split at hr
   . rename_i h2
     subst h2; cases hr
     have hj : j < 3 := by have := (List.getElem?_eq_some_iff.1 hd).1; rwa [hv.rlen] at this
     have hjv : j < vs.length := by rw [hv.len]; exact hj
     exact ⟨vs[j], by rw [k2 j hj]; exact List.getElem?_eq_getElem hjv, hv.one _ (List.getElem_mem hjv), up (hv.rep j _ d (List.getElem?_eq_getElem hjv) hd)⟩
   . rename_i h1 h2
     have hj : j < 3 := by have := (List.getElem?_eq_some_iff.1 hd).1; rwa [hrl _ (List.mem_of_getElem? hr)] at this
     have hil := (List.getElem?_eq_some_iff.1 hr).1
     obtain ⟨u, z1, z2, z3⟩ := h8 (i' - 1) j r' d hr hd
     refine ⟨u, ?_, z2, up z3⟩
     have := k3 ((i' - 1 - i) * 3 + j) (by omega)
     rw [show (i + 1) * 3 + ((i' - 1 - i) * 3 + j) = i' * 3 + j by omega, show i * 3 + ((i' - 1 - i) * 3 + j) = (i' - 1) * 3 + j by omega] at this
     rw [this]; exact z1
theorem Insert_walk (v0 : Value) (rows : List (List D)) (i : Nat) (vb voff vc : Nat) (vs : List Value) (r : List D) (w : World) (h0 : RowRel w (fun _ => False) 82 3 v0 rows) (hrl : ∀ r ∈ rows, r.length = 3) (hi : i <= rows.length)
   (hv : OnePart w vb voff vs r) (hn : rows.length <= 1000000) (hvb : ∀ b, v0.ownBlock = some b -> vb ≠ b) (tA : TypeId) (kA : Nat) (hsa : w.shape? vb = some (tA, kA)) (hfa : w.frozen? ⟨vb, voff, none⟩ = false) (hfe : w.frozen? ⟨vb, kA, none⟩ = false) :
   Calls Tryz.prog 49 #[v0, .int .i64 i, .slice (some ⟨vb, voff, none⟩) 1 vc] w fun e w' => ∃ v', e = .returned v' /\ InsOk w w' v0 v' (rows.take i ++ r :: rows.drop i) := by
 rcases Nat.lt_or_ge i rows.length with hlt | hge
 case inr =>
   obtain rfl : i = rows.length := by omega
   rw [List.take_length, List.drop_length]
   exact Insert_end v0 rows vb voff vc vs r w h0 hrl hv hn
 rcases h0 with ⟨_, rfl⟩ | ⟨g, cap, cur, fz, rfl, hg, h3, h4, h5, rfl, h8⟩
 . simp at hlt
 have hgw : g < w.heap.size := (Array.getElem?_eq_some_iff.1 hg).1
 have hone : ∀ j, j < rows.length * 3 -> ∀ v, cur[j]? = some v -> v.oneCell' = true := fun j hj v hjv => by
   have h1 : j / 3 < rows.length := by omega
   have h2 := hrl rows[j / 3] (List.getElem_mem h1)
   obtain ⟨u, z1, z2, _⟩ := h8 (j / 3) (j % 3) rows[j / 3] ((rows[j / 3])[j % 3]'(by omega)) (List.getElem?_eq_getElem h1) (List.getElem?_eq_getElem _)
   rw [show j / 3 * 3 + j % 3 = j by omega, hjv] at z1
   cases z1; exact z2
 have hct : cur.toList.length = cap * 3 := (Array.length_toList (xs := cur)).trans h5
 have hcl : ((cur.toList.drop (i * 3)).take ((rows.length - i) * 3)).length = (rows.length - i) * 3 := by rw [List.length_take, List.length_drop, hct]; omega
 have hcg : ∀ q, q < (rows.length - i) * 3 -> ((cur.toList.drop (i * 3)).take ((rows.length - i) * 3))[q]? = cur[i * 3 + q]? := fun q hq => by
   rw [List.getElem?_take, if_pos hq, List.getElem?_drop, Array.getElem?_toList]
 generalize hCS : (cur.toList.drop (i * 3)).take ((rows.length - i) * 3) = CS at hcl hcg
 have hil := ins_len hi r
 by_cases hroom : rows.length + 1 <= cap
 . refine (Insert_room g rows.length cap i cur vb voff vc vs r w hg hlt hroom h4 h5 hone hv (hvb g rfl) tA kA hsa hfa hfe).mono ?_
   rintro e w' ⟨rfl, hw'⟩
   rw [hCS] at hw'
   obtain ⟨c1, p1, p2, p3, p4⟩ := stored (w := w.drew) (g := g) (off := (i + 1) * 3) CS hg (by omega)
   obtain ⟨c2, r1, r2, r3, r4⟩ := stored (g := g) (off := i * 3) vs p1 (by rw [hv.len]; omega)
   rw [<- hw'] at r1
   have hoth : ∀ b, b ≠ g -> w'.heap[b]? = w.heap[b]? := fun b hb => by rw [hw', setCells_other g vs _ _ b hb, setCells_other g CS _ _ b hb]; rfl
   have hrest : w'.os = w.os /\ w'.tape = w.tape /\ w'.output = w.output := by
     obtain ⟨a1, a2, a3⟩ := setCells_rest g vs (i * 3) (w.drew.setCells g ((i + 1) * 3) CS)
     obtain ⟨b1, b2, b3⟩ := setCells_rest g CS ((i + 1) * 3) w.drew
     rw [hw']; exact ⟨a1.trans b1, a2.trans b2, a3.trans b3⟩
   have hsz : w'.heap.size = w.heap.size := by rw [hw', setCells_size, setCells_size]; rfl
   refine ⟨_, rfl, ⟨hrest.1, hrest.2.1, hrest.2.2, by omega, fun k hk hne => hoth k fun e => hne (by rw [e]; rfl)⟩, .inl rfl, fun b hb => by (have : g = b := by simpa [Value.ownBlock] using hb); omega, .inr ⟨g, cap, c2, (0, 0), by rw [hil], r1, by omega, h4, by omega, rfl, ?_⟩⟩
   refine ins_rows hi hrl hv h8 (fun q hq => ?_) (fun q hq => r4 q (by rw [hv.len]; exact hq)) (fun q hq => ?_)
   . rw [r3 _ (.inl hq), p3 _ (.inl (by omega))]
   . rw [r3 _ (.inr (by rw [hv.len]; omega)), p4 q (by omega), hcg q hq]
 . refine (Insert_grow g rows.length cap i cur vb voff vc vs r w hg hlt h3 (by omega) hn h5 hone hv).mono ?_
   rintro e w' ⟨rfl, hw'⟩
   rw [hCS] at hw'
   have hG := grownCap_ge w (rows.length + 1) cap 82
   have hGm := grownCap_le_maxLen w (rows.length + 1) cap 82 (by unfold maxLen; omega)
   generalize grownCap w (rows.length + 1) cap 82 = G at hG hGm hw' ⊢
   have hzc : zPart.cells.size = 3 := rfl
   have hol : (cur.toList.take (i * 3)).length = i * 3 := by rw [List.length_take, hct]; omega
   obtain ⟨ROW, hROW⟩ : ∃ ROW : Array Value, ROW = (cur.toList.take (i * 3)).toArray ++ Builtin.zeroCells zPart.cells (rows.length + 1 - i) ++ Builtin.zeroCells zPart.cells (G - (rows.length + 1)) := ⟨_, rfl⟩
   rw [<- hROW] at hw'
   have hRl : ROW.size = G * 3 := by
     rw [hROW]
     simp only [Array.size_append, size_zeroCells, hzc, List.size_toArray, hol]
     omega
   have hRg : ∀ q, q < i * 3 -> ROW[q]? = cur[q]? := fun q hq => by
     rw [hROW, Array.append_assoc, Array.getElem?_append_left (by rw [List.size_toArray, hol]; exact hq), List.getElem?_toArray, List.getElem?_take, if_pos hq, Array.getElem?_toList]
   have hg1 : (w.alloc (.cells ROW 82)).drew.heap[w.heap.size]? = some (.cells ROW 82 (0, 0)) := heap_alloc_new w _
   obtain ⟨c1, p1, p2, p3, p4⟩ := stored (g := w.heap.size) (off := i * 3) vs hg1 (by rw [hv.len]; omega)
   have p1 : ((w.alloc (.cells ROW 82)).drew.setCells w.heap.size (i * 3) vs).drew.heap[w.heap.size]? = some (.cells c1 82 (0, 0)) := p1
   obtain ⟨c2, r1, r2, r3, r4⟩ := stored (g := w.heap.size) (off := (i + 1) * 3) CS p1 (by omega)
   rw [<- hw'] at r1
   have hoth : ∀ b, b < w.heap.size -> w'.heap[b]? = w.heap[b]? := fun b hb => by
     rw [hw', setCells_other _ CS _ _ b (by omega)]
     show ((w.alloc (.cells ROW 82)).drew.setCells w.heap.size (i * 3) vs).heap[b]? = _
     rw [setCells_other _ vs _ _ b (by omega)]
     exact Below.heap_alloc _ _ _ hb
   have hrest : w'.os = w.os /\ w'.tape = w.tape /\ w'.output = w.output := by
     obtain ⟨a1, a2, a3⟩ := setCells_rest w.heap.size CS ((i + 1) * 3) ((w.alloc (.cells ROW 82)).drew.setCells w.heap.size (i * 3) vs).drew
     obtain ⟨b1, b2, b3⟩ := setCells_rest w.heap.size vs (i * 3) (w.alloc (.cells ROW 82)).drew
     rw [hw']; exact ⟨a1.trans b1, a2.trans b2, a3.trans b3⟩
   have hsz : w'.heap.size = w.heap.size + 1 := by
     rw [hw', setCells_size]
     show ((w.alloc (.cells ROW 82)).drew.setCells w.heap.size (i * 3) vs).heap.size = _
     rw [setCells_size]; exact size_alloc _ _
   refine ⟨_, rfl, ⟨hrest.1, hrest.2.1, hrest.2.2, by omega, fun k hk _ => hoth k hk⟩, .inr rfl, fun b hb => by (have : w.heap.size = b := by simpa [Value.ownBlock] using hb); omega, .inr ⟨w.heap.size, G, c2, (0, 0), by rw [hil], r1, by omega, hGm, by omega, rfl, ?_⟩⟩
   refine ins_rows hi hrl hv h8 (fun q hq => ?_) (fun q hq => ?_) (fun q hq => ?_)
   . rw [r3 _ (.inl (by omega)), p3 _ (.inl hq), hRg q hq]
   . rw [r3 _ (.inl (by omega)), p4 q (by rw [hv.len]; exact hq)]
   . rw [r4 q (by omega), hcg q hq]
def insTr (ys : List V) (m : Mem) : Option (Tr (V × Mem)) :=
 match ys, m with
 | [.one (.own k 0 n), .one (.d (.i .i64 i)), .one (.own k' 0 n')], [(q, .rowT 0 e c ap fr xs), (q', b')] =>
  match b'.std with
  | .row 0 e' sz ap' fr' rs =>
   if hc : c = 5 then (match rs, decide (k = 1000100 /\ q = 1000100 /\ k' = 1000101 /\ q' = 1000101 /\ n' = 1 /\ sz = 3 /\ ap = true /\ ap' = true /\ e = 82) with
    | [r], true => match decG 5 r with
     | some T => some (T.bind fun p => .grd (decide (0 <= i /\ i <= xs.length /\ xs.length <= 1000000)) (.ret (.one (.own 1000100 1 ((hc ▸ xs : List (τ 5)).take i.toNat ++ p :: (hc ▸ xs : List (τ 5)).drop i.toNat).length),
      [(1000100, .rowT 1 e 5 true true ((hc ▸ xs : List (τ 5)).take i.toNat ++ p :: (hc ▸ xs : List (τ 5)).drop i.toNat)), (1000101, b')])))
     | none => none
    | _, _ => none) else none
  | _ => none
 | _, _ => none
theorem us3f {us : Array Value} {a b c : Value} (h : us.size = 3) (h0 : us.getD 0 undef = a) (h1 : us.getD 1 undef = b) (h2 : us.getD 2 undef = c) : us = #[a, b, c] := by
 obtain ⟨us⟩ := us
 match us, h with
 | [x, y, z], _ => have e0 : x = a := h0; have e1 : y = b := h1; have e2 : z = c := h2; rw [e0, e1, e2]
theorem Inner.rel {w : World} {e : TypeId} {c : Nat} {u : Value} {ys : List (τ c)} (h : Inner w e c u ys) : RowRel w (fun _ => False) e (esz c) u (ys.map (enc c)) := by
 rcases h with ⟨rfl, rfl⟩ | ⟨g, cap, cur, rfl, h1, h2, h3, h4, _, h5⟩
 . exact .inl ⟨rfl, rfl⟩
 . refine .inr ⟨g, cap, cur, (0, 0), by rw [List.length_map], h1, by rw [List.length_map]; exact h2, h3, h4, rfl, fun i j r d hi hj => ?_⟩
   rw [List.getElem?_map, Option.map_eq_some_iff] at hi
   obtain ⟨y, hy, rfl⟩ := hi
   exact h5 i j y d hy hj
theorem one_part {w : World} {g cap : Nat} {cur : Array Value} {r : List D} {p : TPart} {UU : Nat -> Prop} {e : TypeId} (hg : w.heap[g]? = some (.cells cur e (0, 0))) (hrl : r.length = 3) (hsz : 3 <= cur.size)
   (h : ∀ (j : Nat) (d : D), r[j]? = some d -> ∃ u, cur[0 * 3 + j]? = some u /\ u.oneCell' = true /\ RepI w UU u d) (hw : WkDs r (enc 5 p)) : OnePart w g 0 (cur.toList.take 3) (enc 5 p) := by
 obtain ⟨hwl, hwg⟩ := WkDs_get hw
 have hl : (cur.toList.take 3).length = 3 := by rw [List.length_take, Array.length_toList]; omega
 have hget : ∀ j v, (cur.toList.take 3)[j]? = some v -> j < 3 /\ cur[j]? = some v := fun j v hj => by
   rw [List.getElem?_take] at hj
   split at hj
   . rename_i h2; rw [Array.getElem?_toList] at hj; exact ⟨h2, hj⟩
   . cases hj
 have hat : ∀ j v, (cur.toList.take 3)[j]? = some v -> ∃ d, r[j]? = some d /\ v.oneCell' = true /\ RepI w UU v d := fun j v hj => by
   obtain ⟨h1, h2⟩ := hget j v hj
   have hjr : j < r.length := by omega
   obtain ⟨u, z1, z2, z3⟩ := h j _ (List.getElem?_eq_getElem hjr)
   rw [Nat.zero_mul, Nat.zero_add, h2] at z1; cases z1
   exact ⟨_, List.getElem?_eq_getElem hjr, z2, z3⟩
 refine ⟨hl, fun j v hj => ?_, fun v hv => ?_, fun j v d hj hd => ?_, rfl⟩
 . rw [Nat.zero_add]; simp only [World.cell?, hg]; exact (hget j v hj).2
 . obtain ⟨j, hj⟩ := List.mem_iff_getElem?.1 hv
   obtain ⟨d, _, h2, _⟩ := hat j v hj
   exact h2
 . obtain ⟨d0, h1, _, h3⟩ := hat j v hj
   obtain ⟨d1, g1, g2⟩ := hwg j d hd
   rw [h1] at g1; cases g1
   exact RepI.ofFlat' (h3.wkD g2) (List.all_eq_true.1 (flatT_all 5 p rfl) d (List.mem_of_getElem? hd))
def pfIns : PF Tryz.prog where
 f := 49
 own := [1, 0, 1]
 tr := insTr
 ok := by
  intro ys m T r0 m' h hT
  unfold insTr at h
  split at h
  case h_2 => cases h
  rename_i k n i k' n' q e c ap fr xs q' b'
  split at h
  case h_2 => cases h
  rename_i e' sz ap' fr' rs hstd
  split at h
  case isFalse => cases h
  rename_i hc
  subst hc
  split at h
  case h_2 => cases h
  rename_i r hcnd
  simp only [decide_eq_true_eq] at hcnd
  obtain ⟨rfl, rfl, rfl, rfl, rfl, rfl, rfl, rfl, rfl⟩ := hcnd
  split at h
  case h_2 => cases h
  rename_i T' hdec
  cases h
  rw [Tr.eval_bind] at hT
  obtain ⟨p, hp, hT⟩ := Option.bind_eq_some_iff.1 hT
  obtain ⟨hg1, hT⟩ := Tr.eval_grd hT
  simp only [decide_eq_true_eq] at hg1
  obtain ⟨hi0, hil, hlim⟩ := hg1
  cases hT
  refine ⟨_, _, WkVs_rfl _, WkM_rfl _, fun w U0 X β0 us hs => ?_⟩
  have hu0 := (show RepV w β0 U0 w.heap.size (us.getD 0 undef) (.one (.own 1000100 0 n)) from hs.env 0).toC
  have hu1 := (show RepV w β0 U0 w.heap.size (us.getD 1 undef) (vi .i64 i) from hs.env 1).int
  have hu2 := (show RepV w β0 U0 w.heap.size (us.getD 2 undef) (.one (.own 1000101 0 1)) from hs.env 2).toC
  obtain ⟨a0, c0, v0, ver0, e0, l0, n0, s0, k0, le0, q0⟩ := hu0
  obtain ⟨a2, c2, v2, ver2, e2, l2, n2, s2, k2, le2, q2⟩ := hu2
  obtain ⟨p0, hp0, hr0⟩ := hs.mem 1000100 (.rowT 0 82 5 true fr xs) rfl
  rw [k0] at hp0; cases hp0
  obtain ⟨p2, hp2, hr2⟩ := hs.mem 1000101 b' rfl
  rw [k2] at hp2; cases hp2
  unfold RepB at hr2
  rw [hstd] at hr2
  have hv0 := hr0.1
  have hv2 := hr2.1
  subst hv0; subst hv2
  have q0 := q0 rfl
  have q2 := q2 rfl
  rw [q0] at e0
  rw [q2] at e2
  have hus : us = #[v0, .int .i64 i, v2] := us3f hs.n q0 hu1 q2
  have hin := Inner.ofRow hr0 rfl
  have hrel := Inner.rel hin
  have hxl : (xs.map (enc 5)).length = xs.length := List.length_map ..
  obtain ⟨hr2l, hr2c⟩ := hr2.2
  rcases hr2c with ⟨_, e9⟩ | ⟨g2, cap2, cur2, fz2, e9, hg2, hle2, hcap2, hsz2, hap2, _, hc2⟩
  . cases e9
  obtain ⟨rfl, _⟩ := hap2 rfl
  have hrl := hr2l r (by simp)
  have hsz3 : 3 <= cur2.size := by simp only [List.length_singleton] at hle2; omega
  have hv := one_part (cap := cap2) (p := p) hg2 hrl hsz3 (fun j d hd => hc2 0 j r d rfl hd) (decG_wk hdec hp)
  have hne : ∀ b, v0.ownBlock = some b -> g2 ≠ b := fun b hb e => by
    subst e
    exact hs.inj 1000100 1000101 _ _ _ _ g2 0 (by decide) k0 k2 rfl rfl hb (show v2.ownBlock = some g2 by rw [e9]; rfl)
  have hwalk := Insert_walk v0 (xs.map (enc 5)) i.toNat g2 0 cap2 _ (enc 5 p) w hrel (fun x hx => by obtain ⟨y, _, rfl⟩ := List.mem_map.1 hx; rfl) (by rw [hxl]; omega) hv (by rw [hxl]; exact hlim) hne e' cur2.size (by simp [World.shape?, hg2]) (by simp [World.frozen?, hg2]) (by simp [World.frozen?, hg2])
  have hi9 : ((i.toNat : Nat) : Int) = i := by omega
  rw [hi9] at hwalk
  rw [hus, show v2 = .slice (some ⟨g2, 0, none⟩) 1 cap2 from e9]
  refine hwalk.mono ?_
  rintro e w' ⟨v', rfl, hgrow, hob, hlt, hrow⟩
  refine ⟨v', _, _, rfl, ⟨rfl, rfl⟩, ?_⟩
  have hmp : (xs.map (enc 5)).take i.toNat ++ enc 5 p :: (xs.map (enc 5)).drop i.toNat = (xs.take i.toNat ++ p :: xs.drop i.toNat).map (enc 5) := by
    rw [List.map_append, List.map_cons, List.map_take, List.map_drop]
  rw [hmp] at hrow
  have h0 : SimB w U0 X β0 β0 U0 ⟨1, [(0, .one .bad)], [(1000100, .rowT 0 82 5 true fr xs), (1000101, b')]⟩ ⟨#[v'], []⟩ w := { hs with
    n := rfl, small := by simp, defers := rfl
    env := fun t => by
      show RepV w β0 U0 w.heap.size _ ((Abs.look t [(0, V.one .bad)]).getD (.one .bad))
      cases t with
      | zero => exact .bad _
      | succ t => simp [Abs.look]; exact .bad _ }
  have h1 := h0.replE (w' := w') (p' := .row v' 1) (blk' := .rowT 1 82 5 true true (xs.take i.toNat ++ p :: xs.drop i.toNat)) k0 rfl hgrow.os hgrow.tape hgrow.output hgrow.size
    (fun b hb hne => hgrow.block b hb (fun e' => hne e'.symm))
    (fun b j hb hnc => by
      have hne : some b ≠ v0.ownBlock := fun e' => hnc e'.symm
      exact ⟨World.cell?_of_block (w := w) (hgrow.block b hb hne), World.frozen?_of_block (w := w) (hgrow.block b hb hne)⟩)
    (fun b _ hb => .inr (.inr (fun j => hb)))
    (.inr (.inl ⟨_, _, _, _, rfl, rfl, by decide⟩))
    (fun b hb => by
      have hb' : v'.ownBlock = some b := hb
      rcases hob with h1 | h1
      . left; rw [h1] at hb'; exact hb'
      . right
        have hlt' := hlt w.heap.size h1
        rw [h1] at hb'
        obtain rfl : w.heap.size = b := by simpa using hb'
        exact ⟨Nat.le_refl _, hlt'⟩)
    (fun b j hc => by
      have hb' : v'.ownBlock = some b := hc
      rcases hob with h1 | h1
      . left; rw [h1] at hb'; exact hb'
      . right
        rw [h1] at hb'
        have : w.heap.size = b := by simpa using hb'
        omega)
    ⟨rfl, fun x hx => by obtain ⟨y, _, rfl⟩ := List.mem_map.1 hx; rfl, by
      rcases hrow with hr | ⟨g, cap', cur, fz, q1, q2, q3, q4, q5, rfl, q7⟩
      . exact .inl hr
      . exact .inr ⟨g, cap', cur, (0, 0), q1, q2, q3, q4, q5, fun _ => ⟨rfl, noSp_spare rfl⟩, fun i _ => by simp [World.frozen?, q2], fun i j x d hi hj => by
         obtain ⟨u, z1, z2, z3⟩ := q7 i j x d hi hj
         exact ⟨u, z1, z2, z3.ofNone⟩⟩⟩
  have h2 := h1.congr (s' := ⟨1, [(0, .one .bad)], [(1000100, .rowT 1 82 5 true true (xs.take i.toNat ++ p :: xs.drop i.toNat)), (1000101, b')]⟩) rfl rfl (fun k => by
    show Abs.look k ((1000100, _) :: (1000101, _) :: []) = Abs.look k ((1000100, _) :: (1000100, _) :: (1000101, _) :: [])
    simp only [Abs.look_cons]
    split
    . rfl
    . rfl)
  refine ⟨_, U0, { h2 with n := rfl, env := fun t => ?_ }⟩
  cases t with
  | zero =>
    have hl : ((xs.take i.toNat ++ p :: xs.drop i.toNat).map (enc 5)).length = (xs.take i.toNat ++ p :: xs.drop i.toNat).length := List.length_map ..
    rcases hrow with ⟨rfl, e2⟩ | ⟨g, cap', cur, fz, rfl, _, q3, _⟩
    . simp at e2
    . rw [hl] at q3 ⊢
      exact repOwn (upd_self _ _ _) q3 (fun e => by cases e) (fun x hx => by cases hx; exact ⟨g, rfl⟩)
  | succ t =>
    show RepV _ _ U0 w.heap.size _ ((Abs.look (t + 1) [(0, _)]).getD (.one .bad))
    simp [Abs.look]; exact .bad _
end Go.Proofs.YtaeeadldamflcaaGreatDoor.X
namespace Go.Proofs.YtaeeadldamflcaaGreatDoor.X
open Go Go.RowKit Go.Proofs.YtaeeadldamflcaaGreatDoor.Abs
open Go.IntKind renaming wrap -> wW
set_option maxRecDepth 100000
set_option linter.unusedVariables false
def fPut_L27_3 : LS := ⟨3, [(3, 3), (5500100, 5500100), (1500100, 1500100)], ⟨80, [(14, .v (.one (.i .i64))), (3, .v (.one (.ptr 3 0))), (12, .v (.one (.own 5500100))), (6, .v (.one (.i .i64))), (0, .v (.one (.dpr 1500100 8 0))), (13, .v (.one (.i .i64)))], [(3, .cells [.i .i64, .s, .b]), (5500100, .row 82 5 true true), (1500100, .deepH 73 82 6 5500100)]⟩, [⟨none, [(1500100, 1500100)], ⟨80, [(4, .v (.one (.b))), (5, .v (.one (.i .i64)))], [(1500100, .deep 73 82 6)]⟩⟩, ⟨some 0, [(3, 3), (1500100, 1500100)], ⟨80, [(3, .v (.one (.ptr 3 0))), (6, .v (.one (.i .i64))), (0, .v (.one (.dpr 1500100 8 0)))], [(3, .cells [.i .i64, .s, .b]), (1500100, .deep 73 82 6)]⟩⟩], []⟩
abbrev ty8_ : Type := (Int × (Int × (Nat × (Int × (Int × ((List UInt8) × (Bool × ((List TPart) × (Nat × ((List THeap) × Unit))))))))))
abbrev ty9_ : Type := (Bool × (Nat × (Int × (Int × (Int × (Int × (Int × ((List UInt8) × (Bool × ((List TPart) × (Nat × ((List THeap) × (Int × ((List UInt8) × (Bool × Unit)))))))))))))))
abbrev ty10_ : Type := (Bool × (Nat × (Int × (Int × (Int × (Int × (Int × ((List UInt8) × (Bool × ((List TPart) × (Nat × ((List THeap) × Unit))))))))))))
def fPut_step27_3 : ty8_ -> Tr (ty8_ ⊕ ((Bool × (Int × ((List THeap) × Unit))) ⊕ (Int × (Nat × (Int × ((List UInt8) × (Bool × ((List THeap) × Unit)))))))) :=
 fun (a0, a1, a2, a3, a4, a5, a6, a7, a8, a9, _) =>
 .ite (decide (a0 < a3)) (
 .grd (decide (0 <= a0 /\ a0 < (↑(a7.length) : Int))) (
 .opt (a7[Int.toNat a0]?) (fun r0 =>
 .ite (decide (r0.at' = a4) && (decide (r0.data = a5) && (r0.last == a6 && true))) (
 .ret (Sum.inr (Sum.inl (false, (0, (List.modify a9 a8 fun x => THeap.mk x.from' x.to x.proto x.id x.tos x.life x.options a7, ())))))) (
 .opt (Tr.eval (α := ty9_) (
 .opt ((fEnd_fn (r0.at', (r0.data, (r0.last, ()))))) (fun r1 =>
 .ite (decide (a4 < r1.1)) (
 .opt ((fEnd_fn (a4, (a5, (a6, ()))))) (fun r2 =>
 .ite (decide (r0.at' < r2.1)) (
 .grd (decide (a7.length = a7.length)) (
 .ret (decide (r0.at' < r2.1), (a2, (a3, (a0, (a0, (a1, (a4, (a5, (a6, (a7, ((a8, some ((5500100 : Nat), vk (5500100 : Nat))).fst, (a9, (r0.at', (r0.data, (r0.last, ()))))))))))))))))) (
 .ite (r0.last) (
 .ite (decide (r0.at' < a4)) (
 .grd (decide (a7.length = a7.length)) (
 .ret (decide (r0.at' < a4), (a2, (a3, (a0, (a0, (a1, (a4, (a5, (a6, (a7, ((a8, some ((5500100 : Nat), vk (5500100 : Nat))).fst, (a9, (r0.at', (r0.data, (r0.last, ()))))))))))))))))) (
 .ite (a6) (
 .grd (decide (a7.length = a7.length)) (
 .ret (decide (a4 < r0.at'), (a2, (a3, (a0, (a0, (a1, (a4, (a5, (a6, (a7, ((a8, some ((5500100 : Nat), vk (5500100 : Nat))).fst, (a9, (r0.at', (r0.data, (r0.last, ()))))))))))))))))) (
 .grd (decide (a7.length = a7.length)) (
 .ret (false, (a2, (a3, (a0, (a0, (a1, (a4, (a5, (a6, (a7, ((a8, some ((5500100 : Nat), vk (5500100 : Nat))).fst, (a9, (r0.at', (r0.data, (r0.last, ()))))))))))))))))))) (
 .ite (a6) (
 .grd (decide (a7.length = a7.length)) (
 .ret (decide (a4 < r0.at'), (a2, (a3, (a0, (a0, (a1, (a4, (a5, (a6, (a7, ((a8, some ((5500100 : Nat), vk (5500100 : Nat))).fst, (a9, (r0.at', (r0.data, (r0.last, ()))))))))))))))))) (
 .grd (decide (a7.length = a7.length)) (
 .ret (false, (a2, (a3, (a0, (a0, (a1, (a4, (a5, (a6, (a7, ((a8, some ((5500100 : Nat), vk (5500100 : Nat))).fst, (a9, (r0.at', (r0.data, (r0.last, ()))))))))))))))))))))) (
 .ite (r0.last) (
 .ite (decide (r0.at' < a4)) (
 .grd (decide (a7.length = a7.length)) (
 .ret (decide (r0.at' < a4), (a2, (a3, (a0, (a0, (a1, (a4, (a5, (a6, (a7, ((a8, some ((5500100 : Nat), vk (5500100 : Nat))).fst, (a9, (r0.at', (r0.data, (r0.last, ()))))))))))))))))) (
 .ite (a6) (
 .grd (decide (a7.length = a7.length)) (
 .ret (decide (a4 < r0.at'), (a2, (a3, (a0, (a0, (a1, (a4, (a5, (a6, (a7, ((a8, some ((5500100 : Nat), vk (5500100 : Nat))).fst, (a9, (r0.at', (r0.data, (r0.last, ()))))))))))))))))) (
 .grd (decide (a7.length = a7.length)) (
 .ret (false, (a2, (a3, (a0, (a0, (a1, (a4, (a5, (a6, (a7, ((a8, some ((5500100 : Nat), vk (5500100 : Nat))).fst, (a9, (r0.at', (r0.data, (r0.last, ()))))))))))))))))))) (
 .ite (a6) (
 .grd (decide (a7.length = a7.length)) (
 .ret (decide (a4 < r0.at'), (a2, (a3, (a0, (a0, (a1, (a4, (a5, (a6, (a7, ((a8, some ((5500100 : Nat), vk (5500100 : Nat))).fst, (a9, (r0.at', (r0.data, (r0.last, ()))))))))))))))))) (
 .grd (decide (a7.length = a7.length)) (
 .ret (false, (a2, (a3, (a0, (a0, (a1, (a4, (a5, (a6, (a7, ((a8, some ((5500100 : Nat), vk (5500100 : Nat))).fst, (a9, (r0.at', (r0.data, (r0.last, ())))))))))))))))))))))) (fun r1 =>
 .ite (r1.1) (
 .ret (Sum.inr (Sum.inl (false, (8, (List.modify r1.2.2.2.2.2.2.2.2.2.2.2.1 r1.2.2.2.2.2.2.2.2.2.2.1 fun x => THeap.mk x.from' x.to x.proto x.id x.tos x.life x.options r1.2.2.2.2.2.2.2.2.2.1, ())))))) (
 .opt (Tr.eval (α := ty10_) (
 .grd (decide (List.length r1.2.2.2.2.2.2.2.2.2.fst = List.length r1.2.2.2.2.2.2.2.2.2.1)) (
 .ret (decide (r1.2.2.2.2.2.2.2.2.2.2.2.2.1 < r1.2.2.2.2.2.2.1), (r1.2.1, (r1.2.2.1, (r1.2.2.2.1, (r1.2.2.2.2.1, (r1.2.2.2.2.2.1, (r1.2.2.2.2.2.2.1, (r1.2.2.2.2.2.2.2.1, (r1.2.2.2.2.2.2.2.2.1, (r1.2.2.2.2.2.2.2.2.2.1, ((r1.2.2.2.2.2.2.2.2.2.2.1, some ((5500100 : Nat), vk (5500100 : Nat))).fst, (r1.2.2.2.2.2.2.2.2.2.2.2.1, ()))))))))))))))) (fun r2 =>
 .ite (r2.1) (
 .grd (decide (List.length r2.2.2.2.2.2.2.2.2.2.fst = List.length r2.2.2.2.2.2.2.2.2.2.1)) (
 .ret (Sum.inl (wW .i64 (r2.2.2.2.1 + 1), (wW .i64 (r2.2.2.2.2.1 + 1), (r2.2.1, (r2.2.2.1, (r2.2.2.2.2.2.2.1, (r2.2.2.2.2.2.2.2.1, (r2.2.2.2.2.2.2.2.2.1, (r2.2.2.2.2.2.2.2.2.2.1, ((r2.2.2.2.2.2.2.2.2.2.2.1, some ((5500100 : Nat), vk (5500100 : Nat))).fst, (r2.2.2.2.2.2.2.2.2.2.2.2.1, ()))))))))))))) (
 .grd (decide (List.length r2.2.2.2.2.2.2.2.2.2.fst = List.length r2.2.2.2.2.2.2.2.2.2.1)) (
 .ret (Sum.inl (wW .i64 (r2.2.2.2.1 + 1), (r2.2.2.2.2.2.1, (r2.2.1, (r2.2.2.1, (r2.2.2.2.2.2.2.1, (r2.2.2.2.2.2.2.2.1, (r2.2.2.2.2.2.2.2.2.1, (r2.2.2.2.2.2.2.2.2.2.1, ((r2.2.2.2.2.2.2.2.2.2.2.1, some ((5500100 : Nat), vk (5500100 : Nat))).fst, (r2.2.2.2.2.2.2.2.2.2.2.2.1, ())))))))))))))))))))) (
 .ret (Sum.inr (Sum.inr (a1, (a2, (a4, (a5, (a6, (List.modify a9 a8 fun x => THeap.mk x.from' x.to x.proto x.id x.tos x.life x.options a7, ())))))))))
def fPut_loop27_3 (x : ty8_) : Option ((Bool × (Int × ((List THeap) × Unit))) ⊕ (Int × (Nat × (Int × ((List UInt8) × (Bool × ((List THeap) × Unit))))))) := loopO 270003 (fun x => (fPut_step27_3 x).eval) 18446744073709551616 x
def fPut_L27_100011 : LS := ⟨100011, [], ⟨0, [], []⟩, [⟨some 9998, [(3, 3), (5500100, 5500100), (1500100, 1500100)], ⟨80, [(54, .v (.one (.b))), (3, .v (.one (.ptr 3 0))), (12, .v (.one (.own 5500100))), (0, .v (.one (.dpr 1500100 8 0))), (13, .v (.one (.i .i64))), (14, .v (.one (.i .i64))), (7, .v (.one (.i .i64))), (6, .v (.one (.i .i64)))], [(3, .cells [.i .i64, .s, .b]), (5500100, .row 82 5 true true), (1500100, .deepH 73 82 6 5500100)]⟩⟩], []⟩
def fPut_L27_160007 : LS := ⟨160007, [], ⟨0, [], []⟩, [⟨some 9998, [(3, 3), (5500100, 5500100), (1500100, 1500100), (8, 8)], ⟨80, [(23, .v (.one (.b))), (3, .v (.one (.ptr 3 0))), (12, .v (.one (.own 5500100))), (0, .v (.one (.dpr 1500100 8 0))), (13, .v (.one (.i .i64))), (14, .v (.one (.i .i64))), (7, .v (.one (.i .i64))), (6, .v (.one (.i .i64))), (8, .v (.one (.ptr 8 0)))], [(3, .cells [.i .i64, .s, .b]), (5500100, .row 82 5 true true), (1500100, .deepH 73 82 6 5500100), (8, .cells [.i .i64, .s, .b])]⟩⟩], []⟩
def fPut_ap : SP := ⟨80, [(0, .v (.one (.dpr 1500100 8 0))), (1, .v (.agg [.i .i64, .s, .b]))], [(1500100, .deep 73 82 6)]⟩
def fPut_rp : SP := ⟨1, [(0, .tup [.one (.b), .one (.i .i64)])], [(1500100, .deep 73 82 6)]⟩
def fPut_tree : (Nat × (Int × ((List UInt8) × (Bool × ((List THeap) × Unit))))) -> Tr (Bool × (Int × ((List THeap) × Unit))) :=
 fun (a0, a1, a2, a3, a4, _) =>
 .opt (a4[a0]?) (fun r0 =>
 .grd (decide (List.length r0.parts = List.length r0.parts)) (
 .opt ((fPut_loop27_3 (0, (0, (a0, ((↑(List.length r0.parts) : Int), (a1, (a2, (a3, (r0.parts, ((a0, some (hkey (1500100 : Nat), (1 : Nat))).fst, (a4, ())))))))))))) (fun r1 =>
 .sum (r1) (fun r2 =>
 .ret (r2.1, (r2.2.1, (r2.2.2.1, ())))) (fun r2 =>
 .opt (r2.2.2.2.2.2.1[r2.2.1]?) (fun r3 =>
 .ite (decide ((↑(List.length r3.parts) : Int) = 64)) (
 .ret (false, (6, (List.modify r2.2.2.2.2.2.1 r2.2.1 fun x => THeap.mk x.from' x.to x.proto x.id x.tos x.life x.options r3.parts, ())))) (
 .opt ((List.modify r2.2.2.2.2.2.1 r2.2.1 fun x => THeap.mk x.from' x.to x.proto x.id x.tos x.life x.options r3.parts)[r2.2.1]?) (fun r4 =>
 .grd (decide (0 <= r2.1 /\ r2.1 <= (↑(List.length r4.parts) : Int) /\ List.length r4.parts <= (1000000 : Nat))) (
 .grd (decide (r2.2.1 = r2.2.1)) (
 .opt ((List.modify r2.2.2.2.2.2.1 r2.2.1 fun x => THeap.mk x.from' x.to x.proto x.id x.tos x.life x.options r3.parts)[r2.2.1]?) (fun r5 =>
 .ret (true, (0, (List.set (List.modify r2.2.2.2.2.2.1 r2.2.1 fun x => THeap.mk x.from' x.to x.proto x.id x.tos x.life x.options r3.parts) r2.2.1 (THeap.mk r5.from' r5.to r5.proto r5.id r5.tos r5.life r5.options (List.take (Int.toNat r2.1) r4.parts ++ TPart.mk (TPart.mk r2.2.2.1 r2.2.2.2.1 r2.2.2.2.2.1).at' (TPart.mk r2.2.2.1 r2.2.2.2.1 r2.2.2.2.2.1).data (TPart.mk r2.2.2.1 r2.2.2.2.1 r2.2.2.2.2.1).last :: List.drop (Int.toNat r2.1) r4.parts)), ())))))))))))))
noncomputable def gm35 : List (PF Go.Proofs.Tryz.prog) := gm34 ++ [GS.pf fDel, pfIns]
theorem fPut_eq (x : (Nat × (Int × ((List UInt8) × (Bool × ((List THeap) × Unit)))))) : gsTr Tryz.prog cod gm35 [(27, fPut_L27_3), (27, fPut_L27_100011), (27, fPut_L27_160007)] 30 27 fPut_ap fPut_rp x = fPut_tree x := by kernel_rfl
def fPut_fn (x : (Nat × (Int × ((List UInt8) × (Bool × ((List THeap) × Unit)))))) : Option (Bool × (Int × ((List THeap) × Unit))) := (fPut_tree x).eval
def fPut : GS Tryz.prog := ⟨27, [2, 0], fPut_ap, fPut_rp, fPut_fn, fun x r h ys m g he hg => gs_sound (cod := cod) (Γ := gm35) (Λs := [(27, fPut_L27_3), (27, fPut_L27_100011), (27, fPut_L27_160007)]) (n := 30) ((congrArg Tr.eval (fPut_eq x)).trans h) he hg⟩
end Go.Proofs.YtaeeadldamflcaaGreatDoor.X
/-
 DERIVED: THE SHELF's CONTRACTS AT THIS DUMP, IN PLAIN WORDS (tools/lay-plain.mjs out of 'TryzShelf.lean', which tools/lay-shelf.mjs wrote): THE SAME DECLARATIONS UNDER THE SAME NAMES: 'import', 'namespace', 'open', 'def', 'theorem' AND NOTHING ELSE: no command of the shelf's: FOR A HAND-IN. Each laying: the table of numbers ('.._ren') and one theorem, a field a fact of the dump's own or the kernel's comparison; each contract: ONE APPLICATION.
-/
namespace Go.Proofs
open Go.Shelf
def Tryz.lays169_ren : Go.Shelf.Ren := ⟨fun | 169 => 52 | n => n, fun | 70 => 112 | 9 => 9 | 0 => 0 | 72 => 114 | 37 => 84 | 127 => 155 | 3 => 3 | 5 => 5 | n => n, fun | n => n⟩
theorem Tryz.lays169 : Go.Proofs.Lays.n169 Tryz.prog Tryz.lays169_ren := {
 mixed := by kernel_rfl
 f169 := Tryz.func52.trans (congrArg some (by kernel_rfl))
 t0 := Tryz.underlying0
 a0 := Tryz.isAgg0
 z0 := Tryz.sizeOf0
 v0 := Tryz.zeroValue0
 t3 := Tryz.underlying3
 a3 := Tryz.isAgg3
 z3 := Tryz.sizeOf3
 v3 := Tryz.zeroValue3
 t9 := Tryz.underlying9
 a9 := Tryz.isAgg9
 z9 := Tryz.sizeOf9
 v9 := Tryz.zeroValue9
 t37 := Tryz.underlying84
 a37 := Tryz.isAgg84
 z37 := Tryz.sizeOf84
 v37 := Tryz.zeroValue84
 t70 := Tryz.underlying112
 a70 := Tryz.isAgg112
 z70 := Tryz.sizeOf112
 v70 := Tryz.zeroValue112
 t72 := Tryz.underlying114
 a72 := Tryz.isAgg114
 z72 := Tryz.sizeOf114
 v72 := Tryz.zeroValue114
 t127 := Tryz.underlying155
 a127 := Tryz.isAgg155
 z127 := Tryz.sizeOf155
 v127 := Tryz.zeroValue155 }
theorem Tryz.Builder_Extra_169 : Builder.Extra Tryz.prog Tryz.lays169_ren := {
 sizeBuilder := by kernel_rfl
 liesBuilder := by kernel_rfl
 t5 := Tryz.underlying5
 a5 := Tryz.isAgg5
 z5 := Tryz.sizeOf5
 v5 := Tryz.zeroValue5
 infoByte := by kernel_rfl
 cellsByte := by kernel_rfl
 sizeByte := by kernel_rfl
 neB5 := by decide }
end Go.Proofs
namespace Go.Proofs.YtaeeadldamflcaaGreatDoor.X
open Go Go.RowKit Go.Proofs.YtaeeadldamflcaaGreatDoor.Abs
set_option linter.unusedVariables false
set_option linter.unusedSimpArgs false
theorem rep_str {w : World} {U : Nat -> Prop} {v : Value} {l : List UInt8} (h : RepI w U v (.s l)) : v = .string ⟨l.toArray⟩ := by cases h; rfl
def baL (l : List UInt8) : ByteArray := ⟨l.toArray⟩
theorem us1 {us : Array Value} {a : Value} (h : us.size = 1) (h0 : us.getD 0 undef = a) : us = #[a] := by
 obtain ⟨us⟩ := us
 match us, h with
 | [x], _ => have : x = a := h0; rw [this]
theorem us2 {us : Array Value} {a b : Value} (h : us.size = 2) (h0 : us.getD 0 undef = a) (h1 : us.getD 1 undef = b) : us = #[a, b] := by
 obtain ⟨us⟩ := us
 match us, h with
 | [x, y], _ => have ha : x = a := h0; have hb : y = b := h1; rw [ha, hb]
theorem baL_size (l : List UInt8) : (baL l).size = l.length := by simp [baL, ByteArray.size]
set_option maxHeartbeats 1000000 in
set_option maxRecDepth 100000 in
theorem bCheckUsed (b : Nat) (w : World) (h0 : w.cell? ⟨b, 0, none⟩ = some (.pointer (some ⟨b, 0, none⟩))) :
  Calls Tryz.prog 75 #[.pointer (some ⟨b, 0, none⟩)] w fun e w' => e = .returned (.tuple #[]) /\ w' = w := by
 obtain ⟨j, hj, _⟩ := Option.map_eq_some_iff.1 Tryz.Builder_Extra_169.sizeBuilder
 go_enter Tryz.func75, Tryz.ntmps75
 go_wp2
 rw [Lib.run_neq_ptr_same w _ Tryz.underlying112 hj]
 go_wp2
 go_end0
 exact ⟨rfl, rfl⟩
set_option maxHeartbeats 1000000 in
set_option maxRecDepth 100000 in
theorem bCheckFresh (b : Nat) (w : World) (h0 : w.cell? ⟨b, 0, none⟩ = some (.pointer none)) (hsh : w.shape? b = some (114, 2)) (hfz : w.frozen? ⟨b, 0, none⟩ = false) :
  Calls Tryz.prog 75 #[.pointer (some ⟨b, 0, none⟩)] w fun e w' => e = .returned (.tuple #[]) /\ w' = w.setCell ⟨b, 0, none⟩ (.pointer (some ⟨b, 0, none⟩)) := by
 obtain ⟨j, hj, hjs⟩ := Option.map_eq_some_iff.1 Tryz.Builder_Extra_169.sizeBuilder
 go_enter Tryz.func75, Tryz.ntmps75
 go_wp2
 rw [Lib.run_to_unsafe w ⟨b, 0, none⟩ Tryz.underlying112 Tryz.underlying185 hj (by rw [hjs]; decide) hsh (Nat.zero_lt_succ 1)]
 simp only [Result.andThen]
 rw [Oper.upon_value]
 go_wp2
 rw [run_callFunc_extern Tryz.func96 (by kernel_rfl) (by kernel_rfl) (by kernel_rfl) (e := Extern.AbiNoEscape.same) (by kernel_rfl)]
 rw [Lib.run_noEscape]
 simp only [Result.andThen]
 rw [Oper.upon_value]
 go_wp2
 rw [Lib.run_from_unsafe w ⟨b, 0, none⟩ Tryz.underlying185 Tryz.underlying112 hj hsh Tryz.Builder_Extra_169.liesBuilder]
 simp only [Result.andThen]
 rw [Oper.upon_value]
 go_wp2
 go_end0
 exact ⟨rfl, rfl⟩
def BxAt (w : World) (b : Nat) (v : Value) : Prop := ∃ p, w.heap[b]? = some (.cells #[p, v] 114 (0, 0)) /\ (p = .pointer none \/ p = .pointer (some ⟨b, 0, none⟩))
theorem bCheck (b : Nat) (v : Value) (w : World) (h : BxAt w b v) :
   Calls Tryz.prog 75 #[.pointer (some ⟨b, 0, none⟩)] w fun e w' => e = .returned (.tuple #[]) /\ w'.heap[b]? = some (.cells #[.pointer (some ⟨b, 0, none⟩), v] 114 (0, 0)) /\ w'.heap.size = w.heap.size /\ w.grownBy w' (some b) := by
 obtain ⟨p, hb, rfl | rfl⟩ := h
 . refine (bCheckFresh b w (by rw [Lib.cell_of_heap hb]; rfl) (by simp [World.shape?, hb]) (Lib.frozen_of_heap hb 0)).mono ?_
   rintro e w' ⟨rfl, rfl⟩
   have hs : (w.setCell ⟨b, 0, none⟩ (.pointer (some ⟨b, 0, none⟩))) = w.setRow b #[.pointer (some ⟨b, 0, none⟩), v] := by
     rw [setCell_eq_setRow w b 0 _ _ _ _ hb]; rfl
   refine ⟨rfl, ?_, by rw [hs]; simp [World.setRow], ?_⟩
   . rw [hs]; exact setRow_heap w b _ _ _ _ hb
   . rw [hs]; exact ⟨rfl, rfl, rfl, by simp [World.setRow], fun k _ hk => setRow_other w b k _ (fun e => hk (by rw [e]))⟩
 . refine (bCheckUsed b w (by rw [Lib.cell_of_heap hb]; rfl)).mono ?_
   rintro e w' ⟨rfl, rfl⟩
   exact ⟨rfl, hb, rfl, rfl, rfl, rfl, Nat.le_refl _, fun _ _ _ => rfl⟩
theorem strCells_ba (l : List UInt8) : Lib.strCells (baL l) = l.map fun x => Value.int .u8 x.toNat := by
 simp [Lib.strCells, baL]
set_option maxHeartbeats 1000000 in
/-- append of a string's bytes, and where they come to lie. -/
theorem appendAt (v : Value) (n : Nat) (xs : List Value) (w : World) (hown : w.ownsRowF 0 5 1 v n xs) (s : ByteArray) (ty : TypeId) (hbytes : n + s.size <= 140737488355328) :
   ∃ v' w', (Builtin.append_ #[84, 9] ty #[v, .string s]).run Tryz.prog w = .ok v' w' /\ w'.ownsRowF 0 5 1 v' (n + s.size) (xs ++ Lib.strCells s) /\ w.grownBy w' v.ownBlock /\
     ∀ g, v'.ownBlock = some g -> v.ownBlock = some g \/ w.heap.size <= g := by
 obtain ⟨i0, hi, hz0, hz1, hz2⟩ := info_parts Tryz.Builder_Extra_169.infoByte
 have h63 : n + s.size <= maxLen := by unfold maxLen; omega
 have ht := Tryz.underlying84
 have hu := Tryz.underlying9
 obtain ⟨v', w', h1, h2, h3, h4⟩ := Lib.run_append_own_stringF (P := Tryz.prog) w 0 84 9 ty 5 i0 ht hu hi hz0 hz1 hz2 v n xs hown s h63 hbytes (Nat.zero_le _)
 refine ⟨v', w', h1, h2, h3, ?_⟩
 rcases hown.2 with ⟨rfl, rfl⟩ | ⟨g, cap, cur, fz, rfl, hbg, hg, hfz, hnc, hcm, hcs, htake⟩
 . obtain ⟨v2, w2, k1, k2, _, _⟩ := Lib.run_append_own_stringF (P := Tryz.prog) w w.heap.size 84 9 ty 5 i0 ht hu hi hz0 hz1 hz2 (.slice none 0 0) 0 xs ⟨hown.1, .inl ⟨rfl, rfl⟩⟩ s h63 hbytes (Nat.le_refl _)
   rw [h1] at k1
   cases k1
   exact fun g hg => .inr (k2.lt g hg).1
 . intro g' hg'
   have hxl : xs.length = n := by simpa using hown.1
   by_cases hroom : n + s.size <= cap
   . have hr := Lib.run_append_room_stringF (P := Tryz.prog) w 84 9 ty 5 i0 ht hu hi hz1 g n cap cur fz hg (by simpa using hfz) s hroom (by rw [hcs]; omega)
     rw [h1] at hr
     cases hr
     exact .inl hg'
   . have holds : ∀ j u, xs[j]? = some u -> w.cell? ((⟨g, 0, none⟩ : Addr).add j) = some u := hown.cells (g := g) rfl
     have hr := Lib.run_append_grow_string (P := Tryz.prog) w 84 9 ty 5 i0 (.int .u8 0) ht hu hi hz0 ⟨g, 0, none⟩ n cap xs (by rw [hz1]; simpa using hxl) holds s (by omega) (by omega) (by rw [hz2]; exact growslice_fits (by omega) (by omega))
     rw [h1] at hr
     cases hr
     simp [Value.ownBlock] at hg'
     exact .inr (by omega)
theorem wpList_appendAt {ops : Array Oper} {rest : List Oper} {o : Oper} {a : Act} {w : World} {Q : Exit -> Act -> World -> Prop} (hgd : o.guard = none) (sl x : Operand)
  (ho : o.op = .call { callee := .builtin .append, args := #[sl, x], argTypes := #[84, 9] }) (v : Value) (n : Nat) (xs : List Value) (hs : a.eval sl = v) (hown : w.ownsRowF 0 5 1 v n xs) (s : ByteArray) (hx : a.eval x = .string s)
  (hbytes : n + s.size <= 140737488355328)
  (h : ∀ v' w', w'.ownsRowF 0 5 1 v' (n + s.size) (xs ++ Lib.strCells s) -> w.grownBy w' v.ownBlock -> (∀ g, v'.ownBlock = some g -> v.ownBlock = some g \/ w.heap.size <= g) -> wpList Tryz.prog ops Q rest (a.put o.dst v') w') : wpList Tryz.prog ops Q (o :: rest) a w := by
 refine wpList_plain hgd fun K hK => ?_
 obtain ⟨v', w', hr, h2, h3, h4⟩ := appendAt v n xs w hown s o.type hbytes
 unfold Oper.wp execOp
 simp only [ho, resolve, invoke, builtin, Sem.run_bind, Sem.run_pure, Result.andThen_ok, List.map_toArray, List.map_cons, List.map_nil, hs, hx, hr]
 exact hK _ _ (h v' w' h2 h3 h4)
structure Keeps (b : Nat) (v : Value) (w w' : World) : Prop where
 os : w'.os = w.os
 tape : w'.tape = w.tape
 output : w'.output = w.output
 size : w.heap.size <= w'.heap.size
 block : ∀ k, k < w.heap.size -> k ≠ b -> v.ownBlock ≠ some k -> w'.heap[k]? = w.heap[k]?
theorem bx_lt {w : World} {b : Nat} {v : Value} (h : BxAt w b v) : b < w.heap.size := by
 obtain ⟨p, hb, _⟩ := h
 exact (Array.getElem?_eq_some_iff.1 hb).1
set_option maxHeartbeats 2000000 in
set_option maxRecDepth 100000 in
theorem bWrite (b : Nat) (v : Value) (xs : List UInt8) (l : List UInt8) (w : World) (h : BxAt w b v) (hown : w.ownsRowF 0 5 1 v xs.length (xs.map fun x => .int .u8 x.toNat)) (hne : v.ownBlock ≠ some b) (hlen : xs.length + l.length <= 140737488355328) :
   Calls Tryz.prog 51 #[.pointer (some ⟨b, 0, none⟩), .string (baL l)] w fun e w' => e = .returned (.tuple #[.int .i64 l.length, .nilIface]) /\
     ∃ v', BxAt w' b v' /\ v'.oneCell' = true /\ w'.ownsRowF 0 5 1 v' (xs ++ l).length ((xs ++ l).map fun x => .int .u8 x.toNat) /\ v'.ownBlock ≠ some b /\ Keeps b v w w' /\ ∀ g, v'.ownBlock = some g -> v.ownBlock = some g \/ w.heap.size <= g := by
 go_enter Tryz.func51, Tryz.ntmps51
 go_wp2_with (go_at_call 75; refine (bCheck b v _ h).mono ?_)
 rintro e w1 ⟨rfl, hb1, hs1, hg1⟩
 have hltb := bx_lt h
 have hown1 : w1.ownsRowF 0 5 1 v xs.length (xs.map fun x => .int .u8 x.toNat) := hown.kept hg1 (.inr hne)
 have c0 : w1.cell? ⟨b, 0, none⟩ = some (.pointer (some ⟨b, 0, none⟩)) := by rw [Lib.cell_of_heap hb1]; rfl
 have c1 : w1.cell? ⟨b, 1, none⟩ = some v := by rw [Lib.cell_of_heap hb1]; rfl
 go_wp2_with (at_builtin; refine wpList_appendAt rfl _ _ rfl _ _ _ rfl hown1 (baL l) rfl (by rw [baL_size]; exact hlen) ?_)
 intro v' w2 hown' hgrow hloc
 have hb2 : w2.heap[b]? = some (.cells #[.pointer (some ⟨b, 0, none⟩), v] 114 (0, 0)) := by
   rw [hgrow.block b (by omega) (fun e => hne e.symm)]
   exact hb1
 have d0 : w2.cell? ⟨b, 0, none⟩ = some (.pointer (some ⟨b, 0, none⟩)) := by rw [Lib.cell_of_heap hb2]; rfl
 have d1 : w2.cell? ⟨b, 1, none⟩ = some v := by rw [Lib.cell_of_heap hb2]; rfl
 have f1 : w2.frozen? ⟨b, 1, none⟩ = false := Lib.frozen_of_heap hb2 1
 obtain ⟨ao, n', cap, rfl⟩ : ∃ ao n' cap, v' = .slice ao n' cap := by
   rcases hown'.2 with ⟨hv, _⟩ | ⟨g, cap, cur, fz, hv, _⟩
   . exact ⟨_, _, _, hv⟩
   . exact ⟨_, _, _, hv⟩
 go_wp2
 go_ret2
 have hset : w2.setCell ⟨b, 1, none⟩ (.slice ao n' cap) = w2.setRow b #[.pointer (some ⟨b, 0, none⟩), .slice ao n' cap] := by
   rw [setCell_eq_setRow w2 b 1 _ _ _ _ hb2]; rfl
 have hgb : w2.grownBy (w2.setCell ⟨b, 1, none⟩ (.slice ao n' cap)) (some b) := by
   rw [hset]; exact ⟨rfl, rfl, rfl, by simp [World.setRow], fun k _ hk => setRow_other w2 b k _ (fun e => hk (by rw [e]))⟩
 have hnb : (Value.slice ao n' cap).ownBlock ≠ some b := by
   intro e
   rcases hloc b e with q | q
   . exact hne q
   . omega
 refine ⟨by rw [baL_size]; rfl, .slice ao n' cap, ⟨_, by rw [hset]; exact setRow_heap w2 b _ _ _ _ hb2, .inr rfl⟩, rfl, ?_, hnb, ⟨?_, ?_, ?_, ?_, ?_⟩, fun g hg => ?_⟩
 . have := hown'.kept hgb (.inr hnb)
   rw [strCells_ba, baL_size, <- List.map_append] at this
   simpa using this
 . exact hgb.os.trans (hgrow.os.trans hg1.os)
 . exact hgb.tape.trans (hgrow.tape.trans hg1.tape)
 . exact hgb.output.trans (hgrow.output.trans hg1.output)
 . exact Nat.le_trans hg1.size (Nat.le_trans hgrow.size hgb.size)
 . intro k hk hkb hkv
   rw [hgb.block k (Nat.lt_of_lt_of_le hk (Nat.le_trans hg1.size hgrow.size)) (fun e => hkb (Option.some.inj e)), hgrow.block k (Nat.lt_of_lt_of_le hk hg1.size) (fun e => hkv e.symm), hg1.block k hk (fun e => hkb (Option.some.inj e))]
 . rcases hloc g hg with q | q
   . exact .inl q
   . exact .inr (by omega)
theorem freeze_other (w : World) (p : Addr) (n k : Nat) (hk : k ≠ p.block) : (w.freeze p n).heap[k]? = w.heap[k]? := by
 unfold World.freeze
 split
 . rfl
 . simp only [Array.getElem?_modify]
   rw [if_neg (fun e => hk e.symm)]
theorem freeze_rest (w : World) (p : Addr) (n : Nat) : (w.freeze p n).os = w.os /\ (w.freeze p n).tape = w.tape /\ (w.freeze p n).output = w.output /\ (w.freeze p n).heap.size = w.heap.size := by
 unfold World.freeze
 split <;> simp
theorem bytes_eq (l : List UInt8) : Lib.byteCells l = l.map fun x => Value.int .u8 x.toNat := by simp [Lib.byteCells]
section
open Go.Shelf
variable {P : Program} {ρ : Go.Shelf.Ren}
set_option maxHeartbeats 2000000 in
set_option maxRecDepth 100000 in
theorem anyString_nil (L : Lays.n169 P ρ) (X : Builder.Extra P ρ) (b : Nat) (p : Value) (w : World) (hbk : w.heap[b]? = some (.cells #[p, .slice none 0 0] (ρ.t 72) (0, 0))) :
  Calls P (ρ.f 169) #[.pointer (some ⟨b, 0, none⟩)] w fun e w' => e = .returned (.string ⟨#[]⟩) /\ w'.heap = w.heap /\ w'.os = w.os /\ w'.tape = w.tape /\ w'.output = w.output := by
 have hUS := Any.unsafeString_none L X
 have c1 : w.drew.cell? ⟨b, 1, none⟩ = some (.slice none 0 0) := by
  have : w.drew.heap[b]? = some (.cells #[p, .slice none 0 0] (ρ.t 72) (0, 0)) := hbk
  rw [Lib.cell_of_heap this]; rfl
 have hSD : (Builtin.unsafeSliceData_ #[(ρ.t 37)] (ρ.t 127) #[.slice none 0 0]).run P w.drew = .ok (.pointer none) w.drew := rfl
 have mixed := L.mixed
 have t72 := L.t72; have a72 := L.a72; have z72 := L.z72; have v72 := L.v72; have u72 := run_underlying L.t72
 have t70 := L.t70; have a70 := L.a70; have z70 := L.z70; have v70 := L.v70; have u70 := run_underlying L.t70
 have t37 := L.t37; have a37 := L.a37; have z37 := L.z37; have v37 := L.v37; have u37 := run_underlying L.t37
 have t127 := L.t127; have a127 := L.a127; have z127 := L.z127; have v127 := L.v127; have u127 := run_underlying L.t127
 have t3 := L.t3; have a3 := L.a3; have z3 := L.z3; have v3 := L.v3; have u3 := run_underlying L.t3
 have t9 := L.t9; have a9 := L.a9; have z9 := L.z9; have v9 := L.v9; have u9 := run_underlying L.t9
 have t5 := X.t5; have a5 := X.a5; have z5 := X.z5; have v5 := X.v5; have u5 := run_underlying X.t5
 go_enter L.f169, Body.n169_ntmps ρ
 go_wp2
 go_region_o
 all_goals (go_wp2; go_ret; exact ⟨rfl, rfl, rfl, rfl, rfl⟩)
set_option maxHeartbeats 2000000 in
set_option maxRecDepth 100000 in
theorem anyString_noroom (L : Lays.n169 P ρ) (X : Builder.Extra P ρ) (b g : Nat) (p : Value) (cur : Array Value) (w : World) (hbk : w.heap[b]? = some (.cells #[p, .slice (some ⟨g, 0, none⟩) 0 0] (ρ.t 72) (0, 0))) (fz : Nat × Nat) (hg : w.heap[g]? = some (.cells cur (ρ.t 5) fz)) :
  Calls P (ρ.f 169) #[.pointer (some ⟨b, 0, none⟩)] w fun e w' => e = .returned (.string ⟨#[]⟩) /\ w'.heap = w.heap.push (.view ⟨g, 0, none⟩ (ρ.t 5)) /\ w'.os = w.os /\ w'.tape = w.tape /\ w'.output = w.output := by
 have hUS := Any.unsafeString_none L X
 have hlt : b < w.heap.size := (Array.getElem?_eq_some_iff.1 hbk).1
 have c1 : w.drew.cell? ⟨b, 1, none⟩ = some (.slice (some ⟨g, 0, none⟩) 0 0) := by
  have : w.drew.heap[b]? = some (.cells #[p, .slice (some ⟨g, 0, none⟩) 0 0] (ρ.t 72) (0, 0)) := hbk
  rw [Lib.cell_of_heap this]; rfl
 have hSD : (Builtin.unsafeSliceData_ #[(ρ.t 37)] (ρ.t 127) #[.slice (some ⟨g, 0, none⟩) 0 0]).run P w.drew = .ok (.pointer (some ⟨w.drew.heap.size, 0, none⟩)) (w.drew.alloc (.view ⟨g, 0, none⟩ (ρ.t 5))) :=
  Lib.run_unsafeSliceData_zero w.drew _ _ (ρ.t 5) L.t127 ⟨g, 0, none⟩ 0 ((ρ.t 5), cur.size) (by have hg' : w.drew.heap[g]? = some (.cells cur (ρ.t 5) fz) := hg; simp [World.shape?, hg'])
 have c2 : (w.drew.alloc (.view ⟨g, 0, none⟩ (ρ.t 5))).cell? ⟨b, 1, none⟩ = some (.slice (some ⟨g, 0, none⟩) 0 0) := by
  have : (w.drew.alloc (.view ⟨g, 0, none⟩ (ρ.t 5))).heap[b]? = _ := (Lib.alloc_old w.drew _ b hlt).trans hbk
  rw [Lib.cell_of_heap this]; rfl
 have c3 : (w.alloc (.view ⟨g, 0, none⟩ (ρ.t 5))).drew.cell? ⟨b, 1, none⟩ = some (.slice (some ⟨g, 0, none⟩) 0 0) := c2
 have c0 : w.cell? ⟨b, 1, none⟩ = some (.slice (some ⟨g, 0, none⟩) 0 0) := c1
 have mixed := L.mixed
 have t72 := L.t72; have a72 := L.a72; have z72 := L.z72; have v72 := L.v72; have u72 := run_underlying L.t72
 have t70 := L.t70; have a70 := L.a70; have z70 := L.z70; have v70 := L.v70; have u70 := run_underlying L.t70
 have t37 := L.t37; have a37 := L.a37; have z37 := L.z37; have v37 := L.v37; have u37 := run_underlying L.t37
 have t127 := L.t127; have a127 := L.a127; have z127 := L.z127; have v127 := L.v127; have u127 := run_underlying L.t127
 have t3 := L.t3; have a3 := L.a3; have z3 := L.z3; have v3 := L.v3; have u3 := run_underlying L.t3
 have t9 := L.t9; have a9 := L.a9; have z9 := L.z9; have v9 := L.v9; have u9 := run_underlying L.t9
 have t5 := X.t5; have a5 := X.a5; have z5 := X.z5; have v5 := X.v5; have u5 := run_underlying X.t5
 go_enter L.f169, Body.n169_ntmps ρ
 go_wp2
 go_region_o
 all_goals (go_wp2; go_ret; exact ⟨rfl, rfl, rfl, rfl, rfl⟩)
set_option maxHeartbeats 2000000 in
set_option maxRecDepth 100000 in
theorem anyString_room (L : Lays.n169 P ρ) (X : Builder.Extra P ρ) (b g cap : Nat) (p : Value) (w : World) (hc0 : cap ≠ 0) (hbk : w.heap[b]? = some (.cells #[p, .slice (some ⟨g, 0, none⟩) 0 cap] (ρ.t 72) (0, 0))) :
  Calls P (ρ.f 169) #[.pointer (some ⟨b, 0, none⟩)] w fun e w' => e = .returned (.string ⟨#[]⟩) /\ w'.heap = w.heap /\ w'.os = w.os /\ w'.tape = w.tape /\ w'.output = w.output := by
 have hUS := Any.unsafeString_none L X
 have c1 : w.drew.cell? ⟨b, 1, none⟩ = some (.slice (some ⟨g, 0, none⟩) 0 cap) := by
  have : w.drew.heap[b]? = some (.cells #[p, .slice (some ⟨g, 0, none⟩) 0 cap] (ρ.t 72) (0, 0)) := hbk
  rw [Lib.cell_of_heap this]; rfl
 have hSD : (Builtin.unsafeSliceData_ #[(ρ.t 37)] (ρ.t 127) #[.slice (some ⟨g, 0, none⟩) 0 cap]).run P w.drew = .ok (.pointer (some ⟨g, 0, none⟩)) w.drew :=
  Lib.run_unsafeSliceData_row _ _ _ _ _ _ hc0
 clear hc0
 have mixed := L.mixed
 have t72 := L.t72; have a72 := L.a72; have z72 := L.z72; have v72 := L.v72; have u72 := run_underlying L.t72
 have t70 := L.t70; have a70 := L.a70; have z70 := L.z70; have v70 := L.v70; have u70 := run_underlying L.t70
 have t37 := L.t37; have a37 := L.a37; have z37 := L.z37; have v37 := L.v37; have u37 := run_underlying L.t37
 have t127 := L.t127; have a127 := L.a127; have z127 := L.z127; have v127 := L.v127; have u127 := run_underlying L.t127
 have t3 := L.t3; have a3 := L.a3; have z3 := L.z3; have v3 := L.v3; have u3 := run_underlying L.t3
 have t9 := L.t9; have a9 := L.a9; have z9 := L.z9; have v9 := L.v9; have u9 := run_underlying L.t9
 have t5 := X.t5; have a5 := X.a5; have z5 := X.z5; have v5 := X.v5; have u5 := run_underlying X.t5
 go_enter L.f169, Body.n169_ntmps ρ
 go_wp2
 go_region_o
 all_goals (go_wp2; go_ret; exact ⟨rfl, rfl, rfl, rfl, rfl⟩)
set_option maxHeartbeats 2000000 in
set_option maxRecDepth 100000 in
theorem anyString_full (L : Lays.n169 P ρ) (X : Builder.Extra P ρ) (b g cap : Nat) (p : Value) (l : List UInt8) (cur : Array Value) (fz : Nat × Nat) (w : World) (h0 : l ≠ []) (hnc : l.length <= cap) (hcm : cap <= maxLen) (hcs : cur.size = cap * 1)
  (hbk : w.heap[b]? = some (.cells #[p, .slice (some ⟨g, 0, none⟩) l.length cap] (ρ.t 72) (0, 0))) (hg : w.heap[g]? = some (.cells cur (ρ.t 5) fz)) (hcell : ∀ (j : Nat) x, l[j]? = some x -> w.cell? ((⟨g, 0, none⟩ : Addr).add j) = some (.int .u8 x.toNat)) :
  Calls P (ρ.f 169) #[.pointer (some ⟨b, 0, none⟩)] w fun e w' => e = .returned (.string ⟨l.toArray⟩) /\ w' = w.drew.freeze ⟨g, 0, none⟩ l.length := by
 have hl0 : l.length ≠ 0 := by simpa using h0
 have c1 : w.drew.cell? ⟨b, 1, none⟩ = some (.slice (some ⟨g, 0, none⟩) l.length cap) := by
  have : w.drew.heap[b]? = some (.cells #[p, .slice (some ⟨g, 0, none⟩) l.length cap] (ρ.t 72) (0, 0)) := hbk
  rw [Lib.cell_of_heap this]; rfl
 have hSD : (Builtin.unsafeSliceData_ #[(ρ.t 37)] (ρ.t 127) #[.slice (some ⟨g, 0, none⟩) l.length cap]).run P w.drew = .ok (.pointer (some ⟨g, 0, none⟩)) w.drew :=
  Lib.run_unsafeSliceData_row _ _ _ _ _ _ (by omega)
 have hUS : (Builtin.unsafeString_ #[(ρ.t 127), (ρ.t 3)] (ρ.t 9) #[.pointer (some ⟨g, 0, none⟩), .int .i64 l.length]).run P w.drew = .ok (.string ⟨l.toArray⟩) (w.drew.freeze ⟨g, 0, none⟩ l.length) := by
  refine Lib.run_unsafeString_row w.drew (ρ.t 127) (ρ.t 3) (ρ.t 9) (ρ.t 5) L.t127 X.cellsByte g cur.size (by have hg' : w.drew.heap[g]? = some (.cells cur (ρ.t 5) fz) := hg; simp [World.shape?, hg']) l h0 (by omega) (by unfold maxLen at hcm; omega) ?_
  intro j x hx
  exact hcell j x hx
 have mixed := L.mixed
 have t72 := L.t72; have a72 := L.a72; have z72 := L.z72; have v72 := L.v72; have u72 := run_underlying L.t72
 have t70 := L.t70; have a70 := L.a70; have z70 := L.z70; have v70 := L.v70; have u70 := run_underlying L.t70
 have t37 := L.t37; have a37 := L.a37; have z37 := L.z37; have v37 := L.v37; have u37 := run_underlying L.t37
 have t127 := L.t127; have a127 := L.a127; have z127 := L.z127; have v127 := L.v127; have u127 := run_underlying L.t127
 have t3 := L.t3; have a3 := L.a3; have z3 := L.z3; have v3 := L.v3; have u3 := run_underlying L.t3
 have t9 := L.t9; have a9 := L.a9; have z9 := L.z9; have v9 := L.v9; have u9 := run_underlying L.t9
 have t5 := X.t5; have a5 := X.a5; have z5 := X.z5; have v5 := X.v5; have u5 := run_underlying X.t5
 go_enter L.f169, Body.n169_ntmps ρ
 go_wp2
 go_region_o
 all_goals (go_wp2; go_ret; exact ⟨rfl, rfl⟩)
end
theorem bString (b : Nat) (v : Value) (l : List UInt8) (w : World) (h : BxAt w b v) (hown : w.ownsRowF 0 5 1 v l.length (l.map fun x => .int .u8 x.toNat)) (hne : v.ownBlock ≠ some b) :
   Calls Tryz.prog 52 #[.pointer (some ⟨b, 0, none⟩)] w fun e w' => e = .returned (.string ⟨l.toArray⟩) /\
     BxAt w' b v /\ w'.ownsRowF 0 5 1 v l.length (l.map fun x => .int .u8 x.toNat) /\ Keeps b v w w' := by
 have hltb := bx_lt h
 obtain ⟨p, hbk, hp⟩ := h
 have kd : ∀ w' : World, w'.heap = w.heap -> w'.os = w.os -> w'.tape = w.tape -> w'.output = w.output -> BxAt w' b v /\ w'.ownsRowF 0 5 1 v l.length (l.map fun x => .int .u8 x.toNat) /\ Keeps b v w w' := by
   intro w' hh ho ht hou
   refine ⟨⟨p, by rw [hh]; exact hbk, hp⟩, ?_, ⟨ho, ht, hou, by rw [hh]; exact Nat.le_refl _, fun k _ _ _ => by rw [hh]⟩⟩
   unfold World.ownsRowF at hown ⊢
   rw [hh]; exact hown
 rcases hown.2 with ⟨rfl, hl0⟩ | ⟨g, cap, cur, fz, rfl, hbg, hg, hfz, hnc, hcm, hcs, htake⟩
 . have hl : l = [] := List.length_eq_zero_iff.1 hl0
   subst hl
   refine (anyString_nil Tryz.lays169 Tryz.Builder_Extra_169 b p w hbk).mono ?_
   rintro e w' ⟨rfl, q1, q2, q3, q4⟩
   exact ⟨rfl, kd _ q1 q2 q3 q4⟩
 . by_cases hl : l = []
   . subst hl
     by_cases hc0 : cap = 0
     . subst hc0
       refine (anyString_noroom Tryz.lays169 Tryz.Builder_Extra_169 b g p cur w hbk fz hg).mono ?_
       rintro e w' ⟨rfl, hh, ho, ht, hou⟩
       have hold : ∀ k, k < w.heap.size -> w'.heap[k]? = w.heap[k]? := fun k hk => by rw [hh, Array.getElem?_push, if_neg (by omega)]
       have hgl : g < w.heap.size := (Array.getElem?_eq_some_iff.1 hg).1
       exact ⟨rfl, ⟨p, (hold b hltb).trans hbk, hp⟩, ⟨rfl, .inr ⟨g, 0, cur, fz, rfl, Nat.zero_le _, (hold g hgl).trans hg, hfz, Nat.le_refl _, hcm, hcs, by simp⟩⟩, ⟨ho, ht, hou, by rw [hh]; simp, fun k hk _ _ => hold k hk⟩⟩
     . refine (anyString_room Tryz.lays169 Tryz.Builder_Extra_169 b g cap p w hc0 hbk).mono ?_
       rintro e w' ⟨rfl, q1, q2, q3, q4⟩
       exact ⟨rfl, kd _ q1 q2 q3 q4⟩
   . refine (anyString_full Tryz.lays169 Tryz.Builder_Extra_169 b g cap p l cur fz w hl hnc hcm hcs hbk hg (fun j x hx => hown.cells (g := g) rfl j (.int .u8 x.toNat) (by simp [hx]))).mono ?_
     rintro e w' ⟨rfl, rfl⟩
     have hA : Lib.BuilderAtF 114 5 0 b p (Lib.byteCells l) w.drew := ⟨Nat.zero_le _, _, hbk, by rw [Lib.byteCells_length, bytes_eq]; exact hown, hne⟩
     have c1 : w.drew.cell? ⟨b, 1, none⟩ = some (.slice (some ⟨g, 0, none⟩) l.length cap) := by
       have : w.drew.heap[b]? = some (.cells #[p, .slice (some ⟨g, 0, none⟩) l.length cap] 114 (0, 0)) := hbk
       rw [Lib.cell_of_heap this]; rfl
     have hF := hA.froze (g := g) (cap := cap) (by rw [Lib.byteCells_length]; exact c1)
     rw [Lib.byteCells_length] at hF
     have hgb : b ≠ g := fun e => hne (by simp [Value.ownBlock, e])
     have hbf : (w.drew.freeze ⟨g, 0, none⟩ l.length).heap[b]? = some (.cells #[p, .slice (some ⟨g, 0, none⟩) l.length cap] 114 (0, 0)) := (freeze_other w.drew ⟨g, 0, none⟩ _ b hgb).trans hbk
     obtain ⟨f1, f2, f3, f4⟩ := freeze_rest w.drew ⟨g, 0, none⟩ l.length
     refine ⟨rfl, ⟨p, hbf, hp⟩, ?_, ⟨f1, f2, f3, by rw [f4]; exact Nat.le_refl _, fun k hk _ hkv => freeze_other w.drew ⟨g, 0, none⟩ _ k (fun e => hkv (by simp [Value.ownBlock, e]))⟩⟩
     obtain ⟨_, v2, q1, q2, _⟩ := hF
     rw [hbf] at q1
     have hv2 : v2 = .slice (some ⟨g, 0, none⟩) l.length cap := by
       injection q1 with q1; injection q1 with q1; injection q1 with q1; injection q1 with _ q1; injection q1 with q1
       exact q1.symm
     rw [hv2, Lib.byteCells_length, bytes_eq] at q2
     exact q2
set_option maxRecDepth 100000 in
theorem bLen (b : Nat) (v : Value) (l : List UInt8) (w : World) (h : BxAt w b v) (hown : w.ownsRowF 0 5 1 v l.length (l.map fun x => .int .u8 x.toNat)) (hne : v.ownBlock ≠ some b) :
  Calls Tryz.prog 50 #[.pointer (some ⟨b, 0, none⟩)] w fun e w' => e = .returned (.int .i64 l.length) /\ w' = w := by
 obtain ⟨p, hbk, hp⟩ := h
 have c1 : w.cell? ⟨b, 1, none⟩ = some v := by rw [Lib.cell_of_heap hbk]; rfl
 obtain ⟨ao, cap, rfl⟩ : ∃ ao cap, v = .slice ao l.length cap := by
  rcases hown.2 with ⟨hv, e⟩ | ⟨g, cap, cur, fz, hv, _⟩
  . exact ⟨_, _, by rw [hv, e]⟩
  . exact ⟨_, _, hv⟩
 go_enter Tryz.func50, Tryz.ntmps50
 go_wp2
 go_ret
 exact ⟨rfl, rfl⟩
abbrev bMem (k q ver : Nat) (xs : List UInt8) : Mem := [(k, .bx 114 (some (q, ver))), (q, .buf ver 5 xs)]
theorem bMem_look {k q ver : Nat} {xs : List UInt8} (hkq : k ≠ q) {k' : Nat} {b : Blk} (h : Abs.look k' (bMem k q ver xs) = some b) : (k' = k /\ b = .bx 114 (some (q, ver))) \/ (k' = q /\ b = .buf ver 5 xs) := by
 rw [look_cons] at h
 split at h
 . rename_i e; exact .inl ⟨e.symm, (Option.some.inj h).symm⟩
 . rw [look_cons] at h
   split at h
   . rename_i e; exact .inr ⟨e.symm, (Option.some.inj h).symm⟩
   . cases h
theorem bMem_k (k q ver : Nat) (xs : List UInt8) : Abs.look k (bMem k q ver xs) = some (.bx 114 (some (q, ver))) := look_cons_self _ _ _
theorem bMem_q {k q : Nat} (hkq : k ≠ q) (ver : Nat) (xs : List UInt8) : Abs.look q (bMem k q ver xs) = some (.buf ver 5 xs) := by
 rw [look_cons_ne hkq]; exact look_cons_self _ _ _
section
variable {n : Nat} {w : World} {U0 : Nat -> Prop} {X : Nat -> Nat -> Prop} {β0 : Nat -> Option Abs.Place} {us : Array Value} {ys : List V} {k q : Nat} {xs : List UInt8}
theorem bx_open (hs : SimB w U0 X β0 β0 U0 ⟨n, argsEnv 0 ys, bMem k q 0 xs⟩ ⟨us, []⟩ w) (hkq : k ≠ q) (ha : (Abs.look 0 (argsEnv 0 ys)).getD (.one .bad) = .one (.ptr k 0)) :
  ∃ b v, us.getD 0 undef = .pointer (some ⟨b, 0, none⟩) /\ β0 k = some (.cells b 0) /\ β0 q = some (.row v 0) /\ BxAt w b v /\ w.ownsRowF 0 5 1 v xs.length (xs.map fun x => .int .u8 x.toNat) /\ v.ownBlock ≠ some b := by
 have h0 := hs.env 0
 have h0' : RepV w β0 U0 w.heap.size (us.getD 0 undef) (.one (.ptr k 0)) := by rw [<- ha]; exact h0
 obtain ⟨b, o, hk, hv⟩ := h0'.toC
 obtain ⟨p1, hp1, hr1⟩ := hs.mem k _ (bMem_k k q 0 xs)
 rw [hk] at hp1; cases hp1
 obtain ⟨rfl, p, v, hb, hp, h1, v0, ver0, hq, hle, hvv⟩ := hr1
 obtain ⟨p2, hp2, hr2⟩ := hs.mem q _ (bMem_q hkq 0 xs)
 rw [hq] at hp2; cases hp2
 obtain ⟨rfl, hown⟩ := hr2
 obtain rfl := hvv rfl
 refine ⟨b, v, hv, hk, hq, ⟨p, hb, hp⟩, hown, fun e => ?_⟩
 exact hs.inj q k _ _ _ _ b 0 (fun e => hkq e.symm) hq hk (bMem_q hkq 0 xs) (bMem_k k q 0 xs) e rfl
theorem bx_close (hs : SimB w U0 X β0 β0 U0 ⟨n, argsEnv 0 ys, bMem k q 0 xs⟩ ⟨us, []⟩ w) (hkq : k ≠ q) {b : Nat} {v : Value} (hk : β0 k = some (.cells b 0)) (hq : β0 q = some (.row v 0)) {w' : World} {v' : Value} {nv : Nat} {xs' : List UInt8}
  (hv : (nv = 0 /\ v' = v) \/ 0 < nv) (h1 : v'.oneCell' = true) (hbx : BxAt w' b v') (hown : w'.ownsRowF 0 5 1 v' xs'.length (xs'.map fun x => .int .u8 x.toNat)) (hne : v'.ownBlock ≠ some b) (hkp : Keeps b v w w')
  (hloc : ∀ g, v'.ownBlock = some g -> v.ownBlock = some g \/ w.heap.size <= g) {u : Value} {r : V} (hr : ∀ β, RepV w' β U0 w.heap.size u r) :
  Sim w U0 X β0 ⟨1, [(0, r)], bMem k q nv xs'⟩ ⟨#[u], []⟩ w' := by
 have hk1 := bMem_k k q 0 xs
 have hq1 := bMem_q (ver := 0) (xs := xs) hkq
 have hget : ∀ k' p, upd β0 q (.row v' nv) k' = some p -> (k' = q /\ p = .row v' nv) \/ (k' ≠ q /\ β0 k' = some p) := by
  intro k' p h
  by_cases e : q = k'
  . subst e; rw [upd_self] at h; exact .inl ⟨rfl, (Option.some.inj h).symm⟩
  . rw [upd_ne _ e] at h; exact .inr ⟨fun q => e q.symm, h⟩
 have hkk : upd β0 q (.row v' nv) k = some (.cells b 0) := by rw [upd_ne _ (fun e => hkq e.symm)]; exact hk
 have hU : ∀ x, U0 x -> w'.heap[x]? = w.heap[x]? := fun x hx => hkp.block x (hs.stab x hx) (fun e => (hs.apart k _ b hk rfl).1 (e ▸ hx)) (fun e => (hs.apart q _ x hq e).1 hx)
 have hlt' : ∀ g, v'.ownBlock = some g -> g < w'.heap.size := fun g hg => (hown.lt g hg).2
 have honly : ∀ k' p, β0 k' = some p -> k' = k \/ k' = q := by
  intro k' p hp
  obtain ⟨bl, hb⟩ := Option.isSome_iff_exists.1 (hs.dom k' p hp)
  rcases bMem_look hkq hb with ⟨e, _⟩ | ⟨e, _⟩
  . exact .inl e
  . exact .inr e
 refine ⟨upd β0 q (.row v' nv), U0, ?_⟩
 exact {
  n := rfl, small := by simp, args := hs.args, ver0 := hs.ver0, defers := rfl, glob := hs.glob.map (fun _ h => h) hU
  hist := fun k' p hp _ => by
    by_cases e : q = k'
    . subst e
      rw [hq] at hp; cases hp
      rcases hv with ⟨rfl, rfl⟩ | h
      . exact .inl (upd_self _ _ _)
      . exact .inr (.inl ⟨v, 0, v', nv, rfl, upd_self _ _ _, h⟩)
    . exact .inl (by rw [upd_ne _ e]; exact hp)
  env := fun t => by
    show RepV w' _ U0 w.heap.size (#[u].getD t undef) ((Abs.look t [(0, r)]).getD (.one .bad))
    cases t with
    | zero => exact hr _
    | succ t => simp [Abs.look]; exact .bad _
  mem := fun k' bl hb => by
    rcases bMem_look hkq hb with ⟨rfl, rfl⟩ | ⟨rfl, rfl⟩
    . obtain ⟨p, hh, hp⟩ := hbx
      exact ⟨_, hkk, rfl, p, v', hh, hp, h1, v', nv, upd_self _ _ _, Nat.le_refl _, fun _ => rfl⟩
    . exact ⟨_, upd_self _ _ _, rfl, hown⟩
  dom := fun k' p hp => by
    rcases hget k' p hp with ⟨rfl, _⟩ | ⟨_, hp⟩
    . exact Option.isSome_iff_exists.2 ⟨_, bMem_q hkq nv xs'⟩
    . rcases honly k' p hp with rfl | rfl
      . exact Option.isSome_iff_exists.2 ⟨_, bMem_k k' q nv xs'⟩
      . exact Option.isSome_iff_exists.2 ⟨_, bMem_q hkq nv xs'⟩
  apart := fun k' p x hp hx => by
    rcases hget k' p hp with ⟨rfl, rfl⟩ | ⟨_, hp⟩
    . refine ⟨?_, hlt' x hx⟩
      rcases hloc x hx with e | e
      . exact (hs.apart k' _ x hq e).1
      . exact fun hu => by have := hs.stab x hu; omega
    . obtain ⟨a1, a2⟩ := hs.apart k' p x hp hx
      exact ⟨a1, Nat.lt_of_lt_of_le a2 hkp.size⟩
  inj := fun k1 k2 p1 p2 b1 b2 x j hne12 hp1 hp2 hb1 hb2 hc1 hc2 => by
    rcases bMem_look hkq hb1 with ⟨rfl, rfl⟩ | ⟨rfl, rfl⟩ <;> rcases bMem_look hkq hb2 with ⟨rfl, rfl⟩ | ⟨rfl, rfl⟩
    . exact hne12 rfl
    . rw [hkk] at hp1; cases hp1
      rw [upd_self] at hp2; cases hp2
      have e1 : x = b := hc1
      have e2 : v'.ownBlock = some x := hc2
      exact hne (e1 ▸ e2)
    . rw [hkk] at hp2; cases hp2
      rw [upd_self] at hp1; cases hp1
      have e1 : x = b := hc2
      have e2 : v'.ownBlock = some x := hc1
      exact hne (e1 ▸ e2)
    . exact hne12 rfl
  stab := fun x hx => Nat.lt_of_lt_of_le (hs.stab x hx) hkp.size
  old := fun x h => h, new := fun x _ h => h
  chg := ⟨hkp.os, hkp.tape, hkp.output, hkp.size, fun x hx => by
    by_cases e : x = b
    . subst e; exact .inr (.inr fun j => hs.may k _ _ x j hk hk1 rfl hx)
    . by_cases e2 : v.ownBlock = some x
      . exact .inr (.inr fun j => hs.may q _ _ x j hq hq1 e2 hx)
      . exact .inl (hkp.block x hx e e2)⟩
  may := fun k' p bl x j hp hb hc hx => by
    rcases bMem_look hkq hb with ⟨rfl, rfl⟩ | ⟨rfl, rfl⟩
    . rw [hkk] at hp; cases hp
      exact hs.may k' _ _ x j hk hk1 hc hx
    . rw [upd_self] at hp; cases hp
      have e2 : v'.ownBlock = some x := hc
      rcases hloc x e2 with e | e
      . exact hs.may k' _ _ x j hq hq1 e hx
      . omega }
end
theorem own_one {w : World} {e : TypeId} {v : Value} {n : Nat} {ys : List Value} (h : w.ownsRowF 0 e 1 v n ys) : v.oneCell' = true := by
 rcases h.2 with ⟨rfl, _⟩ | ⟨g, cap, cur, fz, rfl, _⟩ <;> rfl
def blen (xs l : List UInt8) : Nat := xs.length + l.length
def bcat (xs l : List UInt8) : List UInt8 := xs ++ l
def bWriteTr (ys : List V) (m : Mem) : Option (Tr (V × Mem)) :=
 match ys, m with
 | [.one (.ptr k 0), .one (.d (.s l))], [(k1, .bx 114 (some (q, 0))), (q1, .buf 0 5 xs)] => match Nat.beq k1 k && Nat.beq q1 q && !Nat.beq k q with
  | true => some (.grd (decide (blen xs l <= 140737488355328)) (.ret (.tup [vi .i64 (l.length : Int), vd (.z .nilIface)], [(k, .bx 114 (some (q, 1))), (q, .buf 1 5 (bcat xs l))])))
  | false => none
 | _, _ => none
def bWritePF : PF Tryz.prog where
 f := 51
 own := [1, 0]
 tr := bWriteTr
 ok := by
  intro ys m T r m' h hT
  unfold bWriteTr at h
  split at h
  case h_2 => cases h
  rename_i k l k1 q q1 xs
  split at h
  case h_2 => cases h
  rename_i hc
  obtain ⟨⟨rfl, rfl⟩, hkq0⟩ : (k1 = k /\ q1 = q) /\ Nat.beq k q = false := by simpa using hc
  have hkq : k1 ≠ q1 := fun e => by subst e; rw [Nat.beq_refl] at hkq0; cases hkq0
  cases h
  obtain ⟨hn, hT⟩ := Tr.eval_grd hT
  have hn : xs.length + l.length <= 140737488355328 := of_decide_eq_true hn
  cases hT
  refine ⟨_, _, WkVs_rfl _, WkM_rfl _, fun w U0 X β0 us hs => ?_⟩
  obtain ⟨b, v, hu, hk, hq, hbx, hown, hne⟩ := bx_open hs hkq rfl
  have hu1 : us.getD 1 undef = .string ⟨l.toArray⟩ := rep_str (show RepV w β0 U0 w.heap.size (us.getD 1 undef) (vs l) from hs.env 1).toC
  rw [us2 (us := us) (show us.size = 2 from hs.n) hu hu1]
  refine (bWrite b v xs l w hbx hown hne hn).mono ?_
  rintro e w' ⟨rfl, v', hbx', h1, hown', hne', hkp, hloc⟩
  refine ⟨_, _, _, rfl, ⟨rfl, rfl⟩, bx_close hs hkq hk hq (.inr Nat.one_pos) h1 hbx' hown' hne' hkp hloc fun β => ?_⟩
  refine RepV.tup [_, _] _ rfl fun j u' x hj hx => ?_
  match j, hj, hx with
  | 0, hj, hx => cases hj; cases hx; exact .one _ _ (.i _ _)
  | 1, hj, hx => cases hj; cases hx; exact .one _ _ (.z _ rfl)
def bReadTr (f : List UInt8 -> V) (ys : List V) (m : Mem) : Option (Tr (V × Mem)) :=
 match ys, m with
 | [.one (.ptr k 0)], [(k1, .bx 114 (some (q, 0))), (q1, .buf 0 5 xs)] => match Nat.beq k1 k && Nat.beq q1 q && !Nat.beq k q with
  | true => some (.ret (f xs, [(k, .bx 114 (some (q, 0))), (q, .buf 0 5 xs)]))
  | false => none
 | _, _ => none
def bStringPF : PF Tryz.prog where
 f := 52
 own := [1]
 tr := bReadTr vs
 ok := by
  intro ys m T r m' h hT
  unfold bReadTr at h
  split at h
  case h_2 => cases h
  rename_i k k1 q q1 xs
  split at h
  case h_2 => cases h
  rename_i hc
  obtain ⟨⟨rfl, rfl⟩, hkq0⟩ : (k1 = k /\ q1 = q) /\ Nat.beq k q = false := by simpa using hc
  have hkq : k1 ≠ q1 := fun e => by subst e; rw [Nat.beq_refl] at hkq0; cases hkq0
  cases h
  cases hT
  refine ⟨_, _, WkVs_rfl _, WkM_rfl _, fun w U0 X β0 us hs => ?_⟩
  obtain ⟨b, v, hu, hk, hq, hbx, hown, hne⟩ := bx_open hs hkq rfl
  rw [us1 (us := us) (show us.size = 1 from hs.n) hu]
  refine (bString b v xs w hbx hown hne).mono ?_
  rintro e w' ⟨rfl, hbx', hown', hkp⟩
  exact ⟨_, _, _, rfl, ⟨rfl, rfl⟩, bx_close hs hkq hk hq (.inl ⟨rfl, rfl⟩) (own_one hown) hbx' hown' hne hkp (fun g hg => .inl hg) fun β => .one _ _ (.s _)⟩
def bLenPF : PF Tryz.prog where
 f := 50
 own := [1]
 tr := bReadTr fun xs => vi .i64 (xs.length : Int)
 ok := by
  intro ys m T r m' h hT
  unfold bReadTr at h
  split at h
  case h_2 => cases h
  rename_i k k1 q q1 xs
  split at h
  case h_2 => cases h
  rename_i hc
  obtain ⟨⟨rfl, rfl⟩, hkq0⟩ : (k1 = k /\ q1 = q) /\ Nat.beq k q = false := by simpa using hc
  have hkq : k1 ≠ q1 := fun e => by subst e; rw [Nat.beq_refl] at hkq0; cases hkq0
  cases h
  cases hT
  refine ⟨_, _, WkVs_rfl _, WkM_rfl _, fun w U0 X β0 us hs => ?_⟩
  obtain ⟨b, v, hu, hk, hq, hbx, hown, hne⟩ := bx_open hs hkq rfl
  rw [us1 (us := us) (show us.size = 1 from hs.n) hu]
  refine (bLen b v xs w hbx hown hne).mono ?_
  rintro e w' ⟨rfl, rfl⟩
  exact ⟨_, _, _, rfl, ⟨rfl, rfl⟩, bx_close hs hkq hk hq (.inl ⟨rfl, rfl⟩) (own_one hown) hbx hown hne ⟨rfl, rfl, rfl, Nat.le_refl _, fun _ _ _ _ => rfl⟩ (fun g hg => .inl hg) fun β => .one _ _ (.i _ _)⟩
end Go.Proofs.YtaeeadldamflcaaGreatDoor.X
namespace Go.Proofs.YtaeeadldamflcaaGreatDoor.X
open Go Go.RowKit Go.Proofs.YtaeeadldamflcaaGreatDoor.Abs
open Go.IntKind renaming wrap -> wW
set_option maxRecDepth 100000
set_option linter.unusedVariables false
def fWhole_L28_3 : LS := ⟨3, [(4, 4), (1, 1), (950004, 950004)], ⟨32, [(10, .v (.one (.i .i64))), (4, .v (.one (.ptr 4 0))), (8, .v (.one (.st 5 false))), (1, .v (.one (.ptr 1 0))), (9, .v (.one (.i .i64)))], [(4, .bx 114 950004), (1, .cells [.i .u32, .i .u32, .i .i64, .i .i64, .i .i64, .i .i64, .s, .st 5 false]), (950004, .buf 5)]⟩, [⟨none, [], ⟨32, [(2, .v (.one (.s))), (3, .v (.one (.b)))], []⟩⟩, ⟨some 0, [(1, 1), (4, 4), (950004, 950004)], ⟨32, [(1, .v (.one (.ptr 1 0))), (4, .v (.one (.ptr 4 0)))], [(1, .cells [.i .u32, .i .u32, .i .i64, .i .i64, .i .i64, .i .i64, .s, .st 5 false]), (4, .bx 114 950004), (950004, .buf 5)]⟩⟩], []⟩
abbrev ty11_ : Type := (Int × ((List TPart) × (Int × (Int × (Int × (Int × (Int × (Int × (Int × ((List UInt8) × ((List TPart) × ((List UInt8) × Unit))))))))))))
abbrev ty12_ : Type := (Int × (Int × (Int × (Int × (Int × (Int × ((List UInt8) × ((List TPart) × ((List UInt8) × Unit)))))))))
def fWhole_step28_3 : ty11_ -> Tr (ty11_ ⊕ (((List UInt8) × (Bool × Unit)) ⊕ ty12_)) :=
 fun (a0, a1, a2, a3, a4, a5, a6, a7, a8, a9, a10, a11, _) =>
 .ite (decide (a0 < a2)) (
 .grd (decide (0 <= a0)) (
 .opt (a1[Int.toNat a0]?) (fun r0 =>
 .ite (!decide (r0.at' = (↑(a11.length) : Int))) (
 .ret (Sum.inr (Sum.inl ([], (false, ()))))) (
 .grd (decide (blen a11 r0.data <= (140737488355328 : Nat))) (
 .ret (Sum.inl (wW .i64 (a0 + 1), (a1, (a2, (a3, (a4, (a5, (a6, (a7, (a8, (a9, (a10, (bcat a11 r0.data, ())))))))))))))))))) (
 .ret (Sum.inr (Sum.inr (a3, (a4, (a5, (a6, (a7, (a8, (a9, (a10, (a11, ()))))))))))))
def fWhole_loop28_3 (x : ty11_) : Option (((List UInt8) × (Bool × Unit)) ⊕ ty12_) := loopO 280003 (fun x => (fWhole_step28_3 x).eval) 18446744073709551616 x
def fWhole_ap : List VP1 := [.agg [.i .u32, .i .u32, .i .i64, .i .i64, .i .i64, .i .i64, .s, .st 5 false]]
def fWhole_rp : SP := ⟨1, [(0, .tup [.one (.s), .one (.b)])], []⟩
def fWhole_tree : (Int × (Int × (Int × (Int × (Int × (Int × ((List UInt8) × ((List TPart) × Unit)))))))) -> Tr ((List UInt8) × (Bool × Unit)) :=
 fun (a0, a1, a2, a3, a4, a5, a6, a7, _) =>
 .opt ((fWhole_loop28_3 (0, (a7, ((↑(a7.length) : Int), (a0, (a1, (a2, (a3, (a4, (a5, (a6, (a7, ([], ())))))))))))))) (fun r0 =>
 .sum (r0) (fun r1 =>
 .ret (r1.1, (r1.2.1, ()))) (fun r1 =>
 .grd (decide (0 <= wW .i64 ((↑(List.length r1.2.2.2.2.2.2.2.1) : Int) - 1))) (
 .opt (r1.2.2.2.2.2.2.2.1[Int.toNat (wW .i64 ((↑(List.length r1.2.2.2.2.2.2.2.1) : Int) - 1))]?) (fun r2 =>
 .ret (r1.2.2.2.2.2.2.2.2.1, (r2.last, ()))))))
noncomputable def gm36 : List (PF Go.Proofs.Tryz.prog) := gm35 ++ [GS.pf fPut, bWritePF, bStringPF, bLenPF]
theorem fWhole_eq (x : (Int × (Int × (Int × (Int × (Int × (Int × ((List UInt8) × ((List TPart) × Unit))))))))) : fnTr Tryz.prog cod gm36 [(28, fWhole_L28_3)] 30 28 fWhole_ap fWhole_rp x = fWhole_tree x := by kernel_rfl
def fWhole_fn (x : (Int × (Int × (Int × (Int × (Int × (Int × ((List UInt8) × ((List TPart) × Unit))))))))) : Option ((List UInt8) × (Bool × Unit)) := (fWhole_tree x).eval
def fWhole : FS Tryz.prog := ⟨28, fWhole_ap, fWhole_rp, fWhole_fn, fun x r h => fnTr_sound (cod := cod) (Γ := gm36) (Λs := [(28, fWhole_L28_3)]) (n := 30) ((congrArg Tr.eval (fWhole_eq x)).trans h)⟩
def fIdx_L23_2 : LS := ⟨2, [(1000200, 1000200)], ⟨19, [(8, .v (.one (.i .i64))), (0, .v (.one (.st 6 false))), (1, .v (.one (.clp 24 [(1000200, 0)]))), (7, .v (.one (.i .i64)))], [(1000200, .cells [.i .u32, .i .u32, .i .i64, .i .i64, .i .i64, .i .i64, .s, .nil])]⟩, [⟨none, [(1000200, 1000200)], ⟨19, [(4, .v (.one (.i .i64)))], [(1000200, .cells [.i .u32, .i .u32, .i .i64, .i .i64, .i .i64, .i .i64, .s, .nil])]⟩⟩, ⟨some 0, [(1000200, 1000200)], ⟨19, [], [(1000200, .cells [.i .u32, .i .u32, .i .i64, .i .i64, .i .i64, .i .i64, .s, .nil])]⟩⟩], []⟩
abbrev ty13_ : Type := (Int × ((List THeap) × (Int × (Int × (Int × (Int × (Int × (Int × (Int × ((List UInt8) × Unit))))))))))
def fIdx_step23_2 : ty13_ -> Tr (ty13_ ⊕ ((Int × (Int × (Int × (Int × (Int × (Int × (Int × ((List UInt8) × Unit)))))))) ⊕ (Int × (Int × (Int × (Int × (Int × (Int × ((List UInt8) × Unit))))))))) :=
 fun (a0, a1, a2, a3, a4, a5, a6, a7, a8, a9, _) =>
 .ite (decide (a0 < a2)) (
 .grd (decide (0 <= a0)) (
 .opt (a1[Int.toNat a0]?) (fun r0 =>
 .opt ((fSameKey_fn (r0.from', (r0.to, (r0.proto, (r0.id, (r0.tos, (r0.life, (r0.options, (r0.parts, (a3, (a4, (a5, (a6, (a7, (a8, (a9, ([], ())))))))))))))))))) (fun r1 =>
 .ite (r1.1) (
 .ret (Sum.inr (Sum.inl (a0, (a3, (a4, (a5, (a6, (a7, (a8, (a9, ()))))))))))) (
 .ret (Sum.inl (wW .i64 (a0 + 1), (a1, (a2, (a3, (a4, (a5, (a6, (a7, (a8, (a9, ())))))))))))))))) (
 .ret (Sum.inr (Sum.inr (a3, (a4, (a5, (a6, (a7, (a8, (a9, ()))))))))))
def fIdx_loop23_2 (x : ty13_) : Option ((Int × (Int × (Int × (Int × (Int × (Int × (Int × ((List UInt8) × Unit)))))))) ⊕ (Int × (Int × (Int × (Int × (Int × (Int × ((List UInt8) × Unit)))))))) := loopO 230002 (fun x => (fIdx_step23_2 x).eval) 18446744073709551616 x
def fIdx_ap : SP := ⟨19, [(0, .v (.one (.st 6 false))), (1, .v (.one (.clp 24 [(1000200, 0)])))], [(1000200, .cells [.i .u32, .i .u32, .i .i64, .i .i64, .i .i64, .i .i64, .s, .nil])]⟩
def fIdx_rp : SP := ⟨1, [(0, .v (.one (.i .i64)))], [(1000200, .cells [.i .u32, .i .u32, .i .i64, .i .i64, .i .i64, .i .i64, .s, .nil])]⟩
def fIdx_tree : ((List THeap) × (Int × (Int × (Int × (Int × (Int × (Int × ((List UInt8) × Unit)))))))) -> Tr (Int × (Int × (Int × (Int × (Int × (Int × (Int × ((List UInt8) × Unit)))))))) :=
 fun (a0, a1, a2, a3, a4, a5, a6, a7, _) =>
 .opt ((fIdx_loop23_2 (0, (a0, ((↑(a0.length) : Int), (a1, (a2, (a3, (a4, (a5, (a6, (a7, ())))))))))))) (fun r0 =>
 .sum (r0) (fun r1 =>
 .ret (r1.1, (r1.2.1, (r1.2.2.1, (r1.2.2.2.1, (r1.2.2.2.2.1, (r1.2.2.2.2.2.1, (r1.2.2.2.2.2.2.1, (r1.2.2.2.2.2.2.2.1, ()))))))))) (fun r1 =>
 .ret ((-1 : Int), (r1.1, (r1.2.1, (r1.2.2.1, (r1.2.2.2.1, (r1.2.2.2.2.1, (r1.2.2.2.2.2.1, (r1.2.2.2.2.2.2.1, ()))))))))))
noncomputable def gm37 : List (PF Go.Proofs.Tryz.prog) := gm36 ++ [FS.pf fWhole]
theorem fIdx_eq (x : ((List THeap) × (Int × (Int × (Int × (Int × (Int × (Int × ((List UInt8) × Unit))))))))) : gsTr Tryz.prog cod gm37 [(23, fIdx_L23_2)] 30 23 fIdx_ap fIdx_rp x = fIdx_tree x := by kernel_rfl
def fIdx_fn (x : ((List THeap) × (Int × (Int × (Int × (Int × (Int × (Int × ((List UInt8) × Unit))))))))) : Option (Int × (Int × (Int × (Int × (Int × (Int × (Int × ((List UInt8) × Unit)))))))) := (fIdx_tree x).eval
def fIdx : GS Tryz.prog := ⟨23, [0, 0], fIdx_ap, fIdx_rp, fIdx_fn, fun x r h ys m g he hg => gs_sound (cod := cod) (Γ := gm37) (Λs := [(23, fIdx_L23_2)]) (n := 30) ((congrArg Tr.eval (fIdx_eq x)).trans h) he hg⟩
def fFeed_L9_160023 : LS := ⟨160023, [], ⟨0, [], []⟩, [⟨some 9998, [(5, 5), (22000, 22000)], ⟨179, [(5, .v (.one (.ptr 5 0))), (0, .v (.one (.dp 22000))), (13, .v (.one (.i .i64))), (14, .v (.one (.dpr 22000 8 0))), (15, .v (.one (.b)))], [(5, .cells [.i .i64, .i .i64, .b, .b, .i .i64, .i .i64, .i .i64, .i .u32, .i .u32, .s, .s]), (22000, .deep 73 82 6)]⟩⟩], []⟩
def fFeed_L9_160015 : LS := ⟨160015, [], ⟨0, [], []⟩, [⟨some 9998, [(5, 5), (22000, 22000), (3, 3)], ⟨179, [(5, .v (.one (.ptr 5 0))), (13, .v (.one (.i .i64))), (0, .v (.one (.dp 22000))), (3, .v (.one (.ptr 3 0)))], [(5, .cells [.i .i64, .i .i64, .b, .b, .i .i64, .i .i64, .i .i64, .i .u32, .i .u32, .s, .s]), (22000, .deep 73 82 6), (3, .cells [.i .i64, .i .i64, .b, .b, .i .i64, .i .i64, .i .i64, .i .u32, .i .u32, .s, .s])]⟩⟩], []⟩
def fFeed_L9_100008 : LS := ⟨100008, [], ⟨0, [], []⟩, [⟨some 9998, [(5, 5), (3, 3), (22000, 22000)], ⟨179, [(46, .v (.one (.b))), (5, .v (.one (.ptr 5 0))), (3, .v (.one (.ptr 3 0))), (0, .v (.one (.dp 22000)))], [(5, .cells [.i .i64, .i .i64, .b, .b, .i .i64, .i .i64, .i .i64, .i .u32, .i .u32, .s, .s]), (3, .cells [.i .i64, .i .i64, .b, .b, .i .i64, .i .i64, .i .i64, .i .u32, .i .u32, .s, .s]), (22000, .deep 73 82 6)]⟩⟩], []⟩
def fFeed_ap : List VP1 := [.one (.st 6 false), .agg [.i .i64, .i .i64, .b, .b, .i .i64, .i .i64, .i .i64, .i .u32, .i .u32, .s, .s]]
def fFeed_rp : SP := ⟨1, [(0, .tup [.one (.st 6 true), .agg [.i .i64, .i .i64, .b, .b, .i .i64, .i .i64, .i .i64, .i .u32, .i .u32, .s, .s], .one (.b), .one (.i .i64)])], []⟩
abbrev ty14_ : Type := ((List THeap) × (Int × (Int × (Bool × (Bool × (Int × (Int × (Int × (Int × (Int × ((List UInt8) × ((List UInt8) × Unit))))))))))))
abbrev ty15_ : Type := ((List THeap) × (Int × (Int × (Bool × (Bool × (Int × (Int × (Int × (Int × (Int × ((List UInt8) × ((List UInt8) × (Bool × (Int × Unit))))))))))))))
abbrev ty16_ : Type := (Bool × (Nat × (Int × (Int × (Bool × (Bool × (Int × (Int × (Int × (Int × (Int × ((List UInt8) × ((List UInt8) × (Int × (Int × (Bool × (Bool × (Int × (Int × (Int × (Int × (Int × ((List UInt8) × ((List UInt8) × ((List THeap) × Unit)))))))))))))))))))))))))
abbrev ty17_ : Type := (Int × (Nat × (Int × (Int × (Bool × (Bool × (Int × (Int × (Int × (Int × (Int × ((List UInt8) × ((List UInt8) × ((List THeap) × (Int × (Int × (Bool × (Bool × (Int × (Int × (Int × (Int × (Int × ((List UInt8) × ((List UInt8) × Unit)))))))))))))))))))))))))
abbrev ty18_ : Type := (Int × (Nat × (Bool × (Int × (Int × (Bool × (Bool × (Int × (Int × (Int × (Int × (Int × ((List UInt8) × ((List UInt8) × ((List THeap) × Unit)))))))))))))))
def fFeed_tree : ty14_ -> Tr ty15_ :=
 fun (a0, a1, a2, a3, a4, a5, a6, a7, a8, a9, a10, a11, _) =>
 .opt ((fOwn_fn (a0, ()))) (fun r0 =>
 .opt ((fCheck_fn (r0.2.1, ()))) (fun r1 =>
 .ite (!decide (r1.1 = 0)) (
 .ret (r0.2.1, (0, (0, (false, (false, (0, (0, (0, (0, (0, ([], ([], (false, (r1.1, ()))))))))))))))) (
 .opt ((ipWrite_fn (a1, (a2, (a3, (a4, (a5, (a6, (a7, (a8, (a9, (a10, (a11, ()))))))))))))) (fun r2 =>
 .ite (!decide (r2.2.1 = 0)) (
 .ret (r0.2.1, (0, (0, (false, (false, (0, (0, (0, (0, (0, ([], ([], (false, (r2.2.1, ()))))))))))))))) (
 .opt (Tr.eval (α := ty16_) (
 .ite (!a4) (
 .grd (decide (List.length r0.2.fst = List.length r0.2.1)) (
 .ret (decide (a5 = 0), (r0.1, (0, (0, (false, (false, (0, (0, (0, (0, (0, ([], ([], (a1, (a2, (a3, (a4, (a5, (a6, (a7, (a8, (a9, (a10, (a11, (r0.2.1, ()))))))))))))))))))))))))))) (
 .grd (decide (List.length r0.2.fst = List.length r0.2.1)) (
 .ret (false, (r0.1, (0, (0, (false, (false, (0, (0, (0, (0, (0, ([], ([], (a1, (a2, (a3, (a4, (a5, (a6, (a7, (a8, (a9, (a10, (a11, (r0.2.1, ()))))))))))))))))))))))))))))) (fun r3 =>
 .ite (r3.1) (
 .ret (r3.2.2.2.2.2.2.2.2.2.2.2.2.2.2.2.2.2.2.2.2.2.2.2.2.1, (r3.2.2.2.2.2.2.2.2.2.2.2.2.2.1, (r3.2.2.2.2.2.2.2.2.2.2.2.2.2.2.1, (r3.2.2.2.2.2.2.2.2.2.2.2.2.2.2.2.1, (r3.2.2.2.2.2.2.2.2.2.2.2.2.2.2.2.2.1, (r3.2.2.2.2.2.2.2.2.2.2.2.2.2.2.2.2.2.1, (r3.2.2.2.2.2.2.2.2.2.2.2.2.2.2.2.2.2.2.1, (r3.2.2.2.2.2.2.2.2.2.2.2.2.2.2.2.2.2.2.2.1, (r3.2.2.2.2.2.2.2.2.2.2.2.2.2.2.2.2.2.2.2.2.1, (r3.2.2.2.2.2.2.2.2.2.2.2.2.2.2.2.2.2.2.2.2.2.1, (r3.2.2.2.2.2.2.2.2.2.2.2.2.2.2.2.2.2.2.2.2.2.2.1, (r3.2.2.2.2.2.2.2.2.2.2.2.2.2.2.2.2.2.2.2.2.2.2.2.1, (true, (0, ()))))))))))))))) (
 .opt ((fRefused_fn (r3.2.2.2.2.2.2.2.2.2.2.2.2.2.1, (r3.2.2.2.2.2.2.2.2.2.2.2.2.2.2.1, (r3.2.2.2.2.2.2.2.2.2.2.2.2.2.2.2.1, (r3.2.2.2.2.2.2.2.2.2.2.2.2.2.2.2.2.1, (r3.2.2.2.2.2.2.2.2.2.2.2.2.2.2.2.2.2.1, (r3.2.2.2.2.2.2.2.2.2.2.2.2.2.2.2.2.2.2.1, (r3.2.2.2.2.2.2.2.2.2.2.2.2.2.2.2.2.2.2.2.1, (r3.2.2.2.2.2.2.2.2.2.2.2.2.2.2.2.2.2.2.2.2.1, (r3.2.2.2.2.2.2.2.2.2.2.2.2.2.2.2.2.2.2.2.2.2.1, (r3.2.2.2.2.2.2.2.2.2.2.2.2.2.2.2.2.2.2.2.2.2.2.1, (r3.2.2.2.2.2.2.2.2.2.2.2.2.2.2.2.2.2.2.2.2.2.2.2.1, ()))))))))))))) (fun r4 =>
 .ite (!decide (r4.1 = 0)) (
 .ret (r3.2.2.2.2.2.2.2.2.2.2.2.2.2.2.2.2.2.2.2.2.2.2.2.2.1, (0, (0, (false, (false, (0, (0, (0, (0, (0, ([], ([], (false, (r4.1, ()))))))))))))))) (
 .opt ((fIdx_fn (r3.2.2.2.2.2.2.2.2.2.2.2.2.2.2.2.2.2.2.2.2.2.2.2.2.1, (r3.2.2.2.2.2.2.2.2.2.2.2.2.2.2.2.2.2.2.2.2.1, (r3.2.2.2.2.2.2.2.2.2.2.2.2.2.2.2.2.2.2.2.2.2.1, (r3.2.2.2.2.2.2.2.2.2.2.2.2.2.2.2.2.2.2.2.1, (r3.2.2.2.2.2.2.2.2.2.2.2.2.2.2.1, (0, (0, ([], ())))))))))) (fun r5 =>
 .opt (Tr.eval (α := ty17_) (
 .ite (decide (r5.1 < 0)) (
 .ite (decide ((↑(List.length r3.2.2.2.2.2.2.2.2.2.2.2.2.2.2.2.2.2.2.2.2.2.2.2.2.fst) : Int) = 16)) (
 .grd (decide (List.length r3.2.2.2.2.2.2.2.2.2.2.2.2.2.2.2.2.2.2.2.2.2.2.2.2.fst = List.length r3.2.2.2.2.2.2.2.2.2.2.2.2.2.2.2.2.2.2.2.2.2.2.2.2.1)) (
 .opt ((fDel_fn (r3.2.1, (0, (1, (r3.2.2.2.2.2.2.2.2.2.2.2.2.2.2.2.2.2.2.2.2.2.2.2.2.1, ())))))) (fun r6 =>
 .grd (decide ((List.length r6.2.1 + List.length [THeap.mk r5.2.1 r5.2.2.1 r5.2.2.2.1 r5.2.2.2.2.1 r5.2.2.2.2.2.1 r5.2.2.2.2.2.2.1 r5.2.2.2.2.2.2.2.1 []]) * (80 : Nat) <= (140737488355328 : Nat) /\ List.length r6.2.1 + List.length [THeap.mk r5.2.1 r5.2.2.1 r5.2.2.2.1 r5.2.2.2.2.1 r5.2.2.2.2.2.1 r5.2.2.2.2.2.2.1 r5.2.2.2.2.2.2.2.1 []] <= (9223372036854775807 : Nat))) (
 .grd (decide (List.length (r6.2.1 ++ [THeap.mk r5.2.1 r5.2.2.1 r5.2.2.2.1 r5.2.2.2.2.1 r5.2.2.2.2.2.1 r5.2.2.2.2.2.2.1 r5.2.2.2.2.2.2.2.1 []]) = List.length (r6.2.1 ++ [THeap.mk r5.2.1 r5.2.2.1 r5.2.2.2.1 r5.2.2.2.2.1 r5.2.2.2.2.2.1 r5.2.2.2.2.2.2.1 r5.2.2.2.2.2.2.2.1 []]))) (
 .ret ((↑(List.length r6.2.fst) : Int), (List.length (r6.2.1 ++ [THeap.mk r5.2.1 r5.2.2.1 r5.2.2.2.1 r5.2.2.2.2.1 r5.2.2.2.2.2.1 r5.2.2.2.2.2.2.1 r5.2.2.2.2.2.2.2.1 []]), (r3.2.2.1, (r3.2.2.2.1, (r3.2.2.2.2.1, (r3.2.2.2.2.2.1, (r3.2.2.2.2.2.2.1, (r3.2.2.2.2.2.2.2.1, (r3.2.2.2.2.2.2.2.2.1, (r3.2.2.2.2.2.2.2.2.2.1, (r3.2.2.2.2.2.2.2.2.2.2.1, (r3.2.2.2.2.2.2.2.2.2.2.2.1, (r3.2.2.2.2.2.2.2.2.2.2.2.2.1, (r6.2.1 ++ [THeap.mk r5.2.1 r5.2.2.1 r5.2.2.2.1 r5.2.2.2.2.1 r5.2.2.2.2.2.1 r5.2.2.2.2.2.2.1 r5.2.2.2.2.2.2.2.1 []], (r3.2.2.2.2.2.2.2.2.2.2.2.2.2.1, (r3.2.2.2.2.2.2.2.2.2.2.2.2.2.2.1, (r3.2.2.2.2.2.2.2.2.2.2.2.2.2.2.2.1, (r3.2.2.2.2.2.2.2.2.2.2.2.2.2.2.2.2.1, (r3.2.2.2.2.2.2.2.2.2.2.2.2.2.2.2.2.2.1, (r3.2.2.2.2.2.2.2.2.2.2.2.2.2.2.2.2.2.2.1, (r3.2.2.2.2.2.2.2.2.2.2.2.2.2.2.2.2.2.2.2.1, (r3.2.2.2.2.2.2.2.2.2.2.2.2.2.2.2.2.2.2.2.2.1, (r3.2.2.2.2.2.2.2.2.2.2.2.2.2.2.2.2.2.2.2.2.2.1, (r3.2.2.2.2.2.2.2.2.2.2.2.2.2.2.2.2.2.2.2.2.2.2.1, (r3.2.2.2.2.2.2.2.2.2.2.2.2.2.2.2.2.2.2.2.2.2.2.2.1, ())))))))))))))))))))))))))))))) (
 .grd (decide ((List.length r3.2.2.2.2.2.2.2.2.2.2.2.2.2.2.2.2.2.2.2.2.2.2.2.2.1 + List.length [THeap.mk r5.2.1 r5.2.2.1 r5.2.2.2.1 r5.2.2.2.2.1 r5.2.2.2.2.2.1 r5.2.2.2.2.2.2.1 r5.2.2.2.2.2.2.2.1 []]) * (80 : Nat) <= (140737488355328 : Nat) /\ List.length r3.2.2.2.2.2.2.2.2.2.2.2.2.2.2.2.2.2.2.2.2.2.2.2.2.1 + List.length [THeap.mk r5.2.1 r5.2.2.1 r5.2.2.2.1 r5.2.2.2.2.1 r5.2.2.2.2.2.1 r5.2.2.2.2.2.2.1 r5.2.2.2.2.2.2.2.1 []] <= (9223372036854775807 : Nat))) (
 .grd (decide (List.length (r3.2.2.2.2.2.2.2.2.2.2.2.2.2.2.2.2.2.2.2.2.2.2.2.2.1 ++ [THeap.mk r5.2.1 r5.2.2.1 r5.2.2.2.1 r5.2.2.2.2.1 r5.2.2.2.2.2.1 r5.2.2.2.2.2.2.1 r5.2.2.2.2.2.2.2.1 []]) = List.length (r3.2.2.2.2.2.2.2.2.2.2.2.2.2.2.2.2.2.2.2.2.2.2.2.2.1 ++ [THeap.mk r5.2.1 r5.2.2.1 r5.2.2.2.1 r5.2.2.2.2.1 r5.2.2.2.2.2.1 r5.2.2.2.2.2.2.1 r5.2.2.2.2.2.2.2.1 []]))) (
 .ret ((↑(List.length r3.2.2.2.2.2.2.2.2.2.2.2.2.2.2.2.2.2.2.2.2.2.2.2.2.fst) : Int), (List.length (r3.2.2.2.2.2.2.2.2.2.2.2.2.2.2.2.2.2.2.2.2.2.2.2.2.1 ++ [THeap.mk r5.2.1 r5.2.2.1 r5.2.2.2.1 r5.2.2.2.2.1 r5.2.2.2.2.2.1 r5.2.2.2.2.2.2.1 r5.2.2.2.2.2.2.2.1 []]), (r3.2.2.1, (r3.2.2.2.1, (r3.2.2.2.2.1, (r3.2.2.2.2.2.1, (r3.2.2.2.2.2.2.1, (r3.2.2.2.2.2.2.2.1, (r3.2.2.2.2.2.2.2.2.1, (r3.2.2.2.2.2.2.2.2.2.1, (r3.2.2.2.2.2.2.2.2.2.2.1, (r3.2.2.2.2.2.2.2.2.2.2.2.1, (r3.2.2.2.2.2.2.2.2.2.2.2.2.1, (r3.2.2.2.2.2.2.2.2.2.2.2.2.2.2.2.2.2.2.2.2.2.2.2.2.1 ++ [THeap.mk r5.2.1 r5.2.2.1 r5.2.2.2.1 r5.2.2.2.2.1 r5.2.2.2.2.2.1 r5.2.2.2.2.2.2.1 r5.2.2.2.2.2.2.2.1 []], (r3.2.2.2.2.2.2.2.2.2.2.2.2.2.1, (r3.2.2.2.2.2.2.2.2.2.2.2.2.2.2.1, (r3.2.2.2.2.2.2.2.2.2.2.2.2.2.2.2.1, (r3.2.2.2.2.2.2.2.2.2.2.2.2.2.2.2.2.1, (r3.2.2.2.2.2.2.2.2.2.2.2.2.2.2.2.2.2.1, (r3.2.2.2.2.2.2.2.2.2.2.2.2.2.2.2.2.2.2.1, (r3.2.2.2.2.2.2.2.2.2.2.2.2.2.2.2.2.2.2.2.1, (r3.2.2.2.2.2.2.2.2.2.2.2.2.2.2.2.2.2.2.2.2.1, (r3.2.2.2.2.2.2.2.2.2.2.2.2.2.2.2.2.2.2.2.2.2.1, (r3.2.2.2.2.2.2.2.2.2.2.2.2.2.2.2.2.2.2.2.2.2.2.1, (r3.2.2.2.2.2.2.2.2.2.2.2.2.2.2.2.2.2.2.2.2.2.2.2.1, ()))))))))))))))))))))))))))))) (
 .grd (decide (List.length r3.2.2.2.2.2.2.2.2.2.2.2.2.2.2.2.2.2.2.2.2.2.2.2.2.fst = List.length r3.2.2.2.2.2.2.2.2.2.2.2.2.2.2.2.2.2.2.2.2.2.2.2.2.1)) (
 .ret (r5.1, (r3.2.1, (r3.2.2.1, (r3.2.2.2.1, (r3.2.2.2.2.1, (r3.2.2.2.2.2.1, (r3.2.2.2.2.2.2.1, (r3.2.2.2.2.2.2.2.1, (r3.2.2.2.2.2.2.2.2.1, (r3.2.2.2.2.2.2.2.2.2.1, (r3.2.2.2.2.2.2.2.2.2.2.1, (r3.2.2.2.2.2.2.2.2.2.2.2.1, (r3.2.2.2.2.2.2.2.2.2.2.2.2.1, (r3.2.2.2.2.2.2.2.2.2.2.2.2.2.2.2.2.2.2.2.2.2.2.2.2.1, (r3.2.2.2.2.2.2.2.2.2.2.2.2.2.1, (r3.2.2.2.2.2.2.2.2.2.2.2.2.2.2.1, (r3.2.2.2.2.2.2.2.2.2.2.2.2.2.2.2.1, (r3.2.2.2.2.2.2.2.2.2.2.2.2.2.2.2.2.1, (r3.2.2.2.2.2.2.2.2.2.2.2.2.2.2.2.2.2.1, (r3.2.2.2.2.2.2.2.2.2.2.2.2.2.2.2.2.2.2.1, (r3.2.2.2.2.2.2.2.2.2.2.2.2.2.2.2.2.2.2.2.1, (r3.2.2.2.2.2.2.2.2.2.2.2.2.2.2.2.2.2.2.2.2.1, (r3.2.2.2.2.2.2.2.2.2.2.2.2.2.2.2.2.2.2.2.2.2.1, (r3.2.2.2.2.2.2.2.2.2.2.2.2.2.2.2.2.2.2.2.2.2.2.1, (r3.2.2.2.2.2.2.2.2.2.2.2.2.2.2.2.2.2.2.2.2.2.2.2.1, ()))))))))))))))))))))))))))))) (fun r6 =>
 .grd (decide (0 <= r6.1 /\ r6.1 < (↑(List.length r6.2.2.2.2.2.2.2.2.2.2.2.2.2.fst) : Int))) (
 .opt ((fPut_fn (Int.toNat r6.1, (wW .i64 ((8 : Int) * r6.2.2.2.2.2.2.2.2.2.2.2.2.2.2.2.2.2.2.1), (r6.2.2.2.2.2.2.2.2.2.2.2.2.2.2.2.2.2.2.2.2.2.2.2.2.1, (!r6.2.2.2.2.2.2.2.2.2.2.2.2.2.2.2.2.2.1, (r6.2.2.2.2.2.2.2.2.2.2.2.2.2.1, ()))))))) (fun r7 =>
 .ite (!decide (r7.2.1 = 0)) (
 .grd (decide (List.length r6.2.2.2.2.2.2.2.2.2.2.2.2.2.fst = List.length r7.2.2.1)) (
 .opt ((fDel_fn (r6.2.1, (r6.1, (wW .i64 (r6.1 + 1), (r7.2.2.1, ())))))) (fun r8 =>
 .ret (r8.2.1, (0, (0, (false, (false, (0, (0, (0, (0, (0, ([], ([], (false, (r7.2.1, ()))))))))))))))))) (
 .opt (Tr.eval (α := (Nat × ty18_)) (
 .ite (r7.1) (
 .ite (decide (r6.2.2.2.2.2.2.2.2.2.2.2.2.2.2.2.2.2.2.1 = 0)) (
 .opt (r7.2.2.1[Int.toNat r6.1]?) (fun r8 =>
 .opt ((List.set r7.2.2.1 (Int.toNat r6.1) (THeap.mk r8.from' r8.to r8.proto r8.id r6.2.2.2.2.2.2.2.2.2.2.2.2.2.2.1 r8.life r8.options r8.parts))[Int.toNat r6.1]?) (fun r9 =>
 .opt ((List.set (List.set r7.2.2.1 (Int.toNat r6.1) (THeap.mk r8.from' r8.to r8.proto r8.id r6.2.2.2.2.2.2.2.2.2.2.2.2.2.2.1 r8.life r8.options r8.parts)) (Int.toNat r6.1) (THeap.mk r9.from' r9.to r9.proto r9.id r9.tos r6.2.2.2.2.2.2.2.2.2.2.2.2.2.2.2.2.2.2.2.1 r9.options r9.parts))[Int.toNat r6.1]?) (fun r10 =>
 .grd (decide (List.length r6.2.2.2.2.2.2.2.2.2.2.2.2.2.fst = List.length (List.set (List.set (List.set r7.2.2.1 (Int.toNat r6.1) (THeap.mk r8.from' r8.to r8.proto r8.id r6.2.2.2.2.2.2.2.2.2.2.2.2.2.2.1 r8.life r8.options r8.parts)) (Int.toNat r6.1) (THeap.mk r9.from' r9.to r9.proto r9.id r9.tos r6.2.2.2.2.2.2.2.2.2.2.2.2.2.2.2.2.2.2.2.1 r9.options r9.parts)) (Int.toNat r6.1) (THeap.mk r10.from' r10.to r10.proto r10.id r10.tos r10.life r6.2.2.2.2.2.2.2.2.2.2.2.2.2.2.2.2.2.2.2.2.2.2.2.1 r10.parts)))) (
 .ret (r6.2.1, (r6.1, (Int.toNat r6.1, (r7.1, (r6.2.2.1, (r6.2.2.2.1, (r6.2.2.2.2.1, (r6.2.2.2.2.2.1, (r6.2.2.2.2.2.2.1, (r6.2.2.2.2.2.2.2.1, (r6.2.2.2.2.2.2.2.2.1, (r6.2.2.2.2.2.2.2.2.2.1, (r6.2.2.2.2.2.2.2.2.2.2.1, (r6.2.2.2.2.2.2.2.2.2.2.2.1, (r6.2.2.2.2.2.2.2.2.2.2.2.2.1, (List.set (List.set (List.set r7.2.2.1 (Int.toNat r6.1) (THeap.mk r8.from' r8.to r8.proto r8.id r6.2.2.2.2.2.2.2.2.2.2.2.2.2.2.1 r8.life r8.options r8.parts)) (Int.toNat r6.1) (THeap.mk r9.from' r9.to r9.proto r9.id r9.tos r6.2.2.2.2.2.2.2.2.2.2.2.2.2.2.2.2.2.2.2.1 r9.options r9.parts)) (Int.toNat r6.1) (THeap.mk r10.from' r10.to r10.proto r10.id r10.tos r10.life r6.2.2.2.2.2.2.2.2.2.2.2.2.2.2.2.2.2.2.2.2.2.2.2.1 r10.parts), ()))))))))))))))))))))) (
 .grd (decide (List.length r6.2.2.2.2.2.2.2.2.2.2.2.2.2.fst = List.length r7.2.2.1)) (
 .ret (r6.2.1, (r6.1, (Int.toNat r6.1, (r7.1, (r6.2.2.1, (r6.2.2.2.1, (r6.2.2.2.2.1, (r6.2.2.2.2.2.1, (r6.2.2.2.2.2.2.1, (r6.2.2.2.2.2.2.2.1, (r6.2.2.2.2.2.2.2.2.1, (r6.2.2.2.2.2.2.2.2.2.1, (r6.2.2.2.2.2.2.2.2.2.2.1, (r6.2.2.2.2.2.2.2.2.2.2.2.1, (r6.2.2.2.2.2.2.2.2.2.2.2.2.1, (r7.2.2.1, ()))))))))))))))))))) (
 .grd (decide (List.length r6.2.2.2.2.2.2.2.2.2.2.2.2.2.fst = List.length r7.2.2.1)) (
 .ret (r6.2.1, (r6.1, (Int.toNat r6.1, (r7.1, (r6.2.2.1, (r6.2.2.2.1, (r6.2.2.2.2.1, (r6.2.2.2.2.2.1, (r6.2.2.2.2.2.2.1, (r6.2.2.2.2.2.2.2.1, (r6.2.2.2.2.2.2.2.2.1, (r6.2.2.2.2.2.2.2.2.2.1, (r6.2.2.2.2.2.2.2.2.2.2.1, (r6.2.2.2.2.2.2.2.2.2.2.2.1, (r6.2.2.2.2.2.2.2.2.2.2.2.2.1, (r7.2.2.1, ())))))))))))))))))))) (fun r8 =>
 .opt (r8.2.2.2.2.2.2.2.2.2.2.2.2.2.2.2.1[r8.2.2.1]?) (fun r9 =>
 .opt ((fWhole_fn (r9.from', (r9.to, (r9.proto, (r9.id, (r9.tos, (r9.life, (r9.options, (r9.parts, ())))))))))) (fun r10 =>
 .ite (!r8.2.2.2.1) (
 .ret (List.modify r8.2.2.2.2.2.2.2.2.2.2.2.2.2.2.2.1 r8.2.2.1 fun x => THeap.mk x.from' x.to x.proto x.id x.tos x.life x.options r9.parts, (0, (0, (false, (false, (0, (0, (0, (0, (0, ([], ([], (false, (0, ()))))))))))))))) (
 .ite (!r10.2.1) (
 .ret (List.modify r8.2.2.2.2.2.2.2.2.2.2.2.2.2.2.2.1 r8.2.2.1 fun x => THeap.mk x.from' x.to x.proto x.id x.tos x.life x.options r9.parts, (0, (0, (false, (false, (0, (0, (0, (0, (0, ([], ([], (false, (0, ()))))))))))))))) (
 .opt (r8.2.2.2.2.2.2.2.2.2.2.2.2.2.2.2.1[r8.2.2.1]?) (fun r11 =>
 .opt (r8.2.2.2.2.2.2.2.2.2.2.2.2.2.2.2.1[r8.2.2.1]?) (fun r12 =>
 .opt (r8.2.2.2.2.2.2.2.2.2.2.2.2.2.2.2.1[r8.2.2.1]?) (fun r13 =>
 .opt (r8.2.2.2.2.2.2.2.2.2.2.2.2.2.2.2.1[r8.2.2.1]?) (fun r14 =>
 .opt (r8.2.2.2.2.2.2.2.2.2.2.2.2.2.2.2.1[r8.2.2.1]?) (fun r15 =>
 .opt (r8.2.2.2.2.2.2.2.2.2.2.2.2.2.2.2.1[r8.2.2.1]?) (fun r16 =>
 .opt (r8.2.2.2.2.2.2.2.2.2.2.2.2.2.2.2.1[r8.2.2.1]?) (fun r17 =>
 .grd (decide (List.length r8.2.2.2.2.2.2.2.2.2.2.2.2.2.2.2.fst = List.length (List.modify r8.2.2.2.2.2.2.2.2.2.2.2.2.2.2.2.1 r8.2.2.1 fun x => THeap.mk x.from' x.to x.proto x.id x.tos x.life x.options r9.parts))) (
 .opt ((fDel_fn (r8.1, (r8.2.1, (wW .i64 (r8.2.1 + 1), (List.modify r8.2.2.2.2.2.2.2.2.2.2.2.2.2.2.2.1 r8.2.2.1 fun x => THeap.mk x.from' x.to x.proto x.id x.tos x.life x.options r9.parts, ())))))) (fun r18 =>
 .ret (r18.2.1, (r11.tos, (r17.id, (false, (false, (0, (r12.life, (r16.proto, (r14.from', (r15.to, (r13.options, (r10.1, (true, (0, ()))))))))))))))))))))))))))))))))))))))))))
noncomputable def gm38 : List (PF Go.Proofs.Tryz.prog) := gm37 ++ [GS.pf fIdx]
theorem fFeed_eq (x : ty14_) : fnTr Tryz.prog cod gm38 [(9, fFeed_L9_160023), (9, fFeed_L9_160015), (9, fFeed_L9_100008)] 30 9 fFeed_ap fFeed_rp x = fFeed_tree x := by kernel_rfl
def fFeed_fn (x : ty14_) : Option ty15_ := (fFeed_tree x).eval
def fFeed : FS Tryz.prog := ⟨9, fFeed_ap, fFeed_rp, fFeed_fn, fun x r h => fnTr_sound (cod := cod) (Γ := gm38) (Λs := [(9, fFeed_L9_160023), (9, fFeed_L9_160015), (9, fFeed_L9_100008)]) (n := 30) ((congrArg Tr.eval (fFeed_eq x)).trans h)⟩
end Go.Proofs.YtaeeadldamflcaaGreatDoor.X
namespace Go.Proofs.YtaeeadldamflcaaGreatDoor.X
open Go Go.RowKit Go.Proofs.YtaeeadldamflcaaGreatDoor.Abs
set_option linter.unusedVariables false
theorem acall_glob {P : Program} {f : FuncId} {ys : List V} {r : V} (hn : ys.length <= 900)
  (h : ∀ (w : World) (U : Nat -> Prop) (β : Nat -> Option Abs.Place) (us : Array Value), us.size = ys.length -> (∀ t, RepV w β U w.heap.size (us.getD t undef) ((Abs.look t (argsEnv 0 ys)).getD (.one .bad))) -> Glob U w ->
   ∃ v, RepV w β U w.heap.size v r /\ Calls P f us w fun e w' => e = .returned v /\ w' = w) : ACall P f ys [] fun r' m'' => r' = r /\ m'' = [] := by
 intro w U0 X β0 us hs
 obtain ⟨v, hv, hc⟩ := h w U0 β0 us hs.n hs.env hs.glob
 refine hc.mono ?_
 rintro e w' ⟨rfl, rfl⟩
 refine ⟨v, r, [], rfl, ⟨rfl, rfl⟩, β0, U0, { hs with n := rfl, small := by simp, defers := rfl, env := fun t => ?_ }⟩
 show RepV w' β0 U0 w'.heap.size (#[v].getD t undef) ((Abs.look t [(0, r)]).getD (.one .bad))
 cases t with
 | zero => exact hv
 | succ t => simp [Abs.look]; exact .bad _
end Go.Proofs.YtaeeadldamflcaaGreatDoor.X
namespace Go.Proofs
theorem YtaeeadldamflcaaGreatDoor.X.tz_key (x a : Nat) (hx : x < 18446744073709551616) (hlow : x &&& (18446744073709551616 - x) = a) :
   IntKind.u64.wrap (bits BinOp.and IntKind.u64 (x : Int) (IntKind.u64.wrap (-(x : Int))) * 285870213051353865) / 288230376151711744 = ((a * 285870213051353865 % 18446744073709551616 / 288230376151711744 : Nat) : Int) := by
 by_cases h0 : x = 0
 . subst h0
   simp only [Nat.zero_and] at hlow
   subst hlow
   decide
 . have e1 : IntKind.u64.wrap (-(x : Int)) = ((18446744073709551616 - x : Nat) : Int) := by rw [IntKind.wrap_u64]; omega
   rw [e1, bits_and_u64_nat x _ hx (by omega), hlow, IntKind.wrap_u64]
   omega
set_option maxHeartbeats 1000000 in
set_option maxRecDepth 100000 in
theorem YtaeeadldamflcaaGreatDoor.X.tz_core (x k idx : Nat) (w : World) (hx0 : ((x : Int) == 0) = false)
  (key : IntKind.u64.wrap (bits BinOp.and IntKind.u64 (x : Int) (IntKind.u64.wrap (-(x : Int))) * 285870213051353865) / 288230376151711744 = (idx : Int))
  (hi : idx < 64) (hk : k < 64) (hcell : w.cell? ⟨0, idx, none⟩ = some (.int .u8 k)) :
  Calls Tryz.prog 126 #[.int .u64 x] w fun e w' => e = .returned (.int .i64 k) /\ w' = w := by
 go_enter Tryz.func126, Tryz.ntmps126
 go_wp2_with (simp only [key])
 go_ret
 exact ⟨rfl, rfl⟩
set_option maxRecDepth 100000 in
theorem YtaeeadldamflcaaGreatDoor.X.tz_zero (w : World) :
  Calls Tryz.prog 126 #[.int .u64 0] w fun e w' => e = .returned (.int .i64 64) /\ w' = w := by
 go_enter Tryz.func126, Tryz.ntmps126
 go_wp2
 go_ret
 exact ⟨rfl, rfl⟩
end Go.Proofs
namespace Go.Proofs.YtaeeadldamflcaaGreatDoor.X
open Go Go.RowKit Go.Proofs.YtaeeadldamflcaaGreatDoor.Abs
set_option linter.unusedVariables false
theorem glob_cell {U : Nat -> Prop} {w : World} (h : Glob U w) (j : Nat) (hj : j < 64) : w.cell? ⟨0, j, none⟩ = some (.int .u8 (Lib.deBruijn64tab.getD j 0 : Nat)) := by
 obtain ⟨_, x, y, hx⟩ := h.tabs (0, _) (List.mem_cons_self)
 unfold World.cell?
 simp only
 rw [show w.heap[0]? = _ from hx]
 have hl : j < Lib.deBruijn64tab.length := hj
 show ((Lib.deBruijn64tab.map fun z : Nat => Value.int .u8 (z : Int)).toArray)[j]? = _
 rw [List.getElem?_toArray, List.getElem?_map, List.getD_eq_getElem?_getD, List.getElem?_eq_getElem hl]
 rfl
theorem tz_calls {U : Nat -> Prop} {w : World} (hg : Glob U w) (x : Nat) (hx : x < 18446744073709551616) :
   Calls Tryz.prog 126 #[.int .u64 x] w fun e w' => e = .returned (.int .i64 (Lib.ctz 64 x : Nat)) /\ w' = w := by
 by_cases hx0 : x = 0
 . subst hx0
   exact tz_zero w
 . obtain ⟨hlow, hk⟩ := Lib.lowest_bit 64 x hx0 hx
   obtain ⟨hi, htab⟩ := Lib.deBruijn64_at _ hk
   have hcell := glob_cell hg _ hi
   rw [htab] at hcell
   exact tz_core x _ _ w (by simp <;> omega) (tz_key x _ hx hlow) hi hk hcell
def ctzI (n : Int) : Int := (Lib.ctz 64 n.toNat : Nat)
def tzTr (ys : List V) (m : Mem) : Option (Tr (V × Mem)) :=
 match ys, m with
 | [.one (.d (.i .u64 n))], [] => some (.grd (decide (0 <= n /\ n <= 18446744073709551615)) (.ret (vi .i64 (ctzI n), [])))
 | _, _ => none
def tz64 : PF Tryz.prog where
 f := 126
 own := []
 tr := tzTr
 ok := by
  intro ys m T r m' h hT
  unfold tzTr at h
  split at h
  . rename_i n
    cases h
    have hT' : (Tr.grd (decide (0 <= n /\ n <= 18446744073709551615)) (.ret (vi .i64 (ctzI n), ([] : Mem)))).eval = some (r, m') := hT
    by_cases hn : 0 <= n /\ n <= 18446744073709551615
    case neg => rw [decide_eq_false hn] at hT'; cases hT'
    rw [decide_eq_true hn] at hT'
    cases hT'
    refine ⟨_, [], WkVs_rfl _, trivial, acall_glob (by simp) fun w U β us hsz henv hg => ⟨.int .i64 (ctzI n), .one _ _ (.i .i64 _), ?_⟩⟩
    have h0 : us.getD 0 undef = .int .u64 n := (show RepV w β U w.heap.size (us.getD 0 undef) (vi .u64 n) from henv 0).int
    have e : us = #[.int .u64 n] := by
     obtain ⟨us⟩ := us
     match us, hsz with
     | [a], _ => have ha : a = _ := h0; rw [ha]
    rw [e]
    obtain ⟨x, rfl⟩ := Int.eq_ofNat_of_zero_le hn.1
    exact tz_calls hg x (by omega)
  . cases h
end Go.Proofs.YtaeeadldamflcaaGreatDoor.X
namespace Go.Proofs.YtaeeadldamflcaaGreatDoor.X
open Go Go.RowKit Go.Proofs.YtaeeadldamflcaaGreatDoor.Abs
open Go.IntKind renaming wrap -> wW
set_option maxRecDepth 100000
set_option linter.unusedVariables false
def wMeasuredM : PF Go.Proofs.Tryz.prog := ⟨69, [1], fun _ _ => none, fun _ _ _ _ _ h _ => by cases h⟩
def wKnownM : PF Go.Proofs.Tryz.prog := ⟨89, [1, 0], fun _ _ => none, fun _ _ _ _ _ h _ => by cases h⟩
def wTalkedM : PF Go.Proofs.Tryz.prog := ⟨91, [1, 0], fun _ _ => none, fun _ _ _ _ _ h _ => by cases h⟩
def wLeavesM : PF Go.Proofs.Tryz.prog := ⟨70, [1], fun _ _ => none, fun _ _ _ _ _ h _ => by cases h⟩
def wEntersM : PF Go.Proofs.Tryz.prog := ⟨71, [1], fun _ _ => none, fun _ _ _ _ _ h _ => by cases h⟩
def wGoesM : PF Go.Proofs.Tryz.prog := ⟨43, [1, 0, 0], fun _ _ => none, fun _ _ _ _ _ h _ => by cases h⟩
end Go.Proofs.YtaeeadldamflcaaGreatDoor.X
namespace Go.Proofs.YtaeeadldamflcaaGreatDoor.X
open Go Go.RowKit Go.Proofs.YtaeeadldamflcaaGreatDoor.Abs
set_option linter.unusedVariables false
set_option maxRecDepth 100000
def loopIds : Code -> List Nat
 | .seq a b => loopIds a ++ loopIds b
 | .cond _ a b => loopIds a ++ loopIds b
 | .block _ b => loopIds b
 | .loop b => lid b :: loopIds b
 | _ => []
def unLoops (P : Program) (fs : List Nat) : List (FuncId × LS) := fs.flatMap fun f => match P.funcs[f]? with
 | some fn => match fn.body with
  | some c => (loopIds c).map fun i => (f, ⟨i, [], ⟨0, [], []⟩, [], []⟩)
  | none => []
 | none => []
noncomputable def livesG : List (PF Tryz.prog) := [wMeasuredM, wKnownM, wTalkedM, wLeavesM, wEntersM, wGoesM, tz64, dgWrite.pf, ipWrite.pf, ipHop.pf, swEnds.pf, swFrom.pf]
noncomputable def livesL : List (FuncId × LS) := unLoops Tryz.prog (List.range 128)
theorem lives_run : (execFn Tryz.prog cod livesG livesL 64 7 [] []).eval = some (vb true, []) := by kernel_rfl
def livesTr : List V -> Mem -> Option (Tr (V × Mem))
 | [], [] => some (.ret (vb true, []))
 | _, _ => none
theorem lives_ok : ACall Tryz.prog 7 [] [] fun r' m' => r' = vb true /\ m' = [] := by
 obtain ⟨ys, m2, h1, h2, h3⟩ := execFn_sound (cod := cod) (Γ := livesG) (Λs := livesL) 64 _ _ _ _ _ lives_run
 cases ys with
 | cons => exact h1.elim
 | nil => cases m2 with
  | cons => exact h2.elim
  | nil => exact h3
def tLives : PF Tryz.prog := ⟨7, [], livesTr, fun ys m T r m' h hT => by
 unfold livesTr at h
 split at h
 . cases h; cases hT
   exact ⟨_, _, WkVs_rfl _, WkM_rfl _, lives_ok⟩
 . cases h⟩
end Go.Proofs.YtaeeadldamflcaaGreatDoor.X
namespace Go.Proofs.YtaeeadldamflcaaGreatDoor.X
open Go Go.RowKit Go.Proofs.YtaeeadldamflcaaGreatDoor.Abs
open Go.IntKind renaming wrap -> wW
set_option maxRecDepth 100000
set_option linter.unusedVariables false
def tLetter_ap : List VP1 := [.agg [.i .i64, .i .i64, .s], .one (.i .u32), .one (.i .u32)]
def tLetter_rp : SP := ⟨1, [(0, .tup [.one (.s), .one (.b)])], []⟩
def tLetter_tree : (Int × (Int × ((List UInt8) × (Int × (Int × Unit))))) -> Tr ((List UInt8) × (Bool × Unit)) :=
 fun (a0, a1, a2, a3, a4, _) =>
 .opt ((dgWrite_fn (a0, (a1, (a2, (a3, (a4, ()))))))) (fun r0 =>
 .opt ((ipWrite_fn (0, (0, (false, (false, (0, (9, (17, (a3, (a4, ([], (r0.1, ()))))))))))))) (fun r1 =>
 .ite (decide (r0.2.1 = 0)) (
 .ret (r1.1, (decide (r1.2.1 = 0), ()))) (
 .ret (r1.1, (false, ())))))
noncomputable def gm39 : List (PF Go.Proofs.Tryz.prog) := gm38 ++ [FS.pf fFeed, tLives]
theorem tLetter_eq (x : (Int × (Int × ((List UInt8) × (Int × (Int × Unit)))))) : fnTr Tryz.prog cod gm39 [] 30 4 tLetter_ap tLetter_rp x = tLetter_tree x := by kernel_rfl
def tLetter_fn (x : (Int × (Int × ((List UInt8) × (Int × (Int × Unit)))))) : Option ((List UInt8) × (Bool × Unit)) := (tLetter_tree x).eval
def tLetter : FS Tryz.prog := ⟨4, tLetter_ap, tLetter_rp, tLetter_fn, fun x r h => fnTr_sound (cod := cod) (Γ := gm39) (Λs := []) (n := 30) ((congrArg Tr.eval (tLetter_eq x)).trans h)⟩
def revPk_L8_1 : LS := ⟨1, [(1500100, 1500100)], ⟨28, [(3, .v (.one (.i .i64))), (2, .v (.one (.i .i64))), (0, .v (.one (.own 1500100)))], [(1500100, .row 28 20 false true)]⟩, [⟨some 0, [(1500100, 1500100)], ⟨28, [], [(1500100, .row 28 20 false true)]⟩⟩], []⟩
def revPk_step8_1 : (Int × (Int × ((List TPacket) × Unit))) -> Tr ((Int × (Int × ((List TPacket) × Unit))) ⊕ ((List TPacket) × Unit)) :=
 fun (a0, a1, a2, _) =>
 .ite (decide (a1 < a0)) (
 .grd (decide (0 <= a0 /\ a0 < (↑(a2.length) : Int))) (
 .opt (a2[Int.toNat a0]?) (fun r0 =>
 .grd (decide (0 <= a1 /\ a1 < (↑(a2.length) : Int))) (
 .opt (a2[Int.toNat a1]?) (fun r1 =>
 .grd (decide (0 <= a1 /\ a1 < (↑(a2.length) : Int))) (
 .opt (a2[Int.toNat a1]?) (fun r2 =>
 .grd (decide (0 <= a0 /\ a0 < (↑(a2.length) : Int))) (
 .opt ((List.set a2 (Int.toNat a1) (TPacket.mk r0.tos r0.id r0.whole r0.more r0.start r0.life r0.proto r0.from' r0.to r0.options r0.data))[Int.toNat a0]?) (fun r3 =>
 .grd (decide (a2.length = List.length (List.set (List.set a2 (Int.toNat a1) (TPacket.mk r0.tos r0.id r0.whole r0.more r0.start r0.life r0.proto r0.from' r0.to r0.options r0.data)) (Int.toNat a0) (TPacket.mk r1.tos r1.id r1.whole r1.more r1.start r1.life r1.proto r1.from' r1.to r1.options r1.data)))) (
 .ret (Sum.inl (wW .i64 (a0 - 1), (wW .i64 (a1 + 1), (List.set (List.set a2 (Int.toNat a1) (TPacket.mk r0.tos r0.id r0.whole r0.more r0.start r0.life r0.proto r0.from' r0.to r0.options r0.data)) (Int.toNat a0) (TPacket.mk r1.tos r1.id r1.whole r1.more r1.start r1.life r1.proto r1.from' r1.to r1.options r1.data), ())))))))))))))) (
 .ret (Sum.inr (a2, ())))
def revPk_loop8_1 (x : (Int × (Int × ((List TPacket) × Unit)))) : Option ((List TPacket) × Unit) := loopO 80001 (fun x => (revPk_step8_1 x).eval) 18446744073709551616 x
def revPk_ap : SP := ⟨28, [(0, .v (.one (.own 1500100)))], [(1500100, .row 28 20 false true)]⟩
def revPk_rp : SP := ⟨1, [(0, .tup [])], [(1500100, .row 28 20 false true)]⟩
def revPk_tree : ((List TPacket) × Unit) -> Tr ((List TPacket) × Unit) :=
 fun (a0, _) =>
 .grd (decide (a0.length = a0.length)) (
 .opt ((revPk_loop8_1 (wW .i64 ((↑(a0.length) : Int) - 1), (0, (a0, ()))))) (fun r0 =>
 .ret (r0.1, ())))
noncomputable def gm40 : List (PF Go.Proofs.Tryz.prog) := gm39 ++ [FS.pf tLetter]
theorem revPk_eq (x : ((List TPacket) × Unit)) : gsTr Tryz.prog cod gm40 [(8, revPk_L8_1)] 30 8 revPk_ap revPk_rp x = revPk_tree x := by kernel_rfl
def revPk_fn (x : ((List TPacket) × Unit)) : Option ((List TPacket) × Unit) := (revPk_tree x).eval
def revPk : GS Tryz.prog := ⟨8, [2], revPk_ap, revPk_rp, revPk_fn, fun x r h ys m g he hg => gs_sound (cod := cod) (Γ := gm40) (Λs := [(8, revPk_L8_1)]) (n := 30) ((congrArg Tr.eval (revPk_eq x)).trans h) he hg⟩
def kTopPieces_L3_10 : LS := ⟨10, [(48000, 48000)], ⟨149, [(83, .v (.one (.i .i64))), (4, .v (.one (.i .i64))), (3, .v (.one (.i .u32))), (15, .v (.one (.s))), (19, .v (.one (.own 48000))), (21, .v (.one (.st 6 true))), (81, .v (.one (.own 48000))), (82, .v (.one (.i .i64)))], [(48000, .row 28 20 true true)]⟩, [⟨none, [], ⟨149, [(14, .v (.one (.b)))], []⟩⟩, ⟨some 0, [], ⟨149, [], []⟩⟩], []⟩
def kTopPieces_step3_10 : (Int × (Int × (Int × ((List UInt8) × ((List THeap) × (Int × ((List TPacket) × Unit))))))) -> Tr ((Int × (Int × (Int × ((List UInt8) × ((List THeap) × (Int × ((List TPacket) × Unit))))))) ⊕ ((Bool × Unit) ⊕ Unit)) :=
 fun (a0, a1, a2, a3, a4, a5, a6, _) =>
 .ite (decide (a0 < a5)) (
 .grd (decide (0 <= a0 /\ a0 < (↑(a6.length) : Int))) (
 .opt (a6[Int.toNat a0]?) (fun r0 =>
 .opt ((fFeed_fn (a4, (r0.tos, (r0.id, (r0.whole, (r0.more, (r0.start, (r0.life, (r0.proto, (r0.from', (r0.to, (r0.options, (r0.data, ())))))))))))))) (fun r1 =>
 .ite (!decide (r1.2.2.2.2.2.2.2.2.2.2.2.2.2.1 = 0)) (
 .ret (Sum.inr (Sum.inl (false, ())))) (
 .ite (!r1.2.2.2.2.2.2.2.2.2.2.2.2.1 == decide (a0 = wW .i64 ((↑(a6.length) : Int) - 1))) (
 .ret (Sum.inr (Sum.inl (false, ())))) (
 .ite (!r1.2.2.2.2.2.2.2.2.2.2.2.2.1) (
 .grd (decide (a6.length = a6.length)) (
 .grd (decide (a6.length = a6.length)) (
 .ret (Sum.inl (wW .i64 (a0 + 1), (a1, (a2, (a3, (r1.1, (a5, (a6, ()))))))))))) (
 .opt ((ipWrite_fn (r1.2.1, (r1.2.2.1, (r1.2.2.2.1, (r1.2.2.2.2.1, (r1.2.2.2.2.2.1, (r1.2.2.2.2.2.2.1, (r1.2.2.2.2.2.2.2.1, (r1.2.2.2.2.2.2.2.2.1, (r1.2.2.2.2.2.2.2.2.2.1, (r1.2.2.2.2.2.2.2.2.2.2.1, (r1.2.2.2.2.2.2.2.2.2.2.2.1, ()))))))))))))) (fun r2 =>
 .opt ((swFrom_fn (r2.1, (a2, (a1, ()))))) (fun r3 =>
 .opt ((swFrom_fn (a3, (a2, (a1, ()))))) (fun r4 =>
 .ite (decide (r2.2.1 = 0)) (
 .ite (decide (r3.2.1 = 0)) (
 .ite (decide (r4.2.1 = 0)) (
 .ite (decide (r3.1 = r4.1)) (
 .ret (Sum.inr (Sum.inl (decide ((↑(List.length r1.1) : Int) = 0), ())))) (
 .ret (Sum.inr (Sum.inl (false, ()))))) (
 .ret (Sum.inr (Sum.inl (false, ()))))) (
 .ret (Sum.inr (Sum.inl (false, ()))))) (
 .ret (Sum.inr (Sum.inl (false, ())))))))))))))) (
 .ret (Sum.inr (Sum.inr ())))
def kTopPieces_loop3_10 (x : (Int × (Int × (Int × ((List UInt8) × ((List THeap) × (Int × ((List TPacket) × Unit)))))))) : Option ((Bool × Unit) ⊕ Unit) := loopO 30010 (fun x => (kTopPieces_step3_10 x).eval) 18446744073709551616 x
def kTopPieces_L8_1 : LS := ⟨1, [(1500100, 1500100)], ⟨28, [(3, .v (.one (.i .i64))), (2, .v (.one (.i .i64))), (0, .v (.one (.own 1500100)))], [(1500100, .row 28 20 true true)]⟩, [⟨some 0, [(1500100, 1500100)], ⟨28, [], [(1500100, .row 28 20 true true)]⟩⟩], []⟩
def kTopPieces_step8_1 : (Int × (Int × ((List TPacket) × Unit))) -> Tr ((Int × (Int × ((List TPacket) × Unit))) ⊕ ((List TPacket) × Unit)) :=
 fun (a0, a1, a2, _) =>
 .ite (decide (a1 < a0)) (
 .grd (decide (0 <= a0 /\ a0 < (↑(a2.length) : Int))) (
 .opt (a2[Int.toNat a0]?) (fun r0 =>
 .grd (decide (0 <= a1 /\ a1 < (↑(a2.length) : Int))) (
 .opt (a2[Int.toNat a1]?) (fun r1 =>
 .grd (decide (0 <= a1 /\ a1 < (↑(a2.length) : Int))) (
 .opt (a2[Int.toNat a1]?) (fun r2 =>
 .grd (decide (0 <= a0 /\ a0 < (↑(a2.length) : Int))) (
 .opt ((List.set a2 (Int.toNat a1) (TPacket.mk r0.tos r0.id r0.whole r0.more r0.start r0.life r0.proto r0.from' r0.to r0.options r0.data))[Int.toNat a0]?) (fun r3 =>
 .grd (decide (a2.length = List.length (List.set (List.set a2 (Int.toNat a1) (TPacket.mk r0.tos r0.id r0.whole r0.more r0.start r0.life r0.proto r0.from' r0.to r0.options r0.data)) (Int.toNat a0) (TPacket.mk r1.tos r1.id r1.whole r1.more r1.start r1.life r1.proto r1.from' r1.to r1.options r1.data)))) (
 .ret (Sum.inl (wW .i64 (a0 - 1), (wW .i64 (a1 + 1), (List.set (List.set a2 (Int.toNat a1) (TPacket.mk r0.tos r0.id r0.whole r0.more r0.start r0.life r0.proto r0.from' r0.to r0.options r0.data)) (Int.toNat a0) (TPacket.mk r1.tos r1.id r1.whole r1.more r1.start r1.life r1.proto r1.from' r1.to r1.options r1.data), ())))))))))))))) (
 .ret (Sum.inr (a2, ())))
def kTopPieces_loop8_1 (x : (Int × (Int × ((List TPacket) × Unit)))) : Option ((List TPacket) × Unit) := loopO 80001 (fun x => (kTopPieces_step8_1 x).eval) 18446744073709551616 x
def kTopPieces_ap : List VP1 := [.agg [.i .i64, .i .i64, .s], .one (.i .u32), .one (.i .u32), .one (.i .u32), .one (.i .i64), .one (.i .i64), .one (.b)]
def kTopPieces_rp : SP := ⟨1, [(0, .v (.one (.b)))], []⟩
def kTopPieces_tree : (Int × (Int × ((List UInt8) × (Int × (Int × (Int × (Int × (Int × (Bool × Unit))))))))) -> Tr (Bool × Unit) :=
 fun (a0, a1, a2, a3, a4, a5, a6, a7, a8, _) =>
 .opt ((tLetter_fn (a0, (a1, (a2, (a3, (a4, ()))))))) (fun r0 =>
 .opt ((ipRead_fn (r0.1, ()))) (fun r1 =>
 .opt ((fragSplit_fn (r1.1, (r1.2.1, (r1.2.2.1, (r1.2.2.2.1, (r1.2.2.2.2.1, (r1.2.2.2.2.2.1, (r1.2.2.2.2.2.2.1, (r1.2.2.2.2.2.2.2.1, (r1.2.2.2.2.2.2.2.2.1, (r1.2.2.2.2.2.2.2.2.2.1, (r1.2.2.2.2.2.2.2.2.2.2.1, (a7, ())))))))))))))) (fun r2 =>
 .ite (false) (
 .ret (true, ())) (
 .ite (!r0.2.1) (
 .ret (true, ())) (
 .ite (!decide (r1.2.2.2.2.2.2.2.2.2.2.2.1 = 0)) (
 .ret (true, ())) (
 .ite (!decide (r2.1 = 0)) (
 .ret (true, ())) (
 .ite (decide (a6 < 0)) (
 .ret (true, ())) (
 .ite (decide (65535 < a6)) (
 .ret (true, ())) (
 .ite (decide (64 < (↑(List.length r2.2.fst) : Int))) (
 .ret (true, ())) (
 .ite (a8) (
 .grd (decide (List.length r2.2.fst = List.length r2.2.1)) (
 .opt ((kTopPieces_loop8_1 (wW .i64 ((↑(List.length r2.2.fst) : Int) - 1), (0, (r2.2.1, ()))))) (fun r3 =>
 .grd (decide (List.length r2.2.fst = List.length r3.1)) (
 .grd (decide (List.length r2.2.fst = List.length r3.1)) (
 .opt ((kTopPieces_loop3_10 (0, (a6, (a5, (r0.1, ([], ((↑(List.length r2.2.fst) : Int), (r3.1, ()))))))))) (fun r4 =>
 .sum (r4) (fun r5 =>
 .ret (r5.1, ())) (fun r5 =>
 .ret (false, ())))))))) (
 .grd (decide (List.length r2.2.fst = List.length r2.2.1)) (
 .grd (decide (List.length r2.2.fst = List.length r2.2.1)) (
 .opt ((kTopPieces_loop3_10 (0, (a6, (a5, (r0.1, ([], ((↑(List.length r2.2.fst) : Int), (r2.2.1, ()))))))))) (fun r3 =>
 .sum (r3) (fun r4 =>
 .ret (r4.1, ())) (fun r4 =>
 .ret (false, ()))))))))))))))))
noncomputable def gm41 : List (PF Go.Proofs.Tryz.prog) := gm40 ++ [GS.pf revPk]
theorem kTopPieces_eq (x : (Int × (Int × ((List UInt8) × (Int × (Int × (Int × (Int × (Int × (Bool × Unit)))))))))) : fnTr Tryz.prog cod gm41 [(3, kTopPieces_L3_10), (8, kTopPieces_L8_1)] 30 3 kTopPieces_ap kTopPieces_rp x = kTopPieces_tree x := by kernel_rfl
def kTopPieces_fn (x : (Int × (Int × ((List UInt8) × (Int × (Int × (Int × (Int × (Int × (Bool × Unit)))))))))) : Option (Bool × Unit) := (kTopPieces_tree x).eval
def kTopPieces : FS Tryz.prog := ⟨3, kTopPieces_ap, kTopPieces_rp, kTopPieces_fn, fun x r h => fnTr_sound (cod := cod) (Γ := gm41) (Λs := [(3, kTopPieces_L3_10), (8, kTopPieces_L8_1)]) (n := 30) ((congrArg Tr.eval (kTopPieces_eq x)).trans h)⟩
end Go.Proofs.YtaeeadldamflcaaGreatDoor.X
namespace Go.Proofs.YtaeeadldamflcaaGreatDoor.Abs
set_option linter.unusedVariables false
theorem loopO_succ {A B : Type} (tag : Nat) (f : A -> Option (A ⊕ B)) (n : Nat) (a : A) : loopO tag f (n + 1) a = match f a with | none => none | some (.inl a') => loopO tag f n a' | some (.inr b) => some b := rfl
theorem loopO_out {A B : Type} {tag : Nat} {f : A -> Option (A ⊕ B)} {n : Nat} {a : A} {b : B} (h : f a = some (.inr b)) : loopO tag f (n + 1) a = some b := by rw [loopO_succ, h]
theorem loopO_in {A B : Type} {tag : Nat} {f : A -> Option (A ⊕ B)} {n : Nat} {a a' : A} (h : f a = some (.inl a')) : loopO tag f (n + 1) a = loopO tag f n a' := by rw [loopO_succ, h]

theorem loopO_fn {A B : Type} {tag : Nat} {f : A -> Option (A ⊕ B)} (P : A -> Prop) (g : A -> B) (μ : A -> Nat)
  (h : ∀ a, P a -> f a = some (.inr (g a)) \/ ∃ a', f a = some (.inl a') /\ P a' /\ μ a' < μ a /\ g a' = g a) : ∀ (n : Nat) (a : A), P a -> μ a < n -> loopO tag f n a = some (g a) := by
 intro n
 induction n with
 | zero => intro a _ hn; omega
 | succ n ih =>
  intro a ha hn
  rcases h a ha with e | ⟨a', e, h1, h2, h3⟩
  . exact loopO_out e
  . rw [loopO_in e, ih a' h1 (by omega), h3]
end Go.Proofs.YtaeeadldamflcaaGreatDoor.Abs
namespace Go.Proofs.YtaeeadldamflcaaGreatDoor.Bits
open Go
@[go_sem] theorem signed_u8 : IntKind.u8.signed = false := rfl
@[go_sem] theorem signed_u16 : IntKind.u16.signed = false := rfl
@[go_sem] theorem signed_u32 : IntKind.u32.signed = false := rfl
@[go_sem] theorem signed_u64 : IntKind.u64.signed = false := rfl
@[go_sem] theorem signed_i64 : IntKind.i64.signed = true := rfl

theorem ofInt_nat (w : Nat) (n : Nat) (h : n < 2 ^ w) : (BitVec.ofInt w (n : Int)).toNat = n := by
 rw [BitVec.ofInt_natCast, BitVec.toNat_ofNat]; exact Nat.mod_eq_of_lt h

theorem wrap_nat (k : IntKind) (n : Nat) (h : n < 2 ^ k.bits) (hs : k.signed = true -> n < 2 ^ (k.bits - 1)) : k.wrap (n : Int) = (n : Int) := by
 have hb : (2 : Int) ^ k.bits = ((2 ^ k.bits : Nat) : Int) := by norm_cast
 have h2 : (2 : Nat) ^ k.bits = 2 ^ (k.bits - 1) + 2 ^ (k.bits - 1) := by cases k <;> rfl
 have hm : n % 2 ^ k.bits = n := Nat.mod_eq_of_lt h
 unfold IntKind.wrap
 by_cases hk : k.signed = true
 . have := hs hk
   cases k <;> simp_all [IntKind.bits, IntKind.signed] <;> omega
 . cases k <;> simp_all [IntKind.bits, IntKind.signed] <;> omega

theorem bits_and_nat (k : IntKind) (a b : Nat) (ha : a < 2 ^ k.bits) (hb : b < 2 ^ k.bits) (hs : k.signed = true -> a < 2 ^ (k.bits - 1)) :
  bits .and k (a : Int) (b : Int) = ((a &&& b : Nat) : Int) := by
 have h1 := ofInt_nat k.bits a ha
 have h2 := ofInt_nat k.bits b hb
 have h3 : a &&& b <= a := Nat.and_le_left
 show k.wrap ((BitVec.ofInt k.bits (a : Int) &&& BitVec.ofInt k.bits (b : Int)).toNat : Int) = _
 rw [BitVec.toNat_and, h1, h2]
 exact wrap_nat k _ (by omega) (fun h => by have := hs h; omega)

theorem bits_or_nat (k : IntKind) (a b : Nat) (ha : a < 2 ^ k.bits) (hb : b < 2 ^ k.bits) (hs : k.signed = true -> a < 2 ^ (k.bits - 1) /\ b < 2 ^ (k.bits - 1)) :
  bits .or k (a : Int) (b : Int) = ((a ||| b : Nat) : Int) := by
 have h1 := ofInt_nat k.bits a ha
 have h2 := ofInt_nat k.bits b hb
 show k.wrap ((BitVec.ofInt k.bits (a : Int) ||| BitVec.ofInt k.bits (b : Int)).toNat : Int) = _
 rw [BitVec.toNat_or, h1, h2]
 exact wrap_nat k _ (Nat.or_lt_two_pow ha hb) (fun h => Nat.or_lt_two_pow (hs h).1 (hs h).2)

theorem bits_and_mask (k : IntKind) (j : Nat) (x : Int) (h0 : 0 <= x) (h1 : x < 2 ^ k.bits) (hj : j < k.bits) (hs : k.signed = true -> x < 2 ^ (k.bits - 1)) :
  bits .and k x (2 ^ j - 1) = x % 2 ^ j := by
 obtain ⟨n, rfl⟩ := Int.eq_ofNat_of_zero_le h0
 have e : ((2 : Int) ^ j - 1) = ((2 ^ j - 1 : Nat) : Int) := by
  rw [Int.ofNat_sub (Nat.one_le_two_pow)]; norm_cast
 have hlt : (2 : Nat) ^ j < 2 ^ k.bits := Nat.pow_lt_pow_right (by omega) hj
 have h1' : n < 2 ^ k.bits := by exact_mod_cast h1
 rw [e, bits_and_nat k n _ h1' (by omega) (fun h => by exact_mod_cast hs h), Nat.and_two_pow_sub_one_eq_mod]
 norm_cast

theorem bits_or_disjoint (k : IntKind) (j : Nat) (x y : Int) (hx : 0 <= x) (hy : 0 <= y) (hy' : y < 2 ^ j) (h1 : x * 2 ^ j + y < 2 ^ k.bits) (hs : k.signed = true -> x * 2 ^ j + y < 2 ^ (k.bits - 1)) :
  bits .or k (x * 2 ^ j) y = x * 2 ^ j + y := by
 obtain ⟨a, rfl⟩ := Int.eq_ofNat_of_zero_le hx
 obtain ⟨b, rfl⟩ := Int.eq_ofNat_of_zero_le hy
 have hb : b < 2 ^ j := by exact_mod_cast hy'
 have e : ((a : Int) * 2 ^ j) = ((a * 2 ^ j : Nat) : Int) := by norm_cast
 have h1' : a * 2 ^ j + b < 2 ^ k.bits := by exact_mod_cast h1
 have hs' : k.signed = true -> a * 2 ^ j + b < 2 ^ (k.bits - 1) := fun h => by exact_mod_cast hs h
 rw [e, bits_or_nat k _ b (by omega) (by omega) (fun h => by have := hs' h; omega)]
 have : a * 2 ^ j ||| b = a * 2 ^ j + b := by
  rw [<- Nat.shiftLeft_eq, Nat.shiftLeft_add_eq_or_of_lt hb]
 rw [this]; norm_cast

theorem bits_not (k : IntKind) (x : Int) (hk : k.signed = false) (h0 : 0 <= x) (h1 : x < 2 ^ k.bits) : bits .xor k (2 ^ k.bits - 1) x = 2 ^ k.bits - 1 - x := by
 obtain ⟨n, rfl⟩ := Int.eq_ofNat_of_zero_le h0
 have hn : n < 2 ^ k.bits := by exact_mod_cast h1
 have h2 := ofInt_nat k.bits n hn
 have ho : BitVec.ofInt k.bits (2 ^ k.bits - 1) = BitVec.allOnes k.bits := by
  apply BitVec.eq_of_toNat_eq
  have e : ((2 : Int) ^ k.bits - 1) = ((2 ^ k.bits - 1 : Nat) : Int) := by
   rw [Int.ofNat_sub (Nat.one_le_two_pow)]; norm_cast
  rw [e, ofInt_nat _ _ (by omega), BitVec.toNat_allOnes]
 show k.wrap ((BitVec.ofInt k.bits (2 ^ k.bits - 1) ^^^ BitVec.ofInt k.bits (n : Int)).toNat : Int) = _
 rw [ho, BitVec.allOnes_xor, BitVec.toNat_not, h2, wrap_nat k _ (by omega) (fun h => by rw [hk] at h; cases h)]
 rw [Nat.sub_sub, Int.ofNat_sub (by omega)]
 push_cast
 omega

theorem not_u16 (x : Int) (h0 : 0 <= x) (h1 : x <= 65535) : bits .xor .u16 IntKind.u16.max x = 65535 - x := bits_not .u16 x rfl h0 (by show x < 65536; omega)
end Go.Proofs.YtaeeadldamflcaaGreatDoor.Bits
