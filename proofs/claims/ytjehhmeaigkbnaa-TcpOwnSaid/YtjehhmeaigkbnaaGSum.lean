/- Functions of the program, as trees (printed by a program of mine: tool/XTool, xg.py), each with the proof that the machine comes to what its tree says. Conditions: none. -/
import Derived.Test.YtjehhmeaigkbnaaCod
import Derived.KernelRfl
namespace Go.Proofs.Ytjehhmeaigkbnaa.X
open Go Go.RowKit Go.Proofs.Ytjehhmeaigkbnaa.Abs
set_option maxRecDepth 100000
set_option linter.unusedVariables false
def sumFold_L44_1 : LS := ⟨1, [], ⟨12, [(0, .v (.one (.i .u64)))], []⟩, [⟨some 0, [], ⟨12, [(0, .v (.one (.i .u64)))], []⟩⟩], []⟩
def sumFold_step44_1 : (Int × Unit) → Tr ((Int × Unit) ⊕ (Int × Unit)) :=
  fun (a0, _) =>
  .ite (decide ((65535 : Int) < a0)) (
   .grd (true) (
   .ret (Sum.inl (IntKind.wrap IntKind.u64 (Int.fdiv a0 ((2 : Int) ^ (16 : Nat)) + bits BinOp.and IntKind.u64 a0 (65535 : Int)), ())))) (
   .ret (Sum.inr (a0, ())))
def sumFold_loop44_1 (x : (Int × Unit)) : Option (Int × Unit) := loopO 440001 (fun x => (sumFold_step44_1 x).eval) 18446744073709551616 x
def sumFold_ap : List VP1 := [.one (.i .u64)]
def sumFold_rp : SP := ⟨1, [(0, .v (.one (.i .u16)))], []⟩
def sumFold_tree : (Int × Unit) → Tr (Int × Unit) :=
  fun (a0, _) =>
  .opt (β := (Int × Unit)) ((sumFold_loop44_1 (a0, ()))) (fun r0 =>
  .ret (IntKind.wrap IntKind.u16 r0.1, ()))
theorem sumFold_eq (x : (Int × Unit)) : fnTr Try.prog cod [] [(44, sumFold_L44_1)] 30 44 sumFold_ap sumFold_rp x = sumFold_tree x := by kernel_rfl
def sumFold_fn (x : (Int × Unit)) : Option (Int × Unit) := (sumFold_tree x).eval
def sumFold : FS Try.prog := ⟨44, sumFold_ap, sumFold_rp, sumFold_fn, fun x r h => fnTr_sound (cod := cod) (Γ := []) (Λs := [(44, sumFold_L44_1)]) (n := 30) ((congrArg Tr.eval (sumFold_eq x)).trans h)⟩
def sumAdd_L60_2 : LS := ⟨2, [], ⟨33, [(1, .v (.one (.s))), (5, .v (.one (.i .u64)))], []⟩, [⟨some 0, [], ⟨33, [(1, .v (.one (.s))), (5, .v (.one (.i .u64)))], []⟩⟩], []⟩
def sumAdd_step60_2 : ((List UInt8) × (Int × Unit)) → Tr (((List UInt8) × (Int × Unit)) ⊕ ((List UInt8) × (Int × Unit))) :=
  fun (a0, a1, _) =>
  .ite (decide ((1 : Int) < (↑(List.length a0) : Int))) (
   .grd (decide ((0 : Int) ≤ (0 : Int) ∧ (0 : Int) < (↑(List.length a0) : Int))) (
   .grd (true) (
   .grd (decide ((0 : Int) ≤ (1 : Int) ∧ (1 : Int) < (↑(List.length a0) : Int))) (
   .grd (decide ((0 : Int) ≤ (2 : Int) ∧ (2 : Int) ≤ (↑(List.length a0) : Int) ∧ (↑(List.length a0) : Int) ≤ (↑(List.length a0) : Int))) (
   .ret (Sum.inl (List.drop (2 : Nat) (List.take (Int.toNat (↑(List.length a0) : Int)) a0), (IntKind.wrap IntKind.u64 (a1 + bits BinOp.or IntKind.u64 (IntKind.wrap IntKind.u64 (IntKind.wrap IntKind.u64 (↑(UInt8.toNat (List.getD a0 (0 : Nat) (0 : UInt8))) : Int) * (2 : Int) ^ (8 : Nat))) (IntKind.wrap IntKind.u64 (↑(UInt8.toNat (List.getD a0 (1 : Nat) (0 : UInt8))) : Int))), ())))))))) (
   .ret (Sum.inr (a0, (a1, ()))))
def sumAdd_loop60_2 (x : ((List UInt8) × (Int × Unit))) : Option ((List UInt8) × (Int × Unit)) := loopO 600002 (fun x => (sumAdd_step60_2 x).eval) 18446744073709551616 x
def sumAdd_ap : List VP1 := [.one (.i .u16), .one (.s)]
def sumAdd_rp : SP := ⟨1, [(0, .v (.one (.i .u16)))], []⟩
def sumAdd_tree : (Int × ((List UInt8) × Unit)) → Tr (Int × Unit) :=
  fun (a0, a1, _) =>
  .opt (β := ((List UInt8) × (Int × Unit))) ((sumAdd_loop60_2 (a1, (IntKind.wrap IntKind.u64 a0, ())))) (fun r0 =>
  .ite (!decide (r0.1 = [])) (
   .grd (decide ((0 : Int) ≤ (0 : Int) ∧ (0 : Int) < (↑(List.length r0.1) : Int))) (
   .grd (true) (
   .opt (β := (Int × Unit)) ((sumFold_fn (IntKind.wrap IntKind.u64 (r0.2.1 + IntKind.wrap IntKind.u64 (IntKind.wrap IntKind.u64 (↑(UInt8.toNat (List.getD r0.1 (0 : Nat) (0 : UInt8))) : Int) * (2 : Int) ^ (8 : Nat))), ()))) (fun r1 =>
   .ret (r1.1, ()))))) (
   .opt (β := (Int × Unit)) ((sumFold_fn (r0.2.1, ()))) (fun r1 =>
   .ret (r1.1, ()))))
theorem sumAdd_eq (x : (Int × ((List UInt8) × Unit))) : fnTr Try.prog cod [FS.pf sumFold] [(60, sumAdd_L60_2)] 30 60 sumAdd_ap sumAdd_rp x = sumAdd_tree x := by kernel_rfl
def sumAdd_fn (x : (Int × ((List UInt8) × Unit))) : Option (Int × Unit) := (sumAdd_tree x).eval
def sumAdd : FS Try.prog := ⟨60, sumAdd_ap, sumAdd_rp, sumAdd_fn, fun x r h => fnTr_sound (cod := cod) (Γ := [FS.pf sumFold]) (Λs := [(60, sumAdd_L60_2)]) (n := 30) ((congrArg Tr.eval (sumAdd_eq x)).trans h)⟩
def sumOf_ap : List VP1 := [.one (.s)]
def sumOf_rp : SP := ⟨1, [(0, .v (.one (.i .u16)))], []⟩
def sumOf_tree : ((List UInt8) × Unit) → Tr (Int × Unit) :=
  fun (a0, _) =>
  .opt (β := (Int × Unit)) ((sumAdd_fn ((0 : Int), (a0, ())))) (fun r0 =>
  .ret (bits BinOp.xor IntKind.u16 (if IntKind.signed IntKind.u16 = true then (-1 : Int) else IntKind.max IntKind.u16) r0.1, ()))
theorem sumOf_eq (x : ((List UInt8) × Unit)) : fnTr Try.prog cod [FS.pf sumFold, FS.pf sumAdd] [] 30 41 sumOf_ap sumOf_rp x = sumOf_tree x := by kernel_rfl
def sumOf_fn (x : ((List UInt8) × Unit)) : Option (Int × Unit) := (sumOf_tree x).eval
def sumOf : FS Try.prog := ⟨41, sumOf_ap, sumOf_rp, sumOf_fn, fun x r h => fnTr_sound (cod := cod) (Γ := [FS.pf sumFold, FS.pf sumAdd]) (Λs := []) (n := 30) ((congrArg Tr.eval (sumOf_eq x)).trans h)⟩
def sumRight_ap : List VP1 := [.one (.s)]
def sumRight_rp : SP := ⟨1, [(0, .v (.one (.b)))], []⟩
def sumRight_tree : ((List UInt8) × Unit) → Tr (Bool × Unit) :=
  fun (a0, _) =>
  .opt (β := (Int × Unit)) ((sumAdd_fn ((0 : Int), (a0, ())))) (fun r0 =>
  .ret (decide (r0.1 = (65535 : Int)), ()))
theorem sumRight_eq (x : ((List UInt8) × Unit)) : fnTr Try.prog cod [FS.pf sumFold, FS.pf sumAdd, FS.pf sumOf] [] 30 43 sumRight_ap sumRight_rp x = sumRight_tree x := by kernel_rfl
def sumRight_fn (x : ((List UInt8) × Unit)) : Option (Bool × Unit) := (sumRight_tree x).eval
def sumRight : FS Try.prog := ⟨43, sumRight_ap, sumRight_rp, sumRight_fn, fun x r h => fnTr_sound (cod := cod) (Γ := [FS.pf sumFold, FS.pf sumAdd, FS.pf sumOf]) (Λs := []) (n := 30) ((congrArg Tr.eval (sumRight_eq x)).trans h)⟩
def sumFix_ap : List VP1 := [.one (.i .u16), .one (.i .u16), .one (.i .u16)]
def sumFix_rp : SP := ⟨1, [(0, .v (.one (.i .u16)))], []⟩
def sumFix_tree : (Int × (Int × (Int × Unit))) → Tr (Int × Unit) :=
  fun (a0, a1, a2, _) =>
  .opt (β := (Int × Unit)) ((sumFold_fn (IntKind.wrap IntKind.u64 (IntKind.wrap IntKind.u64 (IntKind.wrap IntKind.u64 (bits BinOp.xor IntKind.u16 (if IntKind.signed IntKind.u16 = true then (-1 : Int) else IntKind.max IntKind.u16) a0) + IntKind.wrap IntKind.u64 (bits BinOp.xor IntKind.u16 (if IntKind.signed IntKind.u16 = true then (-1 : Int) else IntKind.max IntKind.u16) a1)) + IntKind.wrap IntKind.u64 a2), ()))) (fun r0 =>
  .ret (bits BinOp.xor IntKind.u16 (if IntKind.signed IntKind.u16 = true then (-1 : Int) else IntKind.max IntKind.u16) r0.1, ()))
theorem sumFix_eq (x : (Int × (Int × (Int × Unit)))) : fnTr Try.prog cod [FS.pf sumFold, FS.pf sumAdd, FS.pf sumOf, FS.pf sumRight] [] 30 17 sumFix_ap sumFix_rp x = sumFix_tree x := by kernel_rfl
def sumFix_fn (x : (Int × (Int × (Int × Unit)))) : Option (Int × Unit) := (sumFix_tree x).eval
def sumFix : FS Try.prog := ⟨17, sumFix_ap, sumFix_rp, sumFix_fn, fun x r h => fnTr_sound (cod := cod) (Γ := [FS.pf sumFold, FS.pf sumAdd, FS.pf sumOf, FS.pf sumRight]) (Λs := []) (n := 30) ((congrArg Tr.eval (sumFix_eq x)).trans h)⟩
def dgWord_ap : List VP1 := [.one (.i .i64)]
def dgWord_rp : SP := ⟨1, [(0, .v (.one (.s)))], []⟩
def dgWord_tree : (Int × Unit) → Tr ((List UInt8) × Unit) :=
  fun (a0, _) =>
  .grd (true) (
  .grd (decide ((0 : Int) ≤ IntKind.wrap IntKind.u8 (Int.fdiv a0 ((2 : Int) ^ (8 : Nat))) ∧ IntKind.wrap IntKind.u8 (Int.fdiv a0 ((2 : Int) ^ (8 : Nat))) < (256 : Int))) (
  .grd (decide ((0 : Int) ≤ IntKind.wrap IntKind.u8 a0 ∧ IntKind.wrap IntKind.u8 a0 < (256 : Int))) (
  .ret ([UInt8.ofNat (Int.toNat (IntKind.wrap IntKind.u8 (Int.fdiv a0 ((2 : Int) ^ (8 : Nat))))), UInt8.ofNat (Int.toNat (IntKind.wrap IntKind.u8 a0))], ()))))
theorem dgWord_eq (x : (Int × Unit)) : fnTr Try.prog cod [FS.pf sumFold, FS.pf sumAdd, FS.pf sumOf, FS.pf sumRight, FS.pf sumFix] [] 30 40 dgWord_ap dgWord_rp x = dgWord_tree x := by kernel_rfl
def dgWord_fn (x : (Int × Unit)) : Option ((List UInt8) × Unit) := (dgWord_tree x).eval
def dgWord : FS Try.prog := ⟨40, dgWord_ap, dgWord_rp, dgWord_fn, fun x r h => fnTr_sound (cod := cod) (Γ := [FS.pf sumFold, FS.pf sumAdd, FS.pf sumOf, FS.pf sumRight, FS.pf sumFix]) (Λs := []) (n := 30) ((congrArg Tr.eval (dgWord_eq x)).trans h)⟩
def dgLong_ap : List VP1 := [.one (.i .u32)]
def dgLong_rp : SP := ⟨1, [(0, .v (.one (.s)))], []⟩
def dgLong_tree : (Int × Unit) → Tr ((List UInt8) × Unit) :=
  fun (a0, _) =>
  .grd (true) (
  .opt (β := ((List UInt8) × Unit)) ((dgWord_fn (IntKind.wrap IntKind.i64 (Int.fdiv a0 ((2 : Int) ^ (16 : Nat))), ()))) (fun r0 =>
  .opt (β := ((List UInt8) × Unit)) ((dgWord_fn (IntKind.wrap IntKind.i64 a0, ()))) (fun r1 =>
  .grd (decide (List.length r0.1 + List.length r1.1 ≤ (9223372036854775807 : Nat))) (
  .ret (r0.1 ++ r1.1, ())))))
theorem dgLong_eq (x : (Int × Unit)) : fnTr Try.prog cod [FS.pf sumFold, FS.pf sumAdd, FS.pf sumOf, FS.pf sumRight, FS.pf sumFix, FS.pf dgWord] [] 30 61 dgLong_ap dgLong_rp x = dgLong_tree x := by kernel_rfl
def dgLong_fn (x : (Int × Unit)) : Option ((List UInt8) × Unit) := (dgLong_tree x).eval
def dgLong : FS Try.prog := ⟨61, dgLong_ap, dgLong_rp, dgLong_fn, fun x r h => fnTr_sound (cod := cod) (Γ := [FS.pf sumFold, FS.pf sumAdd, FS.pf sumOf, FS.pf sumRight, FS.pf sumFix, FS.pf dgWord]) (Λs := []) (n := 30) ((congrArg Tr.eval (dgLong_eq x)).trans h)⟩
def dgWordAt_ap : List VP1 := [.one (.s), .one (.i .i64)]
def dgWordAt_rp : SP := ⟨1, [(0, .v (.one (.i .i64)))], []⟩
def dgWordAt_tree : ((List UInt8) × (Int × Unit)) → Tr (Int × Unit) :=
  fun (a0, a1, _) =>
  .grd (decide ((0 : Int) ≤ a1 ∧ a1 < (↑(List.length a0) : Int))) (
  .grd (true) (
  .grd (decide ((0 : Int) ≤ IntKind.wrap IntKind.i64 (a1 + (1 : Int)) ∧ IntKind.wrap IntKind.i64 (a1 + (1 : Int)) < (↑(List.length a0) : Int))) (
  .ret (bits BinOp.or IntKind.i64 (IntKind.wrap IntKind.i64 (IntKind.wrap IntKind.i64 (↑(UInt8.toNat (List.getD a0 (Int.toNat a1) (0 : UInt8))) : Int) * (2 : Int) ^ (8 : Nat))) (IntKind.wrap IntKind.i64 (↑(UInt8.toNat (List.getD a0 (Int.toNat (IntKind.wrap IntKind.i64 (a1 + (1 : Int)))) (0 : UInt8))) : Int)), ()))))
theorem dgWordAt_eq (x : ((List UInt8) × (Int × Unit))) : fnTr Try.prog cod [FS.pf sumFold, FS.pf sumAdd, FS.pf sumOf, FS.pf sumRight, FS.pf sumFix, FS.pf dgWord, FS.pf dgLong] [] 30 45 dgWordAt_ap dgWordAt_rp x = dgWordAt_tree x := by kernel_rfl
def dgWordAt_fn (x : ((List UInt8) × (Int × Unit))) : Option (Int × Unit) := (dgWordAt_tree x).eval
def dgWordAt : FS Try.prog := ⟨45, dgWordAt_ap, dgWordAt_rp, dgWordAt_fn, fun x r h => fnTr_sound (cod := cod) (Γ := [FS.pf sumFold, FS.pf sumAdd, FS.pf sumOf, FS.pf sumRight, FS.pf sumFix, FS.pf dgWord, FS.pf dgLong]) (Λs := []) (n := 30) ((congrArg Tr.eval (dgWordAt_eq x)).trans h)⟩
def dgUnder_ap : List VP1 := [.one (.i .u32), .one (.i .u32), .one (.i .i64), .one (.i .i64)]
def dgUnder_rp : SP := ⟨1, [(0, .v (.one (.s)))], []⟩
def dgUnder_tree : (Int × (Int × (Int × (Int × Unit)))) → Tr ((List UInt8) × Unit) :=
  fun (a0, a1, a2, a3, _) =>
  .opt (β := ((List UInt8) × Unit)) ((dgLong_fn (a0, ()))) (fun r0 =>
  .opt (β := ((List UInt8) × Unit)) ((dgLong_fn (a1, ()))) (fun r1 =>
  .grd (decide (List.length r0.1 + List.length r1.1 ≤ (9223372036854775807 : Nat))) (
  .opt (β := ((List UInt8) × Unit)) ((dgWord_fn (bits BinOp.and IntKind.i64 a2 (255 : Int), ()))) (fun r2 =>
  .grd (decide (List.length (r0.1 ++ r1.1) + List.length r2.1 ≤ (9223372036854775807 : Nat))) (
  .opt (β := ((List UInt8) × Unit)) ((dgWord_fn (a3, ()))) (fun r3 =>
  .grd (decide (List.length (r0.1 ++ r1.1 ++ r2.1) + List.length r3.1 ≤ (9223372036854775807 : Nat))) (
  .ret (r0.1 ++ r1.1 ++ r2.1 ++ r3.1, ()))))))))
theorem dgUnder_eq (x : (Int × (Int × (Int × (Int × Unit))))) : fnTr Try.prog cod [FS.pf sumFold, FS.pf sumAdd, FS.pf sumOf, FS.pf sumRight, FS.pf sumFix, FS.pf dgWord, FS.pf dgLong, FS.pf dgWordAt] [] 30 42 dgUnder_ap dgUnder_rp x = dgUnder_tree x := by kernel_rfl
def dgUnder_fn (x : (Int × (Int × (Int × (Int × Unit))))) : Option ((List UInt8) × Unit) := (dgUnder_tree x).eval
def dgUnder : FS Try.prog := ⟨42, dgUnder_ap, dgUnder_rp, dgUnder_fn, fun x r h => fnTr_sound (cod := cod) (Γ := [FS.pf sumFold, FS.pf sumAdd, FS.pf sumOf, FS.pf sumRight, FS.pf sumFix, FS.pf dgWord, FS.pf dgLong, FS.pf dgWordAt]) (Λs := []) (n := 30) ((congrArg Tr.eval (dgUnder_eq x)).trans h)⟩
def dgPort_ap : List VP1 := [.one (.i .i64)]
def dgPort_rp : SP := ⟨1, [(0, .v (.one (.b)))], []⟩
def dgPort_tree : (Int × Unit) → Tr (Bool × Unit) :=
  fun (a0, _) =>
  .ite (decide ((0 : Int) ≤ a0)) (
   .ret (decide (a0 ≤ (65535 : Int)), ())) (
   .ret (false, ()))
theorem dgPort_eq (x : (Int × Unit)) : fnTr Try.prog cod [FS.pf sumFold, FS.pf sumAdd, FS.pf sumOf, FS.pf sumRight, FS.pf sumFix, FS.pf dgWord, FS.pf dgLong, FS.pf dgWordAt, FS.pf dgUnder] [] 30 39 dgPort_ap dgPort_rp x = dgPort_tree x := by kernel_rfl
def dgPort_fn (x : (Int × Unit)) : Option (Bool × Unit) := (dgPort_tree x).eval
def dgPort : FS Try.prog := ⟨39, dgPort_ap, dgPort_rp, dgPort_fn, fun x r h => fnTr_sound (cod := cod) (Γ := [FS.pf sumFold, FS.pf sumAdd, FS.pf sumOf, FS.pf sumRight, FS.pf sumFix, FS.pf dgWord, FS.pf dgLong, FS.pf dgWordAt, FS.pf dgUnder]) (Λs := []) (n := 30) ((congrArg Tr.eval (dgPort_eq x)).trans h)⟩
def dgWrite_ap : List VP1 := [.agg [.i .i64, .i .i64, .s], .one (.i .u32), .one (.i .u32)]
def dgWrite_rp : SP := ⟨1, [(0, .tup [.one (.s), .one (.i .i64)])], []⟩
def dgWrite_tree : (Int × (Int × ((List UInt8) × (Int × (Int × Unit))))) → Tr ((List UInt8) × (Int × Unit)) :=
  fun (a0, a1, a2, a3, a4, _) =>
  .opt (β := (Bool × Unit)) ((dgPort_fn (a0, ()))) (fun r0 =>
  .ite (!r0.1) (
   .ret ([], ((1 : Int), ()))) (
   .opt (β := (Bool × Unit)) ((dgPort_fn (a1, ()))) (fun r1 =>
   .ite (!r1.1) (
    .ret ([], ((1 : Int), ()))) (
    .ite (decide ((65507 : Int) < (↑(List.length a2) : Int))) (
     .ret ([], ((2 : Int), ()))) (
     .opt (β := ((List UInt8) × Unit)) ((dgWord_fn (a0, ()))) (fun r2 =>
     .opt (β := ((List UInt8) × Unit)) ((dgWord_fn (a1, ()))) (fun r3 =>
     .grd (decide (List.length r2.1 + List.length r3.1 ≤ (9223372036854775807 : Nat))) (
     .opt (β := ((List UInt8) × Unit)) ((dgWord_fn (IntKind.wrap IntKind.i64 ((8 : Int) + (↑(List.length a2) : Int)), ()))) (fun r4 =>
     .grd (decide (List.length (r2.1 ++ r3.1) + List.length r4.1 ≤ (9223372036854775807 : Nat))) (
     .opt (β := ((List UInt8) × Unit)) ((dgUnder_fn (a3, (a4, ((17 : Int), (IntKind.wrap IntKind.i64 ((8 : Int) + (↑(List.length a2) : Int)), ())))))) (fun r5 =>
     .grd (decide (List.length r5.1 + List.length (r2.1 ++ r3.1 ++ r4.1) ≤ (9223372036854775807 : Nat))) (
     .grd (decide (List.length (r5.1 ++ (r2.1 ++ r3.1 ++ r4.1)) + List.length a2 ≤ (9223372036854775807 : Nat))) (
     .opt (β := (Int × Unit)) ((sumOf_fn (r5.1 ++ (r2.1 ++ r3.1 ++ r4.1) ++ a2, ()))) (fun r6 =>
     .ite (decide (r6.1 = (0 : Int))) (
      .opt (β := ((List UInt8) × Unit)) ((dgWord_fn ((65535 : Int), ()))) (fun r7 =>
      .grd (decide (List.length (r2.1 ++ r3.1 ++ r4.1) + List.length r7.1 ≤ (9223372036854775807 : Nat))) (
      .grd (decide (List.length (r2.1 ++ r3.1 ++ r4.1 ++ r7.1) + List.length a2 ≤ (9223372036854775807 : Nat))) (
      .ret (r2.1 ++ r3.1 ++ r4.1 ++ r7.1 ++ a2, ((0 : Int), ())))))) (
      .opt (β := ((List UInt8) × Unit)) ((dgWord_fn (IntKind.wrap IntKind.i64 r6.1, ()))) (fun r7 =>
      .grd (decide (List.length (r2.1 ++ r3.1 ++ r4.1) + List.length r7.1 ≤ (9223372036854775807 : Nat))) (
      .grd (decide (List.length (r2.1 ++ r3.1 ++ r4.1 ++ r7.1) + List.length a2 ≤ (9223372036854775807 : Nat))) (
      .ret (r2.1 ++ r3.1 ++ r4.1 ++ r7.1 ++ a2, ((0 : Int), ()))))))))))))))))))))
theorem dgWrite_eq (x : (Int × (Int × ((List UInt8) × (Int × (Int × Unit)))))) : fnTr Try.prog cod [FS.pf sumFold, FS.pf sumAdd, FS.pf sumOf, FS.pf sumRight, FS.pf sumFix, FS.pf dgWord, FS.pf dgLong, FS.pf dgWordAt, FS.pf dgUnder, FS.pf dgPort] [] 30 15 dgWrite_ap dgWrite_rp x = dgWrite_tree x := by kernel_rfl
def dgWrite_fn (x : (Int × (Int × ((List UInt8) × (Int × (Int × Unit)))))) : Option ((List UInt8) × (Int × Unit)) := (dgWrite_tree x).eval
def dgWrite : FS Try.prog := ⟨15, dgWrite_ap, dgWrite_rp, dgWrite_fn, fun x r h => fnTr_sound (cod := cod) (Γ := [FS.pf sumFold, FS.pf sumAdd, FS.pf sumOf, FS.pf sumRight, FS.pf sumFix, FS.pf dgWord, FS.pf dgLong, FS.pf dgWordAt, FS.pf dgUnder, FS.pf dgPort]) (Λs := []) (n := 30) ((congrArg Tr.eval (dgWrite_eq x)).trans h)⟩
def dgRead_ap : List VP1 := [.one (.s), .one (.i .u32), .one (.i .u32)]
def dgRead_rp : SP := ⟨1, [(0, .tup [.agg [.i .i64, .i .i64, .s], .one (.i .i64)])], []⟩
def dgRead_tree : ((List UInt8) × (Int × (Int × Unit))) → Tr (Int × (Int × ((List UInt8) × (Int × Unit)))) :=
  fun (a0, a1, a2, _) =>
  .ite (decide ((↑(List.length a0) : Int) < (8 : Int))) (
   .ret ((0 : Int), ((0 : Int), ([], ((3 : Int), ()))))) (
   .opt (β := (Int × Unit)) ((dgWordAt_fn (a0, ((4 : Int), ())))) (fun r0 =>
   .ite (decide ((↑(List.length a0) : Int) < r0.1)) (
    .ret ((0 : Int), ((0 : Int), ([], ((3 : Int), ()))))) (
    .ite (decide (r0.1 < (8 : Int))) (
     .ret ((0 : Int), ((0 : Int), ([], ((4 : Int), ()))))) (
     .ite (decide ((65515 : Int) < r0.1)) (
      .ret ((0 : Int), ((0 : Int), ([], ((4 : Int), ()))))) (
      .opt (β := (Int × Unit)) ((dgWordAt_fn (a0, ((6 : Int), ())))) (fun r1 =>
      .ite (!decide (r1.1 = (0 : Int))) (
       .opt (β := ((List UInt8) × Unit)) ((dgUnder_fn (a1, (a2, ((17 : Int), (r0.1, ())))))) (fun r2 =>
       .grd (decide ((0 : Int) ≤ (0 : Int) ∧ (0 : Int) ≤ r0.1 ∧ r0.1 ≤ (↑(List.length a0) : Int))) (
       .grd (decide (List.length r2.1 + List.length (List.drop (0 : Nat) (List.take (Int.toNat r0.1) a0)) ≤ (9223372036854775807 : Nat))) (
       .opt (β := (Bool × Unit)) ((sumRight_fn (r2.1 ++ List.drop (0 : Nat) (List.take (Int.toNat r0.1) a0), ()))) (fun r3 =>
       .ite (!r3.1) (
        .ret ((0 : Int), ((0 : Int), ([], ((5 : Int), ()))))) (
        .opt (β := (Int × Unit)) ((dgWordAt_fn (a0, ((0 : Int), ())))) (fun r4 =>
        .opt (β := (Int × Unit)) ((dgWordAt_fn (a0, ((2 : Int), ())))) (fun r5 =>
        .grd (decide ((0 : Int) ≤ (8 : Int) ∧ (8 : Int) ≤ r0.1 ∧ r0.1 ≤ (↑(List.length a0) : Int))) (
        .ret (r4.1, (r5.1, (List.drop (8 : Nat) (List.take (Int.toNat r0.1) a0), ((0 : Int), ()))))))))))))) (
       .opt (β := (Int × Unit)) ((dgWordAt_fn (a0, ((0 : Int), ())))) (fun r2 =>
       .opt (β := (Int × Unit)) ((dgWordAt_fn (a0, ((2 : Int), ())))) (fun r3 =>
       .grd (decide ((0 : Int) ≤ (8 : Int) ∧ (8 : Int) ≤ r0.1 ∧ r0.1 ≤ (↑(List.length a0) : Int))) (
       .ret (r2.1, (r3.1, (List.drop (8 : Nat) (List.take (Int.toNat r0.1) a0), ((0 : Int), ()))))))))))))))
theorem dgRead_eq (x : ((List UInt8) × (Int × (Int × Unit)))) : fnTr Try.prog cod [FS.pf sumFold, FS.pf sumAdd, FS.pf sumOf, FS.pf sumRight, FS.pf sumFix, FS.pf dgWord, FS.pf dgLong, FS.pf dgWordAt, FS.pf dgUnder, FS.pf dgPort, FS.pf dgWrite] [] 30 18 dgRead_ap dgRead_rp x = dgRead_tree x := by kernel_rfl
def dgRead_fn (x : ((List UInt8) × (Int × (Int × Unit)))) : Option (Int × (Int × ((List UInt8) × (Int × Unit)))) := (dgRead_tree x).eval
def dgRead : FS Try.prog := ⟨18, dgRead_ap, dgRead_rp, dgRead_fn, fun x r h => fnTr_sound (cod := cod) (Γ := [FS.pf sumFold, FS.pf sumAdd, FS.pf sumOf, FS.pf sumRight, FS.pf sumFix, FS.pf dgWord, FS.pf dgLong, FS.pf dgWordAt, FS.pf dgUnder, FS.pf dgPort, FS.pf dgWrite]) (Λs := []) (n := 30) ((congrArg Tr.eval (dgRead_eq x)).trans h)⟩
def dgWriteNote_ap : List VP1 := [.agg [.i .i64, .i .i64, .i .u8, .i .u8, .i .u8, .i .u8, .s]]
def dgWriteNote_rp : SP := ⟨1, [(0, .tup [.one (.s), .one (.i .i64)])], []⟩
def dgWriteNote_tree : (Int × (Int × (Int × (Int × (Int × (Int × ((List UInt8) × Unit))))))) → Tr ((List UInt8) × (Int × Unit)) :=
  fun (a0, a1, a2, a3, a4, a5, a6, _) =>
  .ite (decide (a0 < (0 : Int))) (
   .ret ([], ((1 : Int), ()))) (
   .ite (decide ((255 : Int) < a0)) (
    .ret ([], ((1 : Int), ()))) (
    .ite (decide (a1 < (0 : Int))) (
     .ret ([], ((1 : Int), ()))) (
     .ite (decide ((255 : Int) < a1)) (
      .ret ([], ((1 : Int), ()))) (
      .ite (decide ((65507 : Int) < (↑(List.length a6) : Int))) (
       .ret ([], ((2 : Int), ()))) (
       .grd (true) (
       .opt (β := ((List UInt8) × Unit)) ((dgWord_fn (bits BinOp.or IntKind.i64 (IntKind.wrap IntKind.i64 (a0 * (2 : Int) ^ (8 : Nat))) a1, ()))) (fun r0 =>
       .grd (decide (List.length (List.map (fun n => UInt8.ofNat (Int.toNat n)) [a2, a3, a4, a5]) + List.length a6 ≤ (9223372036854775807 : Nat))) (
       .grd (decide (List.length r0.1 + List.length (List.map (fun n => UInt8.ofNat (Int.toNat n)) [a2, a3, a4, a5] ++ a6) ≤ (9223372036854775807 : Nat))) (
       .opt (β := (Int × Unit)) ((sumOf_fn (r0.1 ++ (List.map (fun n => UInt8.ofNat (Int.toNat n)) [a2, a3, a4, a5] ++ a6), ()))) (fun r1 =>
       .opt (β := ((List UInt8) × Unit)) ((dgWord_fn (IntKind.wrap IntKind.i64 r1.1, ()))) (fun r2 =>
       .grd (decide (List.length r0.1 + List.length r2.1 ≤ (9223372036854775807 : Nat))) (
       .grd (decide (List.length (r0.1 ++ r2.1) + List.length (List.map (fun n => UInt8.ofNat (Int.toNat n)) [a2, a3, a4, a5] ++ a6) ≤ (9223372036854775807 : Nat))) (
       .ret (r0.1 ++ r2.1 ++ (List.map (fun n => UInt8.ofNat (Int.toNat n)) [a2, a3, a4, a5] ++ a6), ((0 : Int), ())))))))))))))))
theorem dgWriteNote_eq (x : (Int × (Int × (Int × (Int × (Int × (Int × ((List UInt8) × Unit)))))))) : fnTr Try.prog cod [FS.pf sumFold, FS.pf sumAdd, FS.pf sumOf, FS.pf sumRight, FS.pf sumFix, FS.pf dgWord, FS.pf dgLong, FS.pf dgWordAt, FS.pf dgUnder, FS.pf dgPort, FS.pf dgWrite, FS.pf dgRead] [] 30 20 dgWriteNote_ap dgWriteNote_rp x = dgWriteNote_tree x := by kernel_rfl
def dgWriteNote_fn (x : (Int × (Int × (Int × (Int × (Int × (Int × ((List UInt8) × Unit)))))))) : Option ((List UInt8) × (Int × Unit)) := (dgWriteNote_tree x).eval
def dgWriteNote : FS Try.prog := ⟨20, dgWriteNote_ap, dgWriteNote_rp, dgWriteNote_fn, fun x r h => fnTr_sound (cod := cod) (Γ := [FS.pf sumFold, FS.pf sumAdd, FS.pf sumOf, FS.pf sumRight, FS.pf sumFix, FS.pf dgWord, FS.pf dgLong, FS.pf dgWordAt, FS.pf dgUnder, FS.pf dgPort, FS.pf dgWrite, FS.pf dgRead]) (Λs := []) (n := 30) ((congrArg Tr.eval (dgWriteNote_eq x)).trans h)⟩
def dgReadNote_ap : List VP1 := [.one (.s)]
def dgReadNote_rp : SP := ⟨1, [(0, .tup [.agg [.i .i64, .i .i64, .i .u8, .i .u8, .i .u8, .i .u8, .s], .one (.i .i64)])], []⟩
def dgReadNote_tree : ((List UInt8) × Unit) → Tr (Int × (Int × (Int × (Int × (Int × (Int × ((List UInt8) × (Int × Unit)))))))) :=
  fun (a0, _) =>
  .ite (decide ((↑(List.length a0) : Int) < (8 : Int))) (
   .ret ((0 : Int), ((0 : Int), ((0 : Int), ((0 : Int), ((0 : Int), ((0 : Int), ([], ((3 : Int), ()))))))))) (
   .ite (decide ((65515 : Int) < (↑(List.length a0) : Int))) (
    .ret ((0 : Int), ((0 : Int), ((0 : Int), ((0 : Int), ((0 : Int), ((0 : Int), ([], ((2 : Int), ()))))))))) (
    .opt (β := (Bool × Unit)) ((sumRight_fn (a0, ()))) (fun r0 =>
    .ite (!r0.1) (
     .ret ((0 : Int), ((0 : Int), ((0 : Int), ((0 : Int), ((0 : Int), ((0 : Int), ([], ((5 : Int), ()))))))))) (
     .grd (decide ((0 : Int) ≤ (0 : Int) ∧ (0 : Int) < (↑(List.length a0) : Int))) (
     .grd (decide ((0 : Int) ≤ (1 : Int) ∧ (1 : Int) < (↑(List.length a0) : Int))) (
     .grd (decide ((0 : Int) ≤ (4 : Int) ∧ (4 : Int) ≤ (8 : Int) ∧ (8 : Int) ≤ (↑(List.length a0) : Int))) (
     .grd (decide (List.length (List.drop (4 : Nat) (List.take (8 : Nat) a0)) ≤ (9223372036854775807 : Nat))) (
     .grd (decide ((4 : Nat) ≤ List.length (List.drop (4 : Nat) (List.take (8 : Nat) a0)))) (
     .grd (decide ((0 : Nat) + (4 : Nat) ≤ List.length (List.drop (4 : Nat) (List.take (8 : Nat) a0)))) (
     .grd (decide ((0 : Int) ≤ (8 : Int) ∧ (8 : Int) ≤ (↑(List.length a0) : Int) ∧ (↑(List.length a0) : Int) ≤ (↑(List.length a0) : Int))) (
     .ret (IntKind.wrap IntKind.i64 (↑(UInt8.toNat (List.getD a0 (0 : Nat) (0 : UInt8))) : Int), (IntKind.wrap IntKind.i64 (↑(UInt8.toNat (List.getD a0 (1 : Nat) (0 : UInt8))) : Int), ((↑(UInt8.toNat (List.getD (List.drop (4 : Nat) (List.take (8 : Nat) a0)) ((0 : Nat) + nat_lit 0) (0 : UInt8))) : Int), ((↑(UInt8.toNat (List.getD (List.drop (4 : Nat) (List.take (8 : Nat) a0)) ((0 : Nat) + nat_lit 1) (0 : UInt8))) : Int), ((↑(UInt8.toNat (List.getD (List.drop (4 : Nat) (List.take (8 : Nat) a0)) ((0 : Nat) + nat_lit 2) (0 : UInt8))) : Int), ((↑(UInt8.toNat (List.getD (List.drop (4 : Nat) (List.take (8 : Nat) a0)) ((0 : Nat) + nat_lit 3) (0 : UInt8))) : Int), (List.drop (8 : Nat) (List.take (Int.toNat (↑(List.length a0) : Int)) a0), ((0 : Int), ())))))))))))))))))))
theorem dgReadNote_eq (x : ((List UInt8) × Unit)) : fnTr Try.prog cod [FS.pf sumFold, FS.pf sumAdd, FS.pf sumOf, FS.pf sumRight, FS.pf sumFix, FS.pf dgWord, FS.pf dgLong, FS.pf dgWordAt, FS.pf dgUnder, FS.pf dgPort, FS.pf dgWrite, FS.pf dgRead, FS.pf dgWriteNote] [] 30 21 dgReadNote_ap dgReadNote_rp x = dgReadNote_tree x := by kernel_rfl
def dgReadNote_fn (x : ((List UInt8) × Unit)) : Option (Int × (Int × (Int × (Int × (Int × (Int × ((List UInt8) × (Int × Unit)))))))) := (dgReadNote_tree x).eval
def dgReadNote : FS Try.prog := ⟨21, dgReadNote_ap, dgReadNote_rp, dgReadNote_fn, fun x r h => fnTr_sound (cod := cod) (Γ := [FS.pf sumFold, FS.pf sumAdd, FS.pf sumOf, FS.pf sumRight, FS.pf sumFix, FS.pf dgWord, FS.pf dgLong, FS.pf dgWordAt, FS.pf dgUnder, FS.pf dgPort, FS.pf dgWrite, FS.pf dgRead, FS.pf dgWriteNote]) (Λs := []) (n := 30) ((congrArg Tr.eval (dgReadNote_eq x)).trans h)⟩
def kWord_ap : List VP1 := [.one (.i .u16)]
def kWord_rp : SP := ⟨1, [(0, .v (.one (.s)))], []⟩
def kWord_tree : (Int × Unit) → Tr ((List UInt8) × Unit) :=
  fun (a0, _) =>
  .grd (true) (
  .grd (decide ((0 : Int) ≤ IntKind.wrap IntKind.u8 (Int.fdiv a0 ((2 : Int) ^ (8 : Nat))) ∧ IntKind.wrap IntKind.u8 (Int.fdiv a0 ((2 : Int) ^ (8 : Nat))) < (256 : Int))) (
  .grd (decide ((0 : Int) ≤ IntKind.wrap IntKind.u8 a0 ∧ IntKind.wrap IntKind.u8 a0 < (256 : Int))) (
  .ret ([UInt8.ofNat (Int.toNat (IntKind.wrap IntKind.u8 (Int.fdiv a0 ((2 : Int) ^ (8 : Nat))))), UInt8.ofNat (Int.toNat (IntKind.wrap IntKind.u8 a0))], ()))))
theorem kWord_eq (x : (Int × Unit)) : fnTr Try.prog cod [FS.pf sumFold, FS.pf sumAdd, FS.pf sumOf, FS.pf sumRight, FS.pf sumFix, FS.pf dgWord, FS.pf dgLong, FS.pf dgWordAt, FS.pf dgUnder, FS.pf dgPort, FS.pf dgWrite, FS.pf dgRead, FS.pf dgWriteNote, FS.pf dgReadNote] [] 30 19 kWord_ap kWord_rp x = kWord_tree x := by kernel_rfl
def kWord_fn (x : (Int × Unit)) : Option ((List UInt8) × Unit) := (kWord_tree x).eval
def kWord : FS Try.prog := ⟨19, kWord_ap, kWord_rp, kWord_fn, fun x r h => fnTr_sound (cod := cod) (Γ := [FS.pf sumFold, FS.pf sumAdd, FS.pf sumOf, FS.pf sumRight, FS.pf sumFix, FS.pf dgWord, FS.pf dgLong, FS.pf dgWordAt, FS.pf dgUnder, FS.pf dgPort, FS.pf dgWrite, FS.pf dgRead, FS.pf dgWriteNote, FS.pf dgReadNote]) (Λs := []) (n := 30) ((congrArg Tr.eval (kWord_eq x)).trans h)⟩
end Go.Proofs.Ytjehhmeaigkbnaa.X
