/- Functions of the program, as trees (printed by a program of mine: tool/XTool, xg.py), each with the proof that the machine comes to what its tree says. Conditions: none. -/
import Derived.Test.YtjehhmeaigkbnaaCod
import Derived.KernelRfl
import Derived.Test.YtjehhmeaigkbnaaGSip
namespace Go.Proofs.Ytjehhmeaigkbnaa.X
open Go Go.RowKit Go.Proofs.Ytjehhmeaigkbnaa.Abs
set_option maxRecDepth 100000
set_option linter.unusedVariables false
def coPort_ap : List VP1 := [.one (.i .i64)]
def coPort_rp : SP := ⟨1, [(0, .v (.one (.b)))], []⟩
def coPort_tree : (Int × Unit) → Tr (Bool × Unit) :=
  fun (a0, _) =>
  .ite (decide ((0 : Int) ≤ a0)) (
   .ret (decide (a0 ≤ (65535 : Int)), ())) (
   .ret (false, ()))
theorem coPort_eq (x : (Int × Unit)) : fnTr Try.prog cod [FS.pf rotl, FS.pf sipCheck, FS.pf sipBegin, FS.pf sipNumber, FS.pf sipMore, FS.pf sipEnd, FS.pf sipOf] [] 30 50 coPort_ap coPort_rp x = coPort_tree x := by kernel_rfl
def coPort_fn (x : (Int × Unit)) : Option (Bool × Unit) := (coPort_tree x).eval
def coPort : FS Try.prog := ⟨50, coPort_ap, coPort_rp, coPort_fn, fun x r h => fnTr_sound (cod := cod) (Γ := [FS.pf rotl, FS.pf sipCheck, FS.pf sipBegin, FS.pf sipNumber, FS.pf sipMore, FS.pf sipEnd, FS.pf sipOf]) (Λs := []) (n := 30) ((congrArg Tr.eval (coPort_eq x)).trans h)⟩
def coLong_ap : List VP1 := [.one (.i .u32)]
def coLong_rp : SP := ⟨1, [(0, .v (.one (.s)))], []⟩
def coLong_tree : (Int × Unit) → Tr ((List UInt8) × Unit) :=
  fun (a0, _) =>
  .grd (true) (
  .grd (true) (
  .grd (true) (
  .grd (decide ((0 : Int) ≤ IntKind.wrap IntKind.u8 (Int.fdiv a0 ((2 : Int) ^ (24 : Nat))) ∧ IntKind.wrap IntKind.u8 (Int.fdiv a0 ((2 : Int) ^ (24 : Nat))) < (256 : Int))) (
  .grd (decide ((0 : Int) ≤ IntKind.wrap IntKind.u8 (Int.fdiv a0 ((2 : Int) ^ (16 : Nat))) ∧ IntKind.wrap IntKind.u8 (Int.fdiv a0 ((2 : Int) ^ (16 : Nat))) < (256 : Int))) (
  .grd (decide ((0 : Int) ≤ IntKind.wrap IntKind.u8 (Int.fdiv a0 ((2 : Int) ^ (8 : Nat))) ∧ IntKind.wrap IntKind.u8 (Int.fdiv a0 ((2 : Int) ^ (8 : Nat))) < (256 : Int))) (
  .grd (decide ((0 : Int) ≤ IntKind.wrap IntKind.u8 a0 ∧ IntKind.wrap IntKind.u8 a0 < (256 : Int))) (
  .ret ([UInt8.ofNat (Int.toNat (IntKind.wrap IntKind.u8 (Int.fdiv a0 ((2 : Int) ^ (24 : Nat))))), UInt8.ofNat (Int.toNat (IntKind.wrap IntKind.u8 (Int.fdiv a0 ((2 : Int) ^ (16 : Nat))))), UInt8.ofNat (Int.toNat (IntKind.wrap IntKind.u8 (Int.fdiv a0 ((2 : Int) ^ (8 : Nat))))), UInt8.ofNat (Int.toNat (IntKind.wrap IntKind.u8 a0))], ()))))))))
theorem coLong_eq (x : (Int × Unit)) : fnTr Try.prog cod [FS.pf rotl, FS.pf sipCheck, FS.pf sipBegin, FS.pf sipNumber, FS.pf sipMore, FS.pf sipEnd, FS.pf sipOf, FS.pf coPort] [] 30 51 coLong_ap coLong_rp x = coLong_tree x := by kernel_rfl
def coLong_fn (x : (Int × Unit)) : Option ((List UInt8) × Unit) := (coLong_tree x).eval
def coLong : FS Try.prog := ⟨51, coLong_ap, coLong_rp, coLong_fn, fun x r h => fnTr_sound (cod := cod) (Γ := [FS.pf rotl, FS.pf sipCheck, FS.pf sipBegin, FS.pf sipNumber, FS.pf sipMore, FS.pf sipEnd, FS.pf sipOf, FS.pf coPort]) (Λs := []) (n := 30) ((congrArg Tr.eval (coLong_eq x)).trans h)⟩
def coSizes_ap : List VP1 := []
def coSizes_rp : SP := ⟨1, [(0, .v (.agg [.i .i64, .i .i64, .i .i64, .i .i64, .i .i64, .i .i64, .i .i64, .i .i64]))], []⟩
def coSizes_tree : Unit → Tr (Int × (Int × (Int × (Int × (Int × (Int × (Int × (Int × Unit)))))))) :=
  fun (_) =>
  .ret ((216 : Int), ((536 : Int), ((1220 : Int), ((1300 : Int), ((1360 : Int), ((1440 : Int), ((1460 : Int), ((8960 : Int), ()))))))))
theorem coSizes_eq (x : Unit) : fnTr Try.prog cod [FS.pf rotl, FS.pf sipCheck, FS.pf sipBegin, FS.pf sipNumber, FS.pf sipMore, FS.pf sipEnd, FS.pf sipOf, FS.pf coPort, FS.pf coLong] [] 30 30 coSizes_ap coSizes_rp x = coSizes_tree x := by kernel_rfl
def coSizes_fn (x : Unit) : Option (Int × (Int × (Int × (Int × (Int × (Int × (Int × (Int × Unit)))))))) := (coSizes_tree x).eval
def coSizes : FS Try.prog := ⟨30, coSizes_ap, coSizes_rp, coSizes_fn, fun x r h => fnTr_sound (cod := cod) (Γ := [FS.pf rotl, FS.pf sipCheck, FS.pf sipBegin, FS.pf sipNumber, FS.pf sipMore, FS.pf sipEnd, FS.pf sipOf, FS.pf coPort, FS.pf coLong]) (Λs := []) (n := 30) ((congrArg Tr.eval (coSizes_eq x)).trans h)⟩
def coIndex_L31_3 : LS := ⟨3, [], ⟨17, [(7, .v (.one (.i .i64))), (0, .v (.one (.i .i64))), (6, .v (.agg [.i .i64, .i .i64, .i .i64, .i .i64, .i .i64, .i .i64, .i .i64, .i .i64])), (3, .v (.one (.i .i64)))], []⟩, [⟨some 0, [], ⟨17, [(3, .v (.one (.i .i64)))], []⟩⟩], []⟩
def coIndex_step31_3 : (Int × (Int × (Int × (Int × (Int × (Int × (Int × (Int × (Int × (Int × (Int × Unit))))))))))) → Tr ((Int × (Int × (Int × (Int × (Int × (Int × (Int × (Int × (Int × (Int × (Int × Unit))))))))))) ⊕ (Int × Unit)) :=
  fun (a0, a1, a2, a3, a4, a5, a6, a7, a8, a9, a10, _) =>
  .ite (decide (a0 < (8 : Int))) (
   .grd (decide ((0 : Int) ≤ a0)) (
   .opt (β := Int) ([a2, a3, a4, a5, a6, a7, a8, a9][Int.toNat a0]?) (fun r0 =>
   .ite (decide (r0 ≤ a1)) (
    .ret (Sum.inl (IntKind.wrap IntKind.i64 (a0 + (1 : Int)), (a1, (a2, (a3, (a4, (a5, (a6, (a7, (a8, (a9, (a0, ()))))))))))))) (
    .ret (Sum.inl (IntKind.wrap IntKind.i64 (a0 + (1 : Int)), (a1, (a2, (a3, (a4, (a5, (a6, (a7, (a8, (a9, (a10, ())))))))))))))))) (
   .ret (Sum.inr (a10, ())))
def coIndex_loop31_3 (x : (Int × (Int × (Int × (Int × (Int × (Int × (Int × (Int × (Int × (Int × (Int × Unit)))))))))))) : Option (Int × Unit) := loopO 310003 (fun x => (coIndex_step31_3 x).eval) 18446744073709551616 x
def coIndex_ap : List VP1 := [.one (.i .i64)]
def coIndex_rp : SP := ⟨1, [(0, .v (.one (.i .i64)))], []⟩
def coIndex_tree : (Int × Unit) → Tr (Int × Unit) :=
  fun (a0, _) =>
  .opt (β := (Int × (Int × (Int × (Int × (Int × (Int × (Int × (Int × Unit))))))))) ((coSizes_fn ())) (fun r0 =>
  .opt (β := (Int × Unit)) ((coIndex_loop31_3 ((0 : Int), (a0, (r0.1, (r0.2.1, (r0.2.2.1, (r0.2.2.2.1, (r0.2.2.2.2.1, (r0.2.2.2.2.2.1, (r0.2.2.2.2.2.2.1, (r0.2.2.2.2.2.2.2.1, ((0 : Int), ()))))))))))))) (fun r1 =>
  .ret (r1.1, ())))
theorem coIndex_eq (x : (Int × Unit)) : fnTr Try.prog cod [FS.pf rotl, FS.pf sipCheck, FS.pf sipBegin, FS.pf sipNumber, FS.pf sipMore, FS.pf sipEnd, FS.pf sipOf, FS.pf coPort, FS.pf coLong, FS.pf coSizes] [(31, coIndex_L31_3)] 30 31 coIndex_ap coIndex_rp x = coIndex_tree x := by kernel_rfl
def coIndex_fn (x : (Int × Unit)) : Option (Int × Unit) := (coIndex_tree x).eval
def coIndex : FS Try.prog := ⟨31, coIndex_ap, coIndex_rp, coIndex_fn, fun x r h => fnTr_sound (cod := cod) (Γ := [FS.pf rotl, FS.pf sipCheck, FS.pf sipBegin, FS.pf sipNumber, FS.pf sipMore, FS.pf sipEnd, FS.pf sipOf, FS.pf coPort, FS.pf coLong, FS.pf coSizes]) (Λs := [(31, coIndex_L31_3)]) (n := 30) ((congrArg Tr.eval (coIndex_eq x)).trans h)⟩
def coMake_ap : List VP1 := [.agg [.i .u64, .i .u64], .agg [.i .u32, .i .u32, .i .i64, .i .i64], .one (.i .u32), .one (.i .i64), .one (.i .i64)]
def coMake_rp : SP := ⟨1, [(0, .tup [.one (.i .u32), .one (.i .i64)])], []⟩
def coMake_tree : (Int × (Int × (Int × (Int × (Int × (Int × (Int × (Int × (Int × Unit))))))))) → Tr (Int × (Int × Unit)) :=
  fun (a0, a1, a2, a3, a4, a5, a6, a7, a8, _) =>
  .opt (β := (Bool × Unit)) ((coPort_fn (a4, ()))) (fun r0 =>
  .ite (!r0.1) (
   .ret ((0 : Int), ((1 : Int), ()))) (
   .opt (β := (Bool × Unit)) ((coPort_fn (a5, ()))) (fun r1 =>
   .ite (!r1.1) (
    .ret ((0 : Int), ((1 : Int), ()))) (
    .ite (decide (a7 < (0 : Int))) (
     .ret ((0 : Int), ((1 : Int), ()))) (
     .ite (decide ((31 : Int) < a7)) (
      .ret ((0 : Int), ((1 : Int), ()))) (
      .ite (decide (a8 < (0 : Int))) (
       .ret ((0 : Int), ((1 : Int), ()))) (
       .ite (decide ((7 : Int) < a8)) (
        .ret ((0 : Int), ((1 : Int), ()))) (
        .opt (β := ((List UInt8) × Unit)) ((coLong_fn (a2, ()))) (fun r2 =>
        .opt (β := ((List UInt8) × Unit)) ((coLong_fn (a3, ()))) (fun r3 =>
        .grd (decide (List.length r2.1 + List.length r3.1 ≤ (9223372036854775807 : Nat))) (
        .grd (true) (
        .opt (β := ((List UInt8) × Unit)) ((coLong_fn (IntKind.wrap IntKind.u32 (bits BinOp.or IntKind.i64 (IntKind.wrap IntKind.i64 (a4 * (2 : Int) ^ (16 : Nat))) a5), ()))) (fun r4 =>
        .grd (decide (List.length (r2.1 ++ r3.1) + List.length r4.1 ≤ (9223372036854775807 : Nat))) (
        .opt (β := ((List UInt8) × Unit)) ((coLong_fn (a6, ()))) (fun r5 =>
        .grd (decide (List.length (r2.1 ++ r3.1 ++ r4.1) + List.length r5.1 ≤ (9223372036854775807 : Nat))) (
        .grd (decide ((0 : Int) ≤ IntKind.wrap IntKind.u8 a7 ∧ IntKind.wrap IntKind.u8 a7 < (256 : Int))) (
        .grd (decide ((0 : Int) ≤ IntKind.wrap IntKind.u8 a8 ∧ IntKind.wrap IntKind.u8 a8 < (256 : Int))) (
        .grd (decide (List.length (r2.1 ++ r3.1 ++ r4.1 ++ r5.1) + List.length [UInt8.ofNat (Int.toNat (IntKind.wrap IntKind.u8 a7)), UInt8.ofNat (Int.toNat (IntKind.wrap IntKind.u8 a8))] ≤ (9223372036854775807 : Nat))) (
        .grd (true) (
        .grd (true) (
        .opt (β := (Int × Unit)) ((sipOf_fn (a0, (a1, (r2.1 ++ r3.1 ++ r4.1 ++ r5.1 ++ [UInt8.ofNat (Int.toNat (IntKind.wrap IntKind.u8 a7)), UInt8.ofNat (Int.toNat (IntKind.wrap IntKind.u8 a8))], ()))))) (fun r6 =>
        .ret (bits BinOp.or IntKind.u32 (IntKind.wrap IntKind.u32 (bits BinOp.or IntKind.i64 (IntKind.wrap IntKind.i64 (a7 * (2 : Int) ^ (27 : Nat))) (IntKind.wrap IntKind.i64 (a8 * (2 : Int) ^ (24 : Nat))))) (IntKind.wrap IntKind.u32 (bits BinOp.and IntKind.u64 r6.1 (16777215 : Int))), ((0 : Int), ()))))))))))))))))))))))))
theorem coMake_eq (x : (Int × (Int × (Int × (Int × (Int × (Int × (Int × (Int × (Int × Unit)))))))))) : fnTr Try.prog cod [FS.pf rotl, FS.pf sipCheck, FS.pf sipBegin, FS.pf sipNumber, FS.pf sipMore, FS.pf sipEnd, FS.pf sipOf, FS.pf coPort, FS.pf coLong, FS.pf coSizes, FS.pf coIndex] [] 30 27 coMake_ap coMake_rp x = coMake_tree x := by kernel_rfl
def coMake_fn (x : (Int × (Int × (Int × (Int × (Int × (Int × (Int × (Int × (Int × Unit)))))))))) : Option (Int × (Int × Unit)) := (coMake_tree x).eval
def coMake : FS Try.prog := ⟨27, coMake_ap, coMake_rp, coMake_fn, fun x r h => fnTr_sound (cod := cod) (Γ := [FS.pf rotl, FS.pf sipCheck, FS.pf sipBegin, FS.pf sipNumber, FS.pf sipMore, FS.pf sipEnd, FS.pf sipOf, FS.pf coPort, FS.pf coLong, FS.pf coSizes, FS.pf coIndex]) (Λs := []) (n := 30) ((congrArg Tr.eval (coMake_eq x)).trans h)⟩
def coOpen_ap : List VP1 := [.agg [.i .u64, .i .u64], .agg [.i .u32, .i .u32, .i .i64, .i .i64], .one (.i .u32), .one (.i .u32), .one (.i .i64)]
def coOpen_rp : SP := ⟨1, [(0, .tup [.one (.i .i64), .one (.i .i64)])], []⟩
def coOpen_tree : (Int × (Int × (Int × (Int × (Int × (Int × (Int × (Int × (Int × Unit))))))))) → Tr (Int × (Int × Unit)) :=
  fun (a0, a1, a2, a3, a4, a5, a6, a7, a8, _) =>
  .ite (decide (a8 < (0 : Int))) (
   .ret ((0 : Int), ((1 : Int), ()))) (
   .ite (decide ((31 : Int) < a8)) (
    .ret ((0 : Int), ((1 : Int), ()))) (
    .grd (true) (
    .grd (true) (
    .opt (β := (Int × (Int × Unit))) ((coMake_fn (a0, (a1, (a2, (a3, (a4, (a5, (a6, (IntKind.wrap IntKind.i64 (Int.fdiv a7 ((2 : Int) ^ (27 : Nat))), (IntKind.wrap IntKind.i64 (bits BinOp.and IntKind.u32 (Int.fdiv a7 ((2 : Int) ^ (24 : Nat))) (7 : Int)), ()))))))))))) (fun r0 =>
    .ite (!decide (r0.2.1 = (0 : Int))) (
     .ret ((0 : Int), (r0.2.1, ()))) (
     .ite (decide ((1 : Int) < bits BinOp.and IntKind.i64 (IntKind.wrap IntKind.i64 (a8 - IntKind.wrap IntKind.i64 (Int.fdiv a7 ((2 : Int) ^ (27 : Nat))))) (31 : Int))) (
      .ret ((0 : Int), ((9 : Int), ()))) (
      .ite (!decide (r0.1 = a7)) (
       .ret ((0 : Int), ((5 : Int), ()))) (
       .opt (β := (Int × (Int × (Int × (Int × (Int × (Int × (Int × (Int × Unit))))))))) ((coSizes_fn ())) (fun r1 =>
       .grd (decide ((0 : Int) ≤ IntKind.wrap IntKind.i64 (bits BinOp.and IntKind.u32 (Int.fdiv a7 ((2 : Int) ^ (24 : Nat))) (7 : Int)))) (
       .opt (β := Int) ([r1.1, r1.2.1, r1.2.2.1, r1.2.2.2.1, r1.2.2.2.2.1, r1.2.2.2.2.2.1, r1.2.2.2.2.2.2.1, r1.2.2.2.2.2.2.2.1][Int.toNat (IntKind.wrap IntKind.i64 (bits BinOp.and IntKind.u32 (Int.fdiv a7 ((2 : Int) ^ (24 : Nat))) (7 : Int)))]?) (fun r2 =>
       .ret (r2, ((0 : Int), ())))))))))))))
theorem coOpen_eq (x : (Int × (Int × (Int × (Int × (Int × (Int × (Int × (Int × (Int × Unit)))))))))) : fnTr Try.prog cod [FS.pf rotl, FS.pf sipCheck, FS.pf sipBegin, FS.pf sipNumber, FS.pf sipMore, FS.pf sipEnd, FS.pf sipOf, FS.pf coPort, FS.pf coLong, FS.pf coSizes, FS.pf coIndex, FS.pf coMake] [] 30 28 coOpen_ap coOpen_rp x = coOpen_tree x := by kernel_rfl
def coOpen_fn (x : (Int × (Int × (Int × (Int × (Int × (Int × (Int × (Int × (Int × Unit)))))))))) : Option (Int × (Int × Unit)) := (coOpen_tree x).eval
def coOpen : FS Try.prog := ⟨28, coOpen_ap, coOpen_rp, coOpen_fn, fun x r h => fnTr_sound (cod := cod) (Γ := [FS.pf rotl, FS.pf sipCheck, FS.pf sipBegin, FS.pf sipNumber, FS.pf sipMore, FS.pf sipEnd, FS.pf sipOf, FS.pf coPort, FS.pf coLong, FS.pf coSizes, FS.pf coIndex, FS.pf coMake]) (Λs := []) (n := 30) ((congrArg Tr.eval (coOpen_eq x)).trans h)⟩
end Go.Proofs.Ytjehhmeaigkbnaa.X
