/- Functions of the program, as trees (printed by a program of mine: tool/XTool, xg.py), each with the proof that the machine comes to what its tree says. Conditions: none. -/
import Derived.Test.YtcdcdmfecglemaaCod
import Derived.KernelRfl
namespace Go.Proofs.Ytcdcdmfecglemaa.X
open Go Go.RowKit Go.Proofs.Ytcdcdmfecglemaa.Abs
set_option maxRecDepth 100000
set_option linter.unusedVariables false
def rotl_ap : List VP1 := [.one (.i .u64), .one (.i .i64)]
def rotl_rp : SP := ⟨1, [(0, .v (.one (.i .u64)))], []⟩
def rotl_tree : (Int × (Int × Unit)) → Tr (Int × Unit) :=
  fun (a0, a1, _) =>
  .grd (decide ((0 : Int) ≤ bits BinOp.and IntKind.u64 (IntKind.wrap IntKind.u64 a1) (63 : Int))) (
  .grd (decide ((0 : Int) ≤ IntKind.wrap IntKind.u64 ((64 : Int) - bits BinOp.and IntKind.u64 (IntKind.wrap IntKind.u64 a1) (63 : Int)))) (
  .ret (bits BinOp.or IntKind.u64 (IntKind.wrap IntKind.u64 (a0 * (2 : Int) ^ min (Int.toNat (bits BinOp.and IntKind.u64 (IntKind.wrap IntKind.u64 a1) (63 : Int))) (64 : Nat))) (Int.fdiv a0 ((2 : Int) ^ min (Int.toNat (IntKind.wrap IntKind.u64 ((64 : Int) - bits BinOp.and IntKind.u64 (IntKind.wrap IntKind.u64 a1) (63 : Int)))) (64 : Nat))), ())))
theorem rotl_eq (x : (Int × (Int × Unit))) : fnTr Try.prog cod [] [] 30 117 rotl_ap rotl_rp x = rotl_tree x := by kernel_rfl
def rotl_fn (x : (Int × (Int × Unit))) : Option (Int × Unit) := (rotl_tree x).eval
def rotl : FS Try.prog := ⟨117, rotl_ap, rotl_rp, rotl_fn, fun x r h => fnTr_sound (cod := cod) (Γ := []) (Λs := []) (n := 30) ((congrArg Tr.eval (rotl_eq x)).trans h)⟩
def sipCheck_ap : List VP1 := [.agg [.i .u64, .i .u64, .i .u64, .i .u64, .s, .i .i64]]
def sipCheck_rp : SP := ⟨1, [(0, .v (.one (.i .i64)))], []⟩
def sipCheck_tree : (Int × (Int × (Int × (Int × ((List UInt8) × (Int × Unit)))))) → Tr (Int × Unit) :=
  fun (a0, a1, a2, a3, a4, a5, _) =>
  .ite (decide (a5 < (0 : Int))) (
   .ret ((4 : Int), ())) (
   .grd (true) (
   .ite (!decide ((↑(List.length a4) : Int) = Int.tmod a5 (8 : Int))) (
    .ret ((4 : Int), ())) (
    .ret ((0 : Int), ()))))
theorem sipCheck_eq (x : (Int × (Int × (Int × (Int × ((List UInt8) × (Int × Unit))))))) : fnTr Try.prog cod [FS.pf rotl] [] 30 111 sipCheck_ap sipCheck_rp x = sipCheck_tree x := by kernel_rfl
def sipCheck_fn (x : (Int × (Int × (Int × (Int × ((List UInt8) × (Int × Unit))))))) : Option (Int × Unit) := (sipCheck_tree x).eval
def sipCheck : FS Try.prog := ⟨111, sipCheck_ap, sipCheck_rp, sipCheck_fn, fun x r h => fnTr_sound (cod := cod) (Γ := [FS.pf rotl]) (Λs := []) (n := 30) ((congrArg Tr.eval (sipCheck_eq x)).trans h)⟩
def sipBegin_ap : List VP1 := [.agg [.i .u64, .i .u64]]
def sipBegin_rp : SP := ⟨1, [(0, .v (.agg [.i .u64, .i .u64, .i .u64, .i .u64, .s, .i .i64]))], []⟩
def sipBegin_tree : (Int × (Int × Unit)) → Tr (Int × (Int × (Int × (Int × ((List UInt8) × (Int × Unit)))))) :=
  fun (a0, a1, _) =>
  .ret (bits BinOp.xor IntKind.u64 a0 (8317987319222330741 : Int), (bits BinOp.xor IntKind.u64 a1 (7237128888997146477 : Int), (bits BinOp.xor IntKind.u64 a0 (7816392313619706465 : Int), (bits BinOp.xor IntKind.u64 a1 (8387220255154660723 : Int), ([], ((0 : Int), ()))))))
theorem sipBegin_eq (x : (Int × (Int × Unit))) : fnTr Try.prog cod [FS.pf rotl, FS.pf sipCheck] [] 30 102 sipBegin_ap sipBegin_rp x = sipBegin_tree x := by kernel_rfl
def sipBegin_fn (x : (Int × (Int × Unit))) : Option (Int × (Int × (Int × (Int × ((List UInt8) × (Int × Unit)))))) := (sipBegin_tree x).eval
def sipBegin : FS Try.prog := ⟨102, sipBegin_ap, sipBegin_rp, sipBegin_fn, fun x r h => fnTr_sound (cod := cod) (Γ := [FS.pf rotl, FS.pf sipCheck]) (Λs := []) (n := 30) ((congrArg Tr.eval (sipBegin_eq x)).trans h)⟩
def sipNumber_L113_3 : LS := ⟨3, [], ⟨21, [(7, .v (.one (.i .i64))), (0, .v (.one (.s))), (3, .v (.one (.i .u64))), (6, .v (.one (.i .i64)))], []⟩, [⟨some 0, [], ⟨21, [(3, .v (.one (.i .u64)))], []⟩⟩], []⟩
def sipNumber_step113_3 : (Int × ((List UInt8) × (Int × (Int × Unit)))) → Tr ((Int × ((List UInt8) × (Int × (Int × Unit)))) ⊕ (Int × Unit)) :=
  fun (a0, a1, a2, a3, _) =>
  .ite (decide (a0 < a3)) (
   .grd (decide ((0 : Int) ≤ a0 ∧ a0 < (↑(List.length a1) : Int))) (
   .grd (decide ((0 : Int) ≤ IntKind.wrap IntKind.i64 ((8 : Int) * a0))) (
   .ret (Sum.inl (IntKind.wrap IntKind.i64 (a0 + (1 : Int)), (a1, (bits BinOp.or IntKind.u64 a2 (IntKind.wrap IntKind.u64 (IntKind.wrap IntKind.u64 (↑(UInt8.toNat (List.getD a1 (Int.toNat a0) (0 : UInt8))) : Int) * (2 : Int) ^ min (Int.toNat (IntKind.wrap IntKind.i64 ((8 : Int) * a0))) (64 : Nat))), (a3, ())))))))) (
   .ret (Sum.inr (a2, ())))
def sipNumber_loop113_3 (x : (Int × ((List UInt8) × (Int × (Int × Unit))))) : Option (Int × Unit) := loopO 1130003 (fun x => (sipNumber_step113_3 x).eval) 18446744073709551616 x
def sipNumber_ap : List VP1 := [.one (.s)]
def sipNumber_rp : SP := ⟨1, [(0, .v (.one (.i .u64)))], []⟩
def sipNumber_tree : ((List UInt8) × Unit) → Tr (Int × Unit) :=
  fun (a0, _) =>
  .opt (β := (Int × Unit)) ((sipNumber_loop113_3 ((0 : Int), (a0, ((0 : Int), ((↑(List.length a0) : Int), ())))))) (fun r0 =>
  .ret (r0.1, ()))
theorem sipNumber_eq (x : ((List UInt8) × Unit)) : fnTr Try.prog cod [FS.pf rotl, FS.pf sipCheck, FS.pf sipBegin] [(113, sipNumber_L113_3)] 30 113 sipNumber_ap sipNumber_rp x = sipNumber_tree x := by kernel_rfl
def sipNumber_fn (x : ((List UInt8) × Unit)) : Option (Int × Unit) := (sipNumber_tree x).eval
def sipNumber : FS Try.prog := ⟨113, sipNumber_ap, sipNumber_rp, sipNumber_fn, fun x r h => fnTr_sound (cod := cod) (Γ := [FS.pf rotl, FS.pf sipCheck, FS.pf sipBegin]) (Λs := [(113, sipNumber_L113_3)]) (n := 30) ((congrArg Tr.eval (sipNumber_eq x)).trans h)⟩
def sipMore_L114_2 : LS := ⟨2, [(1000000, 1000000)], ⟨67, [(25, .v (.one (.i .i64))), (7, .v (.one (.i .u64))), (6, .v (.one (.i .u64))), (5, .v (.one (.i .u64))), (4, .v (.one (.i .u64))), (0, .v (.one (.ptr 1000000 0))), (24, .v (.one (.i .i64)))], [(1000000, .cells [.i .u64, .i .u64, .i .u64, .i .u64, .s, .i .i64])]⟩, [⟨some 0, [(1000000, 1000000)], ⟨67, [(7, .v (.one (.i .u64))), (6, .v (.one (.i .u64))), (5, .v (.one (.i .u64))), (4, .v (.one (.i .u64))), (0, .v (.one (.ptr 1000000 0)))], [(1000000, .cells [.i .u64, .i .u64, .i .u64, .i .u64, .s, .i .i64])]⟩⟩], []⟩
def sipMore_step114_2 : (Int × (Int × (Int × (Int × (Int × (Int × (Int × (Int × (Int × (Int × ((List UInt8) × (Int × Unit)))))))))))) → Tr ((Int × (Int × (Int × (Int × (Int × (Int × (Int × (Int × (Int × (Int × ((List UInt8) × (Int × Unit)))))))))))) ⊕ (Int × (Int × (Int × (Int × (Int × (Int × (Int × (Int × ((List UInt8) × (Int × Unit))))))))))) :=
  fun (a0, a1, a2, a3, a4, a5, a6, a7, a8, a9, a10, a11, _) =>
  .ite (decide (a0 < a5)) (
   .opt (β := (Int × Unit)) ((rotl_fn (a3, ((13 : Int), ())))) (fun r0 =>
   .opt (β := (Int × Unit)) ((rotl_fn (IntKind.wrap IntKind.u64 (a4 + a3), ((32 : Int), ())))) (fun r1 =>
   .opt (β := (Int × Unit)) ((rotl_fn (a1, ((16 : Int), ())))) (fun r2 =>
   .opt (β := (Int × Unit)) ((rotl_fn (bits BinOp.xor IntKind.u64 r2.1 (IntKind.wrap IntKind.u64 (a2 + a1)), ((21 : Int), ())))) (fun r3 =>
   .opt (β := (Int × Unit)) ((rotl_fn (bits BinOp.xor IntKind.u64 r0.1 (IntKind.wrap IntKind.u64 (a4 + a3)), ((17 : Int), ())))) (fun r4 =>
   .opt (β := (Int × Unit)) ((rotl_fn (IntKind.wrap IntKind.u64 (IntKind.wrap IntKind.u64 (a2 + a1) + bits BinOp.xor IntKind.u64 r0.1 (IntKind.wrap IntKind.u64 (a4 + a3))), ((32 : Int), ())))) (fun r5 =>
   .ret (Sum.inl (IntKind.wrap IntKind.i64 (a0 + (1 : Int)), (bits BinOp.xor IntKind.u64 r3.1 (IntKind.wrap IntKind.u64 (r1.1 + bits BinOp.xor IntKind.u64 r2.1 (IntKind.wrap IntKind.u64 (a2 + a1)))), (r5.1, (bits BinOp.xor IntKind.u64 r4.1 (IntKind.wrap IntKind.u64 (IntKind.wrap IntKind.u64 (a2 + a1) + bits BinOp.xor IntKind.u64 r0.1 (IntKind.wrap IntKind.u64 (a4 + a3)))), (IntKind.wrap IntKind.u64 (r1.1 + bits BinOp.xor IntKind.u64 r2.1 (IntKind.wrap IntKind.u64 (a2 + a1))), (a5, (a6, (a7, (a8, (a9, (a10, (a11, ())))))))))))))))))))) (
   .ret (Sum.inr (a1, (a2, (a3, (a4, (a6, (a7, (a8, (a9, (a10, (a11, ()))))))))))))
def sipMore_loop114_2 (x : (Int × (Int × (Int × (Int × (Int × (Int × (Int × (Int × (Int × (Int × ((List UInt8) × (Int × Unit))))))))))))) : Option (Int × (Int × (Int × (Int × (Int × (Int × (Int × (Int × ((List UInt8) × (Int × Unit)))))))))) := loopO 1140002 (fun x => (sipMore_step114_2 x).eval) 18446744073709551616 x
def sipMore_L101_6 : LS := ⟨6, [(2, 2), (4, 4)], ⟨37, [(7, .v (.one (.s))), (2, .v (.one (.ptr 2 0))), (4, .v (.one (.ptr 4 0)))], [(2, .cells [.i .u64, .i .u64, .i .u64, .i .u64, .s, .i .i64]), (4, .cells [.i .u64, .i .u64, .i .u64, .i .u64, .s, .i .i64])]⟩, [⟨some 0, [(4, 4), (2, 2)], ⟨37, [(4, .v (.one (.ptr 4 0))), (2, .v (.one (.ptr 2 0))), (7, .v (.one (.s)))], [(4, .cells [.i .u64, .i .u64, .i .u64, .i .u64, .s, .i .i64]), (2, .cells [.i .u64, .i .u64, .i .u64, .i .u64, .s, .i .i64])]⟩⟩], []⟩
def sipMore_step101_6 : ((List UInt8) × (Int × (Int × (Int × (Int × ((List UInt8) × (Int × (Int × (Int × (Int × (Int × ((List UInt8) × (Int × Unit))))))))))))) → Tr (((List UInt8) × (Int × (Int × (Int × (Int × ((List UInt8) × (Int × (Int × (Int × (Int × (Int × ((List UInt8) × (Int × Unit))))))))))))) ⊕ ((List UInt8) × (Int × (Int × (Int × (Int × ((List UInt8) × (Int × (Int × (Int × (Int × (Int × ((List UInt8) × (Int × Unit)))))))))))))) :=
  fun (a0, a1, a2, a3, a4, a5, a6, a7, a8, a9, a10, a11, a12, _) =>
  .ite (decide ((8 : Int) ≤ (↑(List.length a0) : Int))) (
   .grd (decide ((0 : Int) ≤ (0 : Int) ∧ (0 : Int) ≤ (8 : Int) ∧ (8 : Int) ≤ (↑(List.length a0) : Int))) (
   .opt (β := (Int × Unit)) ((sipNumber_fn (List.drop (0 : Nat) (List.take (8 : Nat) a0), ()))) (fun r0 =>
   .opt (β := (Int × (Int × (Int × (Int × (Int × (Int × (Int × (Int × ((List UInt8) × (Int × Unit))))))))))) ((sipMore_loop114_2 ((0 : Int), (bits BinOp.xor IntKind.u64 a4 r0.1, (a3, (a2, (a1, ((2 : Int), (a1, (a2, (a3, (bits BinOp.xor IntKind.u64 a4 r0.1, (a5, (a6, ())))))))))))))) (fun r1 =>
   .grd (decide ((0 : Int) ≤ (8 : Int) ∧ (8 : Int) ≤ (↑(List.length a0) : Int) ∧ (↑(List.length a0) : Int) ≤ (↑(List.length a0) : Int))) (
   .ret (Sum.inl (List.drop (8 : Nat) (List.take (Int.toNat (↑(List.length a0) : Int)) a0), (bits BinOp.xor IntKind.u64 r1.2.2.2.1 r0.1, (r1.2.2.1, (r1.2.1, (r1.1, (r1.2.2.2.2.2.2.2.2.1, (r1.2.2.2.2.2.2.2.2.2.1, (a7, (a8, (a9, (a10, (a11, (a12, ()))))))))))))))))))) (
   .ret (Sum.inr (a0, (a7, (a8, (a9, (a10, (a11, (a12, (a1, (a2, (a3, (a4, (a5, (a6, ())))))))))))))))
def sipMore_loop101_6 (x : ((List UInt8) × (Int × (Int × (Int × (Int × ((List UInt8) × (Int × (Int × (Int × (Int × (Int × ((List UInt8) × (Int × Unit)))))))))))))) : Option ((List UInt8) × (Int × (Int × (Int × (Int × ((List UInt8) × (Int × (Int × (Int × (Int × (Int × ((List UInt8) × (Int × Unit))))))))))))) := loopO 1010006 (fun x => (sipMore_step101_6 x).eval) 18446744073709551616 x
def sipMore_ap : List VP1 := [.agg [.i .u64, .i .u64, .i .u64, .i .u64, .s, .i .i64], .one (.s)]
def sipMore_rp : SP := ⟨1, [(0, .tup [.agg [.i .u64, .i .u64, .i .u64, .i .u64, .s, .i .i64], .one (.i .i64)])], []⟩
def sipMore_tree : (Int × (Int × (Int × (Int × ((List UInt8) × (Int × ((List UInt8) × Unit))))))) → Tr (Int × (Int × (Int × (Int × ((List UInt8) × (Int × (Int × Unit))))))) :=
  fun (a0, a1, a2, a3, a4, a5, a6, _) =>
  .opt (β := (Int × Unit)) ((sipCheck_fn (a0, (a1, (a2, (a3, (a4, (a5, ())))))))) (fun r0 =>
  .ite (!decide (r0.1 = (0 : Int))) (
   .ret (a0, (a1, (a2, (a3, (a4, (a5, (r0.1, ())))))))) (
   .grd (decide (List.length a4 + List.length a6 ≤ (9223372036854775807 : Nat))) (
   .opt (β := ((List UInt8) × (Int × (Int × (Int × (Int × ((List UInt8) × (Int × (Int × (Int × (Int × (Int × ((List UInt8) × (Int × Unit)))))))))))))) ((sipMore_loop101_6 (a4 ++ a6, (a0, (a1, (a2, (a3, (a4, (IntKind.wrap IntKind.i64 (a5 + (↑(List.length a6) : Int)), ((0 : Int), ((0 : Int), ((0 : Int), ((0 : Int), ([], ((0 : Int), ()))))))))))))))) (fun r1 =>
   .ret (r1.2.2.2.2.2.2.2.1, (r1.2.2.2.2.2.2.2.2.1, (r1.2.2.2.2.2.2.2.2.2.1, (r1.2.2.2.2.2.2.2.2.2.2.1, (r1.1, (r1.2.2.2.2.2.2.2.2.2.2.2.2.1, ((0 : Int), ())))))))))))
theorem sipMore_eq (x : (Int × (Int × (Int × (Int × ((List UInt8) × (Int × ((List UInt8) × Unit)))))))) : fnTr Try.prog cod [FS.pf rotl, FS.pf sipCheck, FS.pf sipBegin, FS.pf sipNumber] [(114, sipMore_L114_2), (101, sipMore_L101_6)] 30 101 sipMore_ap sipMore_rp x = sipMore_tree x := by kernel_rfl
def sipMore_fn (x : (Int × (Int × (Int × (Int × ((List UInt8) × (Int × ((List UInt8) × Unit)))))))) : Option (Int × (Int × (Int × (Int × ((List UInt8) × (Int × (Int × Unit))))))) := (sipMore_tree x).eval
def sipMore : FS Try.prog := ⟨101, sipMore_ap, sipMore_rp, sipMore_fn, fun x r h => fnTr_sound (cod := cod) (Γ := [FS.pf rotl, FS.pf sipCheck, FS.pf sipBegin, FS.pf sipNumber]) (Λs := [(114, sipMore_L114_2), (101, sipMore_L101_6)]) (n := 30) ((congrArg Tr.eval (sipMore_eq x)).trans h)⟩
def sipEnd_L114_2 : LS := ⟨2, [(1000000, 1000000)], ⟨67, [(25, .v (.one (.i .i64))), (7, .v (.one (.i .u64))), (6, .v (.one (.i .u64))), (5, .v (.one (.i .u64))), (4, .v (.one (.i .u64))), (0, .v (.one (.ptr 1000000 0))), (24, .v (.one (.i .i64)))], [(1000000, .cells [.i .u64, .i .u64, .i .u64, .i .u64, .s, .i .i64])]⟩, [⟨some 0, [(1000000, 1000000)], ⟨67, [(7, .v (.one (.i .u64))), (6, .v (.one (.i .u64))), (5, .v (.one (.i .u64))), (4, .v (.one (.i .u64))), (0, .v (.one (.ptr 1000000 0)))], [(1000000, .cells [.i .u64, .i .u64, .i .u64, .i .u64, .s, .i .i64])]⟩⟩], []⟩
def sipEnd_step114_2 : (Int × (Int × (Int × (Int × (Int × (Int × (Int × (Int × (Int × (Int × ((List UInt8) × (Int × Unit)))))))))))) → Tr ((Int × (Int × (Int × (Int × (Int × (Int × (Int × (Int × (Int × (Int × ((List UInt8) × (Int × Unit)))))))))))) ⊕ (Int × (Int × (Int × (Int × (Int × (Int × (Int × (Int × ((List UInt8) × (Int × Unit))))))))))) :=
  fun (a0, a1, a2, a3, a4, a5, a6, a7, a8, a9, a10, a11, _) =>
  .ite (decide (a0 < a5)) (
   .opt (β := (Int × Unit)) ((rotl_fn (a3, ((13 : Int), ())))) (fun r0 =>
   .opt (β := (Int × Unit)) ((rotl_fn (IntKind.wrap IntKind.u64 (a4 + a3), ((32 : Int), ())))) (fun r1 =>
   .opt (β := (Int × Unit)) ((rotl_fn (a1, ((16 : Int), ())))) (fun r2 =>
   .opt (β := (Int × Unit)) ((rotl_fn (bits BinOp.xor IntKind.u64 r2.1 (IntKind.wrap IntKind.u64 (a2 + a1)), ((21 : Int), ())))) (fun r3 =>
   .opt (β := (Int × Unit)) ((rotl_fn (bits BinOp.xor IntKind.u64 r0.1 (IntKind.wrap IntKind.u64 (a4 + a3)), ((17 : Int), ())))) (fun r4 =>
   .opt (β := (Int × Unit)) ((rotl_fn (IntKind.wrap IntKind.u64 (IntKind.wrap IntKind.u64 (a2 + a1) + bits BinOp.xor IntKind.u64 r0.1 (IntKind.wrap IntKind.u64 (a4 + a3))), ((32 : Int), ())))) (fun r5 =>
   .ret (Sum.inl (IntKind.wrap IntKind.i64 (a0 + (1 : Int)), (bits BinOp.xor IntKind.u64 r3.1 (IntKind.wrap IntKind.u64 (r1.1 + bits BinOp.xor IntKind.u64 r2.1 (IntKind.wrap IntKind.u64 (a2 + a1)))), (r5.1, (bits BinOp.xor IntKind.u64 r4.1 (IntKind.wrap IntKind.u64 (IntKind.wrap IntKind.u64 (a2 + a1) + bits BinOp.xor IntKind.u64 r0.1 (IntKind.wrap IntKind.u64 (a4 + a3)))), (IntKind.wrap IntKind.u64 (r1.1 + bits BinOp.xor IntKind.u64 r2.1 (IntKind.wrap IntKind.u64 (a2 + a1))), (a5, (a6, (a7, (a8, (a9, (a10, (a11, ())))))))))))))))))))) (
   .ret (Sum.inr (a1, (a2, (a3, (a4, (a6, (a7, (a8, (a9, (a10, (a11, ()))))))))))))
def sipEnd_loop114_2 (x : (Int × (Int × (Int × (Int × (Int × (Int × (Int × (Int × (Int × (Int × ((List UInt8) × (Int × Unit))))))))))))) : Option (Int × (Int × (Int × (Int × (Int × (Int × (Int × (Int × ((List UInt8) × (Int × Unit)))))))))) := loopO 1140002 (fun x => (sipEnd_step114_2 x).eval) 18446744073709551616 x
def sipEnd_ap : List VP1 := [.agg [.i .u64, .i .u64, .i .u64, .i .u64, .s, .i .i64]]
def sipEnd_rp : SP := ⟨1, [(0, .tup [.one (.i .u64), .one (.i .i64)])], []⟩
def sipEnd_tree : (Int × (Int × (Int × (Int × ((List UInt8) × (Int × Unit)))))) → Tr (Int × (Int × Unit)) :=
  fun (a0, a1, a2, a3, a4, a5, _) =>
  .opt (β := (Int × Unit)) ((sipCheck_fn (a0, (a1, (a2, (a3, (a4, (a5, ())))))))) (fun r0 =>
  .ite (!decide (r0.1 = (0 : Int))) (
   .ret ((0 : Int), (r0.1, ()))) (
   .opt (β := (Int × Unit)) ((sipNumber_fn (a4, ()))) (fun r1 =>
   .grd (true) (
   .opt (β := (Int × (Int × (Int × (Int × (Int × (Int × (Int × (Int × ((List UInt8) × (Int × Unit))))))))))) ((sipEnd_loop114_2 ((0 : Int), (bits BinOp.xor IntKind.u64 a3 (bits BinOp.or IntKind.u64 r1.1 (IntKind.wrap IntKind.u64 (IntKind.wrap IntKind.u64 a5 * (2 : Int) ^ (56 : Nat)))), (a2, (a1, (a0, ((2 : Int), (a0, (a1, (a2, (bits BinOp.xor IntKind.u64 a3 (bits BinOp.or IntKind.u64 r1.1 (IntKind.wrap IntKind.u64 (IntKind.wrap IntKind.u64 a5 * (2 : Int) ^ (56 : Nat)))), (a4, (a5, ())))))))))))))) (fun r2 =>
   .opt (β := (Int × (Int × (Int × (Int × (Int × (Int × (Int × (Int × ((List UInt8) × (Int × Unit))))))))))) ((sipEnd_loop114_2 ((0 : Int), (r2.1, (bits BinOp.xor IntKind.u64 r2.2.1 (255 : Int), (r2.2.2.1, (bits BinOp.xor IntKind.u64 r2.2.2.2.1 (bits BinOp.or IntKind.u64 r1.1 (IntKind.wrap IntKind.u64 (IntKind.wrap IntKind.u64 a5 * (2 : Int) ^ (56 : Nat)))), ((4 : Int), (bits BinOp.xor IntKind.u64 r2.2.2.2.1 (bits BinOp.or IntKind.u64 r1.1 (IntKind.wrap IntKind.u64 (IntKind.wrap IntKind.u64 a5 * (2 : Int) ^ (56 : Nat)))), (r2.2.2.1, (bits BinOp.xor IntKind.u64 r2.2.1 (255 : Int), (r2.1, (r2.2.2.2.2.2.2.2.2.1, (r2.2.2.2.2.2.2.2.2.2.1, ())))))))))))))) (fun r3 =>
   .ret (bits BinOp.xor IntKind.u64 (bits BinOp.xor IntKind.u64 (bits BinOp.xor IntKind.u64 r3.2.2.2.1 r3.2.2.1) r3.2.1) r3.1, ((0 : Int), ()))))))))
theorem sipEnd_eq (x : (Int × (Int × (Int × (Int × ((List UInt8) × (Int × Unit))))))) : fnTr Try.prog cod [FS.pf rotl, FS.pf sipCheck, FS.pf sipBegin, FS.pf sipNumber, FS.pf sipMore] [(114, sipEnd_L114_2)] 30 103 sipEnd_ap sipEnd_rp x = sipEnd_tree x := by kernel_rfl
def sipEnd_fn (x : (Int × (Int × (Int × (Int × ((List UInt8) × (Int × Unit))))))) : Option (Int × (Int × Unit)) := (sipEnd_tree x).eval
def sipEnd : FS Try.prog := ⟨103, sipEnd_ap, sipEnd_rp, sipEnd_fn, fun x r h => fnTr_sound (cod := cod) (Γ := [FS.pf rotl, FS.pf sipCheck, FS.pf sipBegin, FS.pf sipNumber, FS.pf sipMore]) (Λs := [(114, sipEnd_L114_2)]) (n := 30) ((congrArg Tr.eval (sipEnd_eq x)).trans h)⟩
def sipOf_ap : List VP1 := [.agg [.i .u64, .i .u64], .one (.s)]
def sipOf_rp : SP := ⟨1, [(0, .v (.one (.i .u64)))], []⟩
def sipOf_tree : (Int × (Int × ((List UInt8) × Unit))) → Tr (Int × Unit) :=
  fun (a0, a1, a2, _) =>
  .opt (β := (Int × (Int × (Int × (Int × ((List UInt8) × (Int × Unit))))))) ((sipBegin_fn (a0, (a1, ())))) (fun r0 =>
  .opt (β := (Int × (Int × (Int × (Int × ((List UInt8) × (Int × (Int × Unit)))))))) ((sipMore_fn (r0.1, (r0.2.1, (r0.2.2.1, (r0.2.2.2.1, (r0.2.2.2.2.1, (r0.2.2.2.2.2.1, (a2, ()))))))))) (fun r1 =>
  .opt (β := (Int × (Int × Unit))) ((sipEnd_fn (r1.1, (r1.2.1, (r1.2.2.1, (r1.2.2.2.1, (r1.2.2.2.2.1, (r1.2.2.2.2.2.1, ())))))))) (fun r2 =>
  .ret (r2.1, ()))))
theorem sipOf_eq (x : (Int × (Int × ((List UInt8) × Unit)))) : fnTr Try.prog cod [FS.pf rotl, FS.pf sipCheck, FS.pf sipBegin, FS.pf sipNumber, FS.pf sipMore, FS.pf sipEnd] [] 30 88 sipOf_ap sipOf_rp x = sipOf_tree x := by kernel_rfl
def sipOf_fn (x : (Int × (Int × ((List UInt8) × Unit)))) : Option (Int × Unit) := (sipOf_tree x).eval
def sipOf : FS Try.prog := ⟨88, sipOf_ap, sipOf_rp, sipOf_fn, fun x r h => fnTr_sound (cod := cod) (Γ := [FS.pf rotl, FS.pf sipCheck, FS.pf sipBegin, FS.pf sipNumber, FS.pf sipMore, FS.pf sipEnd]) (Λs := []) (n := 30) ((congrArg Tr.eval (sipOf_eq x)).trans h)⟩
def coPort_ap : List VP1 := [.one (.i .i64)]
def coPort_rp : SP := ⟨1, [(0, .v (.one (.b)))], []⟩
def coPort_tree : (Int × Unit) → Tr (Bool × Unit) :=
  fun (a0, _) =>
  .ite (decide ((0 : Int) ≤ a0)) (
   .ret (decide (a0 ≤ (65535 : Int)), ())) (
   .ret (false, ()))
theorem coPort_eq (x : (Int × Unit)) : fnTr Try.prog cod [FS.pf rotl, FS.pf sipCheck, FS.pf sipBegin, FS.pf sipNumber, FS.pf sipMore, FS.pf sipEnd, FS.pf sipOf] [] 30 86 coPort_ap coPort_rp x = coPort_tree x := by kernel_rfl
def coPort_fn (x : (Int × Unit)) : Option (Bool × Unit) := (coPort_tree x).eval
def coPort : FS Try.prog := ⟨86, coPort_ap, coPort_rp, coPort_fn, fun x r h => fnTr_sound (cod := cod) (Γ := [FS.pf rotl, FS.pf sipCheck, FS.pf sipBegin, FS.pf sipNumber, FS.pf sipMore, FS.pf sipEnd, FS.pf sipOf]) (Λs := []) (n := 30) ((congrArg Tr.eval (coPort_eq x)).trans h)⟩
def coLong_ap : List VP1 := [.one (.i .u32)]
def coLong_rp : SP := ⟨1, [(0, .v (.one (.s)))], []⟩
def coLong_tree : (Int × Unit) → Tr ((List UInt8) × Unit) :=
  fun (a0, _) =>
  .grd (true) (
  .grd (true) (
  .grd (true) (
  .grd (decide ((0 : Int) ≤ IntKind.wrap IntKind.u8 (Int.fdiv a0 ((2 : Int) ^ (24 : Nat))) ∧ IntKind.wrap IntKind.u8 (Int.fdiv a0 ((2 : Int) ^ (24 : Nat))) < (256 : Int))) (
  .grd (decide ((0 : Int) ≤ IntKind.wrap IntKind.u8 (Int.fdiv a0 ((2 : Int) ^ (16 : Nat))) ∧ IntKind.wrap IntKind.u8 (Int.fdiv a0 ((2 : Int) ^ (16 : Nat))) < (256 : Int))) (
  .grd (decide ((0 : Int) ≤ IntKind.wrap IntKind.u8 (Int.fdiv a0 ((2 : Int) ^ (8 : Nat))) ∧ IntKind.wrap IntKind.u8 (Int.fdiv a0 ((2 : Int) ^ (8 : Nat))) < (256 : Int))) (
  .grd (decide ((0 : Int) ≤ IntKind.wrap IntKind.u8 a0 ∧ IntKind.wrap IntKind.u8 a0 < (256 : Int))) (
  .ret ([UInt8.ofNat (Int.toNat (IntKind.wrap IntKind.u8 (Int.fdiv a0 ((2 : Int) ^ (24 : Nat))))), UInt8.ofNat (Int.toNat (IntKind.wrap IntKind.u8 (Int.fdiv a0 ((2 : Int) ^ (16 : Nat))))), UInt8.ofNat (Int.toNat (IntKind.wrap IntKind.u8 (Int.fdiv a0 ((2 : Int) ^ (8 : Nat))))), UInt8.ofNat (Int.toNat (IntKind.wrap IntKind.u8 a0))], ()))))))))
theorem coLong_eq (x : (Int × Unit)) : fnTr Try.prog cod [FS.pf rotl, FS.pf sipCheck, FS.pf sipBegin, FS.pf sipNumber, FS.pf sipMore, FS.pf sipEnd, FS.pf sipOf, FS.pf coPort] [] 30 87 coLong_ap coLong_rp x = coLong_tree x := by kernel_rfl
def coLong_fn (x : (Int × Unit)) : Option ((List UInt8) × Unit) := (coLong_tree x).eval
def coLong : FS Try.prog := ⟨87, coLong_ap, coLong_rp, coLong_fn, fun x r h => fnTr_sound (cod := cod) (Γ := [FS.pf rotl, FS.pf sipCheck, FS.pf sipBegin, FS.pf sipNumber, FS.pf sipMore, FS.pf sipEnd, FS.pf sipOf, FS.pf coPort]) (Λs := []) (n := 30) ((congrArg Tr.eval (coLong_eq x)).trans h)⟩
def coSizes_ap : List VP1 := []
def coSizes_rp : SP := ⟨1, [(0, .v (.agg [.i .i64, .i .i64, .i .i64, .i .i64, .i .i64, .i .i64, .i .i64, .i .i64]))], []⟩
def coSizes_tree : Unit → Tr (Int × (Int × (Int × (Int × (Int × (Int × (Int × (Int × Unit)))))))) :=
  fun (_) =>
  .ret ((216 : Int), ((536 : Int), ((1220 : Int), ((1300 : Int), ((1360 : Int), ((1440 : Int), ((1460 : Int), ((8960 : Int), ()))))))))
theorem coSizes_eq (x : Unit) : fnTr Try.prog cod [FS.pf rotl, FS.pf sipCheck, FS.pf sipBegin, FS.pf sipNumber, FS.pf sipMore, FS.pf sipEnd, FS.pf sipOf, FS.pf coPort, FS.pf coLong] [] 30 53 coSizes_ap coSizes_rp x = coSizes_tree x := by kernel_rfl
def coSizes_fn (x : Unit) : Option (Int × (Int × (Int × (Int × (Int × (Int × (Int × (Int × Unit)))))))) := (coSizes_tree x).eval
def coSizes : FS Try.prog := ⟨53, coSizes_ap, coSizes_rp, coSizes_fn, fun x r h => fnTr_sound (cod := cod) (Γ := [FS.pf rotl, FS.pf sipCheck, FS.pf sipBegin, FS.pf sipNumber, FS.pf sipMore, FS.pf sipEnd, FS.pf sipOf, FS.pf coPort, FS.pf coLong]) (Λs := []) (n := 30) ((congrArg Tr.eval (coSizes_eq x)).trans h)⟩
def coIndex_L84_3 : LS := ⟨3, [], ⟨17, [(7, .v (.one (.i .i64))), (0, .v (.one (.i .i64))), (6, .v (.agg [.i .i64, .i .i64, .i .i64, .i .i64, .i .i64, .i .i64, .i .i64, .i .i64])), (3, .v (.one (.i .i64)))], []⟩, [⟨some 0, [], ⟨17, [(3, .v (.one (.i .i64)))], []⟩⟩], []⟩
def coIndex_step84_3 : (Int × (Int × (Int × (Int × (Int × (Int × (Int × (Int × (Int × (Int × (Int × Unit))))))))))) → Tr ((Int × (Int × (Int × (Int × (Int × (Int × (Int × (Int × (Int × (Int × (Int × Unit))))))))))) ⊕ (Int × Unit)) :=
  fun (a0, a1, a2, a3, a4, a5, a6, a7, a8, a9, a10, _) =>
  .ite (decide (a0 < (8 : Int))) (
   .grd (decide ((0 : Int) ≤ a0)) (
   .opt (β := Int) ([a2, a3, a4, a5, a6, a7, a8, a9][Int.toNat a0]?) (fun r0 =>
   .ite (decide (r0 ≤ a1)) (
    .ret (Sum.inl (IntKind.wrap IntKind.i64 (a0 + (1 : Int)), (a1, (a2, (a3, (a4, (a5, (a6, (a7, (a8, (a9, (a0, ()))))))))))))) (
    .ret (Sum.inl (IntKind.wrap IntKind.i64 (a0 + (1 : Int)), (a1, (a2, (a3, (a4, (a5, (a6, (a7, (a8, (a9, (a10, ())))))))))))))))) (
   .ret (Sum.inr (a10, ())))
def coIndex_loop84_3 (x : (Int × (Int × (Int × (Int × (Int × (Int × (Int × (Int × (Int × (Int × (Int × Unit)))))))))))) : Option (Int × Unit) := loopO 840003 (fun x => (coIndex_step84_3 x).eval) 18446744073709551616 x
def coIndex_ap : List VP1 := [.one (.i .i64)]
def coIndex_rp : SP := ⟨1, [(0, .v (.one (.i .i64)))], []⟩
def coIndex_tree : (Int × Unit) → Tr (Int × Unit) :=
  fun (a0, _) =>
  .opt (β := (Int × (Int × (Int × (Int × (Int × (Int × (Int × (Int × Unit))))))))) ((coSizes_fn ())) (fun r0 =>
  .opt (β := (Int × Unit)) ((coIndex_loop84_3 ((0 : Int), (a0, (r0.1, (r0.2.1, (r0.2.2.1, (r0.2.2.2.1, (r0.2.2.2.2.1, (r0.2.2.2.2.2.1, (r0.2.2.2.2.2.2.1, (r0.2.2.2.2.2.2.2.1, ((0 : Int), ()))))))))))))) (fun r1 =>
  .ret (r1.1, ())))
theorem coIndex_eq (x : (Int × Unit)) : fnTr Try.prog cod [FS.pf rotl, FS.pf sipCheck, FS.pf sipBegin, FS.pf sipNumber, FS.pf sipMore, FS.pf sipEnd, FS.pf sipOf, FS.pf coPort, FS.pf coLong, FS.pf coSizes] [(84, coIndex_L84_3)] 30 84 coIndex_ap coIndex_rp x = coIndex_tree x := by kernel_rfl
def coIndex_fn (x : (Int × Unit)) : Option (Int × Unit) := (coIndex_tree x).eval
def coIndex : FS Try.prog := ⟨84, coIndex_ap, coIndex_rp, coIndex_fn, fun x r h => fnTr_sound (cod := cod) (Γ := [FS.pf rotl, FS.pf sipCheck, FS.pf sipBegin, FS.pf sipNumber, FS.pf sipMore, FS.pf sipEnd, FS.pf sipOf, FS.pf coPort, FS.pf coLong, FS.pf coSizes]) (Λs := [(84, coIndex_L84_3)]) (n := 30) ((congrArg Tr.eval (coIndex_eq x)).trans h)⟩
def coMake_ap : List VP1 := [.agg [.i .u64, .i .u64], .agg [.i .u32, .i .u32, .i .i64, .i .i64], .one (.i .u32), .one (.i .i64), .one (.i .i64)]
def coMake_rp : SP := ⟨1, [(0, .tup [.one (.i .u32), .one (.i .i64)])], []⟩
def coMake_tree : (Int × (Int × (Int × (Int × (Int × (Int × (Int × (Int × (Int × Unit))))))))) → Tr (Int × (Int × Unit)) :=
  fun (a0, a1, a2, a3, a4, a5, a6, a7, a8, _) =>
  .opt (β := (Bool × Unit)) ((coPort_fn (a4, ()))) (fun r0 =>
  .ite (!r0.1) (
   .ret ((0 : Int), ((1 : Int), ()))) (
   .opt (β := (Bool × Unit)) ((coPort_fn (a5, ()))) (fun r1 =>
   .ite (!r1.1) (
    .ret ((0 : Int), ((1 : Int), ()))) (
    .ite (decide (a7 < (0 : Int))) (
     .ret ((0 : Int), ((1 : Int), ()))) (
     .ite (decide ((31 : Int) < a7)) (
      .ret ((0 : Int), ((1 : Int), ()))) (
      .ite (decide (a8 < (0 : Int))) (
       .ret ((0 : Int), ((1 : Int), ()))) (
       .ite (decide ((7 : Int) < a8)) (
        .ret ((0 : Int), ((1 : Int), ()))) (
        .opt (β := ((List UInt8) × Unit)) ((coLong_fn (a2, ()))) (fun r2 =>
        .opt (β := ((List UInt8) × Unit)) ((coLong_fn (a3, ()))) (fun r3 =>
        .grd (decide (List.length r2.1 + List.length r3.1 ≤ (9223372036854775807 : Nat))) (
        .grd (true) (
        .opt (β := ((List UInt8) × Unit)) ((coLong_fn (IntKind.wrap IntKind.u32 (bits BinOp.or IntKind.i64 (IntKind.wrap IntKind.i64 (a4 * (2 : Int) ^ (16 : Nat))) a5), ()))) (fun r4 =>
        .grd (decide (List.length (r2.1 ++ r3.1) + List.length r4.1 ≤ (9223372036854775807 : Nat))) (
        .opt (β := ((List UInt8) × Unit)) ((coLong_fn (a6, ()))) (fun r5 =>
        .grd (decide (List.length (r2.1 ++ r3.1 ++ r4.1) + List.length r5.1 ≤ (9223372036854775807 : Nat))) (
        .grd (decide ((0 : Int) ≤ IntKind.wrap IntKind.u8 a7 ∧ IntKind.wrap IntKind.u8 a7 < (256 : Int))) (
        .grd (decide ((0 : Int) ≤ IntKind.wrap IntKind.u8 a8 ∧ IntKind.wrap IntKind.u8 a8 < (256 : Int))) (
        .grd (decide (List.length (r2.1 ++ r3.1 ++ r4.1 ++ r5.1) + List.length [UInt8.ofNat (Int.toNat (IntKind.wrap IntKind.u8 a7)), UInt8.ofNat (Int.toNat (IntKind.wrap IntKind.u8 a8))] ≤ (9223372036854775807 : Nat))) (
        .grd (true) (
        .grd (true) (
        .opt (β := (Int × Unit)) ((sipOf_fn (a0, (a1, (r2.1 ++ r3.1 ++ r4.1 ++ r5.1 ++ [UInt8.ofNat (Int.toNat (IntKind.wrap IntKind.u8 a7)), UInt8.ofNat (Int.toNat (IntKind.wrap IntKind.u8 a8))], ()))))) (fun r6 =>
        .ret (bits BinOp.or IntKind.u32 (IntKind.wrap IntKind.u32 (bits BinOp.or IntKind.i64 (IntKind.wrap IntKind.i64 (a7 * (2 : Int) ^ (27 : Nat))) (IntKind.wrap IntKind.i64 (a8 * (2 : Int) ^ (24 : Nat))))) (IntKind.wrap IntKind.u32 (bits BinOp.and IntKind.u64 r6.1 (16777215 : Int))), ((0 : Int), ()))))))))))))))))))))))))
theorem coMake_eq (x : (Int × (Int × (Int × (Int × (Int × (Int × (Int × (Int × (Int × Unit)))))))))) : fnTr Try.prog cod [FS.pf rotl, FS.pf sipCheck, FS.pf sipBegin, FS.pf sipNumber, FS.pf sipMore, FS.pf sipEnd, FS.pf sipOf, FS.pf coPort, FS.pf coLong, FS.pf coSizes, FS.pf coIndex] [] 30 52 coMake_ap coMake_rp x = coMake_tree x := by kernel_rfl
def coMake_fn (x : (Int × (Int × (Int × (Int × (Int × (Int × (Int × (Int × (Int × Unit)))))))))) : Option (Int × (Int × Unit)) := (coMake_tree x).eval
def coMake : FS Try.prog := ⟨52, coMake_ap, coMake_rp, coMake_fn, fun x r h => fnTr_sound (cod := cod) (Γ := [FS.pf rotl, FS.pf sipCheck, FS.pf sipBegin, FS.pf sipNumber, FS.pf sipMore, FS.pf sipEnd, FS.pf sipOf, FS.pf coPort, FS.pf coLong, FS.pf coSizes, FS.pf coIndex]) (Λs := []) (n := 30) ((congrArg Tr.eval (coMake_eq x)).trans h)⟩
def coOpen_ap : List VP1 := [.agg [.i .u64, .i .u64], .agg [.i .u32, .i .u32, .i .i64, .i .i64], .one (.i .u32), .one (.i .u32), .one (.i .i64)]
def coOpen_rp : SP := ⟨1, [(0, .tup [.one (.i .i64), .one (.i .i64)])], []⟩
def coOpen_tree : (Int × (Int × (Int × (Int × (Int × (Int × (Int × (Int × (Int × Unit))))))))) → Tr (Int × (Int × Unit)) :=
  fun (a0, a1, a2, a3, a4, a5, a6, a7, a8, _) =>
  .ite (decide (a8 < (0 : Int))) (
   .ret ((0 : Int), ((1 : Int), ()))) (
   .ite (decide ((31 : Int) < a8)) (
    .ret ((0 : Int), ((1 : Int), ()))) (
    .grd (true) (
    .grd (true) (
    .opt (β := (Int × (Int × Unit))) ((coMake_fn (a0, (a1, (a2, (a3, (a4, (a5, (a6, (IntKind.wrap IntKind.i64 (Int.fdiv a7 ((2 : Int) ^ (27 : Nat))), (IntKind.wrap IntKind.i64 (bits BinOp.and IntKind.u32 (Int.fdiv a7 ((2 : Int) ^ (24 : Nat))) (7 : Int)), ()))))))))))) (fun r0 =>
    .ite (!decide (r0.2.1 = (0 : Int))) (
     .ret ((0 : Int), (r0.2.1, ()))) (
     .ite (decide ((1 : Int) < bits BinOp.and IntKind.i64 (IntKind.wrap IntKind.i64 (a8 - IntKind.wrap IntKind.i64 (Int.fdiv a7 ((2 : Int) ^ (27 : Nat))))) (31 : Int))) (
      .ret ((0 : Int), ((9 : Int), ()))) (
      .ite (!decide (r0.1 = a7)) (
       .ret ((0 : Int), ((5 : Int), ()))) (
       .opt (β := (Int × (Int × (Int × (Int × (Int × (Int × (Int × (Int × Unit))))))))) ((coSizes_fn ())) (fun r1 =>
       .grd (decide ((0 : Int) ≤ IntKind.wrap IntKind.i64 (bits BinOp.and IntKind.u32 (Int.fdiv a7 ((2 : Int) ^ (24 : Nat))) (7 : Int)))) (
       .opt (β := Int) ([r1.1, r1.2.1, r1.2.2.1, r1.2.2.2.1, r1.2.2.2.2.1, r1.2.2.2.2.2.1, r1.2.2.2.2.2.2.1, r1.2.2.2.2.2.2.2.1][Int.toNat (IntKind.wrap IntKind.i64 (bits BinOp.and IntKind.u32 (Int.fdiv a7 ((2 : Int) ^ (24 : Nat))) (7 : Int)))]?) (fun r2 =>
       .ret (r2, ((0 : Int), ())))))))))))))
theorem coOpen_eq (x : (Int × (Int × (Int × (Int × (Int × (Int × (Int × (Int × (Int × Unit)))))))))) : fnTr Try.prog cod [FS.pf rotl, FS.pf sipCheck, FS.pf sipBegin, FS.pf sipNumber, FS.pf sipMore, FS.pf sipEnd, FS.pf sipOf, FS.pf coPort, FS.pf coLong, FS.pf coSizes, FS.pf coIndex, FS.pf coMake] [] 30 25 coOpen_ap coOpen_rp x = coOpen_tree x := by kernel_rfl
def coOpen_fn (x : (Int × (Int × (Int × (Int × (Int × (Int × (Int × (Int × (Int × Unit)))))))))) : Option (Int × (Int × Unit)) := (coOpen_tree x).eval
def coOpen : FS Try.prog := ⟨25, coOpen_ap, coOpen_rp, coOpen_fn, fun x r h => fnTr_sound (cod := cod) (Γ := [FS.pf rotl, FS.pf sipCheck, FS.pf sipBegin, FS.pf sipNumber, FS.pf sipMore, FS.pf sipEnd, FS.pf sipOf, FS.pf coPort, FS.pf coLong, FS.pf coSizes, FS.pf coIndex, FS.pf coMake]) (Λs := []) (n := 30) ((congrArg Tr.eval (coOpen_eq x)).trans h)⟩
end Go.Proofs.Ytcdcdmfecglemaa.X
