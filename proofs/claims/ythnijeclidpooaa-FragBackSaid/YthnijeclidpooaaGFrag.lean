/- Functions of the program, as trees (printed by a program of mine: tool/XTool, xg.py), each with the proof that the machine comes to what its tree says. Conditions: none. -/
import Derived.Test.YthnijeclidpooaaCod
import Derived.KernelRfl
import Derived.Test.YthnijeclidpooaaGSum
namespace Go.Proofs.Ythnijeclidpooaa.X
open Go Go.RowKit Go.Proofs.Ythnijeclidpooaa.Abs
set_option maxRecDepth 100000
set_option linter.unusedVariables false
def ipByt_ap : List VP1 := [.one (.i .i64)]
def ipByt_rp : SP := ⟨1, [(0, .v (.one (.b)))], []⟩
def ipByt_tree : (Int × Unit) → Tr (Bool × Unit) :=
  fun (a0, _) =>
  .ite (decide ((0 : Int) ≤ a0)) (
   .ret (decide (a0 ≤ (255 : Int)), ())) (
   .ret (false, ()))
theorem ipByt_eq (x : (Int × Unit)) : fnTr Try.prog cod [FS.pf sumFold, FS.pf sumAdd, FS.pf sumOf] [] 30 85 ipByt_ap ipByt_rp x = ipByt_tree x := by kernel_rfl
def ipByt_fn (x : (Int × Unit)) : Option (Bool × Unit) := (ipByt_tree x).eval
def ipByt : FS Try.prog := ⟨85, ipByt_ap, ipByt_rp, ipByt_fn, fun x r h => fnTr_sound (cod := cod) (Γ := [FS.pf sumFold, FS.pf sumAdd, FS.pf sumOf]) (Λs := []) (n := 30) ((congrArg Tr.eval (ipByt_eq x)).trans h)⟩
def ipRefused_ap : List VP1 := [.agg [.i .i64, .i .i64, .b, .b, .i .i64, .i .i64, .i .i64, .i .u32, .i .u32, .s, .s]]
def ipRefused_rp : SP := ⟨1, [(0, .v (.one (.i .i64)))], []⟩
def ipRefused_tree : (Int × (Int × (Bool × (Bool × (Int × (Int × (Int × (Int × (Int × ((List UInt8) × ((List UInt8) × Unit))))))))))) → Tr (Int × Unit) :=
  fun (a0, a1, a2, a3, a4, a5, a6, a7, a8, a9, a10, _) =>
  .opt (β := (Bool × Unit)) ((ipByt_fn (a0, ()))) (fun r0 =>
  .ite (!r0.1) (
   .ret ((1 : Int), ())) (
   .opt (β := (Bool × Unit)) ((ipByt_fn (a5, ()))) (fun r1 =>
   .ite (!r1.1) (
    .ret ((1 : Int), ())) (
    .opt (β := (Bool × Unit)) ((ipByt_fn (a6, ()))) (fun r2 =>
    .ite (!r2.1) (
     .ret ((1 : Int), ())) (
     .ite (decide (a1 < (0 : Int))) (
      .ret ((1 : Int), ())) (
      .ite (decide ((65535 : Int) < a1)) (
       .ret ((1 : Int), ())) (
       .ite (decide (a4 < (0 : Int))) (
        .ret ((1 : Int), ())) (
        .ite (decide ((8191 : Int) < a4)) (
         .ret ((1 : Int), ())) (
         .ite (decide ((40 : Int) < (↑(List.length a9) : Int))) (
          .ret ((1 : Int), ())) (
          .grd (true) (
          .ite (!decide (Int.tmod (↑(List.length a9) : Int) (4 : Int) = (0 : Int))) (
           .ret ((1 : Int), ())) (
           .ite (a2) (
            .ite (a3) (
             .ret ((4 : Int), ())) (
             .ite (!decide (a4 = (0 : Int))) (
              .ret ((4 : Int), ())) (
              .ite (decide (IntKind.wrap IntKind.i64 ((65515 : Int) - (↑(List.length a9) : Int)) < (↑(List.length a10) : Int))) (
               .ret ((2 : Int), ())) (
               .ret ((0 : Int), ()))))) (
            .ite (decide (IntKind.wrap IntKind.i64 ((65515 : Int) - (↑(List.length a9) : Int)) < (↑(List.length a10) : Int))) (
             .ret ((2 : Int), ())) (
             .ret ((0 : Int), ()))))))))))))))))
theorem ipRefused_eq (x : (Int × (Int × (Bool × (Bool × (Int × (Int × (Int × (Int × (Int × ((List UInt8) × ((List UInt8) × Unit)))))))))))) : fnTr Try.prog cod [FS.pf sumFold, FS.pf sumAdd, FS.pf sumOf, FS.pf ipByt] [] 30 75 ipRefused_ap ipRefused_rp x = ipRefused_tree x := by kernel_rfl
def ipRefused_fn (x : (Int × (Int × (Bool × (Bool × (Int × (Int × (Int × (Int × (Int × ((List UInt8) × ((List UInt8) × Unit)))))))))))) : Option (Int × Unit) := (ipRefused_tree x).eval
def ipRefused : FS Try.prog := ⟨75, ipRefused_ap, ipRefused_rp, ipRefused_fn, fun x r h => fnTr_sound (cod := cod) (Γ := [FS.pf sumFold, FS.pf sumAdd, FS.pf sumOf, FS.pf ipByt]) (Λs := []) (n := 30) ((congrArg Tr.eval (ipRefused_eq x)).trans h)⟩
def ipWord_ap : List VP1 := [.one (.i .i64)]
def ipWord_rp : SP := ⟨1, [(0, .v (.one (.s)))], []⟩
def ipWord_tree : (Int × Unit) → Tr ((List UInt8) × Unit) :=
  fun (a0, _) =>
  .grd (true) (
  .grd (decide ((0 : Int) ≤ IntKind.wrap IntKind.u8 (Int.fdiv a0 ((2 : Int) ^ (8 : Nat))) ∧ IntKind.wrap IntKind.u8 (Int.fdiv a0 ((2 : Int) ^ (8 : Nat))) < (256 : Int))) (
  .grd (decide ((0 : Int) ≤ IntKind.wrap IntKind.u8 a0 ∧ IntKind.wrap IntKind.u8 a0 < (256 : Int))) (
  .ret ([UInt8.ofNat (Int.toNat (IntKind.wrap IntKind.u8 (Int.fdiv a0 ((2 : Int) ^ (8 : Nat))))), UInt8.ofNat (Int.toNat (IntKind.wrap IntKind.u8 a0))], ()))))
theorem ipWord_eq (x : (Int × Unit)) : fnTr Try.prog cod [FS.pf sumFold, FS.pf sumAdd, FS.pf sumOf, FS.pf ipByt, FS.pf ipRefused] [] 30 76 ipWord_ap ipWord_rp x = ipWord_tree x := by kernel_rfl
def ipWord_fn (x : (Int × Unit)) : Option ((List UInt8) × Unit) := (ipWord_tree x).eval
def ipWord : FS Try.prog := ⟨76, ipWord_ap, ipWord_rp, ipWord_fn, fun x r h => fnTr_sound (cod := cod) (Γ := [FS.pf sumFold, FS.pf sumAdd, FS.pf sumOf, FS.pf ipByt, FS.pf ipRefused]) (Λs := []) (n := 30) ((congrArg Tr.eval (ipWord_eq x)).trans h)⟩
def ipLong_ap : List VP1 := [.one (.i .u32)]
def ipLong_rp : SP := ⟨1, [(0, .v (.one (.s)))], []⟩
def ipLong_tree : (Int × Unit) → Tr ((List UInt8) × Unit) :=
  fun (a0, _) =>
  .grd (true) (
  .grd (true) (
  .grd (true) (
  .grd (decide ((0 : Int) ≤ IntKind.wrap IntKind.u8 (Int.fdiv a0 ((2 : Int) ^ (24 : Nat))) ∧ IntKind.wrap IntKind.u8 (Int.fdiv a0 ((2 : Int) ^ (24 : Nat))) < (256 : Int))) (
  .grd (decide ((0 : Int) ≤ IntKind.wrap IntKind.u8 (Int.fdiv a0 ((2 : Int) ^ (16 : Nat))) ∧ IntKind.wrap IntKind.u8 (Int.fdiv a0 ((2 : Int) ^ (16 : Nat))) < (256 : Int))) (
  .grd (decide ((0 : Int) ≤ IntKind.wrap IntKind.u8 (Int.fdiv a0 ((2 : Int) ^ (8 : Nat))) ∧ IntKind.wrap IntKind.u8 (Int.fdiv a0 ((2 : Int) ^ (8 : Nat))) < (256 : Int))) (
  .grd (decide ((0 : Int) ≤ IntKind.wrap IntKind.u8 a0 ∧ IntKind.wrap IntKind.u8 a0 < (256 : Int))) (
  .ret ([UInt8.ofNat (Int.toNat (IntKind.wrap IntKind.u8 (Int.fdiv a0 ((2 : Int) ^ (24 : Nat))))), UInt8.ofNat (Int.toNat (IntKind.wrap IntKind.u8 (Int.fdiv a0 ((2 : Int) ^ (16 : Nat))))), UInt8.ofNat (Int.toNat (IntKind.wrap IntKind.u8 (Int.fdiv a0 ((2 : Int) ^ (8 : Nat))))), UInt8.ofNat (Int.toNat (IntKind.wrap IntKind.u8 a0))], ()))))))))
theorem ipLong_eq (x : (Int × Unit)) : fnTr Try.prog cod [FS.pf sumFold, FS.pf sumAdd, FS.pf sumOf, FS.pf ipByt, FS.pf ipRefused, FS.pf ipWord] [] 30 77 ipLong_ap ipLong_rp x = ipLong_tree x := by kernel_rfl
def ipLong_fn (x : (Int × Unit)) : Option ((List UInt8) × Unit) := (ipLong_tree x).eval
def ipLong : FS Try.prog := ⟨77, ipLong_ap, ipLong_rp, ipLong_fn, fun x r h => fnTr_sound (cod := cod) (Γ := [FS.pf sumFold, FS.pf sumAdd, FS.pf sumOf, FS.pf ipByt, FS.pf ipRefused, FS.pf ipWord]) (Λs := []) (n := 30) ((congrArg Tr.eval (ipLong_eq x)).trans h)⟩
def ipWrite_ap : List VP1 := [.agg [.i .i64, .i .i64, .b, .b, .i .i64, .i .i64, .i .i64, .i .u32, .i .u32, .s, .s]]
def ipWrite_rp : SP := ⟨1, [(0, .tup [.one (.s), .one (.i .i64)])], []⟩
def ipWrite_tree : (Int × (Int × (Bool × (Bool × (Int × (Int × (Int × (Int × (Int × ((List UInt8) × ((List UInt8) × Unit))))))))))) → Tr ((List UInt8) × (Int × Unit)) :=
  fun (a0, a1, a2, a3, a4, a5, a6, a7, a8, a9, a10, _) =>
  .opt (β := (Int × Unit)) ((ipRefused_fn (a0, (a1, (a2, (a3, (a4, (a5, (a6, (a7, (a8, (a9, (a10, ()))))))))))))) (fun r0 =>
  .ite (!decide (r0.1 = (0 : Int))) (
   .ret ([], (r0.1, ()))) (
   .ite (a2) (
    .ite (a3) (
     .grd (true) (
     .grd (decide ((0 : Int) ≤ IntKind.wrap IntKind.u8 (bits BinOp.or IntKind.i64 (64 : Int) (IntKind.wrap IntKind.i64 (Int.tdiv (IntKind.wrap IntKind.i64 ((20 : Int) + (↑(List.length a9) : Int))) (4 : Int)))) ∧ IntKind.wrap IntKind.u8 (bits BinOp.or IntKind.i64 (64 : Int) (IntKind.wrap IntKind.i64 (Int.tdiv (IntKind.wrap IntKind.i64 ((20 : Int) + (↑(List.length a9) : Int))) (4 : Int)))) < (256 : Int))) (
     .grd (decide ((0 : Int) ≤ IntKind.wrap IntKind.u8 a0 ∧ IntKind.wrap IntKind.u8 a0 < (256 : Int))) (
     .opt (β := ((List UInt8) × Unit)) ((ipWord_fn (IntKind.wrap IntKind.i64 (IntKind.wrap IntKind.i64 ((20 : Int) + (↑(List.length a9) : Int)) + (↑(List.length a10) : Int)), ()))) (fun r1 =>
     .grd (decide (List.length [UInt8.ofNat (Int.toNat (IntKind.wrap IntKind.u8 (bits BinOp.or IntKind.i64 (64 : Int) (IntKind.wrap IntKind.i64 (Int.tdiv (IntKind.wrap IntKind.i64 ((20 : Int) + (↑(List.length a9) : Int))) (4 : Int)))))), UInt8.ofNat (Int.toNat (IntKind.wrap IntKind.u8 a0))] + List.length r1.1 ≤ (9223372036854775807 : Nat))) (
     .opt (β := ((List UInt8) × Unit)) ((ipWord_fn (a1, ()))) (fun r2 =>
     .grd (decide (List.length ([UInt8.ofNat (Int.toNat (IntKind.wrap IntKind.u8 (bits BinOp.or IntKind.i64 (64 : Int) (IntKind.wrap IntKind.i64 (Int.tdiv (IntKind.wrap IntKind.i64 ((20 : Int) + (↑(List.length a9) : Int))) (4 : Int)))))), UInt8.ofNat (Int.toNat (IntKind.wrap IntKind.u8 a0))] ++ r1.1) + List.length r2.1 ≤ (9223372036854775807 : Nat))) (
     .opt (β := ((List UInt8) × Unit)) ((ipWord_fn (bits BinOp.or IntKind.i64 (bits BinOp.or IntKind.i64 a4 (16384 : Int)) (8192 : Int), ()))) (fun r3 =>
     .grd (decide (List.length ([UInt8.ofNat (Int.toNat (IntKind.wrap IntKind.u8 (bits BinOp.or IntKind.i64 (64 : Int) (IntKind.wrap IntKind.i64 (Int.tdiv (IntKind.wrap IntKind.i64 ((20 : Int) + (↑(List.length a9) : Int))) (4 : Int)))))), UInt8.ofNat (Int.toNat (IntKind.wrap IntKind.u8 a0))] ++ r1.1 ++ r2.1) + List.length r3.1 ≤ (9223372036854775807 : Nat))) (
     .grd (decide ((0 : Int) ≤ IntKind.wrap IntKind.u8 a5 ∧ IntKind.wrap IntKind.u8 a5 < (256 : Int))) (
     .grd (decide ((0 : Int) ≤ IntKind.wrap IntKind.u8 a6 ∧ IntKind.wrap IntKind.u8 a6 < (256 : Int))) (
     .grd (decide (List.length ([UInt8.ofNat (Int.toNat (IntKind.wrap IntKind.u8 (bits BinOp.or IntKind.i64 (64 : Int) (IntKind.wrap IntKind.i64 (Int.tdiv (IntKind.wrap IntKind.i64 ((20 : Int) + (↑(List.length a9) : Int))) (4 : Int)))))), UInt8.ofNat (Int.toNat (IntKind.wrap IntKind.u8 a0))] ++ r1.1 ++ r2.1 ++ r3.1) + List.length [UInt8.ofNat (Int.toNat (IntKind.wrap IntKind.u8 a5)), UInt8.ofNat (Int.toNat (IntKind.wrap IntKind.u8 a6))] ≤ (9223372036854775807 : Nat))) (
     .opt (β := ((List UInt8) × Unit)) ((ipLong_fn (a7, ()))) (fun r4 =>
     .opt (β := ((List UInt8) × Unit)) ((ipLong_fn (a8, ()))) (fun r5 =>
     .grd (decide (List.length r4.1 + List.length r5.1 ≤ (9223372036854775807 : Nat))) (
     .grd (decide (List.length (r4.1 ++ r5.1) + List.length a9 ≤ (9223372036854775807 : Nat))) (
     .grd (decide (List.length ([UInt8.ofNat (Int.toNat (IntKind.wrap IntKind.u8 (bits BinOp.or IntKind.i64 (64 : Int) (IntKind.wrap IntKind.i64 (Int.tdiv (IntKind.wrap IntKind.i64 ((20 : Int) + (↑(List.length a9) : Int))) (4 : Int)))))), UInt8.ofNat (Int.toNat (IntKind.wrap IntKind.u8 a0))] ++ r1.1 ++ r2.1 ++ r3.1 ++ [UInt8.ofNat (Int.toNat (IntKind.wrap IntKind.u8 a5)), UInt8.ofNat (Int.toNat (IntKind.wrap IntKind.u8 a6))]) + List.length (r4.1 ++ r5.1 ++ a9) ≤ (9223372036854775807 : Nat))) (
     .opt (β := (Int × Unit)) ((sumOf_fn ([UInt8.ofNat (Int.toNat (IntKind.wrap IntKind.u8 (bits BinOp.or IntKind.i64 (64 : Int) (IntKind.wrap IntKind.i64 (Int.tdiv (IntKind.wrap IntKind.i64 ((20 : Int) + (↑(List.length a9) : Int))) (4 : Int)))))), UInt8.ofNat (Int.toNat (IntKind.wrap IntKind.u8 a0))] ++ r1.1 ++ r2.1 ++ r3.1 ++ [UInt8.ofNat (Int.toNat (IntKind.wrap IntKind.u8 a5)), UInt8.ofNat (Int.toNat (IntKind.wrap IntKind.u8 a6))] ++ (r4.1 ++ r5.1 ++ a9), ()))) (fun r6 =>
     .opt (β := ((List UInt8) × Unit)) ((ipWord_fn (IntKind.wrap IntKind.i64 r6.1, ()))) (fun r7 =>
     .grd (decide (List.length ([UInt8.ofNat (Int.toNat (IntKind.wrap IntKind.u8 (bits BinOp.or IntKind.i64 (64 : Int) (IntKind.wrap IntKind.i64 (Int.tdiv (IntKind.wrap IntKind.i64 ((20 : Int) + (↑(List.length a9) : Int))) (4 : Int)))))), UInt8.ofNat (Int.toNat (IntKind.wrap IntKind.u8 a0))] ++ r1.1 ++ r2.1 ++ r3.1 ++ [UInt8.ofNat (Int.toNat (IntKind.wrap IntKind.u8 a5)), UInt8.ofNat (Int.toNat (IntKind.wrap IntKind.u8 a6))]) + List.length r7.1 ≤ (9223372036854775807 : Nat))) (
     .grd (decide (List.length ([UInt8.ofNat (Int.toNat (IntKind.wrap IntKind.u8 (bits BinOp.or IntKind.i64 (64 : Int) (IntKind.wrap IntKind.i64 (Int.tdiv (IntKind.wrap IntKind.i64 ((20 : Int) + (↑(List.length a9) : Int))) (4 : Int)))))), UInt8.ofNat (Int.toNat (IntKind.wrap IntKind.u8 a0))] ++ r1.1 ++ r2.1 ++ r3.1 ++ [UInt8.ofNat (Int.toNat (IntKind.wrap IntKind.u8 a5)), UInt8.ofNat (Int.toNat (IntKind.wrap IntKind.u8 a6))] ++ r7.1) + List.length (r4.1 ++ r5.1 ++ a9) ≤ (9223372036854775807 : Nat))) (
     .grd (decide (List.length ([UInt8.ofNat (Int.toNat (IntKind.wrap IntKind.u8 (bits BinOp.or IntKind.i64 (64 : Int) (IntKind.wrap IntKind.i64 (Int.tdiv (IntKind.wrap IntKind.i64 ((20 : Int) + (↑(List.length a9) : Int))) (4 : Int)))))), UInt8.ofNat (Int.toNat (IntKind.wrap IntKind.u8 a0))] ++ r1.1 ++ r2.1 ++ r3.1 ++ [UInt8.ofNat (Int.toNat (IntKind.wrap IntKind.u8 a5)), UInt8.ofNat (Int.toNat (IntKind.wrap IntKind.u8 a6))] ++ r7.1 ++ (r4.1 ++ r5.1 ++ a9)) + List.length a10 ≤ (9223372036854775807 : Nat))) (
     .ret ([UInt8.ofNat (Int.toNat (IntKind.wrap IntKind.u8 (bits BinOp.or IntKind.i64 (64 : Int) (IntKind.wrap IntKind.i64 (Int.tdiv (IntKind.wrap IntKind.i64 ((20 : Int) + (↑(List.length a9) : Int))) (4 : Int)))))), UInt8.ofNat (Int.toNat (IntKind.wrap IntKind.u8 a0))] ++ r1.1 ++ r2.1 ++ r3.1 ++ [UInt8.ofNat (Int.toNat (IntKind.wrap IntKind.u8 a5)), UInt8.ofNat (Int.toNat (IntKind.wrap IntKind.u8 a6))] ++ r7.1 ++ (r4.1 ++ r5.1 ++ a9) ++ a10, ((0 : Int), ()))))))))))))))))))))))))) (
     .grd (true) (
     .grd (decide ((0 : Int) ≤ IntKind.wrap IntKind.u8 (bits BinOp.or IntKind.i64 (64 : Int) (IntKind.wrap IntKind.i64 (Int.tdiv (IntKind.wrap IntKind.i64 ((20 : Int) + (↑(List.length a9) : Int))) (4 : Int)))) ∧ IntKind.wrap IntKind.u8 (bits BinOp.or IntKind.i64 (64 : Int) (IntKind.wrap IntKind.i64 (Int.tdiv (IntKind.wrap IntKind.i64 ((20 : Int) + (↑(List.length a9) : Int))) (4 : Int)))) < (256 : Int))) (
     .grd (decide ((0 : Int) ≤ IntKind.wrap IntKind.u8 a0 ∧ IntKind.wrap IntKind.u8 a0 < (256 : Int))) (
     .opt (β := ((List UInt8) × Unit)) ((ipWord_fn (IntKind.wrap IntKind.i64 (IntKind.wrap IntKind.i64 ((20 : Int) + (↑(List.length a9) : Int)) + (↑(List.length a10) : Int)), ()))) (fun r1 =>
     .grd (decide (List.length [UInt8.ofNat (Int.toNat (IntKind.wrap IntKind.u8 (bits BinOp.or IntKind.i64 (64 : Int) (IntKind.wrap IntKind.i64 (Int.tdiv (IntKind.wrap IntKind.i64 ((20 : Int) + (↑(List.length a9) : Int))) (4 : Int)))))), UInt8.ofNat (Int.toNat (IntKind.wrap IntKind.u8 a0))] + List.length r1.1 ≤ (9223372036854775807 : Nat))) (
     .opt (β := ((List UInt8) × Unit)) ((ipWord_fn (a1, ()))) (fun r2 =>
     .grd (decide (List.length ([UInt8.ofNat (Int.toNat (IntKind.wrap IntKind.u8 (bits BinOp.or IntKind.i64 (64 : Int) (IntKind.wrap IntKind.i64 (Int.tdiv (IntKind.wrap IntKind.i64 ((20 : Int) + (↑(List.length a9) : Int))) (4 : Int)))))), UInt8.ofNat (Int.toNat (IntKind.wrap IntKind.u8 a0))] ++ r1.1) + List.length r2.1 ≤ (9223372036854775807 : Nat))) (
     .opt (β := ((List UInt8) × Unit)) ((ipWord_fn (bits BinOp.or IntKind.i64 a4 (16384 : Int), ()))) (fun r3 =>
     .grd (decide (List.length ([UInt8.ofNat (Int.toNat (IntKind.wrap IntKind.u8 (bits BinOp.or IntKind.i64 (64 : Int) (IntKind.wrap IntKind.i64 (Int.tdiv (IntKind.wrap IntKind.i64 ((20 : Int) + (↑(List.length a9) : Int))) (4 : Int)))))), UInt8.ofNat (Int.toNat (IntKind.wrap IntKind.u8 a0))] ++ r1.1 ++ r2.1) + List.length r3.1 ≤ (9223372036854775807 : Nat))) (
     .grd (decide ((0 : Int) ≤ IntKind.wrap IntKind.u8 a5 ∧ IntKind.wrap IntKind.u8 a5 < (256 : Int))) (
     .grd (decide ((0 : Int) ≤ IntKind.wrap IntKind.u8 a6 ∧ IntKind.wrap IntKind.u8 a6 < (256 : Int))) (
     .grd (decide (List.length ([UInt8.ofNat (Int.toNat (IntKind.wrap IntKind.u8 (bits BinOp.or IntKind.i64 (64 : Int) (IntKind.wrap IntKind.i64 (Int.tdiv (IntKind.wrap IntKind.i64 ((20 : Int) + (↑(List.length a9) : Int))) (4 : Int)))))), UInt8.ofNat (Int.toNat (IntKind.wrap IntKind.u8 a0))] ++ r1.1 ++ r2.1 ++ r3.1) + List.length [UInt8.ofNat (Int.toNat (IntKind.wrap IntKind.u8 a5)), UInt8.ofNat (Int.toNat (IntKind.wrap IntKind.u8 a6))] ≤ (9223372036854775807 : Nat))) (
     .opt (β := ((List UInt8) × Unit)) ((ipLong_fn (a7, ()))) (fun r4 =>
     .opt (β := ((List UInt8) × Unit)) ((ipLong_fn (a8, ()))) (fun r5 =>
     .grd (decide (List.length r4.1 + List.length r5.1 ≤ (9223372036854775807 : Nat))) (
     .grd (decide (List.length (r4.1 ++ r5.1) + List.length a9 ≤ (9223372036854775807 : Nat))) (
     .grd (decide (List.length ([UInt8.ofNat (Int.toNat (IntKind.wrap IntKind.u8 (bits BinOp.or IntKind.i64 (64 : Int) (IntKind.wrap IntKind.i64 (Int.tdiv (IntKind.wrap IntKind.i64 ((20 : Int) + (↑(List.length a9) : Int))) (4 : Int)))))), UInt8.ofNat (Int.toNat (IntKind.wrap IntKind.u8 a0))] ++ r1.1 ++ r2.1 ++ r3.1 ++ [UInt8.ofNat (Int.toNat (IntKind.wrap IntKind.u8 a5)), UInt8.ofNat (Int.toNat (IntKind.wrap IntKind.u8 a6))]) + List.length (r4.1 ++ r5.1 ++ a9) ≤ (9223372036854775807 : Nat))) (
     .opt (β := (Int × Unit)) ((sumOf_fn ([UInt8.ofNat (Int.toNat (IntKind.wrap IntKind.u8 (bits BinOp.or IntKind.i64 (64 : Int) (IntKind.wrap IntKind.i64 (Int.tdiv (IntKind.wrap IntKind.i64 ((20 : Int) + (↑(List.length a9) : Int))) (4 : Int)))))), UInt8.ofNat (Int.toNat (IntKind.wrap IntKind.u8 a0))] ++ r1.1 ++ r2.1 ++ r3.1 ++ [UInt8.ofNat (Int.toNat (IntKind.wrap IntKind.u8 a5)), UInt8.ofNat (Int.toNat (IntKind.wrap IntKind.u8 a6))] ++ (r4.1 ++ r5.1 ++ a9), ()))) (fun r6 =>
     .opt (β := ((List UInt8) × Unit)) ((ipWord_fn (IntKind.wrap IntKind.i64 r6.1, ()))) (fun r7 =>
     .grd (decide (List.length ([UInt8.ofNat (Int.toNat (IntKind.wrap IntKind.u8 (bits BinOp.or IntKind.i64 (64 : Int) (IntKind.wrap IntKind.i64 (Int.tdiv (IntKind.wrap IntKind.i64 ((20 : Int) + (↑(List.length a9) : Int))) (4 : Int)))))), UInt8.ofNat (Int.toNat (IntKind.wrap IntKind.u8 a0))] ++ r1.1 ++ r2.1 ++ r3.1 ++ [UInt8.ofNat (Int.toNat (IntKind.wrap IntKind.u8 a5)), UInt8.ofNat (Int.toNat (IntKind.wrap IntKind.u8 a6))]) + List.length r7.1 ≤ (9223372036854775807 : Nat))) (
     .grd (decide (List.length ([UInt8.ofNat (Int.toNat (IntKind.wrap IntKind.u8 (bits BinOp.or IntKind.i64 (64 : Int) (IntKind.wrap IntKind.i64 (Int.tdiv (IntKind.wrap IntKind.i64 ((20 : Int) + (↑(List.length a9) : Int))) (4 : Int)))))), UInt8.ofNat (Int.toNat (IntKind.wrap IntKind.u8 a0))] ++ r1.1 ++ r2.1 ++ r3.1 ++ [UInt8.ofNat (Int.toNat (IntKind.wrap IntKind.u8 a5)), UInt8.ofNat (Int.toNat (IntKind.wrap IntKind.u8 a6))] ++ r7.1) + List.length (r4.1 ++ r5.1 ++ a9) ≤ (9223372036854775807 : Nat))) (
     .grd (decide (List.length ([UInt8.ofNat (Int.toNat (IntKind.wrap IntKind.u8 (bits BinOp.or IntKind.i64 (64 : Int) (IntKind.wrap IntKind.i64 (Int.tdiv (IntKind.wrap IntKind.i64 ((20 : Int) + (↑(List.length a9) : Int))) (4 : Int)))))), UInt8.ofNat (Int.toNat (IntKind.wrap IntKind.u8 a0))] ++ r1.1 ++ r2.1 ++ r3.1 ++ [UInt8.ofNat (Int.toNat (IntKind.wrap IntKind.u8 a5)), UInt8.ofNat (Int.toNat (IntKind.wrap IntKind.u8 a6))] ++ r7.1 ++ (r4.1 ++ r5.1 ++ a9)) + List.length a10 ≤ (9223372036854775807 : Nat))) (
     .ret ([UInt8.ofNat (Int.toNat (IntKind.wrap IntKind.u8 (bits BinOp.or IntKind.i64 (64 : Int) (IntKind.wrap IntKind.i64 (Int.tdiv (IntKind.wrap IntKind.i64 ((20 : Int) + (↑(List.length a9) : Int))) (4 : Int)))))), UInt8.ofNat (Int.toNat (IntKind.wrap IntKind.u8 a0))] ++ r1.1 ++ r2.1 ++ r3.1 ++ [UInt8.ofNat (Int.toNat (IntKind.wrap IntKind.u8 a5)), UInt8.ofNat (Int.toNat (IntKind.wrap IntKind.u8 a6))] ++ r7.1 ++ (r4.1 ++ r5.1 ++ a9) ++ a10, ((0 : Int), ())))))))))))))))))))))))))) (
    .ite (a3) (
     .grd (true) (
     .grd (decide ((0 : Int) ≤ IntKind.wrap IntKind.u8 (bits BinOp.or IntKind.i64 (64 : Int) (IntKind.wrap IntKind.i64 (Int.tdiv (IntKind.wrap IntKind.i64 ((20 : Int) + (↑(List.length a9) : Int))) (4 : Int)))) ∧ IntKind.wrap IntKind.u8 (bits BinOp.or IntKind.i64 (64 : Int) (IntKind.wrap IntKind.i64 (Int.tdiv (IntKind.wrap IntKind.i64 ((20 : Int) + (↑(List.length a9) : Int))) (4 : Int)))) < (256 : Int))) (
     .grd (decide ((0 : Int) ≤ IntKind.wrap IntKind.u8 a0 ∧ IntKind.wrap IntKind.u8 a0 < (256 : Int))) (
     .opt (β := ((List UInt8) × Unit)) ((ipWord_fn (IntKind.wrap IntKind.i64 (IntKind.wrap IntKind.i64 ((20 : Int) + (↑(List.length a9) : Int)) + (↑(List.length a10) : Int)), ()))) (fun r1 =>
     .grd (decide (List.length [UInt8.ofNat (Int.toNat (IntKind.wrap IntKind.u8 (bits BinOp.or IntKind.i64 (64 : Int) (IntKind.wrap IntKind.i64 (Int.tdiv (IntKind.wrap IntKind.i64 ((20 : Int) + (↑(List.length a9) : Int))) (4 : Int)))))), UInt8.ofNat (Int.toNat (IntKind.wrap IntKind.u8 a0))] + List.length r1.1 ≤ (9223372036854775807 : Nat))) (
     .opt (β := ((List UInt8) × Unit)) ((ipWord_fn (a1, ()))) (fun r2 =>
     .grd (decide (List.length ([UInt8.ofNat (Int.toNat (IntKind.wrap IntKind.u8 (bits BinOp.or IntKind.i64 (64 : Int) (IntKind.wrap IntKind.i64 (Int.tdiv (IntKind.wrap IntKind.i64 ((20 : Int) + (↑(List.length a9) : Int))) (4 : Int)))))), UInt8.ofNat (Int.toNat (IntKind.wrap IntKind.u8 a0))] ++ r1.1) + List.length r2.1 ≤ (9223372036854775807 : Nat))) (
     .opt (β := ((List UInt8) × Unit)) ((ipWord_fn (bits BinOp.or IntKind.i64 a4 (8192 : Int), ()))) (fun r3 =>
     .grd (decide (List.length ([UInt8.ofNat (Int.toNat (IntKind.wrap IntKind.u8 (bits BinOp.or IntKind.i64 (64 : Int) (IntKind.wrap IntKind.i64 (Int.tdiv (IntKind.wrap IntKind.i64 ((20 : Int) + (↑(List.length a9) : Int))) (4 : Int)))))), UInt8.ofNat (Int.toNat (IntKind.wrap IntKind.u8 a0))] ++ r1.1 ++ r2.1) + List.length r3.1 ≤ (9223372036854775807 : Nat))) (
     .grd (decide ((0 : Int) ≤ IntKind.wrap IntKind.u8 a5 ∧ IntKind.wrap IntKind.u8 a5 < (256 : Int))) (
     .grd (decide ((0 : Int) ≤ IntKind.wrap IntKind.u8 a6 ∧ IntKind.wrap IntKind.u8 a6 < (256 : Int))) (
     .grd (decide (List.length ([UInt8.ofNat (Int.toNat (IntKind.wrap IntKind.u8 (bits BinOp.or IntKind.i64 (64 : Int) (IntKind.wrap IntKind.i64 (Int.tdiv (IntKind.wrap IntKind.i64 ((20 : Int) + (↑(List.length a9) : Int))) (4 : Int)))))), UInt8.ofNat (Int.toNat (IntKind.wrap IntKind.u8 a0))] ++ r1.1 ++ r2.1 ++ r3.1) + List.length [UInt8.ofNat (Int.toNat (IntKind.wrap IntKind.u8 a5)), UInt8.ofNat (Int.toNat (IntKind.wrap IntKind.u8 a6))] ≤ (9223372036854775807 : Nat))) (
     .opt (β := ((List UInt8) × Unit)) ((ipLong_fn (a7, ()))) (fun r4 =>
     .opt (β := ((List UInt8) × Unit)) ((ipLong_fn (a8, ()))) (fun r5 =>
     .grd (decide (List.length r4.1 + List.length r5.1 ≤ (9223372036854775807 : Nat))) (
     .grd (decide (List.length (r4.1 ++ r5.1) + List.length a9 ≤ (9223372036854775807 : Nat))) (
     .grd (decide (List.length ([UInt8.ofNat (Int.toNat (IntKind.wrap IntKind.u8 (bits BinOp.or IntKind.i64 (64 : Int) (IntKind.wrap IntKind.i64 (Int.tdiv (IntKind.wrap IntKind.i64 ((20 : Int) + (↑(List.length a9) : Int))) (4 : Int)))))), UInt8.ofNat (Int.toNat (IntKind.wrap IntKind.u8 a0))] ++ r1.1 ++ r2.1 ++ r3.1 ++ [UInt8.ofNat (Int.toNat (IntKind.wrap IntKind.u8 a5)), UInt8.ofNat (Int.toNat (IntKind.wrap IntKind.u8 a6))]) + List.length (r4.1 ++ r5.1 ++ a9) ≤ (9223372036854775807 : Nat))) (
     .opt (β := (Int × Unit)) ((sumOf_fn ([UInt8.ofNat (Int.toNat (IntKind.wrap IntKind.u8 (bits BinOp.or IntKind.i64 (64 : Int) (IntKind.wrap IntKind.i64 (Int.tdiv (IntKind.wrap IntKind.i64 ((20 : Int) + (↑(List.length a9) : Int))) (4 : Int)))))), UInt8.ofNat (Int.toNat (IntKind.wrap IntKind.u8 a0))] ++ r1.1 ++ r2.1 ++ r3.1 ++ [UInt8.ofNat (Int.toNat (IntKind.wrap IntKind.u8 a5)), UInt8.ofNat (Int.toNat (IntKind.wrap IntKind.u8 a6))] ++ (r4.1 ++ r5.1 ++ a9), ()))) (fun r6 =>
     .opt (β := ((List UInt8) × Unit)) ((ipWord_fn (IntKind.wrap IntKind.i64 r6.1, ()))) (fun r7 =>
     .grd (decide (List.length ([UInt8.ofNat (Int.toNat (IntKind.wrap IntKind.u8 (bits BinOp.or IntKind.i64 (64 : Int) (IntKind.wrap IntKind.i64 (Int.tdiv (IntKind.wrap IntKind.i64 ((20 : Int) + (↑(List.length a9) : Int))) (4 : Int)))))), UInt8.ofNat (Int.toNat (IntKind.wrap IntKind.u8 a0))] ++ r1.1 ++ r2.1 ++ r3.1 ++ [UInt8.ofNat (Int.toNat (IntKind.wrap IntKind.u8 a5)), UInt8.ofNat (Int.toNat (IntKind.wrap IntKind.u8 a6))]) + List.length r7.1 ≤ (9223372036854775807 : Nat))) (
     .grd (decide (List.length ([UInt8.ofNat (Int.toNat (IntKind.wrap IntKind.u8 (bits BinOp.or IntKind.i64 (64 : Int) (IntKind.wrap IntKind.i64 (Int.tdiv (IntKind.wrap IntKind.i64 ((20 : Int) + (↑(List.length a9) : Int))) (4 : Int)))))), UInt8.ofNat (Int.toNat (IntKind.wrap IntKind.u8 a0))] ++ r1.1 ++ r2.1 ++ r3.1 ++ [UInt8.ofNat (Int.toNat (IntKind.wrap IntKind.u8 a5)), UInt8.ofNat (Int.toNat (IntKind.wrap IntKind.u8 a6))] ++ r7.1) + List.length (r4.1 ++ r5.1 ++ a9) ≤ (9223372036854775807 : Nat))) (
     .grd (decide (List.length ([UInt8.ofNat (Int.toNat (IntKind.wrap IntKind.u8 (bits BinOp.or IntKind.i64 (64 : Int) (IntKind.wrap IntKind.i64 (Int.tdiv (IntKind.wrap IntKind.i64 ((20 : Int) + (↑(List.length a9) : Int))) (4 : Int)))))), UInt8.ofNat (Int.toNat (IntKind.wrap IntKind.u8 a0))] ++ r1.1 ++ r2.1 ++ r3.1 ++ [UInt8.ofNat (Int.toNat (IntKind.wrap IntKind.u8 a5)), UInt8.ofNat (Int.toNat (IntKind.wrap IntKind.u8 a6))] ++ r7.1 ++ (r4.1 ++ r5.1 ++ a9)) + List.length a10 ≤ (9223372036854775807 : Nat))) (
     .ret ([UInt8.ofNat (Int.toNat (IntKind.wrap IntKind.u8 (bits BinOp.or IntKind.i64 (64 : Int) (IntKind.wrap IntKind.i64 (Int.tdiv (IntKind.wrap IntKind.i64 ((20 : Int) + (↑(List.length a9) : Int))) (4 : Int)))))), UInt8.ofNat (Int.toNat (IntKind.wrap IntKind.u8 a0))] ++ r1.1 ++ r2.1 ++ r3.1 ++ [UInt8.ofNat (Int.toNat (IntKind.wrap IntKind.u8 a5)), UInt8.ofNat (Int.toNat (IntKind.wrap IntKind.u8 a6))] ++ r7.1 ++ (r4.1 ++ r5.1 ++ a9) ++ a10, ((0 : Int), ()))))))))))))))))))))))))) (
     .grd (true) (
     .grd (decide ((0 : Int) ≤ IntKind.wrap IntKind.u8 (bits BinOp.or IntKind.i64 (64 : Int) (IntKind.wrap IntKind.i64 (Int.tdiv (IntKind.wrap IntKind.i64 ((20 : Int) + (↑(List.length a9) : Int))) (4 : Int)))) ∧ IntKind.wrap IntKind.u8 (bits BinOp.or IntKind.i64 (64 : Int) (IntKind.wrap IntKind.i64 (Int.tdiv (IntKind.wrap IntKind.i64 ((20 : Int) + (↑(List.length a9) : Int))) (4 : Int)))) < (256 : Int))) (
     .grd (decide ((0 : Int) ≤ IntKind.wrap IntKind.u8 a0 ∧ IntKind.wrap IntKind.u8 a0 < (256 : Int))) (
     .opt (β := ((List UInt8) × Unit)) ((ipWord_fn (IntKind.wrap IntKind.i64 (IntKind.wrap IntKind.i64 ((20 : Int) + (↑(List.length a9) : Int)) + (↑(List.length a10) : Int)), ()))) (fun r1 =>
     .grd (decide (List.length [UInt8.ofNat (Int.toNat (IntKind.wrap IntKind.u8 (bits BinOp.or IntKind.i64 (64 : Int) (IntKind.wrap IntKind.i64 (Int.tdiv (IntKind.wrap IntKind.i64 ((20 : Int) + (↑(List.length a9) : Int))) (4 : Int)))))), UInt8.ofNat (Int.toNat (IntKind.wrap IntKind.u8 a0))] + List.length r1.1 ≤ (9223372036854775807 : Nat))) (
     .opt (β := ((List UInt8) × Unit)) ((ipWord_fn (a1, ()))) (fun r2 =>
     .grd (decide (List.length ([UInt8.ofNat (Int.toNat (IntKind.wrap IntKind.u8 (bits BinOp.or IntKind.i64 (64 : Int) (IntKind.wrap IntKind.i64 (Int.tdiv (IntKind.wrap IntKind.i64 ((20 : Int) + (↑(List.length a9) : Int))) (4 : Int)))))), UInt8.ofNat (Int.toNat (IntKind.wrap IntKind.u8 a0))] ++ r1.1) + List.length r2.1 ≤ (9223372036854775807 : Nat))) (
     .opt (β := ((List UInt8) × Unit)) ((ipWord_fn (a4, ()))) (fun r3 =>
     .grd (decide (List.length ([UInt8.ofNat (Int.toNat (IntKind.wrap IntKind.u8 (bits BinOp.or IntKind.i64 (64 : Int) (IntKind.wrap IntKind.i64 (Int.tdiv (IntKind.wrap IntKind.i64 ((20 : Int) + (↑(List.length a9) : Int))) (4 : Int)))))), UInt8.ofNat (Int.toNat (IntKind.wrap IntKind.u8 a0))] ++ r1.1 ++ r2.1) + List.length r3.1 ≤ (9223372036854775807 : Nat))) (
     .grd (decide ((0 : Int) ≤ IntKind.wrap IntKind.u8 a5 ∧ IntKind.wrap IntKind.u8 a5 < (256 : Int))) (
     .grd (decide ((0 : Int) ≤ IntKind.wrap IntKind.u8 a6 ∧ IntKind.wrap IntKind.u8 a6 < (256 : Int))) (
     .grd (decide (List.length ([UInt8.ofNat (Int.toNat (IntKind.wrap IntKind.u8 (bits BinOp.or IntKind.i64 (64 : Int) (IntKind.wrap IntKind.i64 (Int.tdiv (IntKind.wrap IntKind.i64 ((20 : Int) + (↑(List.length a9) : Int))) (4 : Int)))))), UInt8.ofNat (Int.toNat (IntKind.wrap IntKind.u8 a0))] ++ r1.1 ++ r2.1 ++ r3.1) + List.length [UInt8.ofNat (Int.toNat (IntKind.wrap IntKind.u8 a5)), UInt8.ofNat (Int.toNat (IntKind.wrap IntKind.u8 a6))] ≤ (9223372036854775807 : Nat))) (
     .opt (β := ((List UInt8) × Unit)) ((ipLong_fn (a7, ()))) (fun r4 =>
     .opt (β := ((List UInt8) × Unit)) ((ipLong_fn (a8, ()))) (fun r5 =>
     .grd (decide (List.length r4.1 + List.length r5.1 ≤ (9223372036854775807 : Nat))) (
     .grd (decide (List.length (r4.1 ++ r5.1) + List.length a9 ≤ (9223372036854775807 : Nat))) (
     .grd (decide (List.length ([UInt8.ofNat (Int.toNat (IntKind.wrap IntKind.u8 (bits BinOp.or IntKind.i64 (64 : Int) (IntKind.wrap IntKind.i64 (Int.tdiv (IntKind.wrap IntKind.i64 ((20 : Int) + (↑(List.length a9) : Int))) (4 : Int)))))), UInt8.ofNat (Int.toNat (IntKind.wrap IntKind.u8 a0))] ++ r1.1 ++ r2.1 ++ r3.1 ++ [UInt8.ofNat (Int.toNat (IntKind.wrap IntKind.u8 a5)), UInt8.ofNat (Int.toNat (IntKind.wrap IntKind.u8 a6))]) + List.length (r4.1 ++ r5.1 ++ a9) ≤ (9223372036854775807 : Nat))) (
     .opt (β := (Int × Unit)) ((sumOf_fn ([UInt8.ofNat (Int.toNat (IntKind.wrap IntKind.u8 (bits BinOp.or IntKind.i64 (64 : Int) (IntKind.wrap IntKind.i64 (Int.tdiv (IntKind.wrap IntKind.i64 ((20 : Int) + (↑(List.length a9) : Int))) (4 : Int)))))), UInt8.ofNat (Int.toNat (IntKind.wrap IntKind.u8 a0))] ++ r1.1 ++ r2.1 ++ r3.1 ++ [UInt8.ofNat (Int.toNat (IntKind.wrap IntKind.u8 a5)), UInt8.ofNat (Int.toNat (IntKind.wrap IntKind.u8 a6))] ++ (r4.1 ++ r5.1 ++ a9), ()))) (fun r6 =>
     .opt (β := ((List UInt8) × Unit)) ((ipWord_fn (IntKind.wrap IntKind.i64 r6.1, ()))) (fun r7 =>
     .grd (decide (List.length ([UInt8.ofNat (Int.toNat (IntKind.wrap IntKind.u8 (bits BinOp.or IntKind.i64 (64 : Int) (IntKind.wrap IntKind.i64 (Int.tdiv (IntKind.wrap IntKind.i64 ((20 : Int) + (↑(List.length a9) : Int))) (4 : Int)))))), UInt8.ofNat (Int.toNat (IntKind.wrap IntKind.u8 a0))] ++ r1.1 ++ r2.1 ++ r3.1 ++ [UInt8.ofNat (Int.toNat (IntKind.wrap IntKind.u8 a5)), UInt8.ofNat (Int.toNat (IntKind.wrap IntKind.u8 a6))]) + List.length r7.1 ≤ (9223372036854775807 : Nat))) (
     .grd (decide (List.length ([UInt8.ofNat (Int.toNat (IntKind.wrap IntKind.u8 (bits BinOp.or IntKind.i64 (64 : Int) (IntKind.wrap IntKind.i64 (Int.tdiv (IntKind.wrap IntKind.i64 ((20 : Int) + (↑(List.length a9) : Int))) (4 : Int)))))), UInt8.ofNat (Int.toNat (IntKind.wrap IntKind.u8 a0))] ++ r1.1 ++ r2.1 ++ r3.1 ++ [UInt8.ofNat (Int.toNat (IntKind.wrap IntKind.u8 a5)), UInt8.ofNat (Int.toNat (IntKind.wrap IntKind.u8 a6))] ++ r7.1) + List.length (r4.1 ++ r5.1 ++ a9) ≤ (9223372036854775807 : Nat))) (
     .grd (decide (List.length ([UInt8.ofNat (Int.toNat (IntKind.wrap IntKind.u8 (bits BinOp.or IntKind.i64 (64 : Int) (IntKind.wrap IntKind.i64 (Int.tdiv (IntKind.wrap IntKind.i64 ((20 : Int) + (↑(List.length a9) : Int))) (4 : Int)))))), UInt8.ofNat (Int.toNat (IntKind.wrap IntKind.u8 a0))] ++ r1.1 ++ r2.1 ++ r3.1 ++ [UInt8.ofNat (Int.toNat (IntKind.wrap IntKind.u8 a5)), UInt8.ofNat (Int.toNat (IntKind.wrap IntKind.u8 a6))] ++ r7.1 ++ (r4.1 ++ r5.1 ++ a9)) + List.length a10 ≤ (9223372036854775807 : Nat))) (
     .ret ([UInt8.ofNat (Int.toNat (IntKind.wrap IntKind.u8 (bits BinOp.or IntKind.i64 (64 : Int) (IntKind.wrap IntKind.i64 (Int.tdiv (IntKind.wrap IntKind.i64 ((20 : Int) + (↑(List.length a9) : Int))) (4 : Int)))))), UInt8.ofNat (Int.toNat (IntKind.wrap IntKind.u8 a0))] ++ r1.1 ++ r2.1 ++ r3.1 ++ [UInt8.ofNat (Int.toNat (IntKind.wrap IntKind.u8 a5)), UInt8.ofNat (Int.toNat (IntKind.wrap IntKind.u8 a6))] ++ r7.1 ++ (r4.1 ++ r5.1 ++ a9) ++ a10, ((0 : Int), ()))))))))))))))))))))))))))))
theorem ipWrite_eq (x : (Int × (Int × (Bool × (Bool × (Int × (Int × (Int × (Int × (Int × ((List UInt8) × ((List UInt8) × Unit)))))))))))) : fnTr Try.prog cod [FS.pf sumFold, FS.pf sumAdd, FS.pf sumOf, FS.pf ipByt, FS.pf ipRefused, FS.pf ipWord, FS.pf ipLong] [] 30 54 ipWrite_ap ipWrite_rp x = ipWrite_tree x := by kernel_rfl
def ipWrite_fn (x : (Int × (Int × (Bool × (Bool × (Int × (Int × (Int × (Int × (Int × ((List UInt8) × ((List UInt8) × Unit)))))))))))) : Option ((List UInt8) × (Int × Unit)) := (ipWrite_tree x).eval
def ipWrite : FS Try.prog := ⟨54, ipWrite_ap, ipWrite_rp, ipWrite_fn, fun x r h => fnTr_sound (cod := cod) (Γ := [FS.pf sumFold, FS.pf sumAdd, FS.pf sumOf, FS.pf ipByt, FS.pf ipRefused, FS.pf ipWord, FS.pf ipLong]) (Λs := []) (n := 30) ((congrArg Tr.eval (ipWrite_eq x)).trans h)⟩
def fragSplit_L29_15 : LS := ⟨15, [(9, 9), (2, 2)], ⟨91, [(9, .v (.one (.own 9))), (8, .v (.one (.i .i64))), (2, .v (.one (.ptr 2 0))), (10, .v (.one (.s)))], [(9, .row 71 20 true true), (2, .cells [.i .i64, .i .i64, .b, .b, .i .i64, .i .i64, .i .i64, .i .u32, .i .u32, .s, .s])]⟩, [⟨some 1, [(9, 9)], ⟨91, [(9, .v (.one (.own 9)))], [(9, .row 71 20 true true)]⟩⟩], [(9, 71, 20)]⟩
def fragSplit_step29_15 : (Int × ((List UInt8) × ((List TPacket) × (Int × (Int × (Bool × (Bool × (Int × (Int × (Int × (Int × (Int × ((List UInt8) × ((List UInt8) × Unit)))))))))))))) → Tr ((Int × ((List UInt8) × ((List TPacket) × (Int × (Int × (Bool × (Bool × (Int × (Int × (Int × (Int × (Int × ((List UInt8) × ((List UInt8) × Unit)))))))))))))) ⊕ ((List TPacket) × Unit)) :=
  fun (a0, a1, a2, a3, a4, a5, a6, a7, a8, a9, a10, a11, a12, a13, _) =>
  .ite (!decide (a1 = [])) (
   .ite (decide ((if true = true then if (↑(List.length a1) : Int) < a0 then (↑(List.length a1) : Int) else a0 else if (↑(List.length a1) : Int) > a0 then (↑(List.length a1) : Int) else a0) < (↑(List.length a1) : Int))) (
    .grd (decide ((0 : Int) ≤ (0 : Int) ∧ ((0 : Int) ≤ if true = true then if (↑(List.length a1) : Int) < a0 then (↑(List.length a1) : Int) else a0 else if (↑(List.length a1) : Int) > a0 then (↑(List.length a1) : Int) else a0) ∧ (if true = true then if (↑(List.length a1) : Int) < a0 then (↑(List.length a1) : Int) else a0 else if (↑(List.length a1) : Int) > a0 then (↑(List.length a1) : Int) else a0) ≤ (↑(List.length a1) : Int))) (
    .grd (decide (((0 : Int) ≤ if true = true then if (↑(List.length a1) : Int) < a0 then (↑(List.length a1) : Int) else a0 else if (↑(List.length a1) : Int) > a0 then (↑(List.length a1) : Int) else a0) ∧ (if true = true then if (↑(List.length a1) : Int) < a0 then (↑(List.length a1) : Int) else a0 else if (↑(List.length a1) : Int) > a0 then (↑(List.length a1) : Int) else a0) ≤ (↑(List.length a1) : Int) ∧ (↑(List.length a1) : Int) ≤ (↑(List.length a1) : Int))) (
    .grd (true) (
    .grd (decide ((List.length a2 + List.length [TPacket.mk a3 a4 a5 true (IntKind.wrap IntKind.i64 (a7 + IntKind.wrap IntKind.i64 (Int.tdiv (IntKind.wrap IntKind.i64 ((↑(List.length a2) : Int) * a0)) (8 : Int)))) a8 a9 a10 a11 a12 (List.drop (0 : Nat) (List.take (Int.toNat (if true = true then if (↑(List.length a1) : Int) < a0 then (↑(List.length a1) : Int) else a0 else if (↑(List.length a1) : Int) > a0 then (↑(List.length a1) : Int) else a0)) a1))]) * (88 : Nat) ≤ (140737488355328 : Nat) ∧ List.length a2 + List.length [TPacket.mk a3 a4 a5 true (IntKind.wrap IntKind.i64 (a7 + IntKind.wrap IntKind.i64 (Int.tdiv (IntKind.wrap IntKind.i64 ((↑(List.length a2) : Int) * a0)) (8 : Int)))) a8 a9 a10 a11 a12 (List.drop (0 : Nat) (List.take (Int.toNat (if true = true then if (↑(List.length a1) : Int) < a0 then (↑(List.length a1) : Int) else a0 else if (↑(List.length a1) : Int) > a0 then (↑(List.length a1) : Int) else a0)) a1))] ≤ (9223372036854775807 : Nat))) (
    .grd (decide (List.length (a2 ++ [TPacket.mk a3 a4 a5 true (IntKind.wrap IntKind.i64 (a7 + IntKind.wrap IntKind.i64 (Int.tdiv (IntKind.wrap IntKind.i64 ((↑(List.length a2) : Int) * a0)) (8 : Int)))) a8 a9 a10 a11 a12 (List.drop (0 : Nat) (List.take (Int.toNat (if true = true then if (↑(List.length a1) : Int) < a0 then (↑(List.length a1) : Int) else a0 else if (↑(List.length a1) : Int) > a0 then (↑(List.length a1) : Int) else a0)) a1))]) = List.length (a2 ++ [TPacket.mk a3 a4 a5 true (IntKind.wrap IntKind.i64 (a7 + IntKind.wrap IntKind.i64 (Int.tdiv (IntKind.wrap IntKind.i64 ((↑(List.length a2) : Int) * a0)) (8 : Int)))) a8 a9 a10 a11 a12 (List.drop (0 : Nat) (List.take (Int.toNat (if true = true then if (↑(List.length a1) : Int) < a0 then (↑(List.length a1) : Int) else a0 else if (↑(List.length a1) : Int) > a0 then (↑(List.length a1) : Int) else a0)) a1))]))) (
    .ret (Sum.inl (a0, (List.drop (Int.toNat (if true = true then if (↑(List.length a1) : Int) < a0 then (↑(List.length a1) : Int) else a0 else if (↑(List.length a1) : Int) > a0 then (↑(List.length a1) : Int) else a0)) (List.take (Int.toNat (↑(List.length a1) : Int)) a1), (a2 ++ [TPacket.mk a3 a4 a5 true (IntKind.wrap IntKind.i64 (a7 + IntKind.wrap IntKind.i64 (Int.tdiv (IntKind.wrap IntKind.i64 ((↑(List.length a2) : Int) * a0)) (8 : Int)))) a8 a9 a10 a11 a12 (List.drop (0 : Nat) (List.take (Int.toNat (if true = true then if (↑(List.length a1) : Int) < a0 then (↑(List.length a1) : Int) else a0 else if (↑(List.length a1) : Int) > a0 then (↑(List.length a1) : Int) else a0)) a1))], (a3, (a4, (a5, (a6, (a7, (a8, (a9, (a10, (a11, (a12, (a13, ()))))))))))))))))))))) (
    .grd (decide ((0 : Int) ≤ (0 : Int) ∧ ((0 : Int) ≤ if true = true then if (↑(List.length a1) : Int) < a0 then (↑(List.length a1) : Int) else a0 else if (↑(List.length a1) : Int) > a0 then (↑(List.length a1) : Int) else a0) ∧ (if true = true then if (↑(List.length a1) : Int) < a0 then (↑(List.length a1) : Int) else a0 else if (↑(List.length a1) : Int) > a0 then (↑(List.length a1) : Int) else a0) ≤ (↑(List.length a1) : Int))) (
    .grd (decide (((0 : Int) ≤ if true = true then if (↑(List.length a1) : Int) < a0 then (↑(List.length a1) : Int) else a0 else if (↑(List.length a1) : Int) > a0 then (↑(List.length a1) : Int) else a0) ∧ (if true = true then if (↑(List.length a1) : Int) < a0 then (↑(List.length a1) : Int) else a0 else if (↑(List.length a1) : Int) > a0 then (↑(List.length a1) : Int) else a0) ≤ (↑(List.length a1) : Int) ∧ (↑(List.length a1) : Int) ≤ (↑(List.length a1) : Int))) (
    .grd (true) (
    .grd (decide ((List.length a2 + List.length [TPacket.mk a3 a4 a5 a6 (IntKind.wrap IntKind.i64 (a7 + IntKind.wrap IntKind.i64 (Int.tdiv (IntKind.wrap IntKind.i64 ((↑(List.length a2) : Int) * a0)) (8 : Int)))) a8 a9 a10 a11 a12 (List.drop (0 : Nat) (List.take (Int.toNat (if true = true then if (↑(List.length a1) : Int) < a0 then (↑(List.length a1) : Int) else a0 else if (↑(List.length a1) : Int) > a0 then (↑(List.length a1) : Int) else a0)) a1))]) * (88 : Nat) ≤ (140737488355328 : Nat) ∧ List.length a2 + List.length [TPacket.mk a3 a4 a5 a6 (IntKind.wrap IntKind.i64 (a7 + IntKind.wrap IntKind.i64 (Int.tdiv (IntKind.wrap IntKind.i64 ((↑(List.length a2) : Int) * a0)) (8 : Int)))) a8 a9 a10 a11 a12 (List.drop (0 : Nat) (List.take (Int.toNat (if true = true then if (↑(List.length a1) : Int) < a0 then (↑(List.length a1) : Int) else a0 else if (↑(List.length a1) : Int) > a0 then (↑(List.length a1) : Int) else a0)) a1))] ≤ (9223372036854775807 : Nat))) (
    .grd (decide (List.length (a2 ++ [TPacket.mk a3 a4 a5 a6 (IntKind.wrap IntKind.i64 (a7 + IntKind.wrap IntKind.i64 (Int.tdiv (IntKind.wrap IntKind.i64 ((↑(List.length a2) : Int) * a0)) (8 : Int)))) a8 a9 a10 a11 a12 (List.drop (0 : Nat) (List.take (Int.toNat (if true = true then if (↑(List.length a1) : Int) < a0 then (↑(List.length a1) : Int) else a0 else if (↑(List.length a1) : Int) > a0 then (↑(List.length a1) : Int) else a0)) a1))]) = List.length (a2 ++ [TPacket.mk a3 a4 a5 a6 (IntKind.wrap IntKind.i64 (a7 + IntKind.wrap IntKind.i64 (Int.tdiv (IntKind.wrap IntKind.i64 ((↑(List.length a2) : Int) * a0)) (8 : Int)))) a8 a9 a10 a11 a12 (List.drop (0 : Nat) (List.take (Int.toNat (if true = true then if (↑(List.length a1) : Int) < a0 then (↑(List.length a1) : Int) else a0 else if (↑(List.length a1) : Int) > a0 then (↑(List.length a1) : Int) else a0)) a1))]))) (
    .ret (Sum.inl (a0, (List.drop (Int.toNat (if true = true then if (↑(List.length a1) : Int) < a0 then (↑(List.length a1) : Int) else a0 else if (↑(List.length a1) : Int) > a0 then (↑(List.length a1) : Int) else a0)) (List.take (Int.toNat (↑(List.length a1) : Int)) a1), (a2 ++ [TPacket.mk a3 a4 a5 a6 (IntKind.wrap IntKind.i64 (a7 + IntKind.wrap IntKind.i64 (Int.tdiv (IntKind.wrap IntKind.i64 ((↑(List.length a2) : Int) * a0)) (8 : Int)))) a8 a9 a10 a11 a12 (List.drop (0 : Nat) (List.take (Int.toNat (if true = true then if (↑(List.length a1) : Int) < a0 then (↑(List.length a1) : Int) else a0 else if (↑(List.length a1) : Int) > a0 then (↑(List.length a1) : Int) else a0)) a1))], (a3, (a4, (a5, (a6, (a7, (a8, (a9, (a10, (a11, (a12, (a13, ())))))))))))))))))))))) (
   .grd (decide (List.length a2 = List.length a2)) (
   .ret (Sum.inr (a2, ()))))
def fragSplit_loop29_15 (x : (Int × ((List UInt8) × ((List TPacket) × (Int × (Int × (Bool × (Bool × (Int × (Int × (Int × (Int × (Int × ((List UInt8) × ((List UInt8) × Unit))))))))))))))) : Option ((List TPacket) × Unit) := loopO 290015 (fun x => (fragSplit_step29_15 x).eval) 18446744073709551616 x
def fragSplit_ap : List VP1 := [.agg [.i .i64, .i .i64, .b, .b, .i .i64, .i .i64, .i .i64, .i .u32, .i .u32, .s, .s], .one (.i .i64)]
def fragSplit_rp : SP := ⟨1, [(0, .tup [.one (.st 20 true), .one (.i .i64)])], []⟩
def fragSplit_tree : (Int × (Int × (Bool × (Bool × (Int × (Int × (Int × (Int × (Int × ((List UInt8) × ((List UInt8) × (Int × Unit)))))))))))) → Tr ((List TPacket) × (Int × Unit)) :=
  fun (a0, a1, a2, a3, a4, a5, a6, a7, a8, a9, a10, a11, _) =>
  .opt (β := ((List UInt8) × (Int × Unit))) ((ipWrite_fn (a0, (a1, (a2, (a3, (a4, (a5, (a6, (a7, (a8, (a9, (a10, ()))))))))))))) (fun r0 =>
  .ite (!decide (r0.2.1 = (0 : Int))) (
   .ret ([], (r0.2.1, ()))) (
   .ite (decide (a11 < (68 : Int))) (
    .ret ([], ((1 : Int), ()))) (
    .ite (decide ((65535 : Int) < a11)) (
     .ret ([], ((1 : Int), ()))) (
     .ite (decide ((↑(List.length r0.1) : Int) ≤ a11)) (
      .ret ([TPacket.mk a0 a1 a2 a3 a4 a5 a6 a7 a8 a9 a10], ((0 : Int), ()))) (
      .ite (a2) (
       .ret ([], ((9 : Int), ()))) (
       .ite (decide ((65515 : Int) < IntKind.wrap IntKind.i64 (IntKind.wrap IntKind.i64 ((8 : Int) * a4) + (↑(List.length a10) : Int)))) (
        .ret ([], ((2 : Int), ()))) (
        .grd (true) (
        .grd (true) (
        .opt (β := ((List TPacket) × Unit)) ((fragSplit_loop29_15 (IntKind.wrap IntKind.i64 (IntKind.wrap IntKind.i64 (Int.tdiv (IntKind.wrap IntKind.i64 (IntKind.wrap IntKind.i64 (a11 - (20 : Int)) - (↑(List.length a9) : Int))) (8 : Int)) * (8 : Int)), (a10, ([], (a0, (a1, (a2, (a3, (a4, (a5, (a6, (a7, (a8, (a9, (a10, ())))))))))))))))) (fun r1 =>
        .ret (r1.1, ((0 : Int), ()))))))))))))
theorem fragSplit_eq (x : (Int × (Int × (Bool × (Bool × (Int × (Int × (Int × (Int × (Int × ((List UInt8) × ((List UInt8) × (Int × Unit))))))))))))) : fnTr Try.prog cod [FS.pf sumFold, FS.pf sumAdd, FS.pf sumOf, FS.pf ipByt, FS.pf ipRefused, FS.pf ipWord, FS.pf ipLong, FS.pf ipWrite] [(29, fragSplit_L29_15)] 30 29 fragSplit_ap fragSplit_rp x = fragSplit_tree x := by kernel_rfl
def fragSplit_fn (x : (Int × (Int × (Bool × (Bool × (Int × (Int × (Int × (Int × (Int × ((List UInt8) × ((List UInt8) × (Int × Unit))))))))))))) : Option ((List TPacket) × (Int × Unit)) := (fragSplit_tree x).eval
def fragSplit : FS Try.prog := ⟨29, fragSplit_ap, fragSplit_rp, fragSplit_fn, fun x r h => fnTr_sound (cod := cod) (Γ := [FS.pf sumFold, FS.pf sumAdd, FS.pf sumOf, FS.pf ipByt, FS.pf ipRefused, FS.pf ipWord, FS.pf ipLong, FS.pf ipWrite]) (Λs := [(29, fragSplit_L29_15)]) (n := 30) ((congrArg Tr.eval (fragSplit_eq x)).trans h)⟩
def fragLives_ap : List VP1 := []
def fragLives_rp : SP := ⟨1, [(0, .v (.one (.b)))], []⟩
def fragLives_tree : Unit → Tr (Bool × Unit) :=
  fun (_) =>
  .opt (β := ((List TPacket) × (Int × Unit))) ((fragSplit_fn ((0 : Int), ((1 : Int), (false, (false, ((0 : Int), ((4 : Int), ((0 : Int), ((0 : Int), ((0 : Int), ([], ([(97 : UInt8), (98 : UInt8), (99 : UInt8), (100 : UInt8), (101 : UInt8), (102 : UInt8), (103 : UInt8), (104 : UInt8), (97 : UInt8), (98 : UInt8), (99 : UInt8), (100 : UInt8), (101 : UInt8), (102 : UInt8), (103 : UInt8), (104 : UInt8), (97 : UInt8), (98 : UInt8), (99 : UInt8), (100 : UInt8), (101 : UInt8), (102 : UInt8), (103 : UInt8), (104 : UInt8), (97 : UInt8), (98 : UInt8), (99 : UInt8), (100 : UInt8), (101 : UInt8), (102 : UInt8), (103 : UInt8), (104 : UInt8), (97 : UInt8), (98 : UInt8), (99 : UInt8), (100 : UInt8), (101 : UInt8), (102 : UInt8), (103 : UInt8), (104 : UInt8), (97 : UInt8), (98 : UInt8), (99 : UInt8), (100 : UInt8), (101 : UInt8), (102 : UInt8), (103 : UInt8), (104 : UInt8), (120 : UInt8)], ((68 : Int), ())))))))))))))) (fun r0 =>
  .ite (decide (r0.2.1 = (0 : Int))) (
   .ite (decide ((↑(List.length r0.1) : Int) = (2 : Int))) (
    .grd (true) (
    .opt (β := TPacket) (r0.1[(1 : Nat)]?) (fun r1 =>
    .ite (decide (r1.data = [(120 : UInt8)])) (
     .grd (true) (
     .opt (β := TPacket) (r0.1[(1 : Nat)]?) (fun r2 =>
     .ite (decide (r2.start = (6 : Int))) (
      .grd (true) (
      .opt (β := TPacket) (r0.1[(0 : Nat)]?) (fun r3 =>
      .ret (r3.more, ())))) (
      .ret (false, ()))))) (
     .ret (false, ()))))) (
    .ret (false, ()))) (
   .ret (false, ())))
theorem fragLives_eq (x : Unit) : fnTr Try.prog cod [FS.pf sumFold, FS.pf sumAdd, FS.pf sumOf, FS.pf ipByt, FS.pf ipRefused, FS.pf ipWord, FS.pf ipLong, FS.pf ipWrite, FS.pf fragSplit] [] 30 30 fragLives_ap fragLives_rp x = fragLives_tree x := by kernel_rfl
def fragLives_fn (x : Unit) : Option (Bool × Unit) := (fragLives_tree x).eval
def fragLives : FS Try.prog := ⟨30, fragLives_ap, fragLives_rp, fragLives_fn, fun x r h => fnTr_sound (cod := cod) (Γ := [FS.pf sumFold, FS.pf sumAdd, FS.pf sumOf, FS.pf ipByt, FS.pf ipRefused, FS.pf ipWord, FS.pf ipLong, FS.pf ipWrite, FS.pf fragSplit]) (Λs := []) (n := 30) ((congrArg Tr.eval (fragLives_eq x)).trans h)⟩
def fEnd_ap : List VP1 := [.agg [.i .i64, .s, .b]]
def fEnd_rp : SP := ⟨1, [(0, .v (.one (.i .i64)))], []⟩
def fEnd_tree : (Int × ((List UInt8) × (Bool × Unit))) → Tr (Int × Unit) :=
  fun (a0, a1, a2, _) =>
  .ret (IntKind.wrap IntKind.i64 (a0 + (↑(List.length a1) : Int)), ())
theorem fEnd_eq (x : (Int × ((List UInt8) × (Bool × Unit)))) : fnTr Try.prog cod [FS.pf sumFold, FS.pf sumAdd, FS.pf sumOf, FS.pf ipByt, FS.pf ipRefused, FS.pf ipWord, FS.pf ipLong, FS.pf ipWrite, FS.pf fragSplit, FS.pf fragLives] [] 30 79 fEnd_ap fEnd_rp x = fEnd_tree x := by kernel_rfl
def fEnd_fn (x : (Int × ((List UInt8) × (Bool × Unit)))) : Option (Int × Unit) := (fEnd_tree x).eval
def fEnd : FS Try.prog := ⟨79, fEnd_ap, fEnd_rp, fEnd_fn, fun x r h => fnTr_sound (cod := cod) (Γ := [FS.pf sumFold, FS.pf sumAdd, FS.pf sumOf, FS.pf ipByt, FS.pf ipRefused, FS.pf ipWord, FS.pf ipLong, FS.pf ipWrite, FS.pf fragSplit, FS.pf fragLives]) (Λs := []) (n := 30) ((congrArg Tr.eval (fEnd_eq x)).trans h)⟩
def fRightPart_ap : List VP1 := [.agg [.i .i64, .s, .b]]
def fRightPart_rp : SP := ⟨1, [(0, .v (.one (.b)))], []⟩
def fRightPart_tree : (Int × ((List UInt8) × (Bool × Unit))) → Tr (Bool × Unit) :=
  fun (a0, a1, a2, _) =>
  .ite (!decide (a1 = [])) (
   .ite (decide ((0 : Int) ≤ a0)) (
    .grd (true) (
    .ite (decide (Int.tmod a0 (8 : Int) = (0 : Int))) (
     .ite (decide (a0 ≤ (65515 : Int))) (
      .opt (β := (Int × Unit)) ((fEnd_fn (a0, (a1, (a2, ()))))) (fun r0 =>
      .ite (decide (r0.1 ≤ (65515 : Int))) (
       .ite (a2) (
        .ret (true, ())) (
        .grd (true) (
        .ret (decide (Int.tmod (↑(List.length a1) : Int) (8 : Int) = (0 : Int)), ())))) (
       .ret (false, ())))) (
      .ret (false, ()))) (
     .ret (false, ())))) (
    .ret (false, ()))) (
   .ret (false, ()))
theorem fRightPart_eq (x : (Int × ((List UInt8) × (Bool × Unit)))) : fnTr Try.prog cod [FS.pf sumFold, FS.pf sumAdd, FS.pf sumOf, FS.pf ipByt, FS.pf ipRefused, FS.pf ipWord, FS.pf ipLong, FS.pf ipWrite, FS.pf fragSplit, FS.pf fragLives, FS.pf fEnd] [] 30 84 fRightPart_ap fRightPart_rp x = fRightPart_tree x := by kernel_rfl
def fRightPart_fn (x : (Int × ((List UInt8) × (Bool × Unit)))) : Option (Bool × Unit) := (fRightPart_tree x).eval
def fRightPart : FS Try.prog := ⟨84, fRightPart_ap, fRightPart_rp, fRightPart_fn, fun x r h => fnTr_sound (cod := cod) (Γ := [FS.pf sumFold, FS.pf sumAdd, FS.pf sumOf, FS.pf ipByt, FS.pf ipRefused, FS.pf ipWord, FS.pf ipLong, FS.pf ipWrite, FS.pf fragSplit, FS.pf fragLives, FS.pf fEnd]) (Λs := []) (n := 30) ((congrArg Tr.eval (fRightPart_eq x)).trans h)⟩
def fSameKey_ap : List VP1 := [.agg [.i .u32, .i .u32, .i .i64, .i .i64, .i .i64, .i .i64, .s, .st 5 false], .agg [.i .u32, .i .u32, .i .i64, .i .i64, .i .i64, .i .i64, .s, .st 5 false]]
def fSameKey_rp : SP := ⟨1, [(0, .v (.one (.b)))], []⟩
def fSameKey_tree : (Int × (Int × (Int × (Int × (Int × (Int × ((List UInt8) × ((List TPart) × (Int × (Int × (Int × (Int × (Int × (Int × ((List UInt8) × ((List TPart) × Unit)))))))))))))))) → Tr (Bool × Unit) :=
  fun (a0, a1, a2, a3, a4, a5, a6, a7, a8, a9, a10, a11, a12, a13, a14, a15, _) =>
  .ite (decide (a0 = a8)) (
   .ite (decide (a1 = a9)) (
    .ite (decide (a2 = a10)) (
     .ret (decide (a3 = a11), ())) (
     .ret (false, ()))) (
    .ret (false, ()))) (
   .ret (false, ()))
theorem fSameKey_eq (x : (Int × (Int × (Int × (Int × (Int × (Int × ((List UInt8) × ((List TPart) × (Int × (Int × (Int × (Int × (Int × (Int × ((List UInt8) × ((List TPart) × Unit))))))))))))))))) : fnTr Try.prog cod [FS.pf sumFold, FS.pf sumAdd, FS.pf sumOf, FS.pf ipByt, FS.pf ipRefused, FS.pf ipWord, FS.pf ipLong, FS.pf ipWrite, FS.pf fragSplit, FS.pf fragLives, FS.pf fEnd, FS.pf fRightPart] [] 30 59 fSameKey_ap fSameKey_rp x = fSameKey_tree x := by kernel_rfl
def fSameKey_fn (x : (Int × (Int × (Int × (Int × (Int × (Int × ((List UInt8) × ((List TPart) × (Int × (Int × (Int × (Int × (Int × (Int × ((List UInt8) × ((List TPart) × Unit))))))))))))))))) : Option (Bool × Unit) := (fSameKey_tree x).eval
def fSameKey : FS Try.prog := ⟨59, fSameKey_ap, fSameKey_rp, fSameKey_fn, fun x r h => fnTr_sound (cod := cod) (Γ := [FS.pf sumFold, FS.pf sumAdd, FS.pf sumOf, FS.pf ipByt, FS.pf ipRefused, FS.pf ipWord, FS.pf ipLong, FS.pf ipWrite, FS.pf fragSplit, FS.pf fragLives, FS.pf fEnd, FS.pf fRightPart]) (Λs := []) (n := 30) ((congrArg Tr.eval (fSameKey_eq x)).trans h)⟩
def fRightHeap_L65_2 : LS := ⟨2, [(1, 1)], ⟨67, [(8, .v (.one (.i .i64))), (1, .v (.one (.ptr 1 0))), (6, .v (.one (.st 5 false))), (7, .v (.one (.i .i64)))], [(1, .cells [.i .u32, .i .u32, .i .i64, .i .i64, .i .i64, .i .i64, .s, .st 5 false])]⟩, [⟨none, [], ⟨67, [(2, .v (.one (.b)))], []⟩⟩, ⟨some 0, [(1, 1)], ⟨67, [(1, .v (.one (.ptr 1 0)))], [(1, .cells [.i .u32, .i .u32, .i .i64, .i .i64, .i .i64, .i .i64, .s, .st 5 false])]⟩⟩], []⟩
def fRightHeap_step65_2 : (Int × ((List TPart) × (Int × (Int × (Int × (Int × (Int × (Int × (Int × ((List UInt8) × ((List TPart) × Unit))))))))))) → Tr ((Int × ((List TPart) × (Int × (Int × (Int × (Int × (Int × (Int × (Int × ((List UInt8) × ((List TPart) × Unit))))))))))) ⊕ ((Bool × Unit) ⊕ (Int × (Int × (Int × (Int × (Int × (Int × ((List UInt8) × ((List TPart) × Unit)))))))))) :=
  fun (a0, a1, a2, a3, a4, a5, a6, a7, a8, a9, a10, _) =>
  .ite (decide (a0 < a2)) (
   .grd (decide ((0 : Int) ≤ a0)) (
   .opt (β := TPart) (a1[Int.toNat a0]?) (fun r0 =>
   .opt (β := (Bool × Unit)) ((fRightPart_fn (r0.at', (r0.data, (r0.last, ()))))) (fun r1 =>
   .ite (!r1.1) (
    .ret (Sum.inr (Sum.inl (false, ())))) (
    .ite (decide ((0 : Int) < a0)) (
     .grd (decide ((0 : Int) ≤ IntKind.wrap IntKind.i64 (a0 - (1 : Int)))) (
     .opt (β := TPart) (a10[Int.toNat (IntKind.wrap IntKind.i64 (a0 - (1 : Int)))]?) (fun r2 =>
     .ite (r2.last) (
      .ret (Sum.inr (Sum.inl (false, ())))) (
      .grd (decide ((0 : Int) ≤ IntKind.wrap IntKind.i64 (a0 - (1 : Int)))) (
      .opt (β := TPart) (a10[Int.toNat (IntKind.wrap IntKind.i64 (a0 - (1 : Int)))]?) (fun r3 =>
      .opt (β := (Int × Unit)) ((fEnd_fn (r3.at', (r3.data, (r3.last, ()))))) (fun r4 =>
      .ite (decide (r0.at' < r4.1)) (
       .ret (Sum.inr (Sum.inl (false, ())))) (
       .ret (Sum.inl (IntKind.wrap IntKind.i64 (a0 + (1 : Int)), (a1, (a2, (a3, (a4, (a5, (a6, (a7, (a8, (a9, (a10, ())))))))))))))))))))) (
     .ret (Sum.inl (IntKind.wrap IntKind.i64 (a0 + (1 : Int)), (a1, (a2, (a3, (a4, (a5, (a6, (a7, (a8, (a9, (a10, ())))))))))))))))))) (
   .ret (Sum.inr (Sum.inr (a3, (a4, (a5, (a6, (a7, (a8, (a9, (a10, ())))))))))))
def fRightHeap_loop65_2 (x : (Int × ((List TPart) × (Int × (Int × (Int × (Int × (Int × (Int × (Int × ((List UInt8) × ((List TPart) × Unit)))))))))))) : Option ((Bool × Unit) ⊕ (Int × (Int × (Int × (Int × (Int × (Int × ((List UInt8) × ((List TPart) × Unit))))))))) := loopO 650002 (fun x => (fRightHeap_step65_2 x).eval) 18446744073709551616 x
def fRightHeap_ap : List VP1 := [.agg [.i .u32, .i .u32, .i .i64, .i .i64, .i .i64, .i .i64, .s, .st 5 false]]
def fRightHeap_rp : SP := ⟨1, [(0, .v (.one (.b)))], []⟩
def fRightHeap_tree : (Int × (Int × (Int × (Int × (Int × (Int × ((List UInt8) × ((List TPart) × Unit)))))))) → Tr (Bool × Unit) :=
  fun (a0, a1, a2, a3, a4, a5, a6, a7, _) =>
  .opt (β := ((Bool × Unit) ⊕ (Int × (Int × (Int × (Int × (Int × (Int × ((List UInt8) × ((List TPart) × Unit)))))))))) ((fRightHeap_loop65_2 ((0 : Int), (a7, ((↑(List.length a7) : Int), (a0, (a1, (a2, (a3, (a4, (a5, (a6, (a7, ()))))))))))))) (fun r0 =>
  .sum (β := (Bool × Unit)) (γ := (Int × (Int × (Int × (Int × (Int × (Int × ((List UInt8) × ((List TPart) × Unit))))))))) (r0) (fun r1 =>
   .ret (r1.1, ())) (fun r1 =>
   .ite (decide ((↑(List.length r1.2.2.2.2.2.2.2.1) : Int) = (0 : Int))) (
    .ret (false, ())) (
    .grd (true) (
    .opt (β := TPart) (r1.2.2.2.2.2.2.2.1[(0 : Nat)]?) (fun r2 =>
    .ite (decide (r2.at' = (0 : Int))) (
     .ret (true, ())) (
     .ite (decide (r1.2.2.2.2.1 = (0 : Int))) (
      .ite (decide (r1.2.2.2.2.2.1 = (0 : Int))) (
       .ret (decide (r1.2.2.2.2.2.2.1 = []), ())) (
       .ret (false, ()))) (
      .ret (false, ()))))))))
theorem fRightHeap_eq (x : (Int × (Int × (Int × (Int × (Int × (Int × ((List UInt8) × ((List TPart) × Unit))))))))) : fnTr Try.prog cod [FS.pf sumFold, FS.pf sumAdd, FS.pf sumOf, FS.pf ipByt, FS.pf ipRefused, FS.pf ipWord, FS.pf ipLong, FS.pf ipWrite, FS.pf fragSplit, FS.pf fragLives, FS.pf fEnd, FS.pf fRightPart, FS.pf fSameKey] [(65, fRightHeap_L65_2)] 30 65 fRightHeap_ap fRightHeap_rp x = fRightHeap_tree x := by kernel_rfl
def fRightHeap_fn (x : (Int × (Int × (Int × (Int × (Int × (Int × ((List UInt8) × ((List TPart) × Unit))))))))) : Option (Bool × Unit) := (fRightHeap_tree x).eval
def fRightHeap : FS Try.prog := ⟨65, fRightHeap_ap, fRightHeap_rp, fRightHeap_fn, fun x r h => fnTr_sound (cod := cod) (Γ := [FS.pf sumFold, FS.pf sumAdd, FS.pf sumOf, FS.pf ipByt, FS.pf ipRefused, FS.pf ipWord, FS.pf ipLong, FS.pf ipWrite, FS.pf fragSplit, FS.pf fragLives, FS.pf fEnd, FS.pf fRightPart, FS.pf fSameKey]) (Λs := [(65, fRightHeap_L65_2)]) (n := 30) ((congrArg Tr.eval (fRightHeap_eq x)).trans h)⟩
def fCheck_L57_2 : LS := ⟨2, [(1000200, 1000200)], ⟨19, [(8, .v (.one (.i .i64))), (0, .v (.one (.st 6 false))), (1, .v (.one (.clp 66 [(1000200, 0)]))), (7, .v (.one (.i .i64)))], [(1000200, .cells [.i .u32, .i .u32, .i .i64, .i .i64, .i .i64, .i .i64, .s, .st 5 false])]⟩, [⟨none, [(1000200, 1000200)], ⟨19, [(4, .v (.one (.i .i64)))], [(1000200, .cells [.i .u32, .i .u32, .i .i64, .i .i64, .i .i64, .i .i64, .s, .st 5 false])]⟩⟩, ⟨some 0, [(1000200, 1000200)], ⟨19, [], [(1000200, .cells [.i .u32, .i .u32, .i .i64, .i .i64, .i .i64, .i .i64, .s, .st 5 false])]⟩⟩], []⟩
def fCheck_step57_2 : (Int × ((List THeap) × (Int × (Int × (Int × (Int × (Int × (Int × (Int × ((List UInt8) × ((List TPart) × Unit))))))))))) → Tr ((Int × ((List THeap) × (Int × (Int × (Int × (Int × (Int × (Int × (Int × ((List UInt8) × ((List TPart) × Unit))))))))))) ⊕ ((Int × (Int × (Int × (Int × (Int × (Int × (Int × ((List UInt8) × ((List TPart) × Unit))))))))) ⊕ (Int × (Int × (Int × (Int × (Int × (Int × ((List UInt8) × ((List TPart) × Unit)))))))))) :=
  fun (a0, a1, a2, a3, a4, a5, a6, a7, a8, a9, a10, _) =>
  .ite (decide (a0 < a2)) (
   .grd (decide ((0 : Int) ≤ a0)) (
   .opt (β := THeap) (a1[Int.toNat a0]?) (fun r0 =>
   .opt (β := (Bool × Unit)) ((fSameKey_fn (r0.from', (r0.to, (r0.proto, (r0.id, (r0.tos, (r0.life, (r0.options, (r0.parts, (a3, (a4, (a5, (a6, (a7, (a8, (a9, (a10, ())))))))))))))))))) (fun r1 =>
   .ite (r1.1) (
    .ret (Sum.inr (Sum.inl (a0, (a3, (a4, (a5, (a6, (a7, (a8, (a9, (a10, ())))))))))))) (
    .ret (Sum.inl (IntKind.wrap IntKind.i64 (a0 + (1 : Int)), (a1, (a2, (a3, (a4, (a5, (a6, (a7, (a8, (a9, (a10, ()))))))))))))))))) (
   .ret (Sum.inr (Sum.inr (a3, (a4, (a5, (a6, (a7, (a8, (a9, (a10, ())))))))))))
def fCheck_loop57_2 (x : (Int × ((List THeap) × (Int × (Int × (Int × (Int × (Int × (Int × (Int × ((List UInt8) × ((List TPart) × Unit)))))))))))) : Option ((Int × (Int × (Int × (Int × (Int × (Int × (Int × ((List UInt8) × ((List TPart) × Unit))))))))) ⊕ (Int × (Int × (Int × (Int × (Int × (Int × ((List UInt8) × ((List TPart) × Unit))))))))) := loopO 570002 (fun x => (fCheck_step57_2 x).eval) 18446744073709551616 x
def fCheck_L33_10 : LS := ⟨10, [], ⟨39, [(23, .v (.one (.i .i64))), (0, .v (.one (.st 6 false))), (21, .v (.one (.st 6 false))), (22, .v (.one (.i .i64)))], []⟩, [⟨none, [], ⟨39, [(2, .v (.one (.i .i64)))], []⟩⟩, ⟨some 2, [], ⟨39, [], []⟩⟩], []⟩
def fCheck_step33_10 : (Int × ((List THeap) × ((List THeap) × (Int × Unit)))) → Tr ((Int × ((List THeap) × ((List THeap) × (Int × Unit)))) ⊕ ((Int × Unit) ⊕ Unit)) :=
  fun (a0, a1, a2, a3, _) =>
  .ite (decide (a0 < a3)) (
   .grd (decide ((0 : Int) ≤ a0)) (
   .opt (β := THeap) (a2[Int.toNat a0]?) (fun r0 =>
   .opt (β := (Bool × Unit)) ((fRightHeap_fn (r0.from', (r0.to, (r0.proto, (r0.id, (r0.tos, (r0.life, (r0.options, (r0.parts, ())))))))))) (fun r1 =>
   .ite (!r1.1) (
    .ret (Sum.inr (Sum.inl ((4 : Int), ())))) (
    .grd (decide ((0 : Int) ≤ (0 : Int) ∧ (0 : Int) ≤ a0 ∧ a0 ≤ (↑(List.length a1) : Int))) (
    .opt (β := ((Int × (Int × (Int × (Int × (Int × (Int × (Int × ((List UInt8) × ((List TPart) × Unit))))))))) ⊕ (Int × (Int × (Int × (Int × (Int × (Int × ((List UInt8) × ((List TPart) × Unit)))))))))) ((fCheck_loop57_2 ((0 : Int), (List.drop (0 : Nat) (List.take (Int.toNat a0) a1), ((↑(List.length (List.drop (0 : Nat) (List.take (Int.toNat a0) a1))) : Int), (r0.from', (r0.to, (r0.proto, (r0.id, (r0.tos, (r0.life, (r0.options, (r0.parts, ()))))))))))))) (fun r2 =>
    .sum (β := (Int × (Int × (Int × (Int × (Int × (Int × (Int × ((List UInt8) × ((List TPart) × Unit)))))))))) (γ := (Int × (Int × (Int × (Int × (Int × (Int × ((List UInt8) × ((List TPart) × Unit))))))))) (r2) (fun r3 =>
     .ite (decide ((0 : Int) ≤ r3.1)) (
      .ret (Sum.inr (Sum.inl ((4 : Int), ())))) (
      .ret (Sum.inl (IntKind.wrap IntKind.i64 (a0 + (1 : Int)), (a1, (a2, (a3, ()))))))) (fun r3 =>
     .ite (false) (
      .ret (Sum.inr (Sum.inl ((4 : Int), ())))) (
      .ret (Sum.inl (IntKind.wrap IntKind.i64 (a0 + (1 : Int)), (a1, (a2, (a3, ())))))))))))))) (
   .ret (Sum.inr (Sum.inr ())))
def fCheck_loop33_10 (x : (Int × ((List THeap) × ((List THeap) × (Int × Unit))))) : Option ((Int × Unit) ⊕ Unit) := loopO 330010 (fun x => (fCheck_step33_10 x).eval) 18446744073709551616 x
def fCheck_L33_4 : LS := ⟨4, [], ⟨39, [(12, .v (.one (.i .i64))), (10, .v (.one (.st 6 false))), (0, .v (.one (.st 6 false))), (11, .v (.one (.i .i64)))], []⟩, [⟨none, [], ⟨39, [(2, .v (.one (.i .i64)))], []⟩⟩, ⟨some 0, [], ⟨39, [(0, .v (.one (.st 6 false)))], []⟩⟩], []⟩
def fCheck_step33_4 : (Int × ((List THeap) × ((List THeap) × (Int × Unit)))) → Tr ((Int × ((List THeap) × ((List THeap) × (Int × Unit)))) ⊕ ((Int × Unit) ⊕ ((List THeap) × Unit))) :=
  fun (a0, a1, a2, a3, _) =>
  .ite (decide (a0 < a3)) (
   .grd (decide ((0 : Int) ≤ a0)) (
   .opt (β := THeap) (a1[Int.toNat a0]?) (fun r0 =>
   .ite (decide ((64 : Int) < (↑(List.length r0.parts) : Int))) (
    .ret (Sum.inr (Sum.inl ((2 : Int), ())))) (
    .ret (Sum.inl (IntKind.wrap IntKind.i64 (a0 + (1 : Int)), (a1, (a2, (a3, ()))))))))) (
   .ret (Sum.inr (Sum.inr (a2, ()))))
def fCheck_loop33_4 (x : (Int × ((List THeap) × ((List THeap) × (Int × Unit))))) : Option ((Int × Unit) ⊕ ((List THeap) × Unit)) := loopO 330004 (fun x => (fCheck_step33_4 x).eval) 18446744073709551616 x
def fCheck_ap : List VP1 := [.one (.st 6 false)]
def fCheck_rp : SP := ⟨1, [(0, .v (.one (.i .i64)))], []⟩
def fCheck_tree : ((List THeap) × Unit) → Tr (Int × Unit) :=
  fun (a0, _) =>
  .ite (decide ((16 : Int) < (↑(List.length a0) : Int))) (
   .ret ((2 : Int), ())) (
   .opt (β := ((Int × Unit) ⊕ ((List THeap) × Unit))) ((fCheck_loop33_4 ((0 : Int), (a0, (a0, ((↑(List.length a0) : Int), ())))))) (fun r0 =>
   .sum (β := (Int × Unit)) (γ := ((List THeap) × Unit)) (r0) (fun r1 =>
    .ret (r1.1, ())) (fun r1 =>
    .opt (β := ((Int × Unit) ⊕ Unit)) ((fCheck_loop33_10 ((0 : Int), (r1.1, (r1.1, ((↑(List.length r1.1) : Int), ())))))) (fun r2 =>
    .sum (β := (Int × Unit)) (γ := Unit) (r2) (fun r3 =>
     .ret (r3.1, ())) (fun r3 =>
     .ret ((0 : Int), ()))))))
theorem fCheck_eq (x : ((List THeap) × Unit)) : fnTr Try.prog cod [FS.pf sumFold, FS.pf sumAdd, FS.pf sumOf, FS.pf ipByt, FS.pf ipRefused, FS.pf ipWord, FS.pf ipLong, FS.pf ipWrite, FS.pf fragSplit, FS.pf fragLives, FS.pf fEnd, FS.pf fRightPart, FS.pf fSameKey, FS.pf fRightHeap] [(57, fCheck_L57_2), (33, fCheck_L33_10), (33, fCheck_L33_4)] 30 33 fCheck_ap fCheck_rp x = fCheck_tree x := by kernel_rfl
def fCheck_fn (x : ((List THeap) × Unit)) : Option (Int × Unit) := (fCheck_tree x).eval
def fCheck : FS Try.prog := ⟨33, fCheck_ap, fCheck_rp, fCheck_fn, fun x r h => fnTr_sound (cod := cod) (Γ := [FS.pf sumFold, FS.pf sumAdd, FS.pf sumOf, FS.pf ipByt, FS.pf ipRefused, FS.pf ipWord, FS.pf ipLong, FS.pf ipWrite, FS.pf fragSplit, FS.pf fragLives, FS.pf fEnd, FS.pf fRightPart, FS.pf fSameKey, FS.pf fRightHeap]) (Λs := [(57, fCheck_L57_2), (33, fCheck_L33_10), (33, fCheck_L33_4)]) (n := 30) ((congrArg Tr.eval (fCheck_eq x)).trans h)⟩
def fRefused_ap : List VP1 := [.agg [.i .i64, .i .i64, .b, .b, .i .i64, .i .i64, .i .i64, .i .u32, .i .u32, .s, .s]]
def fRefused_rp : SP := ⟨1, [(0, .v (.one (.i .i64)))], []⟩
def fRefused_tree : (Int × (Int × (Bool × (Bool × (Int × (Int × (Int × (Int × (Int × ((List UInt8) × ((List UInt8) × Unit))))))))))) → Tr (Int × Unit) :=
  fun (a0, a1, a2, a3, a4, a5, a6, a7, a8, a9, a10, _) =>
  .ite (decide ((65515 : Int) < IntKind.wrap IntKind.i64 (IntKind.wrap IntKind.i64 ((8 : Int) * a4) + (↑(List.length a10) : Int)))) (
   .ret ((2 : Int), ())) (
   .ite (decide (a10 = [])) (
    .ret ((4 : Int), ())) (
    .ite (a3) (
     .grd (true) (
     .ite (!decide (Int.tmod (↑(List.length a10) : Int) (8 : Int) = (0 : Int))) (
      .ret ((4 : Int), ())) (
      .ret ((0 : Int), ())))) (
     .ret ((0 : Int), ()))))
theorem fRefused_eq (x : (Int × (Int × (Bool × (Bool × (Int × (Int × (Int × (Int × (Int × ((List UInt8) × ((List UInt8) × Unit)))))))))))) : fnTr Try.prog cod [FS.pf sumFold, FS.pf sumAdd, FS.pf sumOf, FS.pf ipByt, FS.pf ipRefused, FS.pf ipWord, FS.pf ipLong, FS.pf ipWrite, FS.pf fragSplit, FS.pf fragLives, FS.pf fEnd, FS.pf fRightPart, FS.pf fSameKey, FS.pf fRightHeap, FS.pf fCheck] [] 30 56 fRefused_ap fRefused_rp x = fRefused_tree x := by kernel_rfl
def fRefused_fn (x : (Int × (Int × (Bool × (Bool × (Int × (Int × (Int × (Int × (Int × ((List UInt8) × ((List UInt8) × Unit)))))))))))) : Option (Int × Unit) := (fRefused_tree x).eval
def fRefused : FS Try.prog := ⟨56, fRefused_ap, fRefused_rp, fRefused_fn, fun x r h => fnTr_sound (cod := cod) (Γ := [FS.pf sumFold, FS.pf sumAdd, FS.pf sumOf, FS.pf ipByt, FS.pf ipRefused, FS.pf ipWord, FS.pf ipLong, FS.pf ipWrite, FS.pf fragSplit, FS.pf fragLives, FS.pf fEnd, FS.pf fRightPart, FS.pf fSameKey, FS.pf fRightHeap, FS.pf fCheck]) (Λs := []) (n := 30) ((congrArg Tr.eval (fRefused_eq x)).trans h)⟩
theorem clParts_h1 (xs : List (τ 5)) : (bodyTr Go.Proofs.Try.prog cod 34 [.one (.nn (.st 5 xs))]).eval = (cloneRes 86 5 32 xs).eval := by kernel_rfl
theorem clParts_h2 : (bodyTr Go.Proofs.Try.prog cod 34 [.one .nil]).eval = some (.one .nil, []) := by kernel_rfl
def clParts : PF Go.Proofs.Try.prog := clonePF Go.Proofs.Try.prog cod 34 86 5 32 clParts_h1 clParts_h2
def fOwn_L55_3 : LS := ⟨3, [(8, 8)], ⟨25, [(11, .v (.one (.i .i64))), (3, .v (.one (.dp 8))), (9, .v (.one (.st 6 false))), (10, .v (.one (.i .i64)))], [(8, .deep 83 86 6)]⟩, [⟨some 0, [(8, 8)], ⟨25, [(3, .v (.one (.dp 8)))], [(8, .deep 83 86 6)]⟩⟩], []⟩
def fOwn_step55_3 : (Int × (Nat × ((List THeap) × (Int × ((List THeap) × Unit))))) → Tr ((Int × (Nat × ((List THeap) × (Int × ((List THeap) × Unit))))) ⊕ (Nat × ((List THeap) × Unit))) :=
  fun (a0, a1, a2, a3, a4, _) =>
  .ite (decide (a0 < a3)) (
   .grd (decide ((0 : Int) ≤ a0)) (
   .opt (β := THeap) (a2[Int.toNat a0]?) (fun r0 =>
   .grd (decide (((0 : Nat) + List.length r0.parts) * (32 : Nat) ≤ (140737488355328 : Nat) ∧ (0 : Nat) + List.length r0.parts ≤ (9223372036854775807 : Nat))) (
   .grd (decide ((List.length a4 + List.length [THeap.mk r0.from' r0.to r0.proto r0.id r0.tos r0.life r0.options r0.parts]) * (80 : Nat) ≤ (140737488355328 : Nat) ∧ List.length a4 + List.length [THeap.mk r0.from' r0.to r0.proto r0.id r0.tos r0.life r0.options r0.parts] ≤ (9223372036854775807 : Nat))) (
   .grd (decide (List.length (a4 ++ [THeap.mk r0.from' r0.to r0.proto r0.id r0.tos r0.life r0.options r0.parts]) = List.length (a4 ++ [THeap.mk r0.from' r0.to r0.proto r0.id r0.tos r0.life r0.options r0.parts]))) (
   .ret (Sum.inl (IntKind.wrap IntKind.i64 (a0 + (1 : Int)), (List.length (a4 ++ [THeap.mk r0.from' r0.to r0.proto r0.id r0.tos r0.life r0.options r0.parts]), (a2, (a3, (a4 ++ [THeap.mk r0.from' r0.to r0.proto r0.id r0.tos r0.life r0.options r0.parts], ())))))))))))) (
   .grd (decide (List.length a4 = List.length a4)) (
   .ret (Sum.inr (a1, (a4, ())))))
def fOwn_loop55_3 (x : (Int × (Nat × ((List THeap) × (Int × ((List THeap) × Unit)))))) : Option (Nat × ((List THeap) × Unit)) := loopO 550003 (fun x => (fOwn_step55_3 x).eval) 18446744073709551616 x
def fOwn_ap : SP := ⟨25, [(0, .v (.one (.st 6 false)))], []⟩
def fOwn_rp : SP := ⟨1, [(0, .v (.one (.dp 2000000)))], [(2000000, .deep 83 86 6)]⟩
def fOwn_tree : ((List THeap) × Unit) → Tr (Nat × ((List THeap) × Unit)) :=
  fun (a0, _) =>
  .grd (decide ((0 : Int) ≤ (0 : Int) ∧ (0 : Int) ≤ (↑(List.length a0) : Int) ∧ Int.toNat (↑(List.length a0) : Int) * (80 : Nat) ≤ (140737488355328 : Nat) ∧ (↑(List.length a0) : Int) ≤ (↑(9223372036854775807 : Nat) : Int))) (
  .grd (true) (
  .opt (β := (Nat × ((List THeap) × Unit))) ((fOwn_loop55_3 ((0 : Int), (Int.toNat (↑(List.length a0) : Int), (a0, ((↑(List.length a0) : Int), (List.replicate (0 : Nat) (THeap.mk (0 : Int) (0 : Int) (0 : Int) (0 : Int) (0 : Int) (0 : Int) [] []), ()))))))) (fun r0 =>
  .grd (decide (List.length r0.2.fst = List.length r0.2.1)) (
  .ret (r0.1, (r0.2.1, ()))))))
theorem fOwn_eq (x : ((List THeap) × Unit)) : gsTr Try.prog cod [FS.pf sumFold, FS.pf sumAdd, FS.pf sumOf, FS.pf ipByt, FS.pf ipRefused, FS.pf ipWord, FS.pf ipLong, FS.pf ipWrite, FS.pf fragSplit, FS.pf fragLives, FS.pf fEnd, FS.pf fRightPart, FS.pf fSameKey, FS.pf fRightHeap, FS.pf fCheck, FS.pf fRefused, clParts] [(55, fOwn_L55_3)] 30 55 fOwn_ap fOwn_rp x = fOwn_tree x := by kernel_rfl
def fOwn_fn (x : ((List THeap) × Unit)) : Option (Nat × ((List THeap) × Unit)) := (fOwn_tree x).eval
def fOwn : GS Try.prog := ⟨55, [0], fOwn_ap, fOwn_rp, fOwn_fn, fun x r h ys m g he hg => gs_sound (cod := cod) (Γ := [FS.pf sumFold, FS.pf sumAdd, FS.pf sumOf, FS.pf ipByt, FS.pf ipRefused, FS.pf ipWord, FS.pf ipLong, FS.pf ipWrite, FS.pf fragSplit, FS.pf fragLives, FS.pf fEnd, FS.pf fRightPart, FS.pf fSameKey, FS.pf fRightHeap, FS.pf fCheck, FS.pf fRefused, clParts]) (Λs := [(55, fOwn_L55_3)]) (n := 30) ((congrArg Tr.eval (fOwn_eq x)).trans h) he hg⟩
def fDel_ap : SP := ⟨33, [(0, .v (.one (.dp 1000100))), (1, .v (.one (.i .i64))), (2, .v (.one (.i .i64)))], [(1000100, .deep 83 86 6)]⟩
def fDel_rp : SP := ⟨1, [(0, .v (.one (.dp 1000100)))], [(1000100, .deep 83 86 6)]⟩
def fDel_tree : (Nat × (Int × (Int × ((List THeap) × Unit)))) → Tr (Nat × ((List THeap) × Unit)) :=
  fun (a0, a1, a2, a3, _) =>
  .grd (decide ((0 : Int) ≤ a1 ∧ a1 ≤ a2 ∧ a2 ≤ (↑(List.length a3) : Int) ∧ (↑(List.length a3) : Int) ≤ (↑(List.length a3) : Int))) (
  .ite (decide (a1 = a2)) (
   .grd (decide (List.length a3 = List.length a3)) (
   .ret (a0, (a3, ())))) (
   .grd (decide ((0 : Int) ≤ (0 : Int) ∧ (0 : Int) ≤ a1 ∧ a1 ≤ (↑a0 : Int))) (
   .grd (decide ((0 : Int) ≤ a2 ∧ a2 ≤ (↑(List.length a3) : Int) ∧ (↑(List.length a3) : Int) ≤ (↑a0 : Int))) (
   .grd (decide ((0 : Nat) = (0 : Nat) ∧ Int.toNat (a1 - (0 : Int)) ≤ Int.toNat a2 ∧ Int.toNat a2 + Int.toNat ((↑(List.length a3) : Int) - a2) = List.length a3)) (
   .grd (decide ((0 : Int) ≤ (↑(List.length (List.take (Int.toNat (a1 - (0 : Int))) a3 ++ List.drop (Int.toNat a2) a3)) : Int) ∧ (↑(List.length (List.take (Int.toNat (a1 - (0 : Int))) a3 ++ List.drop (Int.toNat a2) a3)) : Int) ≤ (↑(List.length a3) : Int) ∧ (↑(List.length a3) : Int) ≤ (↑(List.length a3) : Int))) (
   .grd (decide (List.length (List.take (Int.toNat (a1 - (0 : Int))) a3 ++ List.drop (Int.toNat a2) a3) ≤ Int.toNat (↑(List.length (List.take (Int.toNat (a1 - (0 : Int))) a3 ++ List.drop (Int.toNat a2) a3)) : Int))) (
   .grd (decide (List.length (List.take (Int.toNat (a1 - (0 : Int))) a3 ++ List.drop (Int.toNat a2) a3) = List.length (List.take (Int.toNat (a1 - (0 : Int))) a3 ++ List.drop (Int.toNat a2) a3))) (
   .ret (List.length a3, (List.take (Int.toNat (a1 - (0 : Int))) a3 ++ List.drop (Int.toNat a2) a3, ()))))))))))
theorem fDel_eq (x : (Nat × (Int × (Int × ((List THeap) × Unit))))) : gsTr Try.prog cod [FS.pf sumFold, FS.pf sumAdd, FS.pf sumOf, FS.pf ipByt, FS.pf ipRefused, FS.pf ipWord, FS.pf ipLong, FS.pf ipWrite, FS.pf fragSplit, FS.pf fragLives, FS.pf fEnd, FS.pf fRightPart, FS.pf fSameKey, FS.pf fRightHeap, FS.pf fCheck, FS.pf fRefused, clParts, GS.pf fOwn] [] 30 60 fDel_ap fDel_rp x = fDel_tree x := by kernel_rfl
def fDel_fn (x : (Nat × (Int × (Int × ((List THeap) × Unit))))) : Option (Nat × ((List THeap) × Unit)) := (fDel_tree x).eval
def fDel : GS Try.prog := ⟨60, [1, 0, 0], fDel_ap, fDel_rp, fDel_fn, fun x r h ys m g he hg => gs_sound (cod := cod) (Γ := [FS.pf sumFold, FS.pf sumAdd, FS.pf sumOf, FS.pf ipByt, FS.pf ipRefused, FS.pf ipWord, FS.pf ipLong, FS.pf ipWrite, FS.pf fragSplit, FS.pf fragLives, FS.pf fEnd, FS.pf fRightPart, FS.pf fSameKey, FS.pf fRightHeap, FS.pf fCheck, FS.pf fRefused, clParts, GS.pf fOwn]) (Λs := []) (n := 30) ((congrArg Tr.eval (fDel_eq x)).trans h) he hg⟩
end Go.Proofs.Ythnijeclidpooaa.X
