/- Functions of the program, as trees (printed by a program of mine: tool/XTool, xg.py), each with the proof that the machine comes to what its tree says. Conditions: none. -/
import Derived.Test.YtkfpdgibaadmbaaDoorCod
import Derived.KernelRfl
import Derived.Test.YtkfpdgibaadmbaaDoorGSum
namespace Go.Proofs.YtkfpdgibaadmbaaDoor.X
open Go Go.RowKit Go.Proofs.YtkfpdgibaadmbaaDoor.Abs
set_option maxRecDepth 100000
set_option linter.unusedVariables false
def ipWordAt_ap : List VP1 := [.one (.s), .one (.i .i64)]
def ipWordAt_rp : SP := ⟨1, [(0, .v (.one (.i .i64)))], []⟩
def ipWordAt_tree : ((List UInt8) × (Int × Unit)) → Tr (Int × Unit) :=
  fun (a0, a1, _) =>
  .grd (decide ((0 : Int) ≤ a1 ∧ a1 < (↑(List.length a0) : Int))) (
  .grd (true) (
  .grd (decide ((0 : Int) ≤ IntKind.wrap IntKind.i64 (a1 + (1 : Int)) ∧ IntKind.wrap IntKind.i64 (a1 + (1 : Int)) < (↑(List.length a0) : Int))) (
  .ret (bits BinOp.or IntKind.i64 (IntKind.wrap IntKind.i64 (IntKind.wrap IntKind.i64 (↑(UInt8.toNat (List.getD a0 (Int.toNat a1) (0 : UInt8))) : Int) * (2 : Int) ^ (8 : Nat))) (IntKind.wrap IntKind.i64 (↑(UInt8.toNat (List.getD a0 (Int.toNat (IntKind.wrap IntKind.i64 (a1 + (1 : Int)))) (0 : UInt8))) : Int)), ()))))
theorem ipWordAt_eq (x : ((List UInt8) × (Int × Unit))) : fnTr Tryd.prog cod [FS.pf sumFold, FS.pf sumAdd, FS.pf sumOf, FS.pf sumRight, FS.pf sumFix] [] 30 17 ipWordAt_ap ipWordAt_rp x = ipWordAt_tree x := by kernel_rfl
def ipWordAt_fn (x : ((List UInt8) × (Int × Unit))) : Option (Int × Unit) := (ipWordAt_tree x).eval
def ipWordAt : FS Tryd.prog := ⟨17, ipWordAt_ap, ipWordAt_rp, ipWordAt_fn, fun x r h => fnTr_sound (cod := cod) (Γ := [FS.pf sumFold, FS.pf sumAdd, FS.pf sumOf, FS.pf sumRight, FS.pf sumFix]) (Λs := []) (n := 30) ((congrArg Tr.eval (ipWordAt_eq x)).trans h)⟩
def ipLongAt_ap : List VP1 := [.one (.s), .one (.i .i64)]
def ipLongAt_rp : SP := ⟨1, [(0, .v (.one (.i .u32)))], []⟩
def ipLongAt_tree : ((List UInt8) × (Int × Unit)) → Tr (Int × Unit) :=
  fun (a0, a1, _) =>
  .opt (β := (Int × Unit)) ((ipWordAt_fn (a0, (a1, ())))) (fun r0 =>
  .grd (true) (
  .opt (β := (Int × Unit)) ((ipWordAt_fn (a0, (IntKind.wrap IntKind.i64 (a1 + (2 : Int)), ())))) (fun r1 =>
  .ret (bits BinOp.or IntKind.u32 (IntKind.wrap IntKind.u32 (IntKind.wrap IntKind.u32 r0.1 * (2 : Int) ^ (16 : Nat))) (IntKind.wrap IntKind.u32 r1.1), ()))))
theorem ipLongAt_eq (x : ((List UInt8) × (Int × Unit))) : fnTr Tryd.prog cod [FS.pf sumFold, FS.pf sumAdd, FS.pf sumOf, FS.pf sumRight, FS.pf sumFix, FS.pf ipWordAt] [] 30 18 ipLongAt_ap ipLongAt_rp x = ipLongAt_tree x := by kernel_rfl
def ipLongAt_fn (x : ((List UInt8) × (Int × Unit))) : Option (Int × Unit) := (ipLongAt_tree x).eval
def ipLongAt : FS Tryd.prog := ⟨18, ipLongAt_ap, ipLongAt_rp, ipLongAt_fn, fun x r h => fnTr_sound (cod := cod) (Γ := [FS.pf sumFold, FS.pf sumAdd, FS.pf sumOf, FS.pf sumRight, FS.pf sumFix, FS.pf ipWordAt]) (Λs := []) (n := 30) ((congrArg Tr.eval (ipLongAt_eq x)).trans h)⟩
def ipByt_ap : List VP1 := [.one (.i .i64)]
def ipByt_rp : SP := ⟨1, [(0, .v (.one (.b)))], []⟩
def ipByt_tree : (Int × Unit) → Tr (Bool × Unit) :=
  fun (a0, _) =>
  .ite (decide ((0 : Int) ≤ a0)) (
   .ret (decide (a0 ≤ (255 : Int)), ())) (
   .ret (false, ()))
theorem ipByt_eq (x : (Int × Unit)) : fnTr Tryd.prog cod [FS.pf sumFold, FS.pf sumAdd, FS.pf sumOf, FS.pf sumRight, FS.pf sumFix, FS.pf ipWordAt, FS.pf ipLongAt] [] 30 25 ipByt_ap ipByt_rp x = ipByt_tree x := by kernel_rfl
def ipByt_fn (x : (Int × Unit)) : Option (Bool × Unit) := (ipByt_tree x).eval
def ipByt : FS Tryd.prog := ⟨25, ipByt_ap, ipByt_rp, ipByt_fn, fun x r h => fnTr_sound (cod := cod) (Γ := [FS.pf sumFold, FS.pf sumAdd, FS.pf sumOf, FS.pf sumRight, FS.pf sumFix, FS.pf ipWordAt, FS.pf ipLongAt]) (Λs := []) (n := 30) ((congrArg Tr.eval (ipByt_eq x)).trans h)⟩
def ipRefused_ap : List VP1 := [.agg [.i .i64, .i .i64, .b, .b, .i .i64, .i .i64, .i .i64, .i .u32, .i .u32, .s, .s]]
def ipRefused_rp : SP := ⟨1, [(0, .v (.one (.i .i64)))], []⟩
def ipRefused_tree : (Int × (Int × (Bool × (Bool × (Int × (Int × (Int × (Int × (Int × ((List UInt8) × ((List UInt8) × Unit))))))))))) → Tr (Int × Unit) :=
  fun (a0, a1, a2, a3, a4, a5, a6, a7, a8, a9, a10, _) =>
  .opt (β := (Bool × Unit)) ((ipByt_fn (a0, ()))) (fun r0 =>
  .ite (!r0.1) (
   .ret ((1 : Int), ())) (
   .opt (β := (Bool × Unit)) ((ipByt_fn (a5, ()))) (fun r1 =>
   .ite (!r1.1) (
    .ret ((1 : Int), ())) (
    .opt (β := (Bool × Unit)) ((ipByt_fn (a6, ()))) (fun r2 =>
    .ite (!r2.1) (
     .ret ((1 : Int), ())) (
     .ite (decide (a1 < (0 : Int))) (
      .ret ((1 : Int), ())) (
      .ite (decide ((65535 : Int) < a1)) (
       .ret ((1 : Int), ())) (
       .ite (decide (a4 < (0 : Int))) (
        .ret ((1 : Int), ())) (
        .ite (decide ((8191 : Int) < a4)) (
         .ret ((1 : Int), ())) (
         .ite (decide ((40 : Int) < (↑(List.length a9) : Int))) (
          .ret ((1 : Int), ())) (
          .grd (true) (
          .ite (!decide (Int.tmod (↑(List.length a9) : Int) (4 : Int) = (0 : Int))) (
           .ret ((1 : Int), ())) (
           .ite (a2) (
            .ite (a3) (
             .ret ((4 : Int), ())) (
             .ite (!decide (a4 = (0 : Int))) (
              .ret ((4 : Int), ())) (
              .ite (decide (IntKind.wrap IntKind.i64 ((65515 : Int) - (↑(List.length a9) : Int)) < (↑(List.length a10) : Int))) (
               .ret ((2 : Int), ())) (
               .ret ((0 : Int), ()))))) (
            .ite (decide (IntKind.wrap IntKind.i64 ((65515 : Int) - (↑(List.length a9) : Int)) < (↑(List.length a10) : Int))) (
             .ret ((2 : Int), ())) (
             .ret ((0 : Int), ()))))))))))))))))
theorem ipRefused_eq (x : (Int × (Int × (Bool × (Bool × (Int × (Int × (Int × (Int × (Int × ((List UInt8) × ((List UInt8) × Unit)))))))))))) : fnTr Tryd.prog cod [FS.pf sumFold, FS.pf sumAdd, FS.pf sumOf, FS.pf sumRight, FS.pf sumFix, FS.pf ipWordAt, FS.pf ipLongAt, FS.pf ipByt] [] 30 13 ipRefused_ap ipRefused_rp x = ipRefused_tree x := by kernel_rfl
def ipRefused_fn (x : (Int × (Int × (Bool × (Bool × (Int × (Int × (Int × (Int × (Int × ((List UInt8) × ((List UInt8) × Unit)))))))))))) : Option (Int × Unit) := (ipRefused_tree x).eval
def ipRefused : FS Tryd.prog := ⟨13, ipRefused_ap, ipRefused_rp, ipRefused_fn, fun x r h => fnTr_sound (cod := cod) (Γ := [FS.pf sumFold, FS.pf sumAdd, FS.pf sumOf, FS.pf sumRight, FS.pf sumFix, FS.pf ipWordAt, FS.pf ipLongAt, FS.pf ipByt]) (Λs := []) (n := 30) ((congrArg Tr.eval (ipRefused_eq x)).trans h)⟩
def ipWord_ap : List VP1 := [.one (.i .i64)]
def ipWord_rp : SP := ⟨1, [(0, .v (.one (.s)))], []⟩
def ipWord_tree : (Int × Unit) → Tr ((List UInt8) × Unit) :=
  fun (a0, _) =>
  .grd (true) (
  .grd (decide ((0 : Int) ≤ IntKind.wrap IntKind.u8 (Int.fdiv a0 ((2 : Int) ^ (8 : Nat))) ∧ IntKind.wrap IntKind.u8 (Int.fdiv a0 ((2 : Int) ^ (8 : Nat))) < (256 : Int))) (
  .grd (decide ((0 : Int) ≤ IntKind.wrap IntKind.u8 a0 ∧ IntKind.wrap IntKind.u8 a0 < (256 : Int))) (
  .ret ([UInt8.ofNat (Int.toNat (IntKind.wrap IntKind.u8 (Int.fdiv a0 ((2 : Int) ^ (8 : Nat))))), UInt8.ofNat (Int.toNat (IntKind.wrap IntKind.u8 a0))], ()))))
theorem ipWord_eq (x : (Int × Unit)) : fnTr Tryd.prog cod [FS.pf sumFold, FS.pf sumAdd, FS.pf sumOf, FS.pf sumRight, FS.pf sumFix, FS.pf ipWordAt, FS.pf ipLongAt, FS.pf ipByt, FS.pf ipRefused] [] 30 14 ipWord_ap ipWord_rp x = ipWord_tree x := by kernel_rfl
def ipWord_fn (x : (Int × Unit)) : Option ((List UInt8) × Unit) := (ipWord_tree x).eval
def ipWord : FS Tryd.prog := ⟨14, ipWord_ap, ipWord_rp, ipWord_fn, fun x r h => fnTr_sound (cod := cod) (Γ := [FS.pf sumFold, FS.pf sumAdd, FS.pf sumOf, FS.pf sumRight, FS.pf sumFix, FS.pf ipWordAt, FS.pf ipLongAt, FS.pf ipByt, FS.pf ipRefused]) (Λs := []) (n := 30) ((congrArg Tr.eval (ipWord_eq x)).trans h)⟩
def ipLong_ap : List VP1 := [.one (.i .u32)]
def ipLong_rp : SP := ⟨1, [(0, .v (.one (.s)))], []⟩
def ipLong_tree : (Int × Unit) → Tr ((List UInt8) × Unit) :=
  fun (a0, _) =>
  .grd (true) (
  .grd (true) (
  .grd (true) (
  .grd (decide ((0 : Int) ≤ IntKind.wrap IntKind.u8 (Int.fdiv a0 ((2 : Int) ^ (24 : Nat))) ∧ IntKind.wrap IntKind.u8 (Int.fdiv a0 ((2 : Int) ^ (24 : Nat))) < (256 : Int))) (
  .grd (decide ((0 : Int) ≤ IntKind.wrap IntKind.u8 (Int.fdiv a0 ((2 : Int) ^ (16 : Nat))) ∧ IntKind.wrap IntKind.u8 (Int.fdiv a0 ((2 : Int) ^ (16 : Nat))) < (256 : Int))) (
  .grd (decide ((0 : Int) ≤ IntKind.wrap IntKind.u8 (Int.fdiv a0 ((2 : Int) ^ (8 : Nat))) ∧ IntKind.wrap IntKind.u8 (Int.fdiv a0 ((2 : Int) ^ (8 : Nat))) < (256 : Int))) (
  .grd (decide ((0 : Int) ≤ IntKind.wrap IntKind.u8 a0 ∧ IntKind.wrap IntKind.u8 a0 < (256 : Int))) (
  .ret ([UInt8.ofNat (Int.toNat (IntKind.wrap IntKind.u8 (Int.fdiv a0 ((2 : Int) ^ (24 : Nat))))), UInt8.ofNat (Int.toNat (IntKind.wrap IntKind.u8 (Int.fdiv a0 ((2 : Int) ^ (16 : Nat))))), UInt8.ofNat (Int.toNat (IntKind.wrap IntKind.u8 (Int.fdiv a0 ((2 : Int) ^ (8 : Nat))))), UInt8.ofNat (Int.toNat (IntKind.wrap IntKind.u8 a0))], ()))))))))
theorem ipLong_eq (x : (Int × Unit)) : fnTr Tryd.prog cod [FS.pf sumFold, FS.pf sumAdd, FS.pf sumOf, FS.pf sumRight, FS.pf sumFix, FS.pf ipWordAt, FS.pf ipLongAt, FS.pf ipByt, FS.pf ipRefused, FS.pf ipWord] [] 30 15 ipLong_ap ipLong_rp x = ipLong_tree x := by kernel_rfl
def ipLong_fn (x : (Int × Unit)) : Option ((List UInt8) × Unit) := (ipLong_tree x).eval
def ipLong : FS Tryd.prog := ⟨15, ipLong_ap, ipLong_rp, ipLong_fn, fun x r h => fnTr_sound (cod := cod) (Γ := [FS.pf sumFold, FS.pf sumAdd, FS.pf sumOf, FS.pf sumRight, FS.pf sumFix, FS.pf ipWordAt, FS.pf ipLongAt, FS.pf ipByt, FS.pf ipRefused, FS.pf ipWord]) (Λs := []) (n := 30) ((congrArg Tr.eval (ipLong_eq x)).trans h)⟩
def ipWrite_ap : List VP1 := [.agg [.i .i64, .i .i64, .b, .b, .i .i64, .i .i64, .i .i64, .i .u32, .i .u32, .s, .s]]
def ipWrite_rp : SP := ⟨1, [(0, .tup [.one (.s), .one (.i .i64)])], []⟩
def ipWrite_tree : (Int × (Int × (Bool × (Bool × (Int × (Int × (Int × (Int × (Int × ((List UInt8) × ((List UInt8) × Unit))))))))))) → Tr ((List UInt8) × (Int × Unit)) :=
  fun (a0, a1, a2, a3, a4, a5, a6, a7, a8, a9, a10, _) =>
  .opt (β := (Int × Unit)) ((ipRefused_fn (a0, (a1, (a2, (a3, (a4, (a5, (a6, (a7, (a8, (a9, (a10, ()))))))))))))) (fun r0 =>
  .ite (!decide (r0.1 = (0 : Int))) (
   .ret ([], (r0.1, ()))) (
   .ite (a2) (
    .ite (a3) (
     .grd (true) (
     .grd (decide ((0 : Int) ≤ IntKind.wrap IntKind.u8 (bits BinOp.or IntKind.i64 (64 : Int) (IntKind.wrap IntKind.i64 (Int.tdiv (IntKind.wrap IntKind.i64 ((20 : Int) + (↑(List.length a9) : Int))) (4 : Int)))) ∧ IntKind.wrap IntKind.u8 (bits BinOp.or IntKind.i64 (64 : Int) (IntKind.wrap IntKind.i64 (Int.tdiv (IntKind.wrap IntKind.i64 ((20 : Int) + (↑(List.length a9) : Int))) (4 : Int)))) < (256 : Int))) (
     .grd (decide ((0 : Int) ≤ IntKind.wrap IntKind.u8 a0 ∧ IntKind.wrap IntKind.u8 a0 < (256 : Int))) (
     .opt (β := ((List UInt8) × Unit)) ((ipWord_fn (IntKind.wrap IntKind.i64 (IntKind.wrap IntKind.i64 ((20 : Int) + (↑(List.length a9) : Int)) + (↑(List.length a10) : Int)), ()))) (fun r1 =>
     .grd (decide (List.length [UInt8.ofNat (Int.toNat (IntKind.wrap IntKind.u8 (bits BinOp.or IntKind.i64 (64 : Int) (IntKind.wrap IntKind.i64 (Int.tdiv (IntKind.wrap IntKind.i64 ((20 : Int) + (↑(List.length a9) : Int))) (4 : Int)))))), UInt8.ofNat (Int.toNat (IntKind.wrap IntKind.u8 a0))] + List.length r1.1 ≤ (9223372036854775807 : Nat))) (
     .opt (β := ((List UInt8) × Unit)) ((ipWord_fn (a1, ()))) (fun r2 =>
     .grd (decide (List.length ([UInt8.ofNat (Int.toNat (IntKind.wrap IntKind.u8 (bits BinOp.or IntKind.i64 (64 : Int) (IntKind.wrap IntKind.i64 (Int.tdiv (IntKind.wrap IntKind.i64 ((20 : Int) + (↑(List.length a9) : Int))) (4 : Int)))))), UInt8.ofNat (Int.toNat (IntKind.wrap IntKind.u8 a0))] ++ r1.1) + List.length r2.1 ≤ (9223372036854775807 : Nat))) (
     .opt (β := ((List UInt8) × Unit)) ((ipWord_fn (bits BinOp.or IntKind.i64 (bits BinOp.or IntKind.i64 a4 (16384 : Int)) (8192 : Int), ()))) (fun r3 =>
     .grd (decide (List.length ([UInt8.ofNat (Int.toNat (IntKind.wrap IntKind.u8 (bits BinOp.or IntKind.i64 (64 : Int) (IntKind.wrap IntKind.i64 (Int.tdiv (IntKind.wrap IntKind.i64 ((20 : Int) + (↑(List.length a9) : Int))) (4 : Int)))))), UInt8.ofNat (Int.toNat (IntKind.wrap IntKind.u8 a0))] ++ r1.1 ++ r2.1) + List.length r3.1 ≤ (9223372036854775807 : Nat))) (
     .grd (decide ((0 : Int) ≤ IntKind.wrap IntKind.u8 a5 ∧ IntKind.wrap IntKind.u8 a5 < (256 : Int))) (
     .grd (decide ((0 : Int) ≤ IntKind.wrap IntKind.u8 a6 ∧ IntKind.wrap IntKind.u8 a6 < (256 : Int))) (
     .grd (decide (List.length ([UInt8.ofNat (Int.toNat (IntKind.wrap IntKind.u8 (bits BinOp.or IntKind.i64 (64 : Int) (IntKind.wrap IntKind.i64 (Int.tdiv (IntKind.wrap IntKind.i64 ((20 : Int) + (↑(List.length a9) : Int))) (4 : Int)))))), UInt8.ofNat (Int.toNat (IntKind.wrap IntKind.u8 a0))] ++ r1.1 ++ r2.1 ++ r3.1) + List.length [UInt8.ofNat (Int.toNat (IntKind.wrap IntKind.u8 a5)), UInt8.ofNat (Int.toNat (IntKind.wrap IntKind.u8 a6))] ≤ (9223372036854775807 : Nat))) (
     .opt (β := ((List UInt8) × Unit)) ((ipLong_fn (a7, ()))) (fun r4 =>
     .opt (β := ((List UInt8) × Unit)) ((ipLong_fn (a8, ()))) (fun r5 =>
     .grd (decide (List.length r4.1 + List.length r5.1 ≤ (9223372036854775807 : Nat))) (
     .grd (decide (List.length (r4.1 ++ r5.1) + List.length a9 ≤ (9223372036854775807 : Nat))) (
     .grd (decide (List.length ([UInt8.ofNat (Int.toNat (IntKind.wrap IntKind.u8 (bits BinOp.or IntKind.i64 (64 : Int) (IntKind.wrap IntKind.i64 (Int.tdiv (IntKind.wrap IntKind.i64 ((20 : Int) + (↑(List.length a9) : Int))) (4 : Int)))))), UInt8.ofNat (Int.toNat (IntKind.wrap IntKind.u8 a0))] ++ r1.1 ++ r2.1 ++ r3.1 ++ [UInt8.ofNat (Int.toNat (IntKind.wrap IntKind.u8 a5)), UInt8.ofNat (Int.toNat (IntKind.wrap IntKind.u8 a6))]) + List.length (r4.1 ++ r5.1 ++ a9) ≤ (9223372036854775807 : Nat))) (
     .opt (β := (Int × Unit)) ((sumOf_fn ([UInt8.ofNat (Int.toNat (IntKind.wrap IntKind.u8 (bits BinOp.or IntKind.i64 (64 : Int) (IntKind.wrap IntKind.i64 (Int.tdiv (IntKind.wrap IntKind.i64 ((20 : Int) + (↑(List.length a9) : Int))) (4 : Int)))))), UInt8.ofNat (Int.toNat (IntKind.wrap IntKind.u8 a0))] ++ r1.1 ++ r2.1 ++ r3.1 ++ [UInt8.ofNat (Int.toNat (IntKind.wrap IntKind.u8 a5)), UInt8.ofNat (Int.toNat (IntKind.wrap IntKind.u8 a6))] ++ (r4.1 ++ r5.1 ++ a9), ()))) (fun r6 =>
     .opt (β := ((List UInt8) × Unit)) ((ipWord_fn (IntKind.wrap IntKind.i64 r6.1, ()))) (fun r7 =>
     .grd (decide (List.length ([UInt8.ofNat (Int.toNat (IntKind.wrap IntKind.u8 (bits BinOp.or IntKind.i64 (64 : Int) (IntKind.wrap IntKind.i64 (Int.tdiv (IntKind.wrap IntKind.i64 ((20 : Int) + (↑(List.length a9) : Int))) (4 : Int)))))), UInt8.ofNat (Int.toNat (IntKind.wrap IntKind.u8 a0))] ++ r1.1 ++ r2.1 ++ r3.1 ++ [UInt8.ofNat (Int.toNat (IntKind.wrap IntKind.u8 a5)), UInt8.ofNat (Int.toNat (IntKind.wrap IntKind.u8 a6))]) + List.length r7.1 ≤ (9223372036854775807 : Nat))) (
     .grd (decide (List.length ([UInt8.ofNat (Int.toNat (IntKind.wrap IntKind.u8 (bits BinOp.or IntKind.i64 (64 : Int) (IntKind.wrap IntKind.i64 (Int.tdiv (IntKind.wrap IntKind.i64 ((20 : Int) + (↑(List.length a9) : Int))) (4 : Int)))))), UInt8.ofNat (Int.toNat (IntKind.wrap IntKind.u8 a0))] ++ r1.1 ++ r2.1 ++ r3.1 ++ [UInt8.ofNat (Int.toNat (IntKind.wrap IntKind.u8 a5)), UInt8.ofNat (Int.toNat (IntKind.wrap IntKind.u8 a6))] ++ r7.1) + List.length (r4.1 ++ r5.1 ++ a9) ≤ (9223372036854775807 : Nat))) (
     .grd (decide (List.length ([UInt8.ofNat (Int.toNat (IntKind.wrap IntKind.u8 (bits BinOp.or IntKind.i64 (64 : Int) (IntKind.wrap IntKind.i64 (Int.tdiv (IntKind.wrap IntKind.i64 ((20 : Int) + (↑(List.length a9) : Int))) (4 : Int)))))), UInt8.ofNat (Int.toNat (IntKind.wrap IntKind.u8 a0))] ++ r1.1 ++ r2.1 ++ r3.1 ++ [UInt8.ofNat (Int.toNat (IntKind.wrap IntKind.u8 a5)), UInt8.ofNat (Int.toNat (IntKind.wrap IntKind.u8 a6))] ++ r7.1 ++ (r4.1 ++ r5.1 ++ a9)) + List.length a10 ≤ (9223372036854775807 : Nat))) (
     .ret ([UInt8.ofNat (Int.toNat (IntKind.wrap IntKind.u8 (bits BinOp.or IntKind.i64 (64 : Int) (IntKind.wrap IntKind.i64 (Int.tdiv (IntKind.wrap IntKind.i64 ((20 : Int) + (↑(List.length a9) : Int))) (4 : Int)))))), UInt8.ofNat (Int.toNat (IntKind.wrap IntKind.u8 a0))] ++ r1.1 ++ r2.1 ++ r3.1 ++ [UInt8.ofNat (Int.toNat (IntKind.wrap IntKind.u8 a5)), UInt8.ofNat (Int.toNat (IntKind.wrap IntKind.u8 a6))] ++ r7.1 ++ (r4.1 ++ r5.1 ++ a9) ++ a10, ((0 : Int), ()))))))))))))))))))))))))) (
     .grd (true) (
     .grd (decide ((0 : Int) ≤ IntKind.wrap IntKind.u8 (bits BinOp.or IntKind.i64 (64 : Int) (IntKind.wrap IntKind.i64 (Int.tdiv (IntKind.wrap IntKind.i64 ((20 : Int) + (↑(List.length a9) : Int))) (4 : Int)))) ∧ IntKind.wrap IntKind.u8 (bits BinOp.or IntKind.i64 (64 : Int) (IntKind.wrap IntKind.i64 (Int.tdiv (IntKind.wrap IntKind.i64 ((20 : Int) + (↑(List.length a9) : Int))) (4 : Int)))) < (256 : Int))) (
     .grd (decide ((0 : Int) ≤ IntKind.wrap IntKind.u8 a0 ∧ IntKind.wrap IntKind.u8 a0 < (256 : Int))) (
     .opt (β := ((List UInt8) × Unit)) ((ipWord_fn (IntKind.wrap IntKind.i64 (IntKind.wrap IntKind.i64 ((20 : Int) + (↑(List.length a9) : Int)) + (↑(List.length a10) : Int)), ()))) (fun r1 =>
     .grd (decide (List.length [UInt8.ofNat (Int.toNat (IntKind.wrap IntKind.u8 (bits BinOp.or IntKind.i64 (64 : Int) (IntKind.wrap IntKind.i64 (Int.tdiv (IntKind.wrap IntKind.i64 ((20 : Int) + (↑(List.length a9) : Int))) (4 : Int)))))), UInt8.ofNat (Int.toNat (IntKind.wrap IntKind.u8 a0))] + List.length r1.1 ≤ (9223372036854775807 : Nat))) (
     .opt (β := ((List UInt8) × Unit)) ((ipWord_fn (a1, ()))) (fun r2 =>
     .grd (decide (List.length ([UInt8.ofNat (Int.toNat (IntKind.wrap IntKind.u8 (bits BinOp.or IntKind.i64 (64 : Int) (IntKind.wrap IntKind.i64 (Int.tdiv (IntKind.wrap IntKind.i64 ((20 : Int) + (↑(List.length a9) : Int))) (4 : Int)))))), UInt8.ofNat (Int.toNat (IntKind.wrap IntKind.u8 a0))] ++ r1.1) + List.length r2.1 ≤ (9223372036854775807 : Nat))) (
     .opt (β := ((List UInt8) × Unit)) ((ipWord_fn (bits BinOp.or IntKind.i64 a4 (16384 : Int), ()))) (fun r3 =>
     .grd (decide (List.length ([UInt8.ofNat (Int.toNat (IntKind.wrap IntKind.u8 (bits BinOp.or IntKind.i64 (64 : Int) (IntKind.wrap IntKind.i64 (Int.tdiv (IntKind.wrap IntKind.i64 ((20 : Int) + (↑(List.length a9) : Int))) (4 : Int)))))), UInt8.ofNat (Int.toNat (IntKind.wrap IntKind.u8 a0))] ++ r1.1 ++ r2.1) + List.length r3.1 ≤ (9223372036854775807 : Nat))) (
     .grd (decide ((0 : Int) ≤ IntKind.wrap IntKind.u8 a5 ∧ IntKind.wrap IntKind.u8 a5 < (256 : Int))) (
     .grd (decide ((0 : Int) ≤ IntKind.wrap IntKind.u8 a6 ∧ IntKind.wrap IntKind.u8 a6 < (256 : Int))) (
     .grd (decide (List.length ([UInt8.ofNat (Int.toNat (IntKind.wrap IntKind.u8 (bits BinOp.or IntKind.i64 (64 : Int) (IntKind.wrap IntKind.i64 (Int.tdiv (IntKind.wrap IntKind.i64 ((20 : Int) + (↑(List.length a9) : Int))) (4 : Int)))))), UInt8.ofNat (Int.toNat (IntKind.wrap IntKind.u8 a0))] ++ r1.1 ++ r2.1 ++ r3.1) + List.length [UInt8.ofNat (Int.toNat (IntKind.wrap IntKind.u8 a5)), UInt8.ofNat (Int.toNat (IntKind.wrap IntKind.u8 a6))] ≤ (9223372036854775807 : Nat))) (
     .opt (β := ((List UInt8) × Unit)) ((ipLong_fn (a7, ()))) (fun r4 =>
     .opt (β := ((List UInt8) × Unit)) ((ipLong_fn (a8, ()))) (fun r5 =>
     .grd (decide (List.length r4.1 + List.length r5.1 ≤ (9223372036854775807 : Nat))) (
     .grd (decide (List.length (r4.1 ++ r5.1) + List.length a9 ≤ (9223372036854775807 : Nat))) (
     .grd (decide (List.length ([UInt8.ofNat (Int.toNat (IntKind.wrap IntKind.u8 (bits BinOp.or IntKind.i64 (64 : Int) (IntKind.wrap IntKind.i64 (Int.tdiv (IntKind.wrap IntKind.i64 ((20 : Int) + (↑(List.length a9) : Int))) (4 : Int)))))), UInt8.ofNat (Int.toNat (IntKind.wrap IntKind.u8 a0))] ++ r1.1 ++ r2.1 ++ r3.1 ++ [UInt8.ofNat (Int.toNat (IntKind.wrap IntKind.u8 a5)), UInt8.ofNat (Int.toNat (IntKind.wrap IntKind.u8 a6))]) + List.length (r4.1 ++ r5.1 ++ a9) ≤ (9223372036854775807 : Nat))) (
     .opt (β := (Int × Unit)) ((sumOf_fn ([UInt8.ofNat (Int.toNat (IntKind.wrap IntKind.u8 (bits BinOp.or IntKind.i64 (64 : Int) (IntKind.wrap IntKind.i64 (Int.tdiv (IntKind.wrap IntKind.i64 ((20 : Int) + (↑(List.length a9) : Int))) (4 : Int)))))), UInt8.ofNat (Int.toNat (IntKind.wrap IntKind.u8 a0))] ++ r1.1 ++ r2.1 ++ r3.1 ++ [UInt8.ofNat (Int.toNat (IntKind.wrap IntKind.u8 a5)), UInt8.ofNat (Int.toNat (IntKind.wrap IntKind.u8 a6))] ++ (r4.1 ++ r5.1 ++ a9), ()))) (fun r6 =>
     .opt (β := ((List UInt8) × Unit)) ((ipWord_fn (IntKind.wrap IntKind.i64 r6.1, ()))) (fun r7 =>
     .grd (decide (List.length ([UInt8.ofNat (Int.toNat (IntKind.wrap IntKind.u8 (bits BinOp.or IntKind.i64 (64 : Int) (IntKind.wrap IntKind.i64 (Int.tdiv (IntKind.wrap IntKind.i64 ((20 : Int) + (↑(List.length a9) : Int))) (4 : Int)))))), UInt8.ofNat (Int.toNat (IntKind.wrap IntKind.u8 a0))] ++ r1.1 ++ r2.1 ++ r3.1 ++ [UInt8.ofNat (Int.toNat (IntKind.wrap IntKind.u8 a5)), UInt8.ofNat (Int.toNat (IntKind.wrap IntKind.u8 a6))]) + List.length r7.1 ≤ (9223372036854775807 : Nat))) (
     .grd (decide (List.length ([UInt8.ofNat (Int.toNat (IntKind.wrap IntKind.u8 (bits BinOp.or IntKind.i64 (64 : Int) (IntKind.wrap IntKind.i64 (Int.tdiv (IntKind.wrap IntKind.i64 ((20 : Int) + (↑(List.length a9) : Int))) (4 : Int)))))), UInt8.ofNat (Int.toNat (IntKind.wrap IntKind.u8 a0))] ++ r1.1 ++ r2.1 ++ r3.1 ++ [UInt8.ofNat (Int.toNat (IntKind.wrap IntKind.u8 a5)), UInt8.ofNat (Int.toNat (IntKind.wrap IntKind.u8 a6))] ++ r7.1) + List.length (r4.1 ++ r5.1 ++ a9) ≤ (9223372036854775807 : Nat))) (
     .grd (decide (List.length ([UInt8.ofNat (Int.toNat (IntKind.wrap IntKind.u8 (bits BinOp.or IntKind.i64 (64 : Int) (IntKind.wrap IntKind.i64 (Int.tdiv (IntKind.wrap IntKind.i64 ((20 : Int) + (↑(List.length a9) : Int))) (4 : Int)))))), UInt8.ofNat (Int.toNat (IntKind.wrap IntKind.u8 a0))] ++ r1.1 ++ r2.1 ++ r3.1 ++ [UInt8.ofNat (Int.toNat (IntKind.wrap IntKind.u8 a5)), UInt8.ofNat (Int.toNat (IntKind.wrap IntKind.u8 a6))] ++ r7.1 ++ (r4.1 ++ r5.1 ++ a9)) + List.length a10 ≤ (9223372036854775807 : Nat))) (
     .ret ([UInt8.ofNat (Int.toNat (IntKind.wrap IntKind.u8 (bits BinOp.or IntKind.i64 (64 : Int) (IntKind.wrap IntKind.i64 (Int.tdiv (IntKind.wrap IntKind.i64 ((20 : Int) + (↑(List.length a9) : Int))) (4 : Int)))))), UInt8.ofNat (Int.toNat (IntKind.wrap IntKind.u8 a0))] ++ r1.1 ++ r2.1 ++ r3.1 ++ [UInt8.ofNat (Int.toNat (IntKind.wrap IntKind.u8 a5)), UInt8.ofNat (Int.toNat (IntKind.wrap IntKind.u8 a6))] ++ r7.1 ++ (r4.1 ++ r5.1 ++ a9) ++ a10, ((0 : Int), ())))))))))))))))))))))))))) (
    .ite (a3) (
     .grd (true) (
     .grd (decide ((0 : Int) ≤ IntKind.wrap IntKind.u8 (bits BinOp.or IntKind.i64 (64 : Int) (IntKind.wrap IntKind.i64 (Int.tdiv (IntKind.wrap IntKind.i64 ((20 : Int) + (↑(List.length a9) : Int))) (4 : Int)))) ∧ IntKind.wrap IntKind.u8 (bits BinOp.or IntKind.i64 (64 : Int) (IntKind.wrap IntKind.i64 (Int.tdiv (IntKind.wrap IntKind.i64 ((20 : Int) + (↑(List.length a9) : Int))) (4 : Int)))) < (256 : Int))) (
     .grd (decide ((0 : Int) ≤ IntKind.wrap IntKind.u8 a0 ∧ IntKind.wrap IntKind.u8 a0 < (256 : Int))) (
     .opt (β := ((List UInt8) × Unit)) ((ipWord_fn (IntKind.wrap IntKind.i64 (IntKind.wrap IntKind.i64 ((20 : Int) + (↑(List.length a9) : Int)) + (↑(List.length a10) : Int)), ()))) (fun r1 =>
     .grd (decide (List.length [UInt8.ofNat (Int.toNat (IntKind.wrap IntKind.u8 (bits BinOp.or IntKind.i64 (64 : Int) (IntKind.wrap IntKind.i64 (Int.tdiv (IntKind.wrap IntKind.i64 ((20 : Int) + (↑(List.length a9) : Int))) (4 : Int)))))), UInt8.ofNat (Int.toNat (IntKind.wrap IntKind.u8 a0))] + List.length r1.1 ≤ (9223372036854775807 : Nat))) (
     .opt (β := ((List UInt8) × Unit)) ((ipWord_fn (a1, ()))) (fun r2 =>
     .grd (decide (List.length ([UInt8.ofNat (Int.toNat (IntKind.wrap IntKind.u8 (bits BinOp.or IntKind.i64 (64 : Int) (IntKind.wrap IntKind.i64 (Int.tdiv (IntKind.wrap IntKind.i64 ((20 : Int) + (↑(List.length a9) : Int))) (4 : Int)))))), UInt8.ofNat (Int.toNat (IntKind.wrap IntKind.u8 a0))] ++ r1.1) + List.length r2.1 ≤ (9223372036854775807 : Nat))) (
     .opt (β := ((List UInt8) × Unit)) ((ipWord_fn (bits BinOp.or IntKind.i64 a4 (8192 : Int), ()))) (fun r3 =>
     .grd (decide (List.length ([UInt8.ofNat (Int.toNat (IntKind.wrap IntKind.u8 (bits BinOp.or IntKind.i64 (64 : Int) (IntKind.wrap IntKind.i64 (Int.tdiv (IntKind.wrap IntKind.i64 ((20 : Int) + (↑(List.length a9) : Int))) (4 : Int)))))), UInt8.ofNat (Int.toNat (IntKind.wrap IntKind.u8 a0))] ++ r1.1 ++ r2.1) + List.length r3.1 ≤ (9223372036854775807 : Nat))) (
     .grd (decide ((0 : Int) ≤ IntKind.wrap IntKind.u8 a5 ∧ IntKind.wrap IntKind.u8 a5 < (256 : Int))) (
     .grd (decide ((0 : Int) ≤ IntKind.wrap IntKind.u8 a6 ∧ IntKind.wrap IntKind.u8 a6 < (256 : Int))) (
     .grd (decide (List.length ([UInt8.ofNat (Int.toNat (IntKind.wrap IntKind.u8 (bits BinOp.or IntKind.i64 (64 : Int) (IntKind.wrap IntKind.i64 (Int.tdiv (IntKind.wrap IntKind.i64 ((20 : Int) + (↑(List.length a9) : Int))) (4 : Int)))))), UInt8.ofNat (Int.toNat (IntKind.wrap IntKind.u8 a0))] ++ r1.1 ++ r2.1 ++ r3.1) + List.length [UInt8.ofNat (Int.toNat (IntKind.wrap IntKind.u8 a5)), UInt8.ofNat (Int.toNat (IntKind.wrap IntKind.u8 a6))] ≤ (9223372036854775807 : Nat))) (
     .opt (β := ((List UInt8) × Unit)) ((ipLong_fn (a7, ()))) (fun r4 =>
     .opt (β := ((List UInt8) × Unit)) ((ipLong_fn (a8, ()))) (fun r5 =>
     .grd (decide (List.length r4.1 + List.length r5.1 ≤ (9223372036854775807 : Nat))) (
     .grd (decide (List.length (r4.1 ++ r5.1) + List.length a9 ≤ (9223372036854775807 : Nat))) (
     .grd (decide (List.length ([UInt8.ofNat (Int.toNat (IntKind.wrap IntKind.u8 (bits BinOp.or IntKind.i64 (64 : Int) (IntKind.wrap IntKind.i64 (Int.tdiv (IntKind.wrap IntKind.i64 ((20 : Int) + (↑(List.length a9) : Int))) (4 : Int)))))), UInt8.ofNat (Int.toNat (IntKind.wrap IntKind.u8 a0))] ++ r1.1 ++ r2.1 ++ r3.1 ++ [UInt8.ofNat (Int.toNat (IntKind.wrap IntKind.u8 a5)), UInt8.ofNat (Int.toNat (IntKind.wrap IntKind.u8 a6))]) + List.length (r4.1 ++ r5.1 ++ a9) ≤ (9223372036854775807 : Nat))) (
     .opt (β := (Int × Unit)) ((sumOf_fn ([UInt8.ofNat (Int.toNat (IntKind.wrap IntKind.u8 (bits BinOp.or IntKind.i64 (64 : Int) (IntKind.wrap IntKind.i64 (Int.tdiv (IntKind.wrap IntKind.i64 ((20 : Int) + (↑(List.length a9) : Int))) (4 : Int)))))), UInt8.ofNat (Int.toNat (IntKind.wrap IntKind.u8 a0))] ++ r1.1 ++ r2.1 ++ r3.1 ++ [UInt8.ofNat (Int.toNat (IntKind.wrap IntKind.u8 a5)), UInt8.ofNat (Int.toNat (IntKind.wrap IntKind.u8 a6))] ++ (r4.1 ++ r5.1 ++ a9), ()))) (fun r6 =>
     .opt (β := ((List UInt8) × Unit)) ((ipWord_fn (IntKind.wrap IntKind.i64 r6.1, ()))) (fun r7 =>
     .grd (decide (List.length ([UInt8.ofNat (Int.toNat (IntKind.wrap IntKind.u8 (bits BinOp.or IntKind.i64 (64 : Int) (IntKind.wrap IntKind.i64 (Int.tdiv (IntKind.wrap IntKind.i64 ((20 : Int) + (↑(List.length a9) : Int))) (4 : Int)))))), UInt8.ofNat (Int.toNat (IntKind.wrap IntKind.u8 a0))] ++ r1.1 ++ r2.1 ++ r3.1 ++ [UInt8.ofNat (Int.toNat (IntKind.wrap IntKind.u8 a5)), UInt8.ofNat (Int.toNat (IntKind.wrap IntKind.u8 a6))]) + List.length r7.1 ≤ (9223372036854775807 : Nat))) (
     .grd (decide (List.length ([UInt8.ofNat (Int.toNat (IntKind.wrap IntKind.u8 (bits BinOp.or IntKind.i64 (64 : Int) (IntKind.wrap IntKind.i64 (Int.tdiv (IntKind.wrap IntKind.i64 ((20 : Int) + (↑(List.length a9) : Int))) (4 : Int)))))), UInt8.ofNat (Int.toNat (IntKind.wrap IntKind.u8 a0))] ++ r1.1 ++ r2.1 ++ r3.1 ++ [UInt8.ofNat (Int.toNat (IntKind.wrap IntKind.u8 a5)), UInt8.ofNat (Int.toNat (IntKind.wrap IntKind.u8 a6))] ++ r7.1) + List.length (r4.1 ++ r5.1 ++ a9) ≤ (9223372036854775807 : Nat))) (
     .grd (decide (List.length ([UInt8.ofNat (Int.toNat (IntKind.wrap IntKind.u8 (bits BinOp.or IntKind.i64 (64 : Int) (IntKind.wrap IntKind.i64 (Int.tdiv (IntKind.wrap IntKind.i64 ((20 : Int) + (↑(List.length a9) : Int))) (4 : Int)))))), UInt8.ofNat (Int.toNat (IntKind.wrap IntKind.u8 a0))] ++ r1.1 ++ r2.1 ++ r3.1 ++ [UInt8.ofNat (Int.toNat (IntKind.wrap IntKind.u8 a5)), UInt8.ofNat (Int.toNat (IntKind.wrap IntKind.u8 a6))] ++ r7.1 ++ (r4.1 ++ r5.1 ++ a9)) + List.length a10 ≤ (9223372036854775807 : Nat))) (
     .ret ([UInt8.ofNat (Int.toNat (IntKind.wrap IntKind.u8 (bits BinOp.or IntKind.i64 (64 : Int) (IntKind.wrap IntKind.i64 (Int.tdiv (IntKind.wrap IntKind.i64 ((20 : Int) + (↑(List.length a9) : Int))) (4 : Int)))))), UInt8.ofNat (Int.toNat (IntKind.wrap IntKind.u8 a0))] ++ r1.1 ++ r2.1 ++ r3.1 ++ [UInt8.ofNat (Int.toNat (IntKind.wrap IntKind.u8 a5)), UInt8.ofNat (Int.toNat (IntKind.wrap IntKind.u8 a6))] ++ r7.1 ++ (r4.1 ++ r5.1 ++ a9) ++ a10, ((0 : Int), ()))))))))))))))))))))))))) (
     .grd (true) (
     .grd (decide ((0 : Int) ≤ IntKind.wrap IntKind.u8 (bits BinOp.or IntKind.i64 (64 : Int) (IntKind.wrap IntKind.i64 (Int.tdiv (IntKind.wrap IntKind.i64 ((20 : Int) + (↑(List.length a9) : Int))) (4 : Int)))) ∧ IntKind.wrap IntKind.u8 (bits BinOp.or IntKind.i64 (64 : Int) (IntKind.wrap IntKind.i64 (Int.tdiv (IntKind.wrap IntKind.i64 ((20 : Int) + (↑(List.length a9) : Int))) (4 : Int)))) < (256 : Int))) (
     .grd (decide ((0 : Int) ≤ IntKind.wrap IntKind.u8 a0 ∧ IntKind.wrap IntKind.u8 a0 < (256 : Int))) (
     .opt (β := ((List UInt8) × Unit)) ((ipWord_fn (IntKind.wrap IntKind.i64 (IntKind.wrap IntKind.i64 ((20 : Int) + (↑(List.length a9) : Int)) + (↑(List.length a10) : Int)), ()))) (fun r1 =>
     .grd (decide (List.length [UInt8.ofNat (Int.toNat (IntKind.wrap IntKind.u8 (bits BinOp.or IntKind.i64 (64 : Int) (IntKind.wrap IntKind.i64 (Int.tdiv (IntKind.wrap IntKind.i64 ((20 : Int) + (↑(List.length a9) : Int))) (4 : Int)))))), UInt8.ofNat (Int.toNat (IntKind.wrap IntKind.u8 a0))] + List.length r1.1 ≤ (9223372036854775807 : Nat))) (
     .opt (β := ((List UInt8) × Unit)) ((ipWord_fn (a1, ()))) (fun r2 =>
     .grd (decide (List.length ([UInt8.ofNat (Int.toNat (IntKind.wrap IntKind.u8 (bits BinOp.or IntKind.i64 (64 : Int) (IntKind.wrap IntKind.i64 (Int.tdiv (IntKind.wrap IntKind.i64 ((20 : Int) + (↑(List.length a9) : Int))) (4 : Int)))))), UInt8.ofNat (Int.toNat (IntKind.wrap IntKind.u8 a0))] ++ r1.1) + List.length r2.1 ≤ (9223372036854775807 : Nat))) (
     .opt (β := ((List UInt8) × Unit)) ((ipWord_fn (a4, ()))) (fun r3 =>
     .grd (decide (List.length ([UInt8.ofNat (Int.toNat (IntKind.wrap IntKind.u8 (bits BinOp.or IntKind.i64 (64 : Int) (IntKind.wrap IntKind.i64 (Int.tdiv (IntKind.wrap IntKind.i64 ((20 : Int) + (↑(List.length a9) : Int))) (4 : Int)))))), UInt8.ofNat (Int.toNat (IntKind.wrap IntKind.u8 a0))] ++ r1.1 ++ r2.1) + List.length r3.1 ≤ (9223372036854775807 : Nat))) (
     .grd (decide ((0 : Int) ≤ IntKind.wrap IntKind.u8 a5 ∧ IntKind.wrap IntKind.u8 a5 < (256 : Int))) (
     .grd (decide ((0 : Int) ≤ IntKind.wrap IntKind.u8 a6 ∧ IntKind.wrap IntKind.u8 a6 < (256 : Int))) (
     .grd (decide (List.length ([UInt8.ofNat (Int.toNat (IntKind.wrap IntKind.u8 (bits BinOp.or IntKind.i64 (64 : Int) (IntKind.wrap IntKind.i64 (Int.tdiv (IntKind.wrap IntKind.i64 ((20 : Int) + (↑(List.length a9) : Int))) (4 : Int)))))), UInt8.ofNat (Int.toNat (IntKind.wrap IntKind.u8 a0))] ++ r1.1 ++ r2.1 ++ r3.1) + List.length [UInt8.ofNat (Int.toNat (IntKind.wrap IntKind.u8 a5)), UInt8.ofNat (Int.toNat (IntKind.wrap IntKind.u8 a6))] ≤ (9223372036854775807 : Nat))) (
     .opt (β := ((List UInt8) × Unit)) ((ipLong_fn (a7, ()))) (fun r4 =>
     .opt (β := ((List UInt8) × Unit)) ((ipLong_fn (a8, ()))) (fun r5 =>
     .grd (decide (List.length r4.1 + List.length r5.1 ≤ (9223372036854775807 : Nat))) (
     .grd (decide (List.length (r4.1 ++ r5.1) + List.length a9 ≤ (9223372036854775807 : Nat))) (
     .grd (decide (List.length ([UInt8.ofNat (Int.toNat (IntKind.wrap IntKind.u8 (bits BinOp.or IntKind.i64 (64 : Int) (IntKind.wrap IntKind.i64 (Int.tdiv (IntKind.wrap IntKind.i64 ((20 : Int) + (↑(List.length a9) : Int))) (4 : Int)))))), UInt8.ofNat (Int.toNat (IntKind.wrap IntKind.u8 a0))] ++ r1.1 ++ r2.1 ++ r3.1 ++ [UInt8.ofNat (Int.toNat (IntKind.wrap IntKind.u8 a5)), UInt8.ofNat (Int.toNat (IntKind.wrap IntKind.u8 a6))]) + List.length (r4.1 ++ r5.1 ++ a9) ≤ (9223372036854775807 : Nat))) (
     .opt (β := (Int × Unit)) ((sumOf_fn ([UInt8.ofNat (Int.toNat (IntKind.wrap IntKind.u8 (bits BinOp.or IntKind.i64 (64 : Int) (IntKind.wrap IntKind.i64 (Int.tdiv (IntKind.wrap IntKind.i64 ((20 : Int) + (↑(List.length a9) : Int))) (4 : Int)))))), UInt8.ofNat (Int.toNat (IntKind.wrap IntKind.u8 a0))] ++ r1.1 ++ r2.1 ++ r3.1 ++ [UInt8.ofNat (Int.toNat (IntKind.wrap IntKind.u8 a5)), UInt8.ofNat (Int.toNat (IntKind.wrap IntKind.u8 a6))] ++ (r4.1 ++ r5.1 ++ a9), ()))) (fun r6 =>
     .opt (β := ((List UInt8) × Unit)) ((ipWord_fn (IntKind.wrap IntKind.i64 r6.1, ()))) (fun r7 =>
     .grd (decide (List.length ([UInt8.ofNat (Int.toNat (IntKind.wrap IntKind.u8 (bits BinOp.or IntKind.i64 (64 : Int) (IntKind.wrap IntKind.i64 (Int.tdiv (IntKind.wrap IntKind.i64 ((20 : Int) + (↑(List.length a9) : Int))) (4 : Int)))))), UInt8.ofNat (Int.toNat (IntKind.wrap IntKind.u8 a0))] ++ r1.1 ++ r2.1 ++ r3.1 ++ [UInt8.ofNat (Int.toNat (IntKind.wrap IntKind.u8 a5)), UInt8.ofNat (Int.toNat (IntKind.wrap IntKind.u8 a6))]) + List.length r7.1 ≤ (9223372036854775807 : Nat))) (
     .grd (decide (List.length ([UInt8.ofNat (Int.toNat (IntKind.wrap IntKind.u8 (bits BinOp.or IntKind.i64 (64 : Int) (IntKind.wrap IntKind.i64 (Int.tdiv (IntKind.wrap IntKind.i64 ((20 : Int) + (↑(List.length a9) : Int))) (4 : Int)))))), UInt8.ofNat (Int.toNat (IntKind.wrap IntKind.u8 a0))] ++ r1.1 ++ r2.1 ++ r3.1 ++ [UInt8.ofNat (Int.toNat (IntKind.wrap IntKind.u8 a5)), UInt8.ofNat (Int.toNat (IntKind.wrap IntKind.u8 a6))] ++ r7.1) + List.length (r4.1 ++ r5.1 ++ a9) ≤ (9223372036854775807 : Nat))) (
     .grd (decide (List.length ([UInt8.ofNat (Int.toNat (IntKind.wrap IntKind.u8 (bits BinOp.or IntKind.i64 (64 : Int) (IntKind.wrap IntKind.i64 (Int.tdiv (IntKind.wrap IntKind.i64 ((20 : Int) + (↑(List.length a9) : Int))) (4 : Int)))))), UInt8.ofNat (Int.toNat (IntKind.wrap IntKind.u8 a0))] ++ r1.1 ++ r2.1 ++ r3.1 ++ [UInt8.ofNat (Int.toNat (IntKind.wrap IntKind.u8 a5)), UInt8.ofNat (Int.toNat (IntKind.wrap IntKind.u8 a6))] ++ r7.1 ++ (r4.1 ++ r5.1 ++ a9)) + List.length a10 ≤ (9223372036854775807 : Nat))) (
     .ret ([UInt8.ofNat (Int.toNat (IntKind.wrap IntKind.u8 (bits BinOp.or IntKind.i64 (64 : Int) (IntKind.wrap IntKind.i64 (Int.tdiv (IntKind.wrap IntKind.i64 ((20 : Int) + (↑(List.length a9) : Int))) (4 : Int)))))), UInt8.ofNat (Int.toNat (IntKind.wrap IntKind.u8 a0))] ++ r1.1 ++ r2.1 ++ r3.1 ++ [UInt8.ofNat (Int.toNat (IntKind.wrap IntKind.u8 a5)), UInt8.ofNat (Int.toNat (IntKind.wrap IntKind.u8 a6))] ++ r7.1 ++ (r4.1 ++ r5.1 ++ a9) ++ a10, ((0 : Int), ()))))))))))))))))))))))))))))
theorem ipWrite_eq (x : (Int × (Int × (Bool × (Bool × (Int × (Int × (Int × (Int × (Int × ((List UInt8) × ((List UInt8) × Unit)))))))))))) : fnTr Tryd.prog cod [FS.pf sumFold, FS.pf sumAdd, FS.pf sumOf, FS.pf sumRight, FS.pf sumFix, FS.pf ipWordAt, FS.pf ipLongAt, FS.pf ipByt, FS.pf ipRefused, FS.pf ipWord, FS.pf ipLong] [] 30 6 ipWrite_ap ipWrite_rp x = ipWrite_tree x := by kernel_rfl
def ipWrite_fn (x : (Int × (Int × (Bool × (Bool × (Int × (Int × (Int × (Int × (Int × ((List UInt8) × ((List UInt8) × Unit)))))))))))) : Option ((List UInt8) × (Int × Unit)) := (ipWrite_tree x).eval
def ipWrite : FS Tryd.prog := ⟨6, ipWrite_ap, ipWrite_rp, ipWrite_fn, fun x r h => fnTr_sound (cod := cod) (Γ := [FS.pf sumFold, FS.pf sumAdd, FS.pf sumOf, FS.pf sumRight, FS.pf sumFix, FS.pf ipWordAt, FS.pf ipLongAt, FS.pf ipByt, FS.pf ipRefused, FS.pf ipWord, FS.pf ipLong]) (Λs := []) (n := 30) ((congrArg Tr.eval (ipWrite_eq x)).trans h)⟩
def ipRead_ap : List VP1 := [.one (.s)]
def ipRead_rp : SP := ⟨1, [(0, .tup [.agg [.i .i64, .i .i64, .b, .b, .i .i64, .i .i64, .i .i64, .i .u32, .i .u32, .s, .s], .one (.i .i64)])], []⟩
def ipRead_tree : ((List UInt8) × Unit) → Tr (Int × (Int × (Bool × (Bool × (Int × (Int × (Int × (Int × (Int × ((List UInt8) × ((List UInt8) × (Int × Unit)))))))))))) :=
  fun (a0, _) =>
  .ite (decide ((↑(List.length a0) : Int) < (20 : Int))) (
   .ret ((0 : Int), ((0 : Int), (false, (false, ((0 : Int), ((0 : Int), ((0 : Int), ((0 : Int), ((0 : Int), ([], ([], ((3 : Int), ()))))))))))))) (
   .grd (decide ((0 : Int) ≤ (0 : Int) ∧ (0 : Int) < (↑(List.length a0) : Int))) (
   .opt (β := (Int × Unit)) ((ipWordAt_fn (a0, ((2 : Int), ())))) (fun r0 =>
   .ite (decide ((↑(List.length a0) : Int) < IntKind.wrap IntKind.i64 (IntKind.wrap IntKind.i64 (bits BinOp.and IntKind.u8 (↑(UInt8.toNat (List.getD a0 (0 : Nat) (0 : UInt8))) : Int) (15 : Int)) * (4 : Int)))) (
    .ret ((0 : Int), ((0 : Int), (false, (false, ((0 : Int), ((0 : Int), ((0 : Int), ((0 : Int), ((0 : Int), ([], ([], ((3 : Int), ()))))))))))))) (
    .ite (decide ((↑(List.length a0) : Int) < r0.1)) (
     .ret ((0 : Int), ((0 : Int), (false, (false, ((0 : Int), ((0 : Int), ((0 : Int), ((0 : Int), ((0 : Int), ([], ([], ((3 : Int), ()))))))))))))) (
     .opt (β := (Int × Unit)) ((ipWordAt_fn (a0, ((6 : Int), ())))) (fun r1 =>
     .grd (decide ((0 : Int) ≤ (0 : Int) ∧ (0 : Int) < (↑(List.length a0) : Int))) (
     .grd (true) (
     .ite (!decide (Int.fdiv (↑(UInt8.toNat (List.getD a0 (0 : Nat) (0 : UInt8))) : Int) ((2 : Int) ^ (4 : Nat)) = (4 : Int))) (
      .ret ((0 : Int), ((0 : Int), (false, (false, ((0 : Int), ((0 : Int), ((0 : Int), ((0 : Int), ((0 : Int), ([], ([], ((4 : Int), ()))))))))))))) (
      .ite (decide (IntKind.wrap IntKind.i64 (IntKind.wrap IntKind.i64 (bits BinOp.and IntKind.u8 (↑(UInt8.toNat (List.getD a0 (0 : Nat) (0 : UInt8))) : Int) (15 : Int)) * (4 : Int)) < (20 : Int))) (
       .ret ((0 : Int), ((0 : Int), (false, (false, ((0 : Int), ((0 : Int), ((0 : Int), ((0 : Int), ((0 : Int), ([], ([], ((4 : Int), ()))))))))))))) (
       .ite (decide (r0.1 < IntKind.wrap IntKind.i64 (IntKind.wrap IntKind.i64 (bits BinOp.and IntKind.u8 (↑(UInt8.toNat (List.getD a0 (0 : Nat) (0 : UInt8))) : Int) (15 : Int)) * (4 : Int)))) (
        .ret ((0 : Int), ((0 : Int), (false, (false, ((0 : Int), ((0 : Int), ((0 : Int), ((0 : Int), ((0 : Int), ([], ([], ((4 : Int), ()))))))))))))) (
        .grd (true) (
        .ite (decide (Int.fdiv r1.1 ((2 : Int) ^ (15 : Nat)) = (1 : Int))) (
         .ret ((0 : Int), ((0 : Int), (false, (false, ((0 : Int), ((0 : Int), ((0 : Int), ((0 : Int), ((0 : Int), ([], ([], ((4 : Int), ()))))))))))))) (
         .grd (decide ((0 : Int) ≤ (1 : Int) ∧ (1 : Int) < (↑(List.length a0) : Int))) (
         .opt (β := (Int × Unit)) ((ipWordAt_fn (a0, ((4 : Int), ())))) (fun r2 =>
         .grd (true) (
         .grd (true) (
         .grd (decide ((0 : Int) ≤ (8 : Int) ∧ (8 : Int) < (↑(List.length a0) : Int))) (
         .grd (decide ((0 : Int) ≤ (9 : Int) ∧ (9 : Int) < (↑(List.length a0) : Int))) (
         .opt (β := (Int × Unit)) ((ipLongAt_fn (a0, ((12 : Int), ())))) (fun r3 =>
         .opt (β := (Int × Unit)) ((ipLongAt_fn (a0, ((16 : Int), ())))) (fun r4 =>
         .grd (decide ((0 : Int) ≤ (20 : Int) ∧ (20 : Int) ≤ IntKind.wrap IntKind.i64 (IntKind.wrap IntKind.i64 (bits BinOp.and IntKind.u8 (↑(UInt8.toNat (List.getD a0 (0 : Nat) (0 : UInt8))) : Int) (15 : Int)) * (4 : Int)) ∧ IntKind.wrap IntKind.i64 (IntKind.wrap IntKind.i64 (bits BinOp.and IntKind.u8 (↑(UInt8.toNat (List.getD a0 (0 : Nat) (0 : UInt8))) : Int) (15 : Int)) * (4 : Int)) ≤ (↑(List.length a0) : Int))) (
         .grd (decide ((0 : Int) ≤ IntKind.wrap IntKind.i64 (IntKind.wrap IntKind.i64 (bits BinOp.and IntKind.u8 (↑(UInt8.toNat (List.getD a0 (0 : Nat) (0 : UInt8))) : Int) (15 : Int)) * (4 : Int)) ∧ IntKind.wrap IntKind.i64 (IntKind.wrap IntKind.i64 (bits BinOp.and IntKind.u8 (↑(UInt8.toNat (List.getD a0 (0 : Nat) (0 : UInt8))) : Int) (15 : Int)) * (4 : Int)) ≤ r0.1 ∧ r0.1 ≤ (↑(List.length a0) : Int))) (
         .opt (β := (Int × Unit)) ((ipRefused_fn (IntKind.wrap IntKind.i64 (↑(UInt8.toNat (List.getD a0 (1 : Nat) (0 : UInt8))) : Int), (r2.1, (decide (bits BinOp.and IntKind.i64 (Int.fdiv r1.1 ((2 : Int) ^ (14 : Nat))) (1 : Int) = (1 : Int)), (decide (bits BinOp.and IntKind.i64 (Int.fdiv r1.1 ((2 : Int) ^ (13 : Nat))) (1 : Int) = (1 : Int)), (bits BinOp.and IntKind.i64 r1.1 (8191 : Int), (IntKind.wrap IntKind.i64 (↑(UInt8.toNat (List.getD a0 (8 : Nat) (0 : UInt8))) : Int), (IntKind.wrap IntKind.i64 (↑(UInt8.toNat (List.getD a0 (9 : Nat) (0 : UInt8))) : Int), (r3.1, (r4.1, (List.drop (20 : Nat) (List.take (Int.toNat (IntKind.wrap IntKind.i64 (IntKind.wrap IntKind.i64 (bits BinOp.and IntKind.u8 (↑(UInt8.toNat (List.getD a0 (0 : Nat) (0 : UInt8))) : Int) (15 : Int)) * (4 : Int)))) a0), (List.drop (Int.toNat (IntKind.wrap IntKind.i64 (IntKind.wrap IntKind.i64 (bits BinOp.and IntKind.u8 (↑(UInt8.toNat (List.getD a0 (0 : Nat) (0 : UInt8))) : Int) (15 : Int)) * (4 : Int)))) (List.take (Int.toNat r0.1) a0), ()))))))))))))) (fun r5 =>
         .ite (!decide (r5.1 = (0 : Int))) (
          .ret ((0 : Int), ((0 : Int), (false, (false, ((0 : Int), ((0 : Int), ((0 : Int), ((0 : Int), ((0 : Int), ([], ([], ((4 : Int), ()))))))))))))) (
          .grd (decide ((0 : Int) ≤ (0 : Int) ∧ (0 : Int) ≤ IntKind.wrap IntKind.i64 (IntKind.wrap IntKind.i64 (bits BinOp.and IntKind.u8 (↑(UInt8.toNat (List.getD a0 (0 : Nat) (0 : UInt8))) : Int) (15 : Int)) * (4 : Int)) ∧ IntKind.wrap IntKind.i64 (IntKind.wrap IntKind.i64 (bits BinOp.and IntKind.u8 (↑(UInt8.toNat (List.getD a0 (0 : Nat) (0 : UInt8))) : Int) (15 : Int)) * (4 : Int)) ≤ (↑(List.length a0) : Int))) (
          .opt (β := (Bool × Unit)) ((sumRight_fn (List.drop (0 : Nat) (List.take (Int.toNat (IntKind.wrap IntKind.i64 (IntKind.wrap IntKind.i64 (bits BinOp.and IntKind.u8 (↑(UInt8.toNat (List.getD a0 (0 : Nat) (0 : UInt8))) : Int) (15 : Int)) * (4 : Int)))) a0), ()))) (fun r6 =>
          .ite (!r6.1) (
           .ret ((0 : Int), ((0 : Int), (false, (false, ((0 : Int), ((0 : Int), ((0 : Int), ((0 : Int), ((0 : Int), ([], ([], ((5 : Int), ()))))))))))))) (
           .ret (IntKind.wrap IntKind.i64 (↑(UInt8.toNat (List.getD a0 (1 : Nat) (0 : UInt8))) : Int), (r2.1, (decide (bits BinOp.and IntKind.i64 (Int.fdiv r1.1 ((2 : Int) ^ (14 : Nat))) (1 : Int) = (1 : Int)), (decide (bits BinOp.and IntKind.i64 (Int.fdiv r1.1 ((2 : Int) ^ (13 : Nat))) (1 : Int) = (1 : Int)), (bits BinOp.and IntKind.i64 r1.1 (8191 : Int), (IntKind.wrap IntKind.i64 (↑(UInt8.toNat (List.getD a0 (8 : Nat) (0 : UInt8))) : Int), (IntKind.wrap IntKind.i64 (↑(UInt8.toNat (List.getD a0 (9 : Nat) (0 : UInt8))) : Int), (r3.1, (r4.1, (List.drop (20 : Nat) (List.take (Int.toNat (IntKind.wrap IntKind.i64 (IntKind.wrap IntKind.i64 (bits BinOp.and IntKind.u8 (↑(UInt8.toNat (List.getD a0 (0 : Nat) (0 : UInt8))) : Int) (15 : Int)) * (4 : Int)))) a0), (List.drop (Int.toNat (IntKind.wrap IntKind.i64 (IntKind.wrap IntKind.i64 (bits BinOp.and IntKind.u8 (↑(UInt8.toNat (List.getD a0 (0 : Nat) (0 : UInt8))) : Int) (15 : Int)) * (4 : Int)))) (List.take (Int.toNat r0.1) a0), ((0 : Int), ()))))))))))))))))))))))))))))))))))))))))
theorem ipRead_eq (x : ((List UInt8) × Unit)) : fnTr Tryd.prog cod [FS.pf sumFold, FS.pf sumAdd, FS.pf sumOf, FS.pf sumRight, FS.pf sumFix, FS.pf ipWordAt, FS.pf ipLongAt, FS.pf ipByt, FS.pf ipRefused, FS.pf ipWord, FS.pf ipLong, FS.pf ipWrite] [] 30 8 ipRead_ap ipRead_rp x = ipRead_tree x := by kernel_rfl
def ipRead_fn (x : ((List UInt8) × Unit)) : Option (Int × (Int × (Bool × (Bool × (Int × (Int × (Int × (Int × (Int × ((List UInt8) × ((List UInt8) × (Int × Unit)))))))))))) := (ipRead_tree x).eval
def ipRead : FS Tryd.prog := ⟨8, ipRead_ap, ipRead_rp, ipRead_fn, fun x r h => fnTr_sound (cod := cod) (Γ := [FS.pf sumFold, FS.pf sumAdd, FS.pf sumOf, FS.pf sumRight, FS.pf sumFix, FS.pf ipWordAt, FS.pf ipLongAt, FS.pf ipByt, FS.pf ipRefused, FS.pf ipWord, FS.pf ipLong, FS.pf ipWrite]) (Λs := []) (n := 30) ((congrArg Tr.eval (ipRead_eq x)).trans h)⟩
end Go.Proofs.YtkfpdgibaadmbaaDoor.X
