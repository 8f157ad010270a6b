/- Functions of the program, as trees (printed by a program of mine: tool/XTool, xg.py), each with the proof that the machine comes to what its tree says. Conditions: none. -/
import Derived.Test.YtkfpdgibaadmbaaCod
import Derived.KernelRfl
import Derived.Test.YtkfpdgibaadmbaaGIp
namespace Go.Proofs.Ytkfpdgibaadmbaa.X
open Go Go.RowKit Go.Proofs.Ytkfpdgibaadmbaa.Abs
set_option maxRecDepth 100000
set_option linter.unusedVariables false
def fragSplit_L17_15 : LS := ⟨15, [(9, 9), (2, 2)], ⟨91, [(9, .v (.one (.own 9))), (8, .v (.one (.i .i64))), (2, .v (.one (.ptr 2 0))), (10, .v (.one (.s)))], [(9, .row 32 20 true true), (2, .cells [.i .i64, .i .i64, .b, .b, .i .i64, .i .i64, .i .i64, .i .u32, .i .u32, .s, .s])]⟩, [⟨some 1, [(9, 9)], ⟨91, [(9, .v (.one (.own 9)))], [(9, .row 32 20 true true)]⟩⟩], [(9, 32, 20)]⟩
def fragSplit_step17_15 : (Int × ((List UInt8) × ((List TPacket) × (Int × (Int × (Bool × (Bool × (Int × (Int × (Int × (Int × (Int × ((List UInt8) × ((List UInt8) × Unit)))))))))))))) → Tr ((Int × ((List UInt8) × ((List TPacket) × (Int × (Int × (Bool × (Bool × (Int × (Int × (Int × (Int × (Int × ((List UInt8) × ((List UInt8) × Unit)))))))))))))) ⊕ ((List TPacket) × Unit)) :=
  fun (a0, a1, a2, a3, a4, a5, a6, a7, a8, a9, a10, a11, a12, a13, _) =>
  .ite (!decide (a1 = [])) (
   .ite (decide ((if true = true then if (↑(List.length a1) : Int) < a0 then (↑(List.length a1) : Int) else a0 else if (↑(List.length a1) : Int) > a0 then (↑(List.length a1) : Int) else a0) < (↑(List.length a1) : Int))) (
    .grd (decide ((0 : Int) ≤ (0 : Int) ∧ ((0 : Int) ≤ if true = true then if (↑(List.length a1) : Int) < a0 then (↑(List.length a1) : Int) else a0 else if (↑(List.length a1) : Int) > a0 then (↑(List.length a1) : Int) else a0) ∧ (if true = true then if (↑(List.length a1) : Int) < a0 then (↑(List.length a1) : Int) else a0 else if (↑(List.length a1) : Int) > a0 then (↑(List.length a1) : Int) else a0) ≤ (↑(List.length a1) : Int))) (
    .grd (decide (((0 : Int) ≤ if true = true then if (↑(List.length a1) : Int) < a0 then (↑(List.length a1) : Int) else a0 else if (↑(List.length a1) : Int) > a0 then (↑(List.length a1) : Int) else a0) ∧ (if true = true then if (↑(List.length a1) : Int) < a0 then (↑(List.length a1) : Int) else a0 else if (↑(List.length a1) : Int) > a0 then (↑(List.length a1) : Int) else a0) ≤ (↑(List.length a1) : Int) ∧ (↑(List.length a1) : Int) ≤ (↑(List.length a1) : Int))) (
    .grd (true) (
    .grd (decide ((List.length a2 + List.length [TPacket.mk a3 a4 a5 true (IntKind.wrap IntKind.i64 (a7 + IntKind.wrap IntKind.i64 (Int.tdiv (IntKind.wrap IntKind.i64 ((↑(List.length a2) : Int) * a0)) (8 : Int)))) a8 a9 a10 a11 a12 (List.drop (0 : Nat) (List.take (Int.toNat (if true = true then if (↑(List.length a1) : Int) < a0 then (↑(List.length a1) : Int) else a0 else if (↑(List.length a1) : Int) > a0 then (↑(List.length a1) : Int) else a0)) a1))]) * (88 : Nat) ≤ (140737488355328 : Nat) ∧ List.length a2 + List.length [TPacket.mk a3 a4 a5 true (IntKind.wrap IntKind.i64 (a7 + IntKind.wrap IntKind.i64 (Int.tdiv (IntKind.wrap IntKind.i64 ((↑(List.length a2) : Int) * a0)) (8 : Int)))) a8 a9 a10 a11 a12 (List.drop (0 : Nat) (List.take (Int.toNat (if true = true then if (↑(List.length a1) : Int) < a0 then (↑(List.length a1) : Int) else a0 else if (↑(List.length a1) : Int) > a0 then (↑(List.length a1) : Int) else a0)) a1))] ≤ (9223372036854775807 : Nat))) (
    .grd (decide (List.length (a2 ++ [TPacket.mk a3 a4 a5 true (IntKind.wrap IntKind.i64 (a7 + IntKind.wrap IntKind.i64 (Int.tdiv (IntKind.wrap IntKind.i64 ((↑(List.length a2) : Int) * a0)) (8 : Int)))) a8 a9 a10 a11 a12 (List.drop (0 : Nat) (List.take (Int.toNat (if true = true then if (↑(List.length a1) : Int) < a0 then (↑(List.length a1) : Int) else a0 else if (↑(List.length a1) : Int) > a0 then (↑(List.length a1) : Int) else a0)) a1))]) = List.length (a2 ++ [TPacket.mk a3 a4 a5 true (IntKind.wrap IntKind.i64 (a7 + IntKind.wrap IntKind.i64 (Int.tdiv (IntKind.wrap IntKind.i64 ((↑(List.length a2) : Int) * a0)) (8 : Int)))) a8 a9 a10 a11 a12 (List.drop (0 : Nat) (List.take (Int.toNat (if true = true then if (↑(List.length a1) : Int) < a0 then (↑(List.length a1) : Int) else a0 else if (↑(List.length a1) : Int) > a0 then (↑(List.length a1) : Int) else a0)) a1))]))) (
    .ret (Sum.inl (a0, (List.drop (Int.toNat (if true = true then if (↑(List.length a1) : Int) < a0 then (↑(List.length a1) : Int) else a0 else if (↑(List.length a1) : Int) > a0 then (↑(List.length a1) : Int) else a0)) (List.take (Int.toNat (↑(List.length a1) : Int)) a1), (a2 ++ [TPacket.mk a3 a4 a5 true (IntKind.wrap IntKind.i64 (a7 + IntKind.wrap IntKind.i64 (Int.tdiv (IntKind.wrap IntKind.i64 ((↑(List.length a2) : Int) * a0)) (8 : Int)))) a8 a9 a10 a11 a12 (List.drop (0 : Nat) (List.take (Int.toNat (if true = true then if (↑(List.length a1) : Int) < a0 then (↑(List.length a1) : Int) else a0 else if (↑(List.length a1) : Int) > a0 then (↑(List.length a1) : Int) else a0)) a1))], (a3, (a4, (a5, (a6, (a7, (a8, (a9, (a10, (a11, (a12, (a13, ()))))))))))))))))))))) (
    .grd (decide ((0 : Int) ≤ (0 : Int) ∧ ((0 : Int) ≤ if true = true then if (↑(List.length a1) : Int) < a0 then (↑(List.length a1) : Int) else a0 else if (↑(List.length a1) : Int) > a0 then (↑(List.length a1) : Int) else a0) ∧ (if true = true then if (↑(List.length a1) : Int) < a0 then (↑(List.length a1) : Int) else a0 else if (↑(List.length a1) : Int) > a0 then (↑(List.length a1) : Int) else a0) ≤ (↑(List.length a1) : Int))) (
    .grd (decide (((0 : Int) ≤ if true = true then if (↑(List.length a1) : Int) < a0 then (↑(List.length a1) : Int) else a0 else if (↑(List.length a1) : Int) > a0 then (↑(List.length a1) : Int) else a0) ∧ (if true = true then if (↑(List.length a1) : Int) < a0 then (↑(List.length a1) : Int) else a0 else if (↑(List.length a1) : Int) > a0 then (↑(List.length a1) : Int) else a0) ≤ (↑(List.length a1) : Int) ∧ (↑(List.length a1) : Int) ≤ (↑(List.length a1) : Int))) (
    .grd (true) (
    .grd (decide ((List.length a2 + List.length [TPacket.mk a3 a4 a5 a6 (IntKind.wrap IntKind.i64 (a7 + IntKind.wrap IntKind.i64 (Int.tdiv (IntKind.wrap IntKind.i64 ((↑(List.length a2) : Int) * a0)) (8 : Int)))) a8 a9 a10 a11 a12 (List.drop (0 : Nat) (List.take (Int.toNat (if true = true then if (↑(List.length a1) : Int) < a0 then (↑(List.length a1) : Int) else a0 else if (↑(List.length a1) : Int) > a0 then (↑(List.length a1) : Int) else a0)) a1))]) * (88 : Nat) ≤ (140737488355328 : Nat) ∧ List.length a2 + List.length [TPacket.mk a3 a4 a5 a6 (IntKind.wrap IntKind.i64 (a7 + IntKind.wrap IntKind.i64 (Int.tdiv (IntKind.wrap IntKind.i64 ((↑(List.length a2) : Int) * a0)) (8 : Int)))) a8 a9 a10 a11 a12 (List.drop (0 : Nat) (List.take (Int.toNat (if true = true then if (↑(List.length a1) : Int) < a0 then (↑(List.length a1) : Int) else a0 else if (↑(List.length a1) : Int) > a0 then (↑(List.length a1) : Int) else a0)) a1))] ≤ (9223372036854775807 : Nat))) (
    .grd (decide (List.length (a2 ++ [TPacket.mk a3 a4 a5 a6 (IntKind.wrap IntKind.i64 (a7 + IntKind.wrap IntKind.i64 (Int.tdiv (IntKind.wrap IntKind.i64 ((↑(List.length a2) : Int) * a0)) (8 : Int)))) a8 a9 a10 a11 a12 (List.drop (0 : Nat) (List.take (Int.toNat (if true = true then if (↑(List.length a1) : Int) < a0 then (↑(List.length a1) : Int) else a0 else if (↑(List.length a1) : Int) > a0 then (↑(List.length a1) : Int) else a0)) a1))]) = List.length (a2 ++ [TPacket.mk a3 a4 a5 a6 (IntKind.wrap IntKind.i64 (a7 + IntKind.wrap IntKind.i64 (Int.tdiv (IntKind.wrap IntKind.i64 ((↑(List.length a2) : Int) * a0)) (8 : Int)))) a8 a9 a10 a11 a12 (List.drop (0 : Nat) (List.take (Int.toNat (if true = true then if (↑(List.length a1) : Int) < a0 then (↑(List.length a1) : Int) else a0 else if (↑(List.length a1) : Int) > a0 then (↑(List.length a1) : Int) else a0)) a1))]))) (
    .ret (Sum.inl (a0, (List.drop (Int.toNat (if true = true then if (↑(List.length a1) : Int) < a0 then (↑(List.length a1) : Int) else a0 else if (↑(List.length a1) : Int) > a0 then (↑(List.length a1) : Int) else a0)) (List.take (Int.toNat (↑(List.length a1) : Int)) a1), (a2 ++ [TPacket.mk a3 a4 a5 a6 (IntKind.wrap IntKind.i64 (a7 + IntKind.wrap IntKind.i64 (Int.tdiv (IntKind.wrap IntKind.i64 ((↑(List.length a2) : Int) * a0)) (8 : Int)))) a8 a9 a10 a11 a12 (List.drop (0 : Nat) (List.take (Int.toNat (if true = true then if (↑(List.length a1) : Int) < a0 then (↑(List.length a1) : Int) else a0 else if (↑(List.length a1) : Int) > a0 then (↑(List.length a1) : Int) else a0)) a1))], (a3, (a4, (a5, (a6, (a7, (a8, (a9, (a10, (a11, (a12, (a13, ())))))))))))))))))))))) (
   .grd (decide (List.length a2 = List.length a2)) (
   .ret (Sum.inr (a2, ()))))
def fragSplit_loop17_15 (x : (Int × ((List UInt8) × ((List TPacket) × (Int × (Int × (Bool × (Bool × (Int × (Int × (Int × (Int × (Int × ((List UInt8) × ((List UInt8) × Unit))))))))))))))) : Option ((List TPacket) × Unit) := loopO 170015 (fun x => (fragSplit_step17_15 x).eval) 18446744073709551616 x
def fragSplit_ap : List VP1 := [.agg [.i .i64, .i .i64, .b, .b, .i .i64, .i .i64, .i .i64, .i .u32, .i .u32, .s, .s], .one (.i .i64)]
def fragSplit_rp : SP := ⟨1, [(0, .tup [.one (.st 20 true), .one (.i .i64)])], []⟩
def fragSplit_tree : (Int × (Int × (Bool × (Bool × (Int × (Int × (Int × (Int × (Int × ((List UInt8) × ((List UInt8) × (Int × Unit)))))))))))) → Tr ((List TPacket) × (Int × Unit)) :=
  fun (a0, a1, a2, a3, a4, a5, a6, a7, a8, a9, a10, a11, _) =>
  .opt (β := ((List UInt8) × (Int × Unit))) ((ipWrite_fn (a0, (a1, (a2, (a3, (a4, (a5, (a6, (a7, (a8, (a9, (a10, ()))))))))))))) (fun r0 =>
  .ite (!decide (r0.2.1 = (0 : Int))) (
   .ret ([], (r0.2.1, ()))) (
   .ite (decide (a11 < (68 : Int))) (
    .ret ([], ((1 : Int), ()))) (
    .ite (decide ((65535 : Int) < a11)) (
     .ret ([], ((1 : Int), ()))) (
     .ite (decide ((↑(List.length r0.1) : Int) ≤ a11)) (
      .ret ([TPacket.mk a0 a1 a2 a3 a4 a5 a6 a7 a8 a9 a10], ((0 : Int), ()))) (
      .ite (a2) (
       .ret ([], ((9 : Int), ()))) (
       .ite (decide ((65515 : Int) < IntKind.wrap IntKind.i64 (IntKind.wrap IntKind.i64 ((8 : Int) * a4) + (↑(List.length a10) : Int)))) (
        .ret ([], ((2 : Int), ()))) (
        .grd (true) (
        .grd (true) (
        .opt (β := ((List TPacket) × Unit)) ((fragSplit_loop17_15 (IntKind.wrap IntKind.i64 (IntKind.wrap IntKind.i64 (Int.tdiv (IntKind.wrap IntKind.i64 (IntKind.wrap IntKind.i64 (a11 - (20 : Int)) - (↑(List.length a9) : Int))) (8 : Int)) * (8 : Int)), (a10, ([], (a0, (a1, (a2, (a3, (a4, (a5, (a6, (a7, (a8, (a9, (a10, ())))))))))))))))) (fun r1 =>
        .ret (r1.1, ((0 : Int), ()))))))))))))
theorem fragSplit_eq (x : (Int × (Int × (Bool × (Bool × (Int × (Int × (Int × (Int × (Int × ((List UInt8) × ((List UInt8) × (Int × Unit))))))))))))) : fnTr Try.prog cod [FS.pf sumFold, FS.pf sumAdd, FS.pf sumOf, FS.pf sumRight, FS.pf sumFix, FS.pf ipWordAt, FS.pf ipLongAt, FS.pf ipByt, FS.pf ipRefused, FS.pf ipWord, FS.pf ipLong, FS.pf ipWrite, FS.pf ipRead] [(17, fragSplit_L17_15)] 30 17 fragSplit_ap fragSplit_rp x = fragSplit_tree x := by kernel_rfl
def fragSplit_fn (x : (Int × (Int × (Bool × (Bool × (Int × (Int × (Int × (Int × (Int × ((List UInt8) × ((List UInt8) × (Int × Unit))))))))))))) : Option ((List TPacket) × (Int × Unit)) := (fragSplit_tree x).eval
def fragSplit : FS Try.prog := ⟨17, fragSplit_ap, fragSplit_rp, fragSplit_fn, fun x r h => fnTr_sound (cod := cod) (Γ := [FS.pf sumFold, FS.pf sumAdd, FS.pf sumOf, FS.pf sumRight, FS.pf sumFix, FS.pf ipWordAt, FS.pf ipLongAt, FS.pf ipByt, FS.pf ipRefused, FS.pf ipWord, FS.pf ipLong, FS.pf ipWrite, FS.pf ipRead]) (Λs := [(17, fragSplit_L17_15)]) (n := 30) ((congrArg Tr.eval (fragSplit_eq x)).trans h)⟩
def fragLives_ap : List VP1 := []
def fragLives_rp : SP := ⟨1, [(0, .v (.one (.b)))], []⟩
def fragLives_tree : Unit → Tr (Bool × Unit) :=
  fun (_) =>
  .opt (β := ((List TPacket) × (Int × Unit))) ((fragSplit_fn ((0 : Int), ((1 : Int), (false, (false, ((0 : Int), ((4 : Int), ((0 : Int), ((0 : Int), ((0 : Int), ([], ([(97 : UInt8), (98 : UInt8), (99 : UInt8), (100 : UInt8), (101 : UInt8), (102 : UInt8), (103 : UInt8), (104 : UInt8), (97 : UInt8), (98 : UInt8), (99 : UInt8), (100 : UInt8), (101 : UInt8), (102 : UInt8), (103 : UInt8), (104 : UInt8), (97 : UInt8), (98 : UInt8), (99 : UInt8), (100 : UInt8), (101 : UInt8), (102 : UInt8), (103 : UInt8), (104 : UInt8), (97 : UInt8), (98 : UInt8), (99 : UInt8), (100 : UInt8), (101 : UInt8), (102 : UInt8), (103 : UInt8), (104 : UInt8), (97 : UInt8), (98 : UInt8), (99 : UInt8), (100 : UInt8), (101 : UInt8), (102 : UInt8), (103 : UInt8), (104 : UInt8), (97 : UInt8), (98 : UInt8), (99 : UInt8), (100 : UInt8), (101 : UInt8), (102 : UInt8), (103 : UInt8), (104 : UInt8), (120 : UInt8)], ((68 : Int), ())))))))))))))) (fun r0 =>
  .ite (decide (r0.2.1 = (0 : Int))) (
   .ite (decide ((↑(List.length r0.1) : Int) = (2 : Int))) (
    .grd (true) (
    .opt (β := TPacket) (r0.1[(1 : Nat)]?) (fun r1 =>
    .ite (decide (r1.data = [(120 : UInt8)])) (
     .grd (true) (
     .opt (β := TPacket) (r0.1[(1 : Nat)]?) (fun r2 =>
     .ite (decide (r2.start = (6 : Int))) (
      .grd (true) (
      .opt (β := TPacket) (r0.1[(0 : Nat)]?) (fun r3 =>
      .ret (r3.more, ())))) (
      .ret (false, ()))))) (
     .ret (false, ()))))) (
    .ret (false, ()))) (
   .ret (false, ())))
theorem fragLives_eq (x : Unit) : fnTr Try.prog cod [FS.pf sumFold, FS.pf sumAdd, FS.pf sumOf, FS.pf sumRight, FS.pf sumFix, FS.pf ipWordAt, FS.pf ipLongAt, FS.pf ipByt, FS.pf ipRefused, FS.pf ipWord, FS.pf ipLong, FS.pf ipWrite, FS.pf ipRead, FS.pf fragSplit] [] 30 18 fragLives_ap fragLives_rp x = fragLives_tree x := by kernel_rfl
def fragLives_fn (x : Unit) : Option (Bool × Unit) := (fragLives_tree x).eval
def fragLives : FS Try.prog := ⟨18, fragLives_ap, fragLives_rp, fragLives_fn, fun x r h => fnTr_sound (cod := cod) (Γ := [FS.pf sumFold, FS.pf sumAdd, FS.pf sumOf, FS.pf sumRight, FS.pf sumFix, FS.pf ipWordAt, FS.pf ipLongAt, FS.pf ipByt, FS.pf ipRefused, FS.pf ipWord, FS.pf ipLong, FS.pf ipWrite, FS.pf ipRead, FS.pf fragSplit]) (Λs := []) (n := 30) ((congrArg Tr.eval (fragLives_eq x)).trans h)⟩
def fragFits_L6_20 : LS := ⟨20, [(10, 10), (3, 3)], ⟨138, [(107, .v (.one (.i .i64))), (17, .v (.one (.s))), (105, .v (.one (.own 10))), (3, .v (.one (.ptr 3 0))), (7, .v (.one (.st 20 true))), (9, .v (.one (.s))), (106, .v (.one (.i .i64)))], [(10, .row 32 20 true true), (3, .cells [.i .i64, .i .i64, .b, .b, .i .i64, .i .i64, .i .i64, .i .u32, .i .u32, .s, .s])]⟩, [⟨some 2, [(3, 3)], ⟨138, [(3, .v (.one (.ptr 3 0))), (7, .v (.one (.st 20 true))), (17, .v (.one (.s))), (9, .v (.one (.s)))], [(3, .cells [.i .i64, .i .i64, .b, .b, .i .i64, .i .i64, .i .i64, .i .u32, .i .u32, .s, .s])]⟩⟩], []⟩
def fragFits_step6_20 : (Int × ((List UInt8) × ((List TPacket) × ((List UInt8) × (Int × ((List TPacket) × (Int × (Int × (Bool × (Bool × (Int × (Int × (Int × (Int × (Int × ((List UInt8) × ((List UInt8) × Unit))))))))))))))))) → Tr ((Int × ((List UInt8) × ((List TPacket) × ((List UInt8) × (Int × ((List TPacket) × (Int × (Int × (Bool × (Bool × (Int × (Int × (Int × (Int × (Int × ((List UInt8) × ((List UInt8) × Unit))))))))))))))))) ⊕ ((List TPacket) × ((List UInt8) × ((List UInt8) × (Int × (Int × (Bool × (Bool × (Int × (Int × (Int × (Int × (Int × ((List UInt8) × ((List UInt8) × Unit))))))))))))))) :=
  fun (a0, a1, a2, a3, a4, a5, a6, a7, a8, a9, a10, a11, a12, a13, a14, a15, a16, _) =>
  .ite (decide (a0 < a4)) (
   .grd (decide ((0 : Int) ≤ a0 ∧ a0 < (↑(List.length a5) : Int))) (
   .opt (β := TPacket) (a5[Int.toNat a0]?) (fun r0 =>
   .grd (decide (List.length a1 + List.length r0.data ≤ (9223372036854775807 : Nat))) (
   .grd (decide (List.length a5 = List.length a5)) (
   .ret (Sum.inl (IntKind.wrap IntKind.i64 (a0 + (1 : Int)), (a1 ++ r0.data, (a2, (a3, (a4, (a5, (a6, (a7, (a8, (a9, (a10, (a11, (a12, (a13, (a14, (a15, (a16, ()))))))))))))))))))))))) (
   .ret (Sum.inr (a2, (a1, (a3, (a6, (a7, (a8, (a9, (a10, (a11, (a12, (a13, (a14, (a15, (a16, ()))))))))))))))))
def fragFits_loop6_20 (x : (Int × ((List UInt8) × ((List TPacket) × ((List UInt8) × (Int × ((List TPacket) × (Int × (Int × (Bool × (Bool × (Int × (Int × (Int × (Int × (Int × ((List UInt8) × ((List UInt8) × Unit)))))))))))))))))) : Option ((List TPacket) × ((List UInt8) × ((List UInt8) × (Int × (Int × (Bool × (Bool × (Int × (Int × (Int × (Int × (Int × ((List UInt8) × ((List UInt8) × Unit)))))))))))))) := loopO 60020 (fun x => (fragFits_step6_20 x).eval) 18446744073709551616 x
def fragFits_L6_7 : LS := ⟨7, [(3, 3), (10, 10)], ⟨138, [(3, .v (.one (.ptr 3 0))), (2, .v (.one (.i .i64))), (40, .v (.one (.i .i64))), (10, .v (.one (.own 10))), (9, .v (.one (.s))), (1, .v (.one (.i .i64))), (38, .v (.one (.st 20 true))), (7, .v (.one (.st 20 true))), (39, .v (.one (.i .i64)))], [(3, .cells [.i .i64, .i .i64, .b, .b, .i .i64, .i .i64, .i .i64, .i .u32, .i .u32, .s, .s]), (10, .row 32 20 true true)]⟩, [⟨none, [], ⟨138, [(6, .v (.one (.b)))], []⟩⟩, ⟨some 0, [(3, 3), (10, 10)], ⟨138, [(3, .v (.one (.ptr 3 0))), (7, .v (.one (.st 20 true))), (9, .v (.one (.s))), (10, .v (.one (.own 10)))], [(3, .cells [.i .i64, .i .i64, .b, .b, .i .i64, .i .i64, .i .i64, .i .u32, .i .u32, .s, .s]), (10, .row 32 20 true true)]⟩⟩], [(10, 32, 20)]⟩
def fragFits_step6_7 : (Int × (Int × ((List UInt8) × (Int × ((List TPacket) × ((List TPacket) × (Int × (Int × (Int × (Bool × (Bool × (Int × (Int × (Int × (Int × (Int × ((List UInt8) × ((List UInt8) × ((List TPacket) × Unit))))))))))))))))))) → Tr ((Int × (Int × ((List UInt8) × (Int × ((List TPacket) × ((List TPacket) × (Int × (Int × (Int × (Bool × (Bool × (Int × (Int × (Int × (Int × (Int × ((List UInt8) × ((List UInt8) × ((List TPacket) × Unit))))))))))))))))))) ⊕ ((Bool × Unit) ⊕ ((List TPacket) × ((List UInt8) × (Int × (Int × (Bool × (Bool × (Int × (Int × (Int × (Int × (Int × ((List UInt8) × ((List UInt8) × ((List TPacket) × Unit)))))))))))))))) :=
  fun (a0, a1, a2, a3, a4, a5, a6, a7, a8, a9, a10, a11, a12, a13, a14, a15, a16, a17, a18, _) =>
  .ite (decide (a1 < a6)) (
   .grd (decide ((0 : Int) ≤ a1)) (
   .opt (β := TPacket) (a4[Int.toNat a1]?) (fun r0 =>
   .opt (β := ((List UInt8) × (Int × Unit))) ((ipWrite_fn (r0.tos, (r0.id, (r0.whole, (r0.more, (r0.start, (r0.life, (r0.proto, (r0.from', (r0.to, (r0.options, (r0.data, ()))))))))))))) (fun r1 =>
   .ite (!decide (r1.2.1 = (0 : Int))) (
    .ret (Sum.inr (Sum.inl (false, ())))) (
    .ite (decide (a3 < (↑(List.length r1.1) : Int))) (
     .ret (Sum.inr (Sum.inl (false, ())))) (
     .ite (!decide (IntKind.wrap IntKind.i64 ((8 : Int) * r0.start) = IntKind.wrap IntKind.i64 (IntKind.wrap IntKind.i64 ((8 : Int) * a11) + (↑(List.length a2) : Int)))) (
      .ret (Sum.inr (Sum.inl (false, ())))) (
      .grd (decide (List.length a2 + List.length r0.data ≤ (9223372036854775807 : Nat))) (
      .opt (β := ((List TPacket) × (Int × Unit))) ((fragSplit_fn (r0.tos, (r0.id, (r0.whole, (r0.more, (r0.start, (r0.life, (r0.proto, (r0.from', (r0.to, (r0.options, (r0.data, (a0, ())))))))))))))) (fun r2 =>
      .ite (!decide (r2.2.1 = (0 : Int))) (
       .ite (decide (a0 < (68 : Int))) (
        .ret (Sum.inr (Sum.inl (true, ())))) (
        .ite (decide ((65535 : Int) < a0)) (
         .ret (Sum.inr (Sum.inl (true, ())))) (
         .ite (a9) (
          .ret (Sum.inr (Sum.inl (true, ())))) (
          .ret (Sum.inr (Sum.inl (decide ((65515 : Int) < IntKind.wrap IntKind.i64 (IntKind.wrap IntKind.i64 ((8 : Int) * r0.start) + (↑(List.length r0.data) : Int))), ()))))))) (
       .grd (decide ((List.length a18 + List.length r2.1) * (88 : Nat) ≤ (140737488355328 : Nat) ∧ List.length a18 + List.length r2.1 ≤ (9223372036854775807 : Nat))) (
       .grd (decide (List.length (a18 ++ r2.1) = List.length (a18 ++ r2.1))) (
       .ret (Sum.inl (a0, (IntKind.wrap IntKind.i64 (a1 + (1 : Int)), (a2 ++ r0.data, (a3, (a4, (a5, (a6, (a7, (a8, (a9, (a10, (a11, (a12, (a13, (a14, (a15, (a16, (a17, (a18 ++ r2.1, ())))))))))))))))))))))))))))))))) (
   .grd (decide (List.length a18 = List.length a18)) (
   .ret (Sum.inr (Sum.inr (a5, (a2, (a7, (a8, (a9, (a10, (a11, (a12, (a13, (a14, (a15, (a16, (a17, (a18, ()))))))))))))))))))
def fragFits_loop6_7 (x : (Int × (Int × ((List UInt8) × (Int × ((List TPacket) × ((List TPacket) × (Int × (Int × (Int × (Bool × (Bool × (Int × (Int × (Int × (Int × (Int × ((List UInt8) × ((List UInt8) × ((List TPacket) × Unit)))))))))))))))))))) : Option ((Bool × Unit) ⊕ ((List TPacket) × ((List UInt8) × (Int × (Int × (Bool × (Bool × (Int × (Int × (Int × (Int × (Int × ((List UInt8) × ((List UInt8) × ((List TPacket) × Unit))))))))))))))) := loopO 60007 (fun x => (fragFits_step6_7 x).eval) 18446744073709551616 x
def fragFits_ap : List VP1 := [.agg [.i .i64, .i .i64, .b, .b, .i .i64, .i .i64, .i .i64, .i .u32, .i .u32, .s, .s], .one (.i .i64), .one (.i .i64)]
def fragFits_rp : SP := ⟨1, [(0, .v (.one (.b)))], []⟩
def fragFits_tree : (Int × (Int × (Bool × (Bool × (Int × (Int × (Int × (Int × (Int × ((List UInt8) × ((List UInt8) × (Int × (Int × Unit))))))))))))) → Tr (Bool × Unit) :=
  fun (a0, a1, a2, a3, a4, a5, a6, a7, a8, a9, a10, a11, a12, _) =>
  .opt (β := ((List TPacket) × (Int × Unit))) ((fragSplit_fn (a0, (a1, (a2, (a3, (a4, (a5, (a6, (a7, (a8, (a9, (a10, (a11, ())))))))))))))) (fun r0 =>
  .opt (β := (Bool × Unit)) ((fragLives_fn ())) (fun r1 =>
  .ite (!r1.1) (
   .opt (β := (Bool × Unit)) ((fragLives_fn ())) (fun r2 =>
   .ite (r2.1) (
    .ret (decide ((↑(List.length r0.1) : Int) = (0 : Int)), ())) (
    .ret (false, ())))) (
   .ite (!decide (r0.2.1 = (0 : Int))) (
    .opt (β := (Bool × Unit)) ((fragLives_fn ())) (fun r2 =>
    .ite (r2.1) (
     .ret (decide ((↑(List.length r0.1) : Int) = (0 : Int)), ())) (
     .ret (false, ())))) (
    .grd (true) (
    .opt (β := ((Bool × Unit) ⊕ ((List TPacket) × ((List UInt8) × (Int × (Int × (Bool × (Bool × (Int × (Int × (Int × (Int × (Int × ((List UInt8) × ((List UInt8) × ((List TPacket) × Unit)))))))))))))))) ((fragFits_loop6_7 (a12, ((0 : Int), ([], (a11, (r0.1, (r0.1, ((↑(List.length r0.1) : Int), (a0, (a1, (a2, (a3, (a4, (a5, (a6, (a7, (a8, (a9, (a10, ([], ()))))))))))))))))))))) (fun r2 =>
    .sum (β := (Bool × Unit)) (γ := ((List TPacket) × ((List UInt8) × (Int × (Int × (Bool × (Bool × (Int × (Int × (Int × (Int × (Int × ((List UInt8) × ((List UInt8) × ((List TPacket) × Unit))))))))))))))) (r2) (fun r3 =>
     .ret (r3.1, ())) (fun r3 =>
     .grd (decide (List.length r3.2.2.2.2.2.2.2.2.2.2.2.2.2.fst = List.length r3.2.2.2.2.2.2.2.2.2.2.2.2.2.1)) (
     .opt (β := ((List TPacket) × ((List UInt8) × ((List UInt8) × (Int × (Int × (Bool × (Bool × (Int × (Int × (Int × (Int × (Int × ((List UInt8) × ((List UInt8) × Unit))))))))))))))) ((fragFits_loop6_20 ((0 : Int), ([], (r3.1, (r3.2.1, ((↑(List.length r3.2.2.2.2.2.2.2.2.2.2.2.2.2.fst) : Int), (r3.2.2.2.2.2.2.2.2.2.2.2.2.2.1, (r3.2.2.1, (r3.2.2.2.1, (r3.2.2.2.2.1, (r3.2.2.2.2.2.1, (r3.2.2.2.2.2.2.1, (r3.2.2.2.2.2.2.2.1, (r3.2.2.2.2.2.2.2.2.1, (r3.2.2.2.2.2.2.2.2.2.1, (r3.2.2.2.2.2.2.2.2.2.2.1, (r3.2.2.2.2.2.2.2.2.2.2.2.1, (r3.2.2.2.2.2.2.2.2.2.2.2.2.1, ()))))))))))))))))))) (fun r4 =>
     .ite (decide (r4.2.2.1 = r4.2.2.2.2.2.2.2.2.2.2.2.2.2.1)) (
      .ite (decide (r4.2.1 = r4.2.2.2.2.2.2.2.2.2.2.2.2.2.1)) (
       .grd (decide ((0 : Int) ≤ IntKind.wrap IntKind.i64 ((↑(List.length r4.1) : Int) - (1 : Int)))) (
       .opt (β := TPacket) (r4.1[Int.toNat (IntKind.wrap IntKind.i64 ((↑(List.length r4.1) : Int) - (1 : Int)))]?) (fun r5 =>
       .ret (r5.more == r4.2.2.2.2.2.2.1, ())))) (
       .ret (false, ()))) (
      .ret (false, ())))))))))))
theorem fragFits_eq (x : (Int × (Int × (Bool × (Bool × (Int × (Int × (Int × (Int × (Int × ((List UInt8) × ((List UInt8) × (Int × (Int × Unit)))))))))))))) : fnTr Try.prog cod [FS.pf sumFold, FS.pf sumAdd, FS.pf sumOf, FS.pf sumRight, FS.pf sumFix, FS.pf ipWordAt, FS.pf ipLongAt, FS.pf ipByt, FS.pf ipRefused, FS.pf ipWord, FS.pf ipLong, FS.pf ipWrite, FS.pf ipRead, FS.pf fragSplit, FS.pf fragLives] [(6, fragFits_L6_20), (6, fragFits_L6_7)] 30 6 fragFits_ap fragFits_rp x = fragFits_tree x := by kernel_rfl
def fragFits_fn (x : (Int × (Int × (Bool × (Bool × (Int × (Int × (Int × (Int × (Int × ((List UInt8) × ((List UInt8) × (Int × (Int × Unit)))))))))))))) : Option (Bool × Unit) := (fragFits_tree x).eval
def fragFits : FS Try.prog := ⟨6, fragFits_ap, fragFits_rp, fragFits_fn, fun x r h => fnTr_sound (cod := cod) (Γ := [FS.pf sumFold, FS.pf sumAdd, FS.pf sumOf, FS.pf sumRight, FS.pf sumFix, FS.pf ipWordAt, FS.pf ipLongAt, FS.pf ipByt, FS.pf ipRefused, FS.pf ipWord, FS.pf ipLong, FS.pf ipWrite, FS.pf ipRead, FS.pf fragSplit, FS.pf fragLives]) (Λs := [(6, fragFits_L6_20), (6, fragFits_L6_7)]) (n := 30) ((congrArg Tr.eval (fragFits_eq x)).trans h)⟩
end Go.Proofs.Ytkfpdgibaadmbaa.X
