/- Functions of the program, as trees (printed by a program of mine: tool/XTool, xg.py), each with the proof that the machine comes to what its tree says. Conditions: none. -/
import Derived.Test.YtjehhmeaigkbnaaCod
import Derived.KernelRfl
import Derived.Test.YtjehhmeaigkbnaaLTcp2
import Derived.Test.YtjehhmeaigkbnaaAbsJ
namespace Go.Proofs.Ytjehhmeaigkbnaa.X
open Go Go.RowKit Go.Proofs.Ytjehhmeaigkbnaa.Abs
set_option maxRecDepth 100000
set_option linter.unusedVariables false
def tcMoveO_L36_12 : LS := ⟨12, [(8, 8), (3, 3), (14000, 14000), (6, 6)], ⟨72, [(10, .v (.one (.i .i64))), (2, .v (.one (.i .u32))), (8, .v (.one (.ptr 8 0))), (9, .v (.one (.s))), (3, .v (.one (.ptr 3 0))), (31, .v (.one (.own 14000))), (6, .v (.one (.ptr 6 0))), (32, .v (.one (.i .i64))), (33, .v (.one (.i .i64))), (7, .v (.one (.i .i64)))], [(8, .cells [.i .i64, .s]), (3, .cells [.i .i64, .i .i64, .i .u32, .i .u32, .i .i64, .i .i64, .i .i64, .own 14000, .s]), (14000, .row 85 4 true true), (6, .cells [.i .i64, .i .i64, .i .u32, .i .u32, .i .i64, .i .i64, .i .i64, .nil, .s])]⟩, [⟨some 2, [(3, 3), (14000, 14000), (6, 6)], ⟨72, [(2, .v (.one (.i .u32))), (3, .v (.one (.ptr 3 0))), (31, .v (.one (.own 14000))), (6, .v (.one (.ptr 6 0))), (32, .v (.one (.i .i64))), (33, .v (.one (.i .i64))), (9, .v (.one (.s))), (7, .v (.one (.i .i64)))], [(3, .cells [.i .i64, .i .i64, .i .u32, .i .u32, .i .i64, .i .i64, .i .i64, .own 14000, .s]), (14000, .row 85 4 true true), (6, .cells [.i .i64, .i .i64, .i .u32, .i .u32, .i .i64, .i .i64, .i .i64, .nil, .s])]⟩⟩], []⟩
def tcMoveO_step36_12 : (Int × (Int × ((List UInt8) × (Int × (Int × (Int × (Int × ((List UInt8) × (Int × (Int × (Int × (Int × (Int × (Int × (Int × ((List UInt8) × ((List TOption) × (Int × (Int × (Int × (Int × (Int × (Int × (Int × ((List UInt8) × Unit))))))))))))))))))))))))) → Tr ((Int × (Int × ((List UInt8) × (Int × (Int × (Int × (Int × ((List UInt8) × (Int × (Int × (Int × (Int × (Int × (Int × (Int × ((List UInt8) × ((List TOption) × (Int × (Int × (Int × (Int × (Int × (Int × (Int × ((List UInt8) × Unit))))))))))))))))))))))))) ⊕ (Int × (Int × (Int × ((List UInt8) × (Int × (Int × (Int × (Int × (Int × (Int × (Int × (Int × ((List UInt8) × ((List TOption) × (Int × (Int × (Int × (Int × (Int × (Int × (Int × ((List UInt8) × Unit))))))))))))))))))))))) :=
  fun (a0, a1, a2, a3, a4, a5, a6, a7, a8, a9, a10, a11, a12, a13, a14, a15, a16, a17, a18, a19, a20, a21, a22, a23, a24, _) =>
  .ite (decide (a0 < (↑(List.length a7) : Int))) (
   .opt (β := (Int × Unit)) ((tcLongAt_fn (a7, (a0, ())))) (fun r0 =>
   .opt (β := ((List UInt8) × Unit)) ((tcLong_fn (IntKind.wrap IntKind.u32 (r0.1 + a1), ()))) (fun r1 =>
   .grd (decide (List.length a2 + List.length r1.1 ≤ (9223372036854775807 : Nat))) (
   .grd (decide (List.length a16 = List.length a16)) (
   .grd (decide (List.length a16 = List.length a16)) (
   .ret (Sum.inl (IntKind.wrap IntKind.i64 (a0 + (4 : Int)), (a1, (a2 ++ r1.1, (a3, (a4, (a5, (a6, (a7, (a8, (a9, (a10, (a11, (a12, (a13, (a14, (a15, (a16, (a17, (a18, (a19, (a20, (a21, (a22, (a23, (a24, ())))))))))))))))))))))))))))))))) (
   .grd (decide (List.length a16 = List.length a16)) (
   .grd (decide (List.length a16 = List.length a16)) (
   .ret (Sum.inr (a1, (a3, (a4, (a2, (a5, (a8, (a9, (a10, (a11, (a12, (a13, (a14, (a15, (a16, (a17, (a18, (a19, (a20, (a21, (a22, (a23, (a24, ()))))))))))))))))))))))))))
def tcMoveO_loop36_12 (x : (Int × (Int × ((List UInt8) × (Int × (Int × (Int × (Int × ((List UInt8) × (Int × (Int × (Int × (Int × (Int × (Int × (Int × ((List UInt8) × ((List TOption) × (Int × (Int × (Int × (Int × (Int × (Int × (Int × ((List UInt8) × Unit)))))))))))))))))))))))))) : Option (Int × (Int × (Int × ((List UInt8) × (Int × (Int × (Int × (Int × (Int × (Int × (Int × (Int × ((List UInt8) × ((List TOption) × (Int × (Int × (Int × (Int × (Int × (Int × (Int × ((List UInt8) × Unit)))))))))))))))))))))) := loopO 360012 (fun x => (tcMoveO_step36_12 x).eval) 18446744073709551616 x
def tcMoveO_L36_7 : LS := ⟨7, [(3, 3), (14000, 14000), (6, 6)], ⟨72, [(33, .v (.one (.i .i64))), (2, .v (.one (.i .u32))), (3, .v (.one (.ptr 3 0))), (31, .v (.one (.own 14000))), (6, .v (.one (.ptr 6 0))), (32, .v (.one (.i .i64)))], [(3, .cells [.i .i64, .i .i64, .i .u32, .i .u32, .i .i64, .i .i64, .i .i64, .own 14000, .s]), (14000, .row 85 4 true true), (6, .cells [.i .i64, .i .i64, .i .u32, .i .u32, .i .i64, .i .i64, .i .i64, .nil, .s])]⟩, [⟨some 0, [(6, 6), (3, 3), (14000, 14000)], ⟨72, [(6, .v (.one (.ptr 6 0))), (3, .v (.one (.ptr 3 0)))], [(6, .cells [.i .i64, .i .i64, .i .u32, .i .u32, .i .i64, .i .i64, .i .i64, .nil, .s]), (3, .cells [.i .i64, .i .i64, .i .u32, .i .u32, .i .i64, .i .i64, .i .i64, .own 14000, .s]), (14000, .row 85 4 true true)]⟩⟩], []⟩
def tcMoveO_step36_7 : (Int × (Int × (Int × (Int × (Int × (Int × (Int × (Int × (Int × (Int × ((List UInt8) × ((List TOption) × (Int × (Int × (Int × (Int × (Int × (Int × (Int × ((List UInt8) × Unit)))))))))))))))))))) → Tr ((Int × (Int × (Int × (Int × (Int × (Int × (Int × (Int × (Int × (Int × ((List UInt8) × ((List TOption) × (Int × (Int × (Int × (Int × (Int × (Int × (Int × ((List UInt8) × Unit)))))))))))))))))))) ⊕ (Int × (Int × (Int × (Int × (Int × (Int × (Int × ((List UInt8) × (Int × (Int × (Int × (Int × (Int × (Int × (Int × ((List UInt8) × ((List TOption) × Unit)))))))))))))))))) :=
  fun (a0, a1, a2, a3, a4, a5, a6, a7, a8, a9, a10, a11, a12, a13, a14, a15, a16, a17, a18, a19, _) =>
  .ite (decide (a0 < a2)) (
   .grd (decide ((0 : Int) ≤ a0 ∧ a0 < (↑(List.length a11) : Int))) (
   .opt (β := TOption) (a11[Int.toNat a0]?) (fun r0 =>
   .ite (!decide (r0.kind = (5 : Int))) (
    .grd (decide (List.length a11 = List.length a11)) (
    .grd (decide (List.length a11 = List.length a11)) (
    .ret (Sum.inl (IntKind.wrap IntKind.i64 (a0 + (1 : Int)), (a1, (a2, (a3, (a4, (a5, (a6, (a7, (a8, (a9, (a10, (a11, (a12, (a13, (a14, (a15, (a16, (a17, (a18, (a19, ())))))))))))))))))))))))) (
    .grd (true) (
    .ite (!decide (Int.tmod (↑(List.length r0.data) : Int) (8 : Int) = (0 : Int))) (
     .grd (decide (List.length a11 = List.length a11)) (
     .grd (decide (List.length a11 = List.length a11)) (
     .ret (Sum.inl (IntKind.wrap IntKind.i64 (a0 + (1 : Int)), (a1, (a2, (a3, (a4, (a5, (a6, (a7, (a8, (a9, (a10, (a11, (a12, (a13, (a14, (a15, (a16, (a17, (a18, (a19, ())))))))))))))))))))))))) (
     .grd (decide (List.length a11 = List.length a11)) (
     .grd (decide (List.length a11 = List.length a11)) (
     .opt (β := (Int × (Int × (Int × ((List UInt8) × (Int × (Int × (Int × (Int × (Int × (Int × (Int × (Int × ((List UInt8) × ((List TOption) × (Int × (Int × (Int × (Int × (Int × (Int × (Int × ((List UInt8) × Unit))))))))))))))))))))))) ((tcMoveO_loop36_12 ((0 : Int), (a1, ([], (a2, (a0, (a0, (r0.kind, (r0.data, (a3, (a4, (a5, (a6, (a7, (a8, (a9, (a10, (a11, (a12, (a13, (a14, (a15, (a16, (a17, (a18, (a19, ()))))))))))))))))))))))))))) (fun r1 =>
     .grd (decide ((0 : Int) ≤ r1.2.2.2.2.1 ∧ r1.2.2.2.2.1 < (↑(List.length r1.2.2.2.2.2.2.2.2.2.2.2.2.2.fst) : Int))) (
     .opt (β := TOption) (r1.2.2.2.2.2.2.2.2.2.2.2.2.2.1[Int.toNat r1.2.2.2.2.1]?) (fun r2 =>
     .grd (decide (List.length r1.2.2.2.2.2.2.2.2.2.2.2.2.2.fst = List.length (List.set r1.2.2.2.2.2.2.2.2.2.2.2.2.2.1 (Int.toNat r1.2.2.2.2.1) (TOption.mk r2.kind r1.2.2.2.1)))) (
     .grd (decide (List.length r1.2.2.2.2.2.2.2.2.2.2.2.2.2.fst = List.length (List.set r1.2.2.2.2.2.2.2.2.2.2.2.2.2.1 (Int.toNat r1.2.2.2.2.1) (TOption.mk r2.kind r1.2.2.2.1)))) (
     .ret (Sum.inl (IntKind.wrap IntKind.i64 (r1.2.2.1 + (1 : Int)), (r1.1, (r1.2.1, (r1.2.2.2.2.2.1, (r1.2.2.2.2.2.2.1, (r1.2.2.2.2.2.2.2.1, (r1.2.2.2.2.2.2.2.2.1, (r1.2.2.2.2.2.2.2.2.2.1, (r1.2.2.2.2.2.2.2.2.2.2.1, (r1.2.2.2.2.2.2.2.2.2.2.2.1, (r1.2.2.2.2.2.2.2.2.2.2.2.2.1, (List.set r1.2.2.2.2.2.2.2.2.2.2.2.2.2.1 (Int.toNat r1.2.2.2.2.1) (TOption.mk r2.kind r1.2.2.2.1), (r1.2.2.2.2.2.2.2.2.2.2.2.2.2.2.1, (r1.2.2.2.2.2.2.2.2.2.2.2.2.2.2.2.1, (r1.2.2.2.2.2.2.2.2.2.2.2.2.2.2.2.2.1, (r1.2.2.2.2.2.2.2.2.2.2.2.2.2.2.2.2.2.1, (r1.2.2.2.2.2.2.2.2.2.2.2.2.2.2.2.2.2.2.1, (r1.2.2.2.2.2.2.2.2.2.2.2.2.2.2.2.2.2.2.2.1, (r1.2.2.2.2.2.2.2.2.2.2.2.2.2.2.2.2.2.2.2.2.1, (r1.2.2.2.2.2.2.2.2.2.2.2.2.2.2.2.2.2.2.2.2.2.1, ())))))))))))))))))))))))))))))))))) (
   .grd (decide (List.length a11 = List.length a11)) (
   .ret (Sum.inr (a12, (a13, (a14, (a15, (a16, (a17, (a18, (a19, (a3, (a4, (a5, (a6, (a7, (a8, (a9, (a10, (a11, ()))))))))))))))))))))
def tcMoveO_loop36_7 (x : (Int × (Int × (Int × (Int × (Int × (Int × (Int × (Int × (Int × (Int × ((List UInt8) × ((List TOption) × (Int × (Int × (Int × (Int × (Int × (Int × (Int × ((List UInt8) × Unit))))))))))))))))))))) : Option (Int × (Int × (Int × (Int × (Int × (Int × (Int × ((List UInt8) × (Int × (Int × (Int × (Int × (Int × (Int × (Int × ((List UInt8) × ((List TOption) × Unit))))))))))))))))) := loopO 360007 (fun x => (tcMoveO_step36_7 x).eval) 18446744073709551616 x
def tcMoveO_ap : SP := ⟨72, [(0, .v (.agg [.i .i64, .i .i64, .i .u32, .i .u32, .i .i64, .i .i64, .i .i64, .st 4 false, .s])), (1, .v (.one (.i .u32))), (2, .v (.one (.i .u32)))], []⟩
def tcMoveO_rp : SP := ⟨1, [(0, .v (.agg [.i .i64, .i .i64, .i .u32, .i .u32, .i .i64, .i .i64, .i .i64, .own 2000000, .s]))], [(2000000, .row 85 4 true true)]⟩
def tcMoveO_tree : (Int × (Int × (Int × (Int × (Int × (Int × (Int × ((List TOption) × ((List UInt8) × (Int × (Int × Unit))))))))))) → Tr (Int × (Int × (Int × (Int × (Int × (Int × (Int × ((List UInt8) × ((List TOption) × Unit))))))))) :=
  fun (a0, a1, a2, a3, a4, a5, a6, a7, a8, a9, a10, _) =>
  .grd (decide (((0 : Nat) + List.length a7) * (24 : Nat) ≤ (140737488355328 : Nat) ∧ (0 : Nat) + List.length a7 ≤ (9223372036854775807 : Nat))) (
  .ite (decide (bits BinOp.and IntKind.i64 a4 (16 : Int) = (0 : Int))) (
   .grd (decide (List.length a7 = List.length a7)) (
   .ret (a0, (a1, (IntKind.wrap IntKind.u32 (a2 + a9), (a3, (a4, (a5, (a6, (a8, (a7, ()))))))))))) (
   .grd (decide (List.length a7 = List.length a7)) (
   .grd (decide (List.length a7 = List.length a7)) (
   .opt (β := (Int × (Int × (Int × (Int × (Int × (Int × (Int × ((List UInt8) × (Int × (Int × (Int × (Int × (Int × (Int × (Int × ((List UInt8) × ((List TOption) × Unit)))))))))))))))))) ((tcMoveO_loop36_7 ((0 : Int), (a10, ((↑(List.length a7) : Int), (a0, (a1, (IntKind.wrap IntKind.u32 (a2 + a9), (IntKind.wrap IntKind.u32 (a3 + a10), (a4, (a5, (a6, (a8, (a7, ((0 : Int), ((0 : Int), ((0 : Int), ((0 : Int), ((0 : Int), ((0 : Int), ((0 : Int), ([], ())))))))))))))))))))))) (fun r0 =>
   .grd (decide (List.length r0.2.2.2.2.2.2.2.2.2.2.2.2.2.2.2.2.fst = List.length r0.2.2.2.2.2.2.2.2.2.2.2.2.2.2.2.2.1)) (
   .ret (r0.2.2.2.2.2.2.2.2.1, (r0.2.2.2.2.2.2.2.2.2.1, (r0.2.2.2.2.2.2.2.2.2.2.1, (r0.2.2.2.2.2.2.2.2.2.2.2.1, (r0.2.2.2.2.2.2.2.2.2.2.2.2.1, (r0.2.2.2.2.2.2.2.2.2.2.2.2.2.1, (r0.2.2.2.2.2.2.2.2.2.2.2.2.2.2.1, (r0.2.2.2.2.2.2.2.2.2.2.2.2.2.2.2.1, (r0.2.2.2.2.2.2.2.2.2.2.2.2.2.2.2.2.1, ())))))))))))))))
theorem tcMoveO_eq (x : (Int × (Int × (Int × (Int × (Int × (Int × (Int × ((List TOption) × ((List UInt8) × (Int × (Int × Unit)))))))))))) : gsTr Try.prog cod [FS.pf sumFold, FS.pf sumAdd, FS.pf sumOf, FS.pf sumRight, FS.pf sumFix, FS.pf dgWord, FS.pf dgLong, FS.pf dgWordAt, FS.pf dgUnder, FS.pf dgPort, FS.pf dgWrite, FS.pf dgRead, FS.pf dgWriteNote, FS.pf dgReadNote, FS.pf kWord, clOpt, FS.pf eqOpt, FS.pf tcWord, FS.pf tcLong, FS.pf tcWordAt, FS.pf tcLongAt, FS.pf tcWords, FS.pf tcOptions, FS.pf tcWrite, FS.pf tcParse, FS.pf tcRead, FS.pf tcMss, FS.pf sameSegment, FS.pf tcpLives, FS.pf tcpBack, FS.pf tcpTold, FS.pf tcpShifts] [(36, tcMoveO_L36_12), (36, tcMoveO_L36_7)] 30 36 tcMoveO_ap tcMoveO_rp x = tcMoveO_tree x := by kernel_rfl
def tcMoveO_fn (x : (Int × (Int × (Int × (Int × (Int × (Int × (Int × ((List TOption) × ((List UInt8) × (Int × (Int × Unit)))))))))))) : Option (Int × (Int × (Int × (Int × (Int × (Int × (Int × ((List UInt8) × ((List TOption) × Unit))))))))) := (tcMoveO_tree x).eval
def tcMoveO : GS Try.prog := ⟨36, [0, 0, 0], tcMoveO_ap, tcMoveO_rp, tcMoveO_fn, fun x r h ys m g he hg => gs_sound (cod := cod) (Γ := [FS.pf sumFold, FS.pf sumAdd, FS.pf sumOf, FS.pf sumRight, FS.pf sumFix, FS.pf dgWord, FS.pf dgLong, FS.pf dgWordAt, FS.pf dgUnder, FS.pf dgPort, FS.pf dgWrite, FS.pf dgRead, FS.pf dgWriteNote, FS.pf dgReadNote, FS.pf kWord, clOpt, FS.pf eqOpt, FS.pf tcWord, FS.pf tcLong, FS.pf tcWordAt, FS.pf tcLongAt, FS.pf tcWords, FS.pf tcOptions, FS.pf tcWrite, FS.pf tcParse, FS.pf tcRead, FS.pf tcMss, FS.pf sameSegment, FS.pf tcpLives, FS.pf tcpBack, FS.pf tcpTold, FS.pf tcpShifts]) (Λs := [(36, tcMoveO_L36_12), (36, tcMoveO_L36_7)]) (n := 30) ((congrArg Tr.eval (tcMoveO_eq x)).trans h) he hg⟩
def tcpOwn_L14_5 : LS := ⟨5, [(18000, 18000), (14000, 14000), (3, 3)], ⟨41, [(26, .v (.one (.i .i64))), (9, .v (.one (.own 18000))), (7, .v (.one (.own 14000))), (3, .v (.one (.ptr 3 0))), (25, .v (.one (.i .i64)))], [(18000, .junk 85 2), (14000, .row 85 4 true true), (3, .cells [.i .i64, .i .i64, .i .u32, .i .u32, .i .i64, .i .i64, .i .i64, .st 4 false, .s])]⟩, [⟨some 0, [(14000, 14000), (3, 3)], ⟨41, [(7, .v (.one (.own 14000))), (3, .v (.one (.ptr 3 0)))], [(14000, .row 85 4 true true), (3, .cells [.i .i64, .i .i64, .i .u32, .i .u32, .i .i64, .i .i64, .i .i64, .st 4 false, .s])]⟩⟩], []⟩
def tcpOwn_step14_5 : (Int × (Int × (Nat × ((List TOption) × (Int × (Int × (Int × (Int × (Int × (Int × (Int × ((List TOption) × ((List UInt8) × Unit))))))))))))) → Tr ((Int × (Int × (Nat × ((List TOption) × (Int × (Int × (Int × (Int × (Int × (Int × (Int × ((List TOption) × ((List UInt8) × Unit))))))))))))) ⊕ ((List TOption) × (Int × (Int × (Int × (Int × (Int × (Int × (Int × ((List TOption) × ((List UInt8) × Unit))))))))))) :=
  fun (a0, a1, a2, a3, a4, a5, a6, a7, a8, a9, a10, a11, a12, _) =>
  .ite (decide (a0 < a1)) (
   .grd (decide ((0 : Int) ≤ a0 ∧ a0 < (↑a2 : Int))) (
   .grd (decide (Int.toNat a0 < a2)) (
   .grd (decide (a2 = a2)) (
   .grd (decide (List.length a3 = List.length a3)) (
   .grd (decide (a2 = a2)) (
   .ret (Sum.inl (IntKind.wrap IntKind.i64 (a0 + (1 : Int)), (a1, (a2, (a3, (a4, (a5, (a6, (a7, (a8, (a9, (a10, (a11, (a12, ())))))))))))))))))))) (
   .grd (decide (List.length a3 = List.length a3)) (
   .ret (Sum.inr (a3, (a4, (a5, (a6, (a7, (a8, (a9, (a10, (a11, (a12, ())))))))))))))
def tcpOwn_loop14_5 (x : (Int × (Int × (Nat × ((List TOption) × (Int × (Int × (Int × (Int × (Int × (Int × (Int × ((List TOption) × ((List UInt8) × Unit)))))))))))))) : Option ((List TOption) × (Int × (Int × (Int × (Int × (Int × (Int × (Int × ((List TOption) × ((List UInt8) × Unit)))))))))) := loopO 140005 (fun x => (tcpOwn_step14_5 x).eval) 18446744073709551616 x
def tcpOwn_ap : List VP1 := [.agg [.i .i64, .i .i64, .i .u32, .i .u32, .i .i64, .i .i64, .i .i64, .st 4 false, .s], .one (.i .u32), .one (.i .u32)]
def tcpOwn_tree : (Int × (Int × (Int × (Int × (Int × (Int × (Int × ((List TOption) × ((List UInt8) × (Int × (Int × Unit))))))))))) → Tr Prop :=
  fun (a0, a1, a2, a3, a4, a5, a6, a7, a8, a9, a10, _) =>
  .grd (decide (((0 : Nat) + List.length a7) * (24 : Nat) ≤ (140737488355328 : Nat) ∧ (0 : Nat) + List.length a7 ≤ (9223372036854775807 : Nat))) (
  .opt (β := (Int × (Int × (Int × (Int × (Int × (Int × (Int × ((List UInt8) × ((List TOption) × Unit)))))))))) ((tcMoveO_fn (a0, (a1, (a2, (a3, (a4, (a5, (a6, (a7, (a8, (a9, (a10, ()))))))))))))) (fun r0 =>
  .ret (AllP fun (n1 : Nat) =>
   .grd (decide ((↑n1 : Int) = (↑n1 : Int))) (
   .grd (decide (n1 = n1)) (
   .grd (decide (List.length a7 = List.length a7)) (
   .grd (decide (n1 = n1)) (
   .opt (β := ((List TOption) × (Int × (Int × (Int × (Int × (Int × (Int × (Int × ((List TOption) × ((List UInt8) × Unit))))))))))) ((tcpOwn_loop14_5 ((0 : Int), ((↑n1 : Int), (n1, (a7, (a0, (a1, (a2, (a3, (a4, (a5, (a6, (a7, (a8, ()))))))))))))))) (fun r2 =>
   .opt (β := (Bool × Unit)) ((tcpLives_fn ())) (fun r3 =>
   .ite (r3.1) (
    .opt (β := (Bool × Unit)) ((eqOpt_fn (r2.2.2.2.2.2.2.2.2.1, (r2.1, ())))) (fun r4 =>
    .ret (r4.1 = true))) (
    .ret (false = true)))))))))))
theorem tcpOwn_eq (x : (Int × (Int × (Int × (Int × (Int × (Int × (Int × ((List TOption) × ((List UInt8) × (Int × (Int × Unit)))))))))))) : lawJ Try.prog cod [FS.pf sumFold, FS.pf sumAdd, FS.pf sumOf, FS.pf sumRight, FS.pf sumFix, FS.pf dgWord, FS.pf dgLong, FS.pf dgWordAt, FS.pf dgUnder, FS.pf dgPort, FS.pf dgWrite, FS.pf dgRead, FS.pf dgWriteNote, FS.pf dgReadNote, FS.pf kWord, clOpt, FS.pf eqOpt, FS.pf tcWord, FS.pf tcLong, FS.pf tcWordAt, FS.pf tcLongAt, FS.pf tcWords, FS.pf tcOptions, FS.pf tcWrite, FS.pf tcParse, FS.pf tcRead, FS.pf tcMss, FS.pf sameSegment, FS.pf tcpLives, FS.pf tcpBack, FS.pf tcpTold, FS.pf tcpShifts, GS.pf tcMoveO] [(14, tcpOwn_L14_5)] [(3, 800008)] [] 30 14 tcpOwn_ap x = tcpOwn_tree x := by kernel_rfl
noncomputable def tcpOwn : FS Try.prog := jFS 14 tcpOwn_ap tcpOwn_tree fun x h => lawJ_sound (cod := cod) (Γ := [FS.pf sumFold, FS.pf sumAdd, FS.pf sumOf, FS.pf sumRight, FS.pf sumFix, FS.pf dgWord, FS.pf dgLong, FS.pf dgWordAt, FS.pf dgUnder, FS.pf dgPort, FS.pf dgWrite, FS.pf dgRead, FS.pf dgWriteNote, FS.pf dgReadNote, FS.pf kWord, clOpt, FS.pf eqOpt, FS.pf tcWord, FS.pf tcLong, FS.pf tcWordAt, FS.pf tcLongAt, FS.pf tcWords, FS.pf tcOptions, FS.pf tcWrite, FS.pf tcParse, FS.pf tcRead, FS.pf tcMss, FS.pf sameSegment, FS.pf tcpLives, FS.pf tcpBack, FS.pf tcpTold, FS.pf tcpShifts, GS.pf tcMoveO]) (Λs := [(14, tcpOwn_L14_5)]) (opn := [(3, 800008)]) (un := []) (n := 30) (tcpOwn_eq x ▸ h)
end Go.Proofs.Ytjehhmeaigkbnaa.X
