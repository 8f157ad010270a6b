/- Functions of the program, as trees (printed by a program of mine: tool/XTool, xg.py), each with the proof that the machine comes to what its tree says. Conditions: none. -/
import Derived.Test.YtmnbhoklphakjaaCod
import Derived.KernelRfl
import Derived.Test.YtmnbhoklphakjaaGEth
namespace Go.Proofs.Ytmnbhoklphakjaa.X
open Go Go.RowKit Go.Proofs.Ytmnbhoklphakjaa.Abs
set_option maxRecDepth 100000
set_option linter.unusedVariables false
def ethShow_L24_3 : LS := ⟨3, [(3, 3)], ⟨28, [(7, .v (.one (.i .i64))), (3, .v (.one (.own 3))), (6, .v (.agg [.i .u8, .i .u8, .i .u8, .i .u8, .i .u8, .i .u8]))], [(3, .row 5 2 true true)]⟩, [⟨some 0, [(3, 3)], ⟨28, [(3, .v (.one (.own 3)))], [(3, .row 5 2 true true)]⟩⟩], [(3, 5, 2)]⟩
def ethShow_step24_3 : (Int × (Int × (Int × (Int × (Int × (Int × (Int × ((List UInt8) × Unit)))))))) → Tr ((Int × (Int × (Int × (Int × (Int × (Int × (Int × ((List UInt8) × Unit)))))))) ⊕ ((List UInt8) × Unit)) :=
  fun (a0, a1, a2, a3, a4, a5, a6, a7, _) =>
  .ite (decide (a0 < (6 : Int))) (
   .grd (decide ((0 : Int) ≤ a0)) (
   .opt (β := Int) ([a1, a2, a3, a4, a5, a6][Int.toNat a0]?) (fun r0 =>
   .ite (decide ((0 : Int) < a0)) (
    .grd (true) (
    .grd (decide ((List.length a7 + List.length [UInt8.ofNat (58 : Nat)]) * (1 : Nat) ≤ (140737488355328 : Nat) ∧ List.length a7 + List.length [UInt8.ofNat (58 : Nat)] ≤ (9223372036854775807 : Nat))) (
    .grd (true) (
    .grd (decide ((0 : Int) ≤ Int.fdiv r0 ((2 : Int) ^ (4 : Nat)) ∧ Int.fdiv r0 ((2 : Int) ^ (4 : Nat)) < (↑(List.length [(48 : UInt8), (49 : UInt8), (50 : UInt8), (51 : UInt8), (52 : UInt8), (53 : UInt8), (54 : UInt8), (55 : UInt8), (56 : UInt8), (57 : UInt8), (97 : UInt8), (98 : UInt8), (99 : UInt8), (100 : UInt8), (101 : UInt8), (102 : UInt8)]) : Int))) (
    .grd (decide ((0 : Int) ≤ bits BinOp.and IntKind.u8 r0 (15 : Int) ∧ bits BinOp.and IntKind.u8 r0 (15 : Int) < (↑(List.length [(48 : UInt8), (49 : UInt8), (50 : UInt8), (51 : UInt8), (52 : UInt8), (53 : UInt8), (54 : UInt8), (55 : UInt8), (56 : UInt8), (57 : UInt8), (97 : UInt8), (98 : UInt8), (99 : UInt8), (100 : UInt8), (101 : UInt8), (102 : UInt8)]) : Int))) (
    .grd (decide ((0 : Int) ≤ (↑(UInt8.toNat (List.getD [(48 : UInt8), (49 : UInt8), (50 : UInt8), (51 : UInt8), (52 : UInt8), (53 : UInt8), (54 : UInt8), (55 : UInt8), (56 : UInt8), (57 : UInt8), (97 : UInt8), (98 : UInt8), (99 : UInt8), (100 : UInt8), (101 : UInt8), (102 : UInt8)] (Int.toNat (Int.fdiv r0 ((2 : Int) ^ (4 : Nat)))) (0 : UInt8))) : Int) ∧ (↑(UInt8.toNat (List.getD [(48 : UInt8), (49 : UInt8), (50 : UInt8), (51 : UInt8), (52 : UInt8), (53 : UInt8), (54 : UInt8), (55 : UInt8), (56 : UInt8), (57 : UInt8), (97 : UInt8), (98 : UInt8), (99 : UInt8), (100 : UInt8), (101 : UInt8), (102 : UInt8)] (Int.toNat (Int.fdiv r0 ((2 : Int) ^ (4 : Nat)))) (0 : UInt8))) : Int) < (256 : Int))) (
    .grd (decide ((0 : Int) ≤ (↑(UInt8.toNat (List.getD [(48 : UInt8), (49 : UInt8), (50 : UInt8), (51 : UInt8), (52 : UInt8), (53 : UInt8), (54 : UInt8), (55 : UInt8), (56 : UInt8), (57 : UInt8), (97 : UInt8), (98 : UInt8), (99 : UInt8), (100 : UInt8), (101 : UInt8), (102 : UInt8)] (Int.toNat (bits BinOp.and IntKind.u8 r0 (15 : Int))) (0 : UInt8))) : Int) ∧ (↑(UInt8.toNat (List.getD [(48 : UInt8), (49 : UInt8), (50 : UInt8), (51 : UInt8), (52 : UInt8), (53 : UInt8), (54 : UInt8), (55 : UInt8), (56 : UInt8), (57 : UInt8), (97 : UInt8), (98 : UInt8), (99 : UInt8), (100 : UInt8), (101 : UInt8), (102 : UInt8)] (Int.toNat (bits BinOp.and IntKind.u8 r0 (15 : Int))) (0 : UInt8))) : Int) < (256 : Int))) (
    .grd (decide ((List.length (a7 ++ [UInt8.ofNat (58 : Nat)]) + List.length [UInt8.ofNat (Int.toNat (↑(UInt8.toNat (List.getD [(48 : UInt8), (49 : UInt8), (50 : UInt8), (51 : UInt8), (52 : UInt8), (53 : UInt8), (54 : UInt8), (55 : UInt8), (56 : UInt8), (57 : UInt8), (97 : UInt8), (98 : UInt8), (99 : UInt8), (100 : UInt8), (101 : UInt8), (102 : UInt8)] (Int.toNat (Int.fdiv r0 ((2 : Int) ^ (4 : Nat)))) (0 : UInt8))) : Int)), UInt8.ofNat (Int.toNat (↑(UInt8.toNat (List.getD [(48 : UInt8), (49 : UInt8), (50 : UInt8), (51 : UInt8), (52 : UInt8), (53 : UInt8), (54 : UInt8), (55 : UInt8), (56 : UInt8), (57 : UInt8), (97 : UInt8), (98 : UInt8), (99 : UInt8), (100 : UInt8), (101 : UInt8), (102 : UInt8)] (Int.toNat (bits BinOp.and IntKind.u8 r0 (15 : Int))) (0 : UInt8))) : Int))]) * (1 : Nat) ≤ (140737488355328 : Nat) ∧ List.length (a7 ++ [UInt8.ofNat (58 : Nat)]) + List.length [UInt8.ofNat (Int.toNat (↑(UInt8.toNat (List.getD [(48 : UInt8), (49 : UInt8), (50 : UInt8), (51 : UInt8), (52 : UInt8), (53 : UInt8), (54 : UInt8), (55 : UInt8), (56 : UInt8), (57 : UInt8), (97 : UInt8), (98 : UInt8), (99 : UInt8), (100 : UInt8), (101 : UInt8), (102 : UInt8)] (Int.toNat (Int.fdiv r0 ((2 : Int) ^ (4 : Nat)))) (0 : UInt8))) : Int)), UInt8.ofNat (Int.toNat (↑(UInt8.toNat (List.getD [(48 : UInt8), (49 : UInt8), (50 : UInt8), (51 : UInt8), (52 : UInt8), (53 : UInt8), (54 : UInt8), (55 : UInt8), (56 : UInt8), (57 : UInt8), (97 : UInt8), (98 : UInt8), (99 : UInt8), (100 : UInt8), (101 : UInt8), (102 : UInt8)] (Int.toNat (bits BinOp.and IntKind.u8 r0 (15 : Int))) (0 : UInt8))) : Int))] ≤ (9223372036854775807 : Nat))) (
    .grd (decide (List.length (a7 ++ [UInt8.ofNat (58 : Nat)] ++ [UInt8.ofNat (Int.toNat (↑(UInt8.toNat (List.getD [(48 : UInt8), (49 : UInt8), (50 : UInt8), (51 : UInt8), (52 : UInt8), (53 : UInt8), (54 : UInt8), (55 : UInt8), (56 : UInt8), (57 : UInt8), (97 : UInt8), (98 : UInt8), (99 : UInt8), (100 : UInt8), (101 : UInt8), (102 : UInt8)] (Int.toNat (Int.fdiv r0 ((2 : Int) ^ (4 : Nat)))) (0 : UInt8))) : Int)), UInt8.ofNat (Int.toNat (↑(UInt8.toNat (List.getD [(48 : UInt8), (49 : UInt8), (50 : UInt8), (51 : UInt8), (52 : UInt8), (53 : UInt8), (54 : UInt8), (55 : UInt8), (56 : UInt8), (57 : UInt8), (97 : UInt8), (98 : UInt8), (99 : UInt8), (100 : UInt8), (101 : UInt8), (102 : UInt8)] (Int.toNat (bits BinOp.and IntKind.u8 r0 (15 : Int))) (0 : UInt8))) : Int))]) = List.length (a7 ++ [UInt8.ofNat (58 : Nat)] ++ [UInt8.ofNat (Int.toNat (↑(UInt8.toNat (List.getD [(48 : UInt8), (49 : UInt8), (50 : UInt8), (51 : UInt8), (52 : UInt8), (53 : UInt8), (54 : UInt8), (55 : UInt8), (56 : UInt8), (57 : UInt8), (97 : UInt8), (98 : UInt8), (99 : UInt8), (100 : UInt8), (101 : UInt8), (102 : UInt8)] (Int.toNat (Int.fdiv r0 ((2 : Int) ^ (4 : Nat)))) (0 : UInt8))) : Int)), UInt8.ofNat (Int.toNat (↑(UInt8.toNat (List.getD [(48 : UInt8), (49 : UInt8), (50 : UInt8), (51 : UInt8), (52 : UInt8), (53 : UInt8), (54 : UInt8), (55 : UInt8), (56 : UInt8), (57 : UInt8), (97 : UInt8), (98 : UInt8), (99 : UInt8), (100 : UInt8), (101 : UInt8), (102 : UInt8)] (Int.toNat (bits BinOp.and IntKind.u8 r0 (15 : Int))) (0 : UInt8))) : Int))]))) (
    .ret (Sum.inl (IntKind.wrap IntKind.i64 (a0 + (1 : Int)), (a1, (a2, (a3, (a4, (a5, (a6, (a7 ++ [UInt8.ofNat (58 : Nat)] ++ [UInt8.ofNat (Int.toNat (↑(UInt8.toNat (List.getD [(48 : UInt8), (49 : UInt8), (50 : UInt8), (51 : UInt8), (52 : UInt8), (53 : UInt8), (54 : UInt8), (55 : UInt8), (56 : UInt8), (57 : UInt8), (97 : UInt8), (98 : UInt8), (99 : UInt8), (100 : UInt8), (101 : UInt8), (102 : UInt8)] (Int.toNat (Int.fdiv r0 ((2 : Int) ^ (4 : Nat)))) (0 : UInt8))) : Int)), UInt8.ofNat (Int.toNat (↑(UInt8.toNat (List.getD [(48 : UInt8), (49 : UInt8), (50 : UInt8), (51 : UInt8), (52 : UInt8), (53 : UInt8), (54 : UInt8), (55 : UInt8), (56 : UInt8), (57 : UInt8), (97 : UInt8), (98 : UInt8), (99 : UInt8), (100 : UInt8), (101 : UInt8), (102 : UInt8)] (Int.toNat (bits BinOp.and IntKind.u8 r0 (15 : Int))) (0 : UInt8))) : Int))], ()))))))))))))))))))) (
    .grd (true) (
    .grd (decide ((0 : Int) ≤ Int.fdiv r0 ((2 : Int) ^ (4 : Nat)) ∧ Int.fdiv r0 ((2 : Int) ^ (4 : Nat)) < (↑(List.length [(48 : UInt8), (49 : UInt8), (50 : UInt8), (51 : UInt8), (52 : UInt8), (53 : UInt8), (54 : UInt8), (55 : UInt8), (56 : UInt8), (57 : UInt8), (97 : UInt8), (98 : UInt8), (99 : UInt8), (100 : UInt8), (101 : UInt8), (102 : UInt8)]) : Int))) (
    .grd (decide ((0 : Int) ≤ bits BinOp.and IntKind.u8 r0 (15 : Int) ∧ bits BinOp.and IntKind.u8 r0 (15 : Int) < (↑(List.length [(48 : UInt8), (49 : UInt8), (50 : UInt8), (51 : UInt8), (52 : UInt8), (53 : UInt8), (54 : UInt8), (55 : UInt8), (56 : UInt8), (57 : UInt8), (97 : UInt8), (98 : UInt8), (99 : UInt8), (100 : UInt8), (101 : UInt8), (102 : UInt8)]) : Int))) (
    .grd (decide ((0 : Int) ≤ (↑(UInt8.toNat (List.getD [(48 : UInt8), (49 : UInt8), (50 : UInt8), (51 : UInt8), (52 : UInt8), (53 : UInt8), (54 : UInt8), (55 : UInt8), (56 : UInt8), (57 : UInt8), (97 : UInt8), (98 : UInt8), (99 : UInt8), (100 : UInt8), (101 : UInt8), (102 : UInt8)] (Int.toNat (Int.fdiv r0 ((2 : Int) ^ (4 : Nat)))) (0 : UInt8))) : Int) ∧ (↑(UInt8.toNat (List.getD [(48 : UInt8), (49 : UInt8), (50 : UInt8), (51 : UInt8), (52 : UInt8), (53 : UInt8), (54 : UInt8), (55 : UInt8), (56 : UInt8), (57 : UInt8), (97 : UInt8), (98 : UInt8), (99 : UInt8), (100 : UInt8), (101 : UInt8), (102 : UInt8)] (Int.toNat (Int.fdiv r0 ((2 : Int) ^ (4 : Nat)))) (0 : UInt8))) : Int) < (256 : Int))) (
    .grd (decide ((0 : Int) ≤ (↑(UInt8.toNat (List.getD [(48 : UInt8), (49 : UInt8), (50 : UInt8), (51 : UInt8), (52 : UInt8), (53 : UInt8), (54 : UInt8), (55 : UInt8), (56 : UInt8), (57 : UInt8), (97 : UInt8), (98 : UInt8), (99 : UInt8), (100 : UInt8), (101 : UInt8), (102 : UInt8)] (Int.toNat (bits BinOp.and IntKind.u8 r0 (15 : Int))) (0 : UInt8))) : Int) ∧ (↑(UInt8.toNat (List.getD [(48 : UInt8), (49 : UInt8), (50 : UInt8), (51 : UInt8), (52 : UInt8), (53 : UInt8), (54 : UInt8), (55 : UInt8), (56 : UInt8), (57 : UInt8), (97 : UInt8), (98 : UInt8), (99 : UInt8), (100 : UInt8), (101 : UInt8), (102 : UInt8)] (Int.toNat (bits BinOp.and IntKind.u8 r0 (15 : Int))) (0 : UInt8))) : Int) < (256 : Int))) (
    .grd (decide ((List.length a7 + List.length [UInt8.ofNat (Int.toNat (↑(UInt8.toNat (List.getD [(48 : UInt8), (49 : UInt8), (50 : UInt8), (51 : UInt8), (52 : UInt8), (53 : UInt8), (54 : UInt8), (55 : UInt8), (56 : UInt8), (57 : UInt8), (97 : UInt8), (98 : UInt8), (99 : UInt8), (100 : UInt8), (101 : UInt8), (102 : UInt8)] (Int.toNat (Int.fdiv r0 ((2 : Int) ^ (4 : Nat)))) (0 : UInt8))) : Int)), UInt8.ofNat (Int.toNat (↑(UInt8.toNat (List.getD [(48 : UInt8), (49 : UInt8), (50 : UInt8), (51 : UInt8), (52 : UInt8), (53 : UInt8), (54 : UInt8), (55 : UInt8), (56 : UInt8), (57 : UInt8), (97 : UInt8), (98 : UInt8), (99 : UInt8), (100 : UInt8), (101 : UInt8), (102 : UInt8)] (Int.toNat (bits BinOp.and IntKind.u8 r0 (15 : Int))) (0 : UInt8))) : Int))]) * (1 : Nat) ≤ (140737488355328 : Nat) ∧ List.length a7 + List.length [UInt8.ofNat (Int.toNat (↑(UInt8.toNat (List.getD [(48 : UInt8), (49 : UInt8), (50 : UInt8), (51 : UInt8), (52 : UInt8), (53 : UInt8), (54 : UInt8), (55 : UInt8), (56 : UInt8), (57 : UInt8), (97 : UInt8), (98 : UInt8), (99 : UInt8), (100 : UInt8), (101 : UInt8), (102 : UInt8)] (Int.toNat (Int.fdiv r0 ((2 : Int) ^ (4 : Nat)))) (0 : UInt8))) : Int)), UInt8.ofNat (Int.toNat (↑(UInt8.toNat (List.getD [(48 : UInt8), (49 : UInt8), (50 : UInt8), (51 : UInt8), (52 : UInt8), (53 : UInt8), (54 : UInt8), (55 : UInt8), (56 : UInt8), (57 : UInt8), (97 : UInt8), (98 : UInt8), (99 : UInt8), (100 : UInt8), (101 : UInt8), (102 : UInt8)] (Int.toNat (bits BinOp.and IntKind.u8 r0 (15 : Int))) (0 : UInt8))) : Int))] ≤ (9223372036854775807 : Nat))) (
    .grd (decide (List.length (a7 ++ [UInt8.ofNat (Int.toNat (↑(UInt8.toNat (List.getD [(48 : UInt8), (49 : UInt8), (50 : UInt8), (51 : UInt8), (52 : UInt8), (53 : UInt8), (54 : UInt8), (55 : UInt8), (56 : UInt8), (57 : UInt8), (97 : UInt8), (98 : UInt8), (99 : UInt8), (100 : UInt8), (101 : UInt8), (102 : UInt8)] (Int.toNat (Int.fdiv r0 ((2 : Int) ^ (4 : Nat)))) (0 : UInt8))) : Int)), UInt8.ofNat (Int.toNat (↑(UInt8.toNat (List.getD [(48 : UInt8), (49 : UInt8), (50 : UInt8), (51 : UInt8), (52 : UInt8), (53 : UInt8), (54 : UInt8), (55 : UInt8), (56 : UInt8), (57 : UInt8), (97 : UInt8), (98 : UInt8), (99 : UInt8), (100 : UInt8), (101 : UInt8), (102 : UInt8)] (Int.toNat (bits BinOp.and IntKind.u8 r0 (15 : Int))) (0 : UInt8))) : Int))]) = List.length (a7 ++ [UInt8.ofNat (Int.toNat (↑(UInt8.toNat (List.getD [(48 : UInt8), (49 : UInt8), (50 : UInt8), (51 : UInt8), (52 : UInt8), (53 : UInt8), (54 : UInt8), (55 : UInt8), (56 : UInt8), (57 : UInt8), (97 : UInt8), (98 : UInt8), (99 : UInt8), (100 : UInt8), (101 : UInt8), (102 : UInt8)] (Int.toNat (Int.fdiv r0 ((2 : Int) ^ (4 : Nat)))) (0 : UInt8))) : Int)), UInt8.ofNat (Int.toNat (↑(UInt8.toNat (List.getD [(48 : UInt8), (49 : UInt8), (50 : UInt8), (51 : UInt8), (52 : UInt8), (53 : UInt8), (54 : UInt8), (55 : UInt8), (56 : UInt8), (57 : UInt8), (97 : UInt8), (98 : UInt8), (99 : UInt8), (100 : UInt8), (101 : UInt8), (102 : UInt8)] (Int.toNat (bits BinOp.and IntKind.u8 r0 (15 : Int))) (0 : UInt8))) : Int))]))) (
    .ret (Sum.inl (IntKind.wrap IntKind.i64 (a0 + (1 : Int)), (a1, (a2, (a3, (a4, (a5, (a6, (a7 ++ [UInt8.ofNat (Int.toNat (↑(UInt8.toNat (List.getD [(48 : UInt8), (49 : UInt8), (50 : UInt8), (51 : UInt8), (52 : UInt8), (53 : UInt8), (54 : UInt8), (55 : UInt8), (56 : UInt8), (57 : UInt8), (97 : UInt8), (98 : UInt8), (99 : UInt8), (100 : UInt8), (101 : UInt8), (102 : UInt8)] (Int.toNat (Int.fdiv r0 ((2 : Int) ^ (4 : Nat)))) (0 : UInt8))) : Int)), UInt8.ofNat (Int.toNat (↑(UInt8.toNat (List.getD [(48 : UInt8), (49 : UInt8), (50 : UInt8), (51 : UInt8), (52 : UInt8), (53 : UInt8), (54 : UInt8), (55 : UInt8), (56 : UInt8), (57 : UInt8), (97 : UInt8), (98 : UInt8), (99 : UInt8), (100 : UInt8), (101 : UInt8), (102 : UInt8)] (Int.toNat (bits BinOp.and IntKind.u8 r0 (15 : Int))) (0 : UInt8))) : Int))], ())))))))))))))))))))) (
   .grd (decide (List.length a7 = List.length a7)) (
   .ret (Sum.inr (a7, ()))))
def ethShow_loop24_3 (x : (Int × (Int × (Int × (Int × (Int × (Int × (Int × ((List UInt8) × Unit))))))))) : Option ((List UInt8) × Unit) := loopO 240003 (fun x => (ethShow_step24_3 x).eval) 18446744073709551616 x
def ethShow_ap : List VP1 := [.agg [.i .u8, .i .u8, .i .u8, .i .u8, .i .u8, .i .u8]]
def ethShow_rp : SP := ⟨1, [(0, .v (.one (.s)))], []⟩
def ethShow_tree : (Int × (Int × (Int × (Int × (Int × (Int × Unit)))))) → Tr ((List UInt8) × Unit) :=
  fun (a0, a1, a2, a3, a4, a5, _) =>
  .grd (true) (
  .opt (β := ((List UInt8) × Unit)) ((ethShow_loop24_3 ((0 : Int), (a0, (a1, (a2, (a3, (a4, (a5, ([], ())))))))))) (fun r0 =>
  .ret (r0.1, ())))
theorem ethShow_eq (x : (Int × (Int × (Int × (Int × (Int × (Int × Unit))))))) : fnTr Try.prog cod [FS.pf ethWrite, FS.pf ethRead, FS.pf ethLives, FS.pf ethRest] [(24, ethShow_L24_3)] 30 24 ethShow_ap ethShow_rp x = ethShow_tree x := by kernel_rfl
def ethShow_fn (x : (Int × (Int × (Int × (Int × (Int × (Int × Unit))))))) : Option ((List UInt8) × Unit) := (ethShow_tree x).eval
def ethShow : FS Try.prog := ⟨24, ethShow_ap, ethShow_rp, ethShow_fn, fun x r h => fnTr_sound (cod := cod) (Γ := [FS.pf ethWrite, FS.pf ethRead, FS.pf ethLives, FS.pf ethRest]) (Λs := [(24, ethShow_L24_3)]) (n := 30) ((congrArg Tr.eval (ethShow_eq x)).trans h)⟩
def ethDigit_ap : List VP1 := [.one (.i .u8)]
def ethDigit_rp : SP := ⟨1, [(0, .tup [.one (.i .u8), .one (.b)])], []⟩
def ethDigit_tree : (Int × Unit) → Tr (Int × (Bool × Unit)) :=
  fun (a0, _) =>
  .ite (decide ((48 : Int) ≤ a0)) (
   .ite (decide (a0 ≤ (57 : Int))) (
    .ret (IntKind.wrap IntKind.u8 (a0 - (48 : Int)), (true, ()))) (
    .ite (decide ((97 : Int) ≤ a0)) (
     .ite (decide (a0 ≤ (102 : Int))) (
      .ret (IntKind.wrap IntKind.u8 (IntKind.wrap IntKind.u8 (a0 - (97 : Int)) + (10 : Int)), (true, ()))) (
      .ret ((0 : Int), (false, ())))) (
     .ret ((0 : Int), (false, ()))))) (
   .ite (decide ((97 : Int) ≤ a0)) (
    .ite (decide (a0 ≤ (102 : Int))) (
     .ret (IntKind.wrap IntKind.u8 (IntKind.wrap IntKind.u8 (a0 - (97 : Int)) + (10 : Int)), (true, ()))) (
     .ret ((0 : Int), (false, ())))) (
    .ret ((0 : Int), (false, ()))))
theorem ethDigit_eq (x : (Int × Unit)) : fnTr Try.prog cod [FS.pf ethWrite, FS.pf ethRead, FS.pf ethLives, FS.pf ethRest, FS.pf ethShow] [] 30 35 ethDigit_ap ethDigit_rp x = ethDigit_tree x := by kernel_rfl
def ethDigit_fn (x : (Int × Unit)) : Option (Int × (Bool × Unit)) := (ethDigit_tree x).eval
def ethDigit : FS Try.prog := ⟨35, ethDigit_ap, ethDigit_rp, ethDigit_fn, fun x r h => fnTr_sound (cod := cod) (Γ := [FS.pf ethWrite, FS.pf ethRead, FS.pf ethLives, FS.pf ethRest, FS.pf ethShow]) (Λs := []) (n := 30) ((congrArg Tr.eval (ethDigit_eq x)).trans h)⟩
def ethParse_L23_5 : LS := ⟨5, [(2, 2), (4, 4)], ⟨61, [(2, .v (.one (.ptr 2 0))), (14, .v (.one (.i .i64))), (4, .v (.one (.ptr 4 0))), (0, .v (.one (.s)))], [(2, .cells [.i .u8, .i .u8, .i .u8, .i .u8, .i .u8, .i .u8]), (4, .cells [.i .u8, .i .u8, .i .u8, .i .u8, .i .u8, .i .u8])]⟩, [⟨none, [(2, 2)], ⟨61, [(2, .v (.one (.ptr 2 0))), (3, .v (.one (.i .i64)))], [(2, .cells [.i .u8, .i .u8, .i .u8, .i .u8, .i .u8, .i .u8])]⟩⟩, ⟨some 0, [(2, 2), (4, 4)], ⟨61, [(2, .v (.one (.ptr 2 0))), (4, .v (.one (.ptr 4 0)))], [(2, .cells [.i .u8, .i .u8, .i .u8, .i .u8, .i .u8, .i .u8]), (4, .cells [.i .u8, .i .u8, .i .u8, .i .u8, .i .u8, .i .u8])]⟩⟩], []⟩
def ethParse_step23_5 : (Int × ((List UInt8) × (Int × (Int × (Int × (Int × (Int × (Int × (Int × (Int × (Int × (Int × (Int × (Int × Unit)))))))))))))) → Tr ((Int × ((List UInt8) × (Int × (Int × (Int × (Int × (Int × (Int × (Int × (Int × (Int × (Int × (Int × (Int × Unit)))))))))))))) ⊕ ((Int × (Int × (Int × (Int × (Int × (Int × (Int × Unit))))))) ⊕ (Int × (Int × (Int × (Int × (Int × (Int × (Int × (Int × (Int × (Int × (Int × (Int × Unit)))))))))))))) :=
  fun (a0, a1, a2, a3, a4, a5, a6, a7, a8, a9, a10, a11, a12, a13, _) =>
  .ite (decide (a0 < (6 : Int))) (
   .grd (decide ((0 : Int) ≤ IntKind.wrap IntKind.i64 ((3 : Int) * a0) ∧ IntKind.wrap IntKind.i64 ((3 : Int) * a0) < (↑(List.length a1) : Int))) (
   .opt (β := (Int × (Bool × Unit))) ((ethDigit_fn ((↑(UInt8.toNat (List.getD a1 (Int.toNat (IntKind.wrap IntKind.i64 ((3 : Int) * a0))) (0 : UInt8))) : Int), ()))) (fun r0 =>
   .grd (decide ((0 : Int) ≤ IntKind.wrap IntKind.i64 (IntKind.wrap IntKind.i64 ((3 : Int) * a0) + (1 : Int)) ∧ IntKind.wrap IntKind.i64 (IntKind.wrap IntKind.i64 ((3 : Int) * a0) + (1 : Int)) < (↑(List.length a1) : Int))) (
   .opt (β := (Int × (Bool × Unit))) ((ethDigit_fn ((↑(UInt8.toNat (List.getD a1 (Int.toNat (IntKind.wrap IntKind.i64 (IntKind.wrap IntKind.i64 ((3 : Int) * a0) + (1 : Int)))) (0 : UInt8))) : Int), ()))) (fun r1 =>
   .ite (!r0.2.1) (
    .ret (Sum.inr (Sum.inl ((10 : Int), ((0 : Int), ((0 : Int), ((0 : Int), ((0 : Int), ((0 : Int), ((0 : Int), ())))))))))) (
    .ite (!r1.2.1) (
     .ret (Sum.inr (Sum.inl ((10 : Int), ((0 : Int), ((0 : Int), ((0 : Int), ((0 : Int), ((0 : Int), ((0 : Int), ())))))))))) (
     .ite (decide (a0 < (5 : Int))) (
      .grd (decide ((0 : Int) ≤ IntKind.wrap IntKind.i64 (IntKind.wrap IntKind.i64 ((3 : Int) * a0) + (2 : Int)) ∧ IntKind.wrap IntKind.i64 (IntKind.wrap IntKind.i64 ((3 : Int) * a0) + (2 : Int)) < (↑(List.length a1) : Int))) (
      .ite (!decide ((↑(UInt8.toNat (List.getD a1 (Int.toNat (IntKind.wrap IntKind.i64 (IntKind.wrap IntKind.i64 ((3 : Int) * a0) + (2 : Int)))) (0 : UInt8))) : Int) = (58 : Int))) (
       .ret (Sum.inr (Sum.inl ((10 : Int), ((0 : Int), ((0 : Int), ((0 : Int), ((0 : Int), ((0 : Int), ((0 : Int), ())))))))))) (
       .grd (true) (
       .ite (decide (a0 = (↑(0 : Nat) : Int))) (
        .ret (Sum.inl (IntKind.wrap IntKind.i64 (a0 + (1 : Int)), (a1, (a2, (a3, (a4, (a5, (a6, (a7, (bits BinOp.or IntKind.u8 (IntKind.wrap IntKind.u8 (r0.1 * (2 : Int) ^ (4 : Nat))) r1.1, (a9, (a10, (a11, (a12, (a13, ())))))))))))))))) (
        .ite (decide (a0 = (↑((0 : Nat) + (1 : Nat)) : Int))) (
         .ret (Sum.inl (IntKind.wrap IntKind.i64 (a0 + (1 : Int)), (a1, (a2, (a3, (a4, (a5, (a6, (a7, (a8, (bits BinOp.or IntKind.u8 (IntKind.wrap IntKind.u8 (r0.1 * (2 : Int) ^ (4 : Nat))) r1.1, (a10, (a11, (a12, (a13, ())))))))))))))))) (
         .ite (decide (a0 = (↑((0 : Nat) + (1 : Nat) + (1 : Nat)) : Int))) (
          .ret (Sum.inl (IntKind.wrap IntKind.i64 (a0 + (1 : Int)), (a1, (a2, (a3, (a4, (a5, (a6, (a7, (a8, (a9, (bits BinOp.or IntKind.u8 (IntKind.wrap IntKind.u8 (r0.1 * (2 : Int) ^ (4 : Nat))) r1.1, (a11, (a12, (a13, ())))))))))))))))) (
          .ite (decide (a0 = (↑((0 : Nat) + (1 : Nat) + (1 : Nat) + (1 : Nat)) : Int))) (
           .ret (Sum.inl (IntKind.wrap IntKind.i64 (a0 + (1 : Int)), (a1, (a2, (a3, (a4, (a5, (a6, (a7, (a8, (a9, (a10, (bits BinOp.or IntKind.u8 (IntKind.wrap IntKind.u8 (r0.1 * (2 : Int) ^ (4 : Nat))) r1.1, (a12, (a13, ())))))))))))))))) (
           .ite (decide (a0 = (↑((0 : Nat) + (1 : Nat) + (1 : Nat) + (1 : Nat) + (1 : Nat)) : Int))) (
            .ret (Sum.inl (IntKind.wrap IntKind.i64 (a0 + (1 : Int)), (a1, (a2, (a3, (a4, (a5, (a6, (a7, (a8, (a9, (a10, (a11, (bits BinOp.or IntKind.u8 (IntKind.wrap IntKind.u8 (r0.1 * (2 : Int) ^ (4 : Nat))) r1.1, (a13, ())))))))))))))))) (
            .ite (decide (a0 = (↑((0 : Nat) + (1 : Nat) + (1 : Nat) + (1 : Nat) + (1 : Nat) + (1 : Nat)) : Int))) (
             .ret (Sum.inl (IntKind.wrap IntKind.i64 (a0 + (1 : Int)), (a1, (a2, (a3, (a4, (a5, (a6, (a7, (a8, (a9, (a10, (a11, (a12, (bits BinOp.or IntKind.u8 (IntKind.wrap IntKind.u8 (r0.1 * (2 : Int) ^ (4 : Nat))) r1.1, ())))))))))))))))) (
             .fail 40)))))))))) (
      .grd (true) (
      .ite (decide (a0 = (↑(0 : Nat) : Int))) (
       .ret (Sum.inl (IntKind.wrap IntKind.i64 (a0 + (1 : Int)), (a1, (a2, (a3, (a4, (a5, (a6, (a7, (bits BinOp.or IntKind.u8 (IntKind.wrap IntKind.u8 (r0.1 * (2 : Int) ^ (4 : Nat))) r1.1, (a9, (a10, (a11, (a12, (a13, ())))))))))))))))) (
       .ite (decide (a0 = (↑((0 : Nat) + (1 : Nat)) : Int))) (
        .ret (Sum.inl (IntKind.wrap IntKind.i64 (a0 + (1 : Int)), (a1, (a2, (a3, (a4, (a5, (a6, (a7, (a8, (bits BinOp.or IntKind.u8 (IntKind.wrap IntKind.u8 (r0.1 * (2 : Int) ^ (4 : Nat))) r1.1, (a10, (a11, (a12, (a13, ())))))))))))))))) (
        .ite (decide (a0 = (↑((0 : Nat) + (1 : Nat) + (1 : Nat)) : Int))) (
         .ret (Sum.inl (IntKind.wrap IntKind.i64 (a0 + (1 : Int)), (a1, (a2, (a3, (a4, (a5, (a6, (a7, (a8, (a9, (bits BinOp.or IntKind.u8 (IntKind.wrap IntKind.u8 (r0.1 * (2 : Int) ^ (4 : Nat))) r1.1, (a11, (a12, (a13, ())))))))))))))))) (
         .ite (decide (a0 = (↑((0 : Nat) + (1 : Nat) + (1 : Nat) + (1 : Nat)) : Int))) (
          .ret (Sum.inl (IntKind.wrap IntKind.i64 (a0 + (1 : Int)), (a1, (a2, (a3, (a4, (a5, (a6, (a7, (a8, (a9, (a10, (bits BinOp.or IntKind.u8 (IntKind.wrap IntKind.u8 (r0.1 * (2 : Int) ^ (4 : Nat))) r1.1, (a12, (a13, ())))))))))))))))) (
          .ite (decide (a0 = (↑((0 : Nat) + (1 : Nat) + (1 : Nat) + (1 : Nat) + (1 : Nat)) : Int))) (
           .ret (Sum.inl (IntKind.wrap IntKind.i64 (a0 + (1 : Int)), (a1, (a2, (a3, (a4, (a5, (a6, (a7, (a8, (a9, (a10, (a11, (bits BinOp.or IntKind.u8 (IntKind.wrap IntKind.u8 (r0.1 * (2 : Int) ^ (4 : Nat))) r1.1, (a13, ())))))))))))))))) (
           .ite (decide (a0 = (↑((0 : Nat) + (1 : Nat) + (1 : Nat) + (1 : Nat) + (1 : Nat) + (1 : Nat)) : Int))) (
            .ret (Sum.inl (IntKind.wrap IntKind.i64 (a0 + (1 : Int)), (a1, (a2, (a3, (a4, (a5, (a6, (a7, (a8, (a9, (a10, (a11, (a12, (bits BinOp.or IntKind.u8 (IntKind.wrap IntKind.u8 (r0.1 * (2 : Int) ^ (4 : Nat))) r1.1, ())))))))))))))))) (
            .fail 40))))))))))))))) (
   .ret (Sum.inr (Sum.inr (a2, (a3, (a4, (a5, (a6, (a7, (a8, (a9, (a10, (a11, (a12, (a13, ())))))))))))))))
def ethParse_loop23_5 (x : (Int × ((List UInt8) × (Int × (Int × (Int × (Int × (Int × (Int × (Int × (Int × (Int × (Int × (Int × (Int × Unit))))))))))))))) : Option ((Int × (Int × (Int × (Int × (Int × (Int × (Int × Unit))))))) ⊕ (Int × (Int × (Int × (Int × (Int × (Int × (Int × (Int × (Int × (Int × (Int × (Int × Unit))))))))))))) := loopO 230005 (fun x => (ethParse_step23_5 x).eval) 18446744073709551616 x
def ethParse_ap : List VP1 := [.one (.s)]
def ethParse_rp : SP := ⟨1, [(0, .tup [.agg [.i .u8, .i .u8, .i .u8, .i .u8, .i .u8, .i .u8], .one (.i .i64)])], []⟩
def ethParse_tree : ((List UInt8) × Unit) → Tr (Int × (Int × (Int × (Int × (Int × (Int × (Int × Unit))))))) :=
  fun (a0, _) =>
  .ite (!decide ((↑(List.length a0) : Int) = (17 : Int))) (
   .ret ((0 : Int), ((0 : Int), ((0 : Int), ((0 : Int), ((0 : Int), ((0 : Int), ((10 : Int), ())))))))) (
   .opt (β := ((Int × (Int × (Int × (Int × (Int × (Int × (Int × Unit))))))) ⊕ (Int × (Int × (Int × (Int × (Int × (Int × (Int × (Int × (Int × (Int × (Int × (Int × Unit)))))))))))))) ((ethParse_loop23_5 ((0 : Int), (a0, ((0 : Int), ((0 : Int), ((0 : Int), ((0 : Int), ((0 : Int), ((0 : Int), ((0 : Int), ((0 : Int), ((0 : Int), ((0 : Int), ((0 : Int), ((0 : Int), ())))))))))))))))) (fun r0 =>
   .sum (β := (Int × (Int × (Int × (Int × (Int × (Int × (Int × Unit)))))))) (γ := (Int × (Int × (Int × (Int × (Int × (Int × (Int × (Int × (Int × (Int × (Int × (Int × Unit))))))))))))) (r0) (fun r1 =>
    .ret (r1.2.1, (r1.2.2.1, (r1.2.2.2.1, (r1.2.2.2.2.1, (r1.2.2.2.2.2.1, (r1.2.2.2.2.2.2.1, (r1.1, ())))))))) (fun r1 =>
    .ret (r1.2.2.2.2.2.2.1, (r1.2.2.2.2.2.2.2.1, (r1.2.2.2.2.2.2.2.2.1, (r1.2.2.2.2.2.2.2.2.2.1, (r1.2.2.2.2.2.2.2.2.2.2.1, (r1.2.2.2.2.2.2.2.2.2.2.2.1, ((0 : Int), ()))))))))))
theorem ethParse_eq (x : ((List UInt8) × Unit)) : fnTr Try.prog cod [FS.pf ethWrite, FS.pf ethRead, FS.pf ethLives, FS.pf ethRest, FS.pf ethShow, FS.pf ethDigit] [(23, ethParse_L23_5)] 30 23 ethParse_ap ethParse_rp x = ethParse_tree x := by kernel_rfl
def ethParse_fn (x : ((List UInt8) × Unit)) : Option (Int × (Int × (Int × (Int × (Int × (Int × (Int × Unit))))))) := (ethParse_tree x).eval
def ethParse : FS Try.prog := ⟨23, ethParse_ap, ethParse_rp, ethParse_fn, fun x r h => fnTr_sound (cod := cod) (Γ := [FS.pf ethWrite, FS.pf ethRead, FS.pf ethLives, FS.pf ethRest, FS.pf ethShow, FS.pf ethDigit]) (Λs := [(23, ethParse_L23_5)]) (n := 30) ((congrArg Tr.eval (ethParse_eq x)).trans h)⟩
def ethBack_ap : List VP1 := [.agg [.i .u8, .i .u8, .i .u8, .i .u8, .i .u8, .i .u8, .i .u8, .i .u8, .i .u8, .i .u8, .i .u8, .i .u8, .i .i64, .i .i64, .s], .one (.s), .agg [.i .u8, .i .u8, .i .u8, .i .u8, .i .u8, .i .u8]]
def ethBack_rp : SP := ⟨1, [(0, .v (.one (.b)))], []⟩
def ethBack_tree : (Int × (Int × (Int × (Int × (Int × (Int × (Int × (Int × (Int × (Int × (Int × (Int × (Int × (Int × ((List UInt8) × ((List UInt8) × (Int × (Int × (Int × (Int × (Int × (Int × Unit)))))))))))))))))))))) → Tr (Bool × Unit) :=
  fun (a0, a1, a2, a3, a4, a5, a6, a7, a8, a9, a10, a11, a12, a13, a14, a15, a16, a17, a18, a19, a20, a21, _) =>
  .opt (β := ((List UInt8) × (Int × Unit))) ((ethWrite_fn (a0, (a1, (a2, (a3, (a4, (a5, (a6, (a7, (a8, (a9, (a10, (a11, (a12, (a13, (a14, ()))))))))))))))))) (fun r0 =>
  .ite (decide (r0.2.1 = (0 : Int))) (
   .opt (β := (Int × (Int × (Int × (Int × (Int × (Int × (Int × (Int × (Int × (Int × (Int × (Int × (Int × (Int × ((List UInt8) × (Int × Unit))))))))))))))))) ((ethRead_fn (r0.1, ()))) (fun r1 =>
   .ite (!decide (r1.2.2.2.2.2.2.2.2.2.2.2.2.2.2.2.1 = (0 : Int))) (
    .ret (false, ())) (
    .ite (!(decide (r1.1 = a0) && (decide (r1.2.1 = a1) && (decide (r1.2.2.1 = a2) && (decide (r1.2.2.2.1 = a3) && (decide (r1.2.2.2.2.1 = a4) && (decide (r1.2.2.2.2.2.1 = a5) && true))))) && (decide (r1.2.2.2.2.2.2.1 = a6) && (decide (r1.2.2.2.2.2.2.2.1 = a7) && (decide (r1.2.2.2.2.2.2.2.2.1 = a8) && (decide (r1.2.2.2.2.2.2.2.2.2.1 = a9) && (decide (r1.2.2.2.2.2.2.2.2.2.2.1 = a10) && (decide (r1.2.2.2.2.2.2.2.2.2.2.2.1 = a11) && true))))) && (decide (r1.2.2.2.2.2.2.2.2.2.2.2.2.1 = a12) && (decide (r1.2.2.2.2.2.2.2.2.2.2.2.2.2.1 = a13) && (decide (r1.2.2.2.2.2.2.2.2.2.2.2.2.2.2.1 = a14) && true)))))) (
     .ret (false, ())) (
     .opt (β := (Int × (Int × (Int × (Int × (Int × (Int × (Int × (Int × (Int × (Int × (Int × (Int × (Int × (Int × ((List UInt8) × (Int × Unit))))))))))))))))) ((ethRead_fn (a15, ()))) (fun r2 =>
     .ite (decide (r2.2.2.2.2.2.2.2.2.2.2.2.2.2.2.2.1 = (0 : Int))) (
      .opt (β := ((List UInt8) × (Int × Unit))) ((ethWrite_fn (r2.1, (r2.2.1, (r2.2.2.1, (r2.2.2.2.1, (r2.2.2.2.2.1, (r2.2.2.2.2.2.1, (r2.2.2.2.2.2.2.1, (r2.2.2.2.2.2.2.2.1, (r2.2.2.2.2.2.2.2.2.1, (r2.2.2.2.2.2.2.2.2.2.1, (r2.2.2.2.2.2.2.2.2.2.2.1, (r2.2.2.2.2.2.2.2.2.2.2.2.1, (r2.2.2.2.2.2.2.2.2.2.2.2.2.1, (r2.2.2.2.2.2.2.2.2.2.2.2.2.2.1, (r2.2.2.2.2.2.2.2.2.2.2.2.2.2.2.1, ()))))))))))))))))) (fun r3 =>
      .ite (!decide (r3.2.1 = (0 : Int))) (
       .ret (false, ())) (
       .ite (!decide (r3.1 = a15)) (
        .ret (false, ())) (
        .opt (β := ((List UInt8) × Unit)) ((ethShow_fn (a16, (a17, (a18, (a19, (a20, (a21, ())))))))) (fun r4 =>
        .opt (β := (Int × (Int × (Int × (Int × (Int × (Int × (Int × Unit)))))))) ((ethParse_fn (r4.1, ()))) (fun r5 =>
        .opt (β := (Int × (Int × (Int × (Int × (Int × (Int × (Int × Unit)))))))) ((ethParse_fn (a15, ()))) (fun r6 =>
        .ite (decide (r6.2.2.2.2.2.2.1 = (0 : Int))) (
         .opt (β := ((List UInt8) × Unit)) ((ethShow_fn (r6.1, (r6.2.1, (r6.2.2.1, (r6.2.2.2.1, (r6.2.2.2.2.1, (r6.2.2.2.2.2.1, ())))))))) (fun r7 =>
         .ite (!decide (r7.1 = a15)) (
          .ret (false, ())) (
          .opt (β := (Bool × Unit)) ((ethLives_fn ())) (fun r8 =>
          .ite (r8.1) (
           .ite (decide (r5.2.2.2.2.2.2.1 = (0 : Int))) (
            .ret (decide (r5.1 = a16) && (decide (r5.2.1 = a17) && (decide (r5.2.2.1 = a18) && (decide (r5.2.2.2.1 = a19) && (decide (r5.2.2.2.2.1 = a20) && (decide (r5.2.2.2.2.2.1 = a21) && true))))), ())) (
            .ret (false, ()))) (
           .ret (false, ())))))) (
         .opt (β := (Bool × Unit)) ((ethLives_fn ())) (fun r7 =>
         .ite (r7.1) (
          .ite (decide (r5.2.2.2.2.2.2.1 = (0 : Int))) (
           .ret (decide (r5.1 = a16) && (decide (r5.2.1 = a17) && (decide (r5.2.2.1 = a18) && (decide (r5.2.2.2.1 = a19) && (decide (r5.2.2.2.2.1 = a20) && (decide (r5.2.2.2.2.2.1 = a21) && true))))), ())) (
           .ret (false, ()))) (
          .ret (false, ()))))))))))) (
      .opt (β := ((List UInt8) × Unit)) ((ethShow_fn (a16, (a17, (a18, (a19, (a20, (a21, ())))))))) (fun r3 =>
      .opt (β := (Int × (Int × (Int × (Int × (Int × (Int × (Int × Unit)))))))) ((ethParse_fn (r3.1, ()))) (fun r4 =>
      .opt (β := (Int × (Int × (Int × (Int × (Int × (Int × (Int × Unit)))))))) ((ethParse_fn (a15, ()))) (fun r5 =>
      .ite (decide (r5.2.2.2.2.2.2.1 = (0 : Int))) (
       .opt (β := ((List UInt8) × Unit)) ((ethShow_fn (r5.1, (r5.2.1, (r5.2.2.1, (r5.2.2.2.1, (r5.2.2.2.2.1, (r5.2.2.2.2.2.1, ())))))))) (fun r6 =>
       .ite (!decide (r6.1 = a15)) (
        .ret (false, ())) (
        .opt (β := (Bool × Unit)) ((ethLives_fn ())) (fun r7 =>
        .ite (r7.1) (
         .ite (decide (r4.2.2.2.2.2.2.1 = (0 : Int))) (
          .ret (decide (r4.1 = a16) && (decide (r4.2.1 = a17) && (decide (r4.2.2.1 = a18) && (decide (r4.2.2.2.1 = a19) && (decide (r4.2.2.2.2.1 = a20) && (decide (r4.2.2.2.2.2.1 = a21) && true))))), ())) (
          .ret (false, ()))) (
         .ret (false, ())))))) (
       .opt (β := (Bool × Unit)) ((ethLives_fn ())) (fun r6 =>
       .ite (r6.1) (
        .ite (decide (r4.2.2.2.2.2.2.1 = (0 : Int))) (
         .ret (decide (r4.1 = a16) && (decide (r4.2.1 = a17) && (decide (r4.2.2.1 = a18) && (decide (r4.2.2.2.1 = a19) && (decide (r4.2.2.2.2.1 = a20) && (decide (r4.2.2.2.2.2.1 = a21) && true))))), ())) (
         .ret (false, ()))) (
        .ret (false, ()))))))))))))) (
   .opt (β := (Int × (Int × (Int × (Int × (Int × (Int × (Int × (Int × (Int × (Int × (Int × (Int × (Int × (Int × ((List UInt8) × (Int × Unit))))))))))))))))) ((ethRead_fn (a15, ()))) (fun r1 =>
   .ite (decide (r1.2.2.2.2.2.2.2.2.2.2.2.2.2.2.2.1 = (0 : Int))) (
    .opt (β := ((List UInt8) × (Int × Unit))) ((ethWrite_fn (r1.1, (r1.2.1, (r1.2.2.1, (r1.2.2.2.1, (r1.2.2.2.2.1, (r1.2.2.2.2.2.1, (r1.2.2.2.2.2.2.1, (r1.2.2.2.2.2.2.2.1, (r1.2.2.2.2.2.2.2.2.1, (r1.2.2.2.2.2.2.2.2.2.1, (r1.2.2.2.2.2.2.2.2.2.2.1, (r1.2.2.2.2.2.2.2.2.2.2.2.1, (r1.2.2.2.2.2.2.2.2.2.2.2.2.1, (r1.2.2.2.2.2.2.2.2.2.2.2.2.2.1, (r1.2.2.2.2.2.2.2.2.2.2.2.2.2.2.1, ()))))))))))))))))) (fun r2 =>
    .ite (!decide (r2.2.1 = (0 : Int))) (
     .ret (false, ())) (
     .ite (!decide (r2.1 = a15)) (
      .ret (false, ())) (
      .opt (β := ((List UInt8) × Unit)) ((ethShow_fn (a16, (a17, (a18, (a19, (a20, (a21, ())))))))) (fun r3 =>
      .opt (β := (Int × (Int × (Int × (Int × (Int × (Int × (Int × Unit)))))))) ((ethParse_fn (r3.1, ()))) (fun r4 =>
      .opt (β := (Int × (Int × (Int × (Int × (Int × (Int × (Int × Unit)))))))) ((ethParse_fn (a15, ()))) (fun r5 =>
      .ite (decide (r5.2.2.2.2.2.2.1 = (0 : Int))) (
       .opt (β := ((List UInt8) × Unit)) ((ethShow_fn (r5.1, (r5.2.1, (r5.2.2.1, (r5.2.2.2.1, (r5.2.2.2.2.1, (r5.2.2.2.2.2.1, ())))))))) (fun r6 =>
       .ite (!decide (r6.1 = a15)) (
        .ret (false, ())) (
        .opt (β := (Bool × Unit)) ((ethLives_fn ())) (fun r7 =>
        .ite (r7.1) (
         .ite (decide (r4.2.2.2.2.2.2.1 = (0 : Int))) (
          .ret (decide (r4.1 = a16) && (decide (r4.2.1 = a17) && (decide (r4.2.2.1 = a18) && (decide (r4.2.2.2.1 = a19) && (decide (r4.2.2.2.2.1 = a20) && (decide (r4.2.2.2.2.2.1 = a21) && true))))), ())) (
          .ret (false, ()))) (
         .ret (false, ())))))) (
       .opt (β := (Bool × Unit)) ((ethLives_fn ())) (fun r6 =>
       .ite (r6.1) (
        .ite (decide (r4.2.2.2.2.2.2.1 = (0 : Int))) (
         .ret (decide (r4.1 = a16) && (decide (r4.2.1 = a17) && (decide (r4.2.2.1 = a18) && (decide (r4.2.2.2.1 = a19) && (decide (r4.2.2.2.2.1 = a20) && (decide (r4.2.2.2.2.2.1 = a21) && true))))), ())) (
         .ret (false, ()))) (
        .ret (false, ()))))))))))) (
    .opt (β := ((List UInt8) × Unit)) ((ethShow_fn (a16, (a17, (a18, (a19, (a20, (a21, ())))))))) (fun r2 =>
    .opt (β := (Int × (Int × (Int × (Int × (Int × (Int × (Int × Unit)))))))) ((ethParse_fn (r2.1, ()))) (fun r3 =>
    .opt (β := (Int × (Int × (Int × (Int × (Int × (Int × (Int × Unit)))))))) ((ethParse_fn (a15, ()))) (fun r4 =>
    .ite (decide (r4.2.2.2.2.2.2.1 = (0 : Int))) (
     .opt (β := ((List UInt8) × Unit)) ((ethShow_fn (r4.1, (r4.2.1, (r4.2.2.1, (r4.2.2.2.1, (r4.2.2.2.2.1, (r4.2.2.2.2.2.1, ())))))))) (fun r5 =>
     .ite (!decide (r5.1 = a15)) (
      .ret (false, ())) (
      .opt (β := (Bool × Unit)) ((ethLives_fn ())) (fun r6 =>
      .ite (r6.1) (
       .ite (decide (r3.2.2.2.2.2.2.1 = (0 : Int))) (
        .ret (decide (r3.1 = a16) && (decide (r3.2.1 = a17) && (decide (r3.2.2.1 = a18) && (decide (r3.2.2.2.1 = a19) && (decide (r3.2.2.2.2.1 = a20) && (decide (r3.2.2.2.2.2.1 = a21) && true))))), ())) (
        .ret (false, ()))) (
       .ret (false, ())))))) (
     .opt (β := (Bool × Unit)) ((ethLives_fn ())) (fun r5 =>
     .ite (r5.1) (
      .ite (decide (r3.2.2.2.2.2.2.1 = (0 : Int))) (
       .ret (decide (r3.1 = a16) && (decide (r3.2.1 = a17) && (decide (r3.2.2.1 = a18) && (decide (r3.2.2.2.1 = a19) && (decide (r3.2.2.2.2.1 = a20) && (decide (r3.2.2.2.2.2.1 = a21) && true))))), ())) (
       .ret (false, ()))) (
      .ret (false, ())))))))))))
theorem ethBack_eq (x : (Int × (Int × (Int × (Int × (Int × (Int × (Int × (Int × (Int × (Int × (Int × (Int × (Int × (Int × ((List UInt8) × ((List UInt8) × (Int × (Int × (Int × (Int × (Int × (Int × Unit))))))))))))))))))))))) : fnTr Try.prog cod [FS.pf ethWrite, FS.pf ethRead, FS.pf ethLives, FS.pf ethRest, FS.pf ethShow, FS.pf ethDigit, FS.pf ethParse] [] 30 9 ethBack_ap ethBack_rp x = ethBack_tree x := by kernel_rfl
def ethBack_fn (x : (Int × (Int × (Int × (Int × (Int × (Int × (Int × (Int × (Int × (Int × (Int × (Int × (Int × (Int × ((List UInt8) × ((List UInt8) × (Int × (Int × (Int × (Int × (Int × (Int × Unit))))))))))))))))))))))) : Option (Bool × Unit) := (ethBack_tree x).eval
def ethBack : FS Try.prog := ⟨9, ethBack_ap, ethBack_rp, ethBack_fn, fun x r h => fnTr_sound (cod := cod) (Γ := [FS.pf ethWrite, FS.pf ethRead, FS.pf ethLives, FS.pf ethRest, FS.pf ethShow, FS.pf ethDigit, FS.pf ethParse]) (Λs := []) (n := 30) ((congrArg Tr.eval (ethBack_eq x)).trans h)⟩
end Go.Proofs.Ytmnbhoklphakjaa.X
