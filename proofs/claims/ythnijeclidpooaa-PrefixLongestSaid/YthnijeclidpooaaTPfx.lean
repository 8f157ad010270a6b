/- Functions of the program, as trees (printed by a program of mine: tool/XTool, xg.py), each with the proof that the machine comes to what its tree says. Conditions: none. -/
import Derived.Test.YthnijeclidpooaaCod
import Derived.KernelRfl
import Derived.Test.YthnijeclidpooaaPfxT
namespace Go.Proofs.Ythnijeclidpooaa.X
open Go Go.RowKit Go.Proofs.Ythnijeclidpooaa.Abs
set_option maxRecDepth 100000
set_option linter.unusedVariables false
def allGo_ap : SP := ⟨58, [(0, .v (.one (.tr))), (1, .v (.agg [.i .u32, .i .i64])), (2, .v (.one (.ptr 1000002 0))), (3, .v (.one (.ptr 1000003 0))), (4, .v (.one (.ptr 1000004 0)))], [(1000002, .cells [.own 1000100]), (1000003, .cells [.own 1000101]), (1000004, .cells [.clp 47 [(1000002, 0), (1000003, 0), (1000004, 0)]]), (1000100, .row 52 21 true true), (1000101, .row 3 0 true true)]⟩
def allGo_rp : SP := ⟨1, [(0, .tup [])], [(1000002, .cells [.own 1000100]), (1000003, .cells [.own 1000101]), (1000004, .cells [.clp 47 [(1000002, 0), (1000003, 0), (1000004, 0)]]), (1000100, .row 52 21 true true), (1000101, .row 3 0 true true)]⟩
def allGo_tree (allGo_stub_fn : (TT × (Int × (Int × ((List TNet) × ((List Int) × Unit))))) → Option ((List TNet) × ((List Int) × Unit))) : (TT × (Int × (Int × ((List TNet) × ((List Int) × Unit))))) → Tr ((List TNet) × ((List Int) × Unit)) :=
  fun (a0, a1, a2, a3, a4, _) =>
  .ite (TT.isNil a0) (
   .grd (decide (List.length a3 = List.length a3)) (
   .grd (decide (List.length a4 = List.length a4)) (
   .ret (a3, (a4, ()))))) (
   .grd (!TT.isNil a0) (
   .ite (TT.on a0) (
    .grd (decide ((List.length a3 + List.length [TNet.mk a1 a2]) * (16 : Nat) ≤ (140737488355328 : Nat) ∧ List.length a3 + List.length [TNet.mk a1 a2] ≤ (9223372036854775807 : Nat))) (
    .grd (!TT.isNil a0) (
    .grd (decide ((List.length a4 + List.length [TT.val a0]) * (8 : Nat) ≤ (140737488355328 : Nat) ∧ List.length a4 + List.length [TT.val a0] ≤ (9223372036854775807 : Nat))) (
    .grd (!TT.isNil a0) (
    .grd (decide (List.length (a3 ++ [TNet.mk a1 a2]) = List.length (a3 ++ [TNet.mk a1 a2]))) (
    .grd (decide (List.length (a4 ++ [TT.val a0]) = List.length (a4 ++ [TT.val a0]))) (
    .opt (β := ((List TNet) × ((List Int) × Unit))) ((allGo_stub_fn (TT.left a0, (a1, (IntKind.wrap IntKind.i64 (a2 + (1 : Int)), (a3 ++ [TNet.mk a1 a2], (a4 ++ [TT.val a0], ()))))))) (fun r0 =>
    .grd (!TT.isNil a0) (
    .ite (!TT.isNil (TT.right a0)) (
     .grd (decide ((0 : Int) ≤ IntKind.wrap IntKind.i64 ((32 : Int) - IntKind.wrap IntKind.i64 (a2 + (1 : Int))))) (
     .grd (!TT.isNil a0) (
     .grd (decide (List.length r0.fst = List.length r0.1)) (
     .grd (decide (List.length r0.2.fst = List.length r0.2.1)) (
     .opt (β := ((List TNet) × ((List Int) × Unit))) ((allGo_stub_fn (TT.right a0, (bits BinOp.or IntKind.u32 a1 (IntKind.wrap IntKind.u32 ((1 : Int) * (2 : Int) ^ min (Int.toNat (IntKind.wrap IntKind.i64 ((32 : Int) - IntKind.wrap IntKind.i64 (a2 + (1 : Int))))) (32 : Nat))), (IntKind.wrap IntKind.i64 (a2 + (1 : Int)), (r0.1, (r0.2.1, ()))))))) (fun r1 =>
     .grd (decide (List.length r1.fst = List.length r1.1)) (
     .grd (decide (List.length r1.2.fst = List.length r1.2.1)) (
     .ret (r1.1, (r1.2.1, ())))))))))) (
     .grd (decide (List.length r0.fst = List.length r0.1)) (
     .grd (decide (List.length r0.2.fst = List.length r0.2.1)) (
     .ret (r0.1, (r0.2.1, ())))))))))))))) (
    .grd (!TT.isNil a0) (
    .grd (decide (List.length a3 = List.length a3)) (
    .grd (decide (List.length a4 = List.length a4)) (
    .opt (β := ((List TNet) × ((List Int) × Unit))) ((allGo_stub_fn (TT.left a0, (a1, (IntKind.wrap IntKind.i64 (a2 + (1 : Int)), (a3, (a4, ()))))))) (fun r0 =>
    .grd (!TT.isNil a0) (
    .ite (!TT.isNil (TT.right a0)) (
     .grd (decide ((0 : Int) ≤ IntKind.wrap IntKind.i64 ((32 : Int) - IntKind.wrap IntKind.i64 (a2 + (1 : Int))))) (
     .grd (!TT.isNil a0) (
     .grd (decide (List.length r0.fst = List.length r0.1)) (
     .grd (decide (List.length r0.2.fst = List.length r0.2.1)) (
     .opt (β := ((List TNet) × ((List Int) × Unit))) ((allGo_stub_fn (TT.right a0, (bits BinOp.or IntKind.u32 a1 (IntKind.wrap IntKind.u32 ((1 : Int) * (2 : Int) ^ min (Int.toNat (IntKind.wrap IntKind.i64 ((32 : Int) - IntKind.wrap IntKind.i64 (a2 + (1 : Int))))) (32 : Nat))), (IntKind.wrap IntKind.i64 (a2 + (1 : Int)), (r0.1, (r0.2.1, ()))))))) (fun r1 =>
     .grd (decide (List.length r1.fst = List.length r1.1)) (
     .grd (decide (List.length r1.2.fst = List.length r1.2.1)) (
     .ret (r1.1, (r1.2.1, ())))))))))) (
     .grd (decide (List.length r0.fst = List.length r0.1)) (
     .grd (decide (List.length r0.2.fst = List.length r0.2.1)) (
     .ret (r0.1, (r0.2.1, ())))))))))))))
theorem allGo_eq (g : (TT × (Int × (Int × ((List TNet) × ((List Int) × Unit))))) → Option ((List TNet) × ((List Int) × Unit))) (ok : ∀ (x : (TT × (Int × (Int × ((List TNet) × ((List Int) × Unit)))))) (r : ((List TNet) × ((List Int) × Unit))), g x = some r → ∀ (ys : List V) (m : Mem) (o : Ob), entryGet allGo_ap ys m = some (o, x) → ObOk (SP.len allGo_ap x) o → ACall Try.prog 47 ys m fun r' m' => r' = (SP.put allGo_rp r).get 0 ∧ m' = (SP.put allGo_rp r).mem) (x : (TT × (Int × (Int × ((List TNet) × ((List Int) × Unit)))))) : gsTr Try.prog cod [GS.pf (⟨47, [0, 0, 1, 1, 1], allGo_ap, allGo_rp, g, ok⟩ : GS Try.prog), pfRead] [] 30 47 allGo_ap allGo_rp x = allGo_tree g x := by kernel_rfl
def allGo_at : Nat → Subtype (fun g : (TT × (Int × (Int × ((List TNet) × ((List Int) × Unit))))) → Option ((List TNet) × ((List Int) × Unit)) => ∀ (x : (TT × (Int × (Int × ((List TNet) × ((List Int) × Unit)))))) (r : ((List TNet) × ((List Int) × Unit))), g x = some r → ∀ (ys : List V) (m : Mem) (o : Ob), entryGet allGo_ap ys m = some (o, x) → ObOk (SP.len allGo_ap x) o → ACall Try.prog 47 ys m fun r' m' => r' = (SP.put allGo_rp r).get 0 ∧ m' = (SP.put allGo_rp r).mem)
  | 0 => ⟨fun _ => none, fun x r h => by cases h⟩
  | n + 1 => ⟨fun x => (allGo_tree (allGo_at n).1 x).eval, fun x r h ys m o he ho => gs_sound (cod := cod) (Γ := [GS.pf (⟨47, [0, 0, 1, 1, 1], allGo_ap, allGo_rp, (allGo_at n).1, (allGo_at n).2⟩ : GS Try.prog), pfRead]) (Λs := []) (n := 30) ((congrArg Tr.eval (allGo_eq _ _ x)).trans h) he ho⟩
def allGo_fn (x : (TT × (Int × (Int × ((List TNet) × ((List Int) × Unit)))))) : Option ((List TNet) × ((List Int) × Unit)) := (allGo_at 64).1 x
def allGo : GS Try.prog := ⟨47, [0, 0, 1, 1, 1], allGo_ap, allGo_rp, allGo_fn, (allGo_at 64).2⟩
end Go.Proofs.Ythnijeclidpooaa.X
