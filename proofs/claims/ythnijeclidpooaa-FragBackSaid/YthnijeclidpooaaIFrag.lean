/- Functions of the program, as trees (printed by a program of mine: tool/XTool, xg.py), each with the proof that the machine comes to what its tree says. Conditions: none. -/
import Derived.Test.YthnijeclidpooaaCod
import Derived.KernelRfl
import Derived.Test.YthnijeclidpooaaHFrag
import Derived.Test.YthnijeclidpooaaBuildP
import Derived.Test.YthnijeclidpooaaBuildP
import Derived.Test.YthnijeclidpooaaBuildP
namespace Go.Proofs.Ythnijeclidpooaa.X
open Go Go.RowKit Go.Proofs.Ythnijeclidpooaa.Abs
set_option maxRecDepth 100000
set_option linter.unusedVariables false
def fWhole_L62_3 : LS := ⟨3, [(4, 4), (1, 1), (950004, 950004)], ⟨32, [(10, .v (.one (.i .i64))), (4, .v (.one (.ptr 4 0))), (8, .v (.one (.st 5 false))), (1, .v (.one (.ptr 1 0))), (9, .v (.one (.i .i64)))], [(4, .bx 146 950004), (1, .cells [.i .u32, .i .u32, .i .i64, .i .i64, .i .i64, .i .i64, .s, .st 5 false]), (950004, .buf 5)]⟩, [⟨none, [], ⟨32, [(2, .v (.one (.s))), (3, .v (.one (.b)))], []⟩⟩, ⟨some 0, [(1, 1), (4, 4), (950004, 950004)], ⟨32, [(1, .v (.one (.ptr 1 0))), (4, .v (.one (.ptr 4 0)))], [(1, .cells [.i .u32, .i .u32, .i .i64, .i .i64, .i .i64, .i .i64, .s, .st 5 false]), (4, .bx 146 950004), (950004, .buf 5)]⟩⟩], []⟩
def fWhole_step62_3 : (Int × ((List TPart) × (Int × (Int × (Int × (Int × (Int × (Int × (Int × ((List UInt8) × ((List TPart) × ((List UInt8) × Unit)))))))))))) → Tr ((Int × ((List TPart) × (Int × (Int × (Int × (Int × (Int × (Int × (Int × ((List UInt8) × ((List TPart) × ((List UInt8) × Unit)))))))))))) ⊕ (((List UInt8) × (Bool × Unit)) ⊕ (Int × (Int × (Int × (Int × (Int × (Int × ((List UInt8) × ((List TPart) × ((List UInt8) × Unit))))))))))) :=
  fun (a0, a1, a2, a3, a4, a5, a6, a7, a8, a9, a10, a11, _) =>
  .ite (decide (a0 < a2)) (
   .grd (decide ((0 : Int) ≤ a0)) (
   .opt (β := TPart) (a1[Int.toNat a0]?) (fun r0 =>
   .ite (!decide (r0.at' = (↑(List.length a11) : Int))) (
    .ret (Sum.inr (Sum.inl ([], (false, ()))))) (
    .grd (decide (blen a11 r0.data ≤ (140737488355328 : Nat))) (
    .ret (Sum.inl (IntKind.wrap IntKind.i64 (a0 + (1 : Int)), (a1, (a2, (a3, (a4, (a5, (a6, (a7, (a8, (a9, (a10, (bcat a11 r0.data, ())))))))))))))))))) (
   .ret (Sum.inr (Sum.inr (a3, (a4, (a5, (a6, (a7, (a8, (a9, (a10, (a11, ()))))))))))))
def fWhole_loop62_3 (x : (Int × ((List TPart) × (Int × (Int × (Int × (Int × (Int × (Int × (Int × ((List UInt8) × ((List TPart) × ((List UInt8) × Unit))))))))))))) : Option (((List UInt8) × (Bool × Unit)) ⊕ (Int × (Int × (Int × (Int × (Int × (Int × ((List UInt8) × ((List TPart) × ((List UInt8) × Unit)))))))))) := loopO 620003 (fun x => (fWhole_step62_3 x).eval) 18446744073709551616 x
def fWhole_ap : List VP1 := [.agg [.i .u32, .i .u32, .i .i64, .i .i64, .i .i64, .i .i64, .s, .st 5 false]]
def fWhole_rp : SP := ⟨1, [(0, .tup [.one (.s), .one (.b)])], []⟩
def fWhole_tree : (Int × (Int × (Int × (Int × (Int × (Int × ((List UInt8) × ((List TPart) × Unit)))))))) → Tr ((List UInt8) × (Bool × Unit)) :=
  fun (a0, a1, a2, a3, a4, a5, a6, a7, _) =>
  .opt (β := (((List UInt8) × (Bool × Unit)) ⊕ (Int × (Int × (Int × (Int × (Int × (Int × ((List UInt8) × ((List TPart) × ((List UInt8) × Unit))))))))))) ((fWhole_loop62_3 ((0 : Int), (a7, ((↑(List.length a7) : Int), (a0, (a1, (a2, (a3, (a4, (a5, (a6, (a7, ([], ())))))))))))))) (fun r0 =>
  .sum (β := ((List UInt8) × (Bool × Unit))) (γ := (Int × (Int × (Int × (Int × (Int × (Int × ((List UInt8) × ((List TPart) × ((List UInt8) × Unit)))))))))) (r0) (fun r1 =>
   .ret (r1.1, (r1.2.1, ()))) (fun r1 =>
   .grd (decide ((0 : Int) ≤ IntKind.wrap IntKind.i64 ((↑(List.length r1.2.2.2.2.2.2.2.1) : Int) - (1 : Int)))) (
   .opt (β := TPart) (r1.2.2.2.2.2.2.2.1[Int.toNat (IntKind.wrap IntKind.i64 ((↑(List.length r1.2.2.2.2.2.2.2.1) : Int) - (1 : Int)))]?) (fun r2 =>
   .ret (r1.2.2.2.2.2.2.2.2.1, (r2.last, ()))))))
theorem fWhole_eq (x : (Int × (Int × (Int × (Int × (Int × (Int × ((List UInt8) × ((List TPart) × Unit))))))))) : fnTr Try.prog cod [FS.pf sumFold, FS.pf sumAdd, FS.pf sumOf, FS.pf ipByt, FS.pf ipRefused, FS.pf ipWord, FS.pf ipLong, FS.pf ipWrite, FS.pf fragSplit, FS.pf fragLives, FS.pf fEnd, FS.pf fRightPart, FS.pf fSameKey, FS.pf fRightHeap, FS.pf fCheck, FS.pf fRefused, clParts, GS.pf fOwn, GS.pf fDel, pfIns, GS.pf fPut, bWritePF, bStringPF, bLenPF] [(62, fWhole_L62_3)] 30 62 fWhole_ap fWhole_rp x = fWhole_tree x := by kernel_rfl
def fWhole_fn (x : (Int × (Int × (Int × (Int × (Int × (Int × ((List UInt8) × ((List TPart) × Unit))))))))) : Option ((List UInt8) × (Bool × Unit)) := (fWhole_tree x).eval
def fWhole : FS Try.prog := ⟨62, fWhole_ap, fWhole_rp, fWhole_fn, fun x r h => fnTr_sound (cod := cod) (Γ := [FS.pf sumFold, FS.pf sumAdd, FS.pf sumOf, FS.pf ipByt, FS.pf ipRefused, FS.pf ipWord, FS.pf ipLong, FS.pf ipWrite, FS.pf fragSplit, FS.pf fragLives, FS.pf fEnd, FS.pf fRightPart, FS.pf fSameKey, FS.pf fRightHeap, FS.pf fCheck, FS.pf fRefused, clParts, GS.pf fOwn, GS.pf fDel, pfIns, GS.pf fPut, bWritePF, bStringPF, bLenPF]) (Λs := [(62, fWhole_L62_3)]) (n := 30) ((congrArg Tr.eval (fWhole_eq x)).trans h)⟩
end Go.Proofs.Ythnijeclidpooaa.X
