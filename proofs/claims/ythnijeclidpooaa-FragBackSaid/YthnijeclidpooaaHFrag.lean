/- Functions of the program, as trees (printed by a program of mine: tool/XTool, xg.py), each with the proof that the machine comes to what its tree says. Conditions: none. -/
import Derived.Test.YthnijeclidpooaaCod
import Derived.KernelRfl
import Derived.Test.YthnijeclidpooaaGFrag
import Derived.Test.YthnijeclidpooaaFragK
namespace Go.Proofs.Ythnijeclidpooaa.X
open Go Go.RowKit Go.Proofs.Ythnijeclidpooaa.Abs
set_option maxRecDepth 100000
set_option linter.unusedVariables false
def fPut_L61_3 : LS := ⟨3, [(3, 3), (5500100, 5500100), (1500100, 1500100)], ⟨80, [(14, .v (.one (.i .i64))), (3, .v (.one (.ptr 3 0))), (12, .v (.one (.own 5500100))), (6, .v (.one (.i .i64))), (0, .v (.one (.dpr 1500100 8 0))), (13, .v (.one (.i .i64)))], [(3, .cells [.i .i64, .s, .b]), (5500100, .row 86 5 true true), (1500100, .deepH 83 86 6 5500100)]⟩, [⟨none, [(1500100, 1500100)], ⟨80, [(4, .v (.one (.b))), (5, .v (.one (.i .i64)))], [(1500100, .deep 83 86 6)]⟩⟩, ⟨some 0, [(3, 3), (1500100, 1500100)], ⟨80, [(3, .v (.one (.ptr 3 0))), (6, .v (.one (.i .i64))), (0, .v (.one (.dpr 1500100 8 0)))], [(3, .cells [.i .i64, .s, .b]), (1500100, .deep 83 86 6)]⟩⟩], []⟩
def fPut_step61_3 : (Int × (Int × (Nat × (Int × (Int × ((List UInt8) × (Bool × ((List TPart) × (Nat × ((List THeap) × Unit)))))))))) → Tr ((Int × (Int × (Nat × (Int × (Int × ((List UInt8) × (Bool × ((List TPart) × (Nat × ((List THeap) × Unit)))))))))) ⊕ ((Bool × (Int × ((List THeap) × Unit))) ⊕ (Int × (Nat × (Int × ((List UInt8) × (Bool × ((List THeap) × Unit)))))))) :=
  fun (a0, a1, a2, a3, a4, a5, a6, a7, a8, a9, _) =>
  .ite (decide (a0 < a3)) (
   .grd (decide ((0 : Int) ≤ a0 ∧ a0 < (↑(List.length a7) : Int))) (
   .opt (β := TPart) (a7[Int.toNat a0]?) (fun r0 =>
   .ite (decide (r0.at' = a4) && (decide (r0.data = a5) && (r0.last == a6 && true))) (
    .ret (Sum.inr (Sum.inl (false, ((0 : Int), (List.modify a9 a8 fun x => THeap.mk x.from' x.to x.proto x.id x.tos x.life x.options a7, ())))))) (
    .opt (β := (Bool × (Nat × (Int × (Int × (Int × (Int × (Int × ((List UInt8) × (Bool × ((List TPart) × (Nat × ((List THeap) × (Int × ((List UInt8) × (Bool × Unit)))))))))))))))) (Tr.eval (α := (Bool × (Nat × (Int × (Int × (Int × (Int × (Int × ((List UInt8) × (Bool × ((List TPart) × (Nat × ((List THeap) × (Int × ((List UInt8) × (Bool × Unit)))))))))))))))) (
      .opt (β := (Int × Unit)) ((fEnd_fn (r0.at', (r0.data, (r0.last, ()))))) (fun r1 =>
      .ite (decide (a4 < r1.1)) (
       .opt (β := (Int × Unit)) ((fEnd_fn (a4, (a5, (a6, ()))))) (fun r2 =>
       .ite (decide (r0.at' < r2.1)) (
        .grd (decide (List.length a7 = List.length a7)) (
        .ret (decide (r0.at' < r2.1), (a2, (a3, (a0, (a0, (a1, (a4, (a5, (a6, (a7, ((a8, some ((5500100 : Nat), vk (5500100 : Nat))).fst, (a9, (r0.at', (r0.data, (r0.last, ()))))))))))))))))) (
        .ite (r0.last) (
         .ite (decide (r0.at' < a4)) (
          .grd (decide (List.length a7 = List.length a7)) (
          .ret (decide (r0.at' < a4), (a2, (a3, (a0, (a0, (a1, (a4, (a5, (a6, (a7, ((a8, some ((5500100 : Nat), vk (5500100 : Nat))).fst, (a9, (r0.at', (r0.data, (r0.last, ()))))))))))))))))) (
          .ite (a6) (
           .grd (decide (List.length a7 = List.length a7)) (
           .ret (decide (a4 < r0.at'), (a2, (a3, (a0, (a0, (a1, (a4, (a5, (a6, (a7, ((a8, some ((5500100 : Nat), vk (5500100 : Nat))).fst, (a9, (r0.at', (r0.data, (r0.last, ()))))))))))))))))) (
           .grd (decide (List.length a7 = List.length a7)) (
           .ret (false, (a2, (a3, (a0, (a0, (a1, (a4, (a5, (a6, (a7, ((a8, some ((5500100 : Nat), vk (5500100 : Nat))).fst, (a9, (r0.at', (r0.data, (r0.last, ()))))))))))))))))))) (
         .ite (a6) (
          .grd (decide (List.length a7 = List.length a7)) (
          .ret (decide (a4 < r0.at'), (a2, (a3, (a0, (a0, (a1, (a4, (a5, (a6, (a7, ((a8, some ((5500100 : Nat), vk (5500100 : Nat))).fst, (a9, (r0.at', (r0.data, (r0.last, ()))))))))))))))))) (
          .grd (decide (List.length a7 = List.length a7)) (
          .ret (false, (a2, (a3, (a0, (a0, (a1, (a4, (a5, (a6, (a7, ((a8, some ((5500100 : Nat), vk (5500100 : Nat))).fst, (a9, (r0.at', (r0.data, (r0.last, ()))))))))))))))))))))) (
       .ite (r0.last) (
        .ite (decide (r0.at' < a4)) (
         .grd (decide (List.length a7 = List.length a7)) (
         .ret (decide (r0.at' < a4), (a2, (a3, (a0, (a0, (a1, (a4, (a5, (a6, (a7, ((a8, some ((5500100 : Nat), vk (5500100 : Nat))).fst, (a9, (r0.at', (r0.data, (r0.last, ()))))))))))))))))) (
         .ite (a6) (
          .grd (decide (List.length a7 = List.length a7)) (
          .ret (decide (a4 < r0.at'), (a2, (a3, (a0, (a0, (a1, (a4, (a5, (a6, (a7, ((a8, some ((5500100 : Nat), vk (5500100 : Nat))).fst, (a9, (r0.at', (r0.data, (r0.last, ()))))))))))))))))) (
          .grd (decide (List.length a7 = List.length a7)) (
          .ret (false, (a2, (a3, (a0, (a0, (a1, (a4, (a5, (a6, (a7, ((a8, some ((5500100 : Nat), vk (5500100 : Nat))).fst, (a9, (r0.at', (r0.data, (r0.last, ()))))))))))))))))))) (
        .ite (a6) (
         .grd (decide (List.length a7 = List.length a7)) (
         .ret (decide (a4 < r0.at'), (a2, (a3, (a0, (a0, (a1, (a4, (a5, (a6, (a7, ((a8, some ((5500100 : Nat), vk (5500100 : Nat))).fst, (a9, (r0.at', (r0.data, (r0.last, ()))))))))))))))))) (
         .grd (decide (List.length a7 = List.length a7)) (
         .ret (false, (a2, (a3, (a0, (a0, (a1, (a4, (a5, (a6, (a7, ((a8, some ((5500100 : Nat), vk (5500100 : Nat))).fst, (a9, (r0.at', (r0.data, (r0.last, ())))))))))))))))))))))) (fun r1 =>
    .ite (r1.1) (
     .ret (Sum.inr (Sum.inl (false, ((8 : Int), (List.modify r1.2.2.2.2.2.2.2.2.2.2.2.1 r1.2.2.2.2.2.2.2.2.2.2.1 fun x => THeap.mk x.from' x.to x.proto x.id x.tos x.life x.options r1.2.2.2.2.2.2.2.2.2.1, ())))))) (
     .opt (β := (Bool × (Nat × (Int × (Int × (Int × (Int × (Int × ((List UInt8) × (Bool × ((List TPart) × (Nat × ((List THeap) × Unit))))))))))))) (Tr.eval (α := (Bool × (Nat × (Int × (Int × (Int × (Int × (Int × ((List UInt8) × (Bool × ((List TPart) × (Nat × ((List THeap) × Unit))))))))))))) (
       .grd (decide (List.length r1.2.2.2.2.2.2.2.2.2.fst = List.length r1.2.2.2.2.2.2.2.2.2.1)) (
       .ret (decide (r1.2.2.2.2.2.2.2.2.2.2.2.2.1 < r1.2.2.2.2.2.2.1), (r1.2.1, (r1.2.2.1, (r1.2.2.2.1, (r1.2.2.2.2.1, (r1.2.2.2.2.2.1, (r1.2.2.2.2.2.2.1, (r1.2.2.2.2.2.2.2.1, (r1.2.2.2.2.2.2.2.2.1, (r1.2.2.2.2.2.2.2.2.2.1, ((r1.2.2.2.2.2.2.2.2.2.2.1, some ((5500100 : Nat), vk (5500100 : Nat))).fst, (r1.2.2.2.2.2.2.2.2.2.2.2.1, ()))))))))))))))) (fun r2 =>
     .ite (r2.1) (
      .grd (decide (List.length r2.2.2.2.2.2.2.2.2.2.fst = List.length r2.2.2.2.2.2.2.2.2.2.1)) (
      .ret (Sum.inl (IntKind.wrap IntKind.i64 (r2.2.2.2.1 + (1 : Int)), (IntKind.wrap IntKind.i64 (r2.2.2.2.2.1 + (1 : Int)), (r2.2.1, (r2.2.2.1, (r2.2.2.2.2.2.2.1, (r2.2.2.2.2.2.2.2.1, (r2.2.2.2.2.2.2.2.2.1, (r2.2.2.2.2.2.2.2.2.2.1, ((r2.2.2.2.2.2.2.2.2.2.2.1, some ((5500100 : Nat), vk (5500100 : Nat))).fst, (r2.2.2.2.2.2.2.2.2.2.2.2.1, ()))))))))))))) (
      .grd (decide (List.length r2.2.2.2.2.2.2.2.2.2.fst = List.length r2.2.2.2.2.2.2.2.2.2.1)) (
      .ret (Sum.inl (IntKind.wrap IntKind.i64 (r2.2.2.2.1 + (1 : Int)), (r2.2.2.2.2.2.1, (r2.2.1, (r2.2.2.1, (r2.2.2.2.2.2.2.1, (r2.2.2.2.2.2.2.2.1, (r2.2.2.2.2.2.2.2.2.1, (r2.2.2.2.2.2.2.2.2.2.1, ((r2.2.2.2.2.2.2.2.2.2.2.1, some ((5500100 : Nat), vk (5500100 : Nat))).fst, (r2.2.2.2.2.2.2.2.2.2.2.2.1, ())))))))))))))))))))) (
   .ret (Sum.inr (Sum.inr (a1, (a2, (a4, (a5, (a6, (List.modify a9 a8 fun x => THeap.mk x.from' x.to x.proto x.id x.tos x.life x.options a7, ())))))))))
def fPut_loop61_3 (x : (Int × (Int × (Nat × (Int × (Int × ((List UInt8) × (Bool × ((List TPart) × (Nat × ((List THeap) × Unit))))))))))) : Option ((Bool × (Int × ((List THeap) × Unit))) ⊕ (Int × (Nat × (Int × ((List UInt8) × (Bool × ((List THeap) × Unit))))))) := loopO 610003 (fun x => (fPut_step61_3 x).eval) 18446744073709551616 x
def fPut_L61_100011 : LS := ⟨100011, [], ⟨0, [], []⟩, [⟨some 9998, [(3, 3), (5500100, 5500100), (1500100, 1500100)], ⟨80, [(54, .v (.one (.b))), (3, .v (.one (.ptr 3 0))), (12, .v (.one (.own 5500100))), (0, .v (.one (.dpr 1500100 8 0))), (13, .v (.one (.i .i64))), (14, .v (.one (.i .i64))), (7, .v (.one (.i .i64))), (6, .v (.one (.i .i64)))], [(3, .cells [.i .i64, .s, .b]), (5500100, .row 86 5 true true), (1500100, .deepH 83 86 6 5500100)]⟩⟩], []⟩
def fPut_L61_160007 : LS := ⟨160007, [], ⟨0, [], []⟩, [⟨some 9998, [(3, 3), (5500100, 5500100), (1500100, 1500100), (8, 8)], ⟨80, [(23, .v (.one (.b))), (3, .v (.one (.ptr 3 0))), (12, .v (.one (.own 5500100))), (0, .v (.one (.dpr 1500100 8 0))), (13, .v (.one (.i .i64))), (14, .v (.one (.i .i64))), (7, .v (.one (.i .i64))), (6, .v (.one (.i .i64))), (8, .v (.one (.ptr 8 0)))], [(3, .cells [.i .i64, .s, .b]), (5500100, .row 86 5 true true), (1500100, .deepH 83 86 6 5500100), (8, .cells [.i .i64, .s, .b])]⟩⟩], []⟩
def fPut_ap : SP := ⟨80, [(0, .v (.one (.dpr 1500100 8 0))), (1, .v (.agg [.i .i64, .s, .b]))], [(1500100, .deep 83 86 6)]⟩
def fPut_rp : SP := ⟨1, [(0, .tup [.one (.b), .one (.i .i64)])], [(1500100, .deep 83 86 6)]⟩
def fPut_tree : (Nat × (Int × ((List UInt8) × (Bool × ((List THeap) × Unit))))) → Tr (Bool × (Int × ((List THeap) × Unit))) :=
  fun (a0, a1, a2, a3, a4, _) =>
  .opt (β := THeap) (a4[a0]?) (fun r0 =>
  .grd (decide (List.length r0.parts = List.length r0.parts)) (
  .opt (β := ((Bool × (Int × ((List THeap) × Unit))) ⊕ (Int × (Nat × (Int × ((List UInt8) × (Bool × ((List THeap) × Unit)))))))) ((fPut_loop61_3 ((0 : Int), ((0 : Int), (a0, ((↑(List.length r0.parts) : Int), (a1, (a2, (a3, (r0.parts, ((a0, some (hkey (1500100 : Nat), (1 : Nat))).fst, (a4, ())))))))))))) (fun r1 =>
  .sum (β := (Bool × (Int × ((List THeap) × Unit)))) (γ := (Int × (Nat × (Int × ((List UInt8) × (Bool × ((List THeap) × Unit))))))) (r1) (fun r2 =>
   .ret (r2.1, (r2.2.1, (r2.2.2.1, ())))) (fun r2 =>
   .opt (β := THeap) (r2.2.2.2.2.2.1[r2.2.1]?) (fun r3 =>
   .ite (decide ((↑(List.length r3.parts) : Int) = (64 : Int))) (
    .ret (false, ((6 : Int), (List.modify r2.2.2.2.2.2.1 r2.2.1 fun x => THeap.mk x.from' x.to x.proto x.id x.tos x.life x.options r3.parts, ())))) (
    .opt (β := THeap) ((List.modify r2.2.2.2.2.2.1 r2.2.1 fun x => THeap.mk x.from' x.to x.proto x.id x.tos x.life x.options r3.parts)[r2.2.1]?) (fun r4 =>
    .grd (decide ((0 : Int) ≤ r2.1 ∧ r2.1 ≤ (↑(List.length r4.parts) : Int) ∧ List.length r4.parts ≤ (1000000 : Nat))) (
    .grd (decide (r2.2.1 = r2.2.1)) (
    .opt (β := THeap) ((List.modify r2.2.2.2.2.2.1 r2.2.1 fun x => THeap.mk x.from' x.to x.proto x.id x.tos x.life x.options r3.parts)[r2.2.1]?) (fun r5 =>
    .ret (true, ((0 : Int), (List.set (List.modify r2.2.2.2.2.2.1 r2.2.1 fun x => THeap.mk x.from' x.to x.proto x.id x.tos x.life x.options r3.parts) r2.2.1 (THeap.mk r5.from' r5.to r5.proto r5.id r5.tos r5.life r5.options (List.take (Int.toNat r2.1) r4.parts ++ TPart.mk (TPart.mk r2.2.2.1 r2.2.2.2.1 r2.2.2.2.2.1).at' (TPart.mk r2.2.2.1 r2.2.2.2.1 r2.2.2.2.2.1).data (TPart.mk r2.2.2.1 r2.2.2.2.1 r2.2.2.2.2.1).last :: List.drop (Int.toNat r2.1) r4.parts)), ())))))))))))))
theorem fPut_eq (x : (Nat × (Int × ((List UInt8) × (Bool × ((List THeap) × Unit)))))) : gsTr Try.prog cod [FS.pf sumFold, FS.pf sumAdd, FS.pf sumOf, FS.pf ipByt, FS.pf ipRefused, FS.pf ipWord, FS.pf ipLong, FS.pf ipWrite, FS.pf fragSplit, FS.pf fragLives, FS.pf fEnd, FS.pf fRightPart, FS.pf fSameKey, FS.pf fRightHeap, FS.pf fCheck, FS.pf fRefused, clParts, GS.pf fOwn, GS.pf fDel, pfIns] [(61, fPut_L61_3), (61, fPut_L61_100011), (61, fPut_L61_160007)] 30 61 fPut_ap fPut_rp x = fPut_tree x := by kernel_rfl
def fPut_fn (x : (Nat × (Int × ((List UInt8) × (Bool × ((List THeap) × Unit)))))) : Option (Bool × (Int × ((List THeap) × Unit))) := (fPut_tree x).eval
def fPut : GS Try.prog := ⟨61, [2, 0], fPut_ap, fPut_rp, fPut_fn, fun x r h ys m g he hg => gs_sound (cod := cod) (Γ := [FS.pf sumFold, FS.pf sumAdd, FS.pf sumOf, FS.pf ipByt, FS.pf ipRefused, FS.pf ipWord, FS.pf ipLong, FS.pf ipWrite, FS.pf fragSplit, FS.pf fragLives, FS.pf fEnd, FS.pf fRightPart, FS.pf fSameKey, FS.pf fRightHeap, FS.pf fCheck, FS.pf fRefused, clParts, GS.pf fOwn, GS.pf fDel, pfIns]) (Λs := [(61, fPut_L61_3), (61, fPut_L61_100011), (61, fPut_L61_160007)]) (n := 30) ((congrArg Tr.eval (fPut_eq x)).trans h) he hg⟩
end Go.Proofs.Ythnijeclidpooaa.X
