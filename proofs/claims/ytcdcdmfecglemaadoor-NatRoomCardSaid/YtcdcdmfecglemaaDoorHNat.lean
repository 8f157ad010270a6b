/- Functions of the program, as trees (printed by a program of mine: tool/XTool, xg.py), each with the proof that the machine comes to what its tree says. Conditions: none. -/
import Derived.Test.YtcdcdmfecglemaaDoorCod
import Derived.KernelRfl
import Derived.Test.YtcdcdmfecglemaaDoorGNat
namespace Go.Proofs.YtcdcdmfecglemaaDoor.X
open Go Go.RowKit Go.Proofs.YtcdcdmfecglemaaDoor.Abs
set_option maxRecDepth 100000
set_option linter.unusedVariables false
def natPlace : PF Go.Proofs.Tryd.prog := ⟨17, [1, 0], fun _ _ => none, fun _ _ _ _ _ h _ => by cases h⟩
def natExpire_L14_1 : LS := ⟨1, [(1000000, 1000000), (1000100, 1000100)], ⟨68, [(4, .v (.one (.i .i64))), (0, .v (.one (.ptr 1000000 0))), (1, .v (.one (.i .i64)))], [(1000000, .cells [.i .i64, .i .i64, .i .u64, .i .i64, .i .u64, .own 1000100]), (1000100, .row 42 17 true true)]⟩, [⟨some 0, [(1000000, 1000000), (1000100, 1000100)], ⟨68, [(4, .v (.one (.i .i64))), (0, .v (.one (.ptr 1000000 0)))], [(1000000, .cells [.i .i64, .i .i64, .i .u64, .i .i64, .i .u64, .own 1000100]), (1000100, .row 42 17 true true)]⟩⟩], []⟩
def natExpire_step14_1 : (Int × (Int × (Int × (Int × (Int × (Int × (Int × ((List TMap) × Unit)))))))) → Tr ((Int × (Int × (Int × (Int × (Int × (Int × (Int × ((List TMap) × Unit)))))))) ⊕ (Int × (Int × (Int × (Int × (Int × (Int × ((List TMap) × Unit)))))))) :=
  fun (a0, a1, a2, a3, a4, a5, a6, a7, _) =>
  .ite (decide (a0 < (↑(List.length a7) : Int))) (
   .grd (decide ((0 : Int) ≤ a0 ∧ a0 < (↑(List.length a7) : Int))) (
   .opt (β := TMap) (a7[Int.toNat a0]?) (fun r0 =>
   .ite (decide (a2 < IntKind.wrap IntKind.i64 (a1 - r0.at'))) (
    .grd (decide ((0 : Int) ≤ a0 ∧ a0 < (↑(List.length a7) : Int))) (
    .opt (β := TMap) (a7[Int.toNat a0]?) (fun r1 =>
    .ite (decide (r1.proto = (17 : Int))) (
     .grd (decide ((0 : Int) ≤ a0 ∧ a0 < (↑(List.length a7) : Int))) (
     .opt (β := TMap) (a7[Int.toNat a0]?) (fun r2 =>
     .opt (β := (Int × (Int × (Int × Unit)))) ((portsEnd_fn (a3, (a4, (r2.out, ()))))) (fun r3 =>
     .grd (decide (List.length a7 = List.length a7)) (
     .ret (Sum.inl (IntKind.wrap IntKind.i64 (a0 + (1 : Int)), (a1, (a2, (r3.1, (r3.2.1, (a5, (a6, (a7, ())))))))))))))) (
     .ite (decide (r1.proto = (6 : Int))) (
      .grd (decide ((0 : Int) ≤ a0 ∧ a0 < (↑(List.length a7) : Int))) (
      .opt (β := TMap) (a7[Int.toNat a0]?) (fun r2 =>
      .opt (β := (Int × (Int × (Int × Unit)))) ((portsEnd_fn (a5, (a6, (r2.out, ()))))) (fun r3 =>
      .grd (decide (List.length a7 = List.length a7)) (
      .ret (Sum.inl (IntKind.wrap IntKind.i64 (a0 + (1 : Int)), (a1, (a2, (a3, (a4, (r3.1, (r3.2.1, (a7, ())))))))))))))) (
      .fail 3))))) (
    .grd (decide (List.length a7 = List.length a7)) (
    .ret (Sum.inr (a0, (a2, (a3, (a4, (a5, (a6, (a7, ()))))))))))))) (
   .grd (decide (List.length a7 = List.length a7)) (
   .ret (Sum.inr (a0, (a2, (a3, (a4, (a5, (a6, (a7, ()))))))))))
def natExpire_loop14_1 (x : (Int × (Int × (Int × (Int × (Int × (Int × (Int × ((List TMap) × Unit))))))))) : Option (Int × (Int × (Int × (Int × (Int × (Int × ((List TMap) × Unit))))))) := loopO 140001 (fun x => (natExpire_step14_1 x).eval) 18446744073709551616 x
def natExpire_ap : SP := ⟨68, [(0, .v (.one (.ptr 1000000 0))), (1, .v (.one (.i .i64)))], [(1000000, .cells [.i .i64, .i .i64, .i .u64, .i .i64, .i .u64, .own 1000100]), (1000100, .row 42 17 true true)]⟩
def natExpire_rp : SP := ⟨1, [(0, .tup [])], [(1000000, .cells [.i .i64, .i .i64, .i .u64, .i .i64, .i .u64, .own 1000100]), (1000100, .row 42 17 true true)]⟩
def natExpire_tree : (Int × (Int × (Int × (Int × (Int × (Int × ((List TMap) × Unit))))))) → Tr (Int × (Int × (Int × (Int × (Int × ((List TMap) × Unit)))))) :=
  fun (a0, a1, a2, a3, a4, a5, a6, _) =>
  .grd (decide (List.length a6 = List.length a6)) (
  .opt (β := (Int × (Int × (Int × (Int × (Int × (Int × ((List TMap) × Unit)))))))) ((natExpire_loop14_1 ((0 : Int), (a0, (a1, (a2, (a3, (a4, (a5, (a6, ())))))))))) (fun r0 =>
  .grd (decide (List.length r0.2.2.2.2.2.2.fst = List.length r0.2.2.2.2.2.2.1)) (
  .opt (β := ((List TMap) × Unit)) ((delMap_fn ((0 : Int), (r0.1, (r0.2.2.2.2.2.2.1, ()))))) (fun r1 =>
  .grd (decide (List.length r1.fst = List.length r1.1)) (
  .ret (r0.2.1, (r0.2.2.1, (r0.2.2.2.1, (r0.2.2.2.2.1, (r0.2.2.2.2.2.1, (r1.1, ())))))))))))
theorem natExpire_eq (x : (Int × (Int × (Int × (Int × (Int × (Int × ((List TMap) × Unit)))))))) : gsTr Tryd.prog cod [tz64, FS.pf portsCheck, FS.pf portsLet, FS.pf portsEnd, clMap, GS.pf delMap, FS.pf eqMap, FS.pf natWithin, FS.pf natCheck, natPlace] [(14, natExpire_L14_1)] 30 14 natExpire_ap natExpire_rp x = natExpire_tree x := by kernel_rfl
def natExpire_fn (x : (Int × (Int × (Int × (Int × (Int × (Int × ((List TMap) × Unit)))))))) : Option (Int × (Int × (Int × (Int × (Int × ((List TMap) × Unit)))))) := (natExpire_tree x).eval
def natExpire : GS Tryd.prog := ⟨14, [1, 0], natExpire_ap, natExpire_rp, natExpire_fn, fun x r h ys m g he hg => gs_sound (cod := cod) (Γ := [tz64, FS.pf portsCheck, FS.pf portsLet, FS.pf portsEnd, clMap, GS.pf delMap, FS.pf eqMap, FS.pf natWithin, FS.pf natCheck, natPlace]) (Λs := [(14, natExpire_L14_1)]) (n := 30) ((congrArg Tr.eval (natExpire_eq x)).trans h) he hg⟩
def natOut_ap : List VP1 := [.agg [.i .i64, .i .i64, .i .u64, .i .i64, .i .u64, .st 17 false], .one (.i .i64), .one (.i .u32), .one (.i .i64), .one (.i .i64)]
def natOut_rp : SP := ⟨1, [(0, .tup [.agg [.i .i64, .i .i64, .i .u64, .i .i64, .i .u64, .st 17 true], .one (.i .i64), .one (.i .i64)])], []⟩
def natOut_tree : (Int × (Int × (Int × (Int × (Int × ((List TMap) × (Int × (Int × (Int × (Int × Unit)))))))))) → Tr (Int × (Int × (Int × (Int × (Int × ((List TMap) × (Int × (Int × Unit)))))))) :=
  fun (a0, a1, a2, a3, a4, a5, a6, a7, a8, a9, _) =>
  .grd (decide (((0 : Nat) + List.length a5) * (40 : Nat) ≤ (140737488355328 : Nat) ∧ (0 : Nat) + List.length a5 ≤ (9223372036854775807 : Nat))) (
  .opt (β := (Int × Unit)) ((natCheck_fn (a0, (a1, (a2, (a3, (a4, (a5, ())))))))) (fun r0 =>
  .ite (!decide (r0.1 = (0 : Int))) (
   .ret (a0, (a1, (a2, (a3, (a4, (a5, ((0 : Int), (r0.1, ()))))))))) (
   .ite (decide ((0 : Int) < (↑(List.length a5) : Int))) (
    .grd (decide ((0 : Int) ≤ IntKind.wrap IntKind.i64 ((↑(List.length a5) : Int) - (1 : Int)) ∧ IntKind.wrap IntKind.i64 ((↑(List.length a5) : Int) - (1 : Int)) < (↑(List.length a5) : Int))) (
    .opt (β := TMap) (a5[Int.toNat (IntKind.wrap IntKind.i64 ((↑(List.length a5) : Int) - (1 : Int)))]?) (fun r1 =>
    .ite (!decide (a6 = (6 : Int))) (
     .ite (!decide (a6 = (17 : Int))) (
      .ret (a0, (a1, (a2, (a3, (a4, (a5, ((0 : Int), ((7 : Int), ()))))))))) (
      .ite (decide (a8 < (0 : Int))) (
       .ret (a0, (a1, (a2, (a3, (a4, (a5, ((0 : Int), ((1 : Int), ()))))))))) (
       .ite (decide ((65535 : Int) < a8)) (
        .ret (a0, (a1, (a2, (a3, (a4, (a5, ((0 : Int), ((1 : Int), ()))))))))) (
        .ite (decide (a9 < r1.at')) (
         .ret (a0, (a1, (a2, (a3, (a4, (a5, ((0 : Int), ((1 : Int), ()))))))))) (
         .ite (decide ((1099511627776 : Int) < a9)) (
          .ret (a0, (a1, (a2, (a3, (a4, (a5, ((0 : Int), ((1 : Int), ()))))))))) (
          .grd (decide (((0 : Nat) + List.length a5) * (40 : Nat) ≤ (140737488355328 : Nat) ∧ (0 : Nat) + List.length a5 ≤ (9223372036854775807 : Nat))) (
          .grd (decide (List.length a5 = List.length a5)) (
          .opt (β := (Int × (Int × (Int × (Int × (Int × ((List TMap) × Unit))))))) ((natExpire_fn (a9, (a0, (a1, (a2, (a3, (a4, (a5, ()))))))))) (fun r2 =>
          .opt (β := (Int × Unit)) ((natWithin_fn (r2.1, (r2.2.1, (r2.2.2.1, (r2.2.2.2.1, (r2.2.2.2.2.1, (r2.2.2.2.2.2.1, (a6, (a7, (a8, ()))))))))))) (fun r3 =>
          .ite (decide ((0 : Int) ≤ r3.1)) (
           .grd (decide ((0 : Int) ≤ r3.1 ∧ r3.1 < (↑(List.length r2.2.2.2.2.2.fst) : Int))) (
           .opt (β := TMap) (r2.2.2.2.2.2.1[Int.toNat r3.1]?) (fun r4 =>
           .grd (decide (List.length r2.2.2.2.2.2.fst = List.length r2.2.2.2.2.2.1)) (
           .opt (β := ((List TMap) × Unit)) ((delMap_fn (r3.1, (IntKind.wrap IntKind.i64 (r3.1 + (1 : Int)), (r2.2.2.2.2.2.1, ()))))) (fun r5 =>
           .grd (decide ((List.length r5.1 + List.length [TMap.mk a6 a7 a8 r4.out a9]) * (40 : Nat) ≤ (140737488355328 : Nat) ∧ List.length r5.1 + List.length [TMap.mk a6 a7 a8 r4.out a9] ≤ (9223372036854775807 : Nat))) (
           .ret (r2.1, (r2.2.1, (r2.2.2.1, (r2.2.2.2.1, (r2.2.2.2.2.1, (r5.1 ++ [TMap.mk a6 a7 a8 r4.out a9], (r4.out, ((0 : Int), ())))))))))))))) (
           .ite (decide (a6 = (17 : Int))) (
            .opt (β := (Int × (Int × (Int × (Int × Unit))))) ((portsLet_fn (r2.2.1, (r2.2.2.1, (a8, ()))))) (fun r4 =>
            .ite (!decide (r4.2.2.2.1 = (0 : Int))) (
             .ret (a0, (a1, (a2, (a3, (a4, (a5, ((0 : Int), (r4.2.2.2.1, ()))))))))) (
             .grd (decide ((List.length r2.2.2.2.2.2.1 + List.length [TMap.mk a6 a7 a8 r4.2.2.1 a9]) * (40 : Nat) ≤ (140737488355328 : Nat) ∧ List.length r2.2.2.2.2.2.1 + List.length [TMap.mk a6 a7 a8 r4.2.2.1 a9] ≤ (9223372036854775807 : Nat))) (
             .ret (r2.1, (r4.1, (r4.2.1, (r2.2.2.2.1, (r2.2.2.2.2.1, (r2.2.2.2.2.2.1 ++ [TMap.mk a6 a7 a8 r4.2.2.1 a9], (r4.2.2.1, ((0 : Int), ())))))))))))) (
            .ite (decide (a6 = (6 : Int))) (
             .opt (β := (Int × (Int × (Int × (Int × Unit))))) ((portsLet_fn (r2.2.2.2.1, (r2.2.2.2.2.1, (a8, ()))))) (fun r4 =>
             .ite (!decide (r4.2.2.2.1 = (0 : Int))) (
              .ret (a0, (a1, (a2, (a3, (a4, (a5, ((0 : Int), (r4.2.2.2.1, ()))))))))) (
              .grd (decide ((List.length r2.2.2.2.2.2.1 + List.length [TMap.mk a6 a7 a8 r4.2.2.1 a9]) * (40 : Nat) ≤ (140737488355328 : Nat) ∧ List.length r2.2.2.2.2.2.1 + List.length [TMap.mk a6 a7 a8 r4.2.2.1 a9] ≤ (9223372036854775807 : Nat))) (
              .ret (r2.1, (r2.2.1, (r2.2.2.1, (r4.1, (r4.2.1, (r2.2.2.2.2.2.1 ++ [TMap.mk a6 a7 a8 r4.2.2.1 a9], (r4.2.2.1, ((0 : Int), ())))))))))))) (
             .fail 3))))))))))))) (
     .ite (decide (a8 < (0 : Int))) (
      .ret (a0, (a1, (a2, (a3, (a4, (a5, ((0 : Int), ((1 : Int), ()))))))))) (
      .ite (decide ((65535 : Int) < a8)) (
       .ret (a0, (a1, (a2, (a3, (a4, (a5, ((0 : Int), ((1 : Int), ()))))))))) (
       .ite (decide (a9 < r1.at')) (
        .ret (a0, (a1, (a2, (a3, (a4, (a5, ((0 : Int), ((1 : Int), ()))))))))) (
        .ite (decide ((1099511627776 : Int) < a9)) (
         .ret (a0, (a1, (a2, (a3, (a4, (a5, ((0 : Int), ((1 : Int), ()))))))))) (
         .grd (decide (((0 : Nat) + List.length a5) * (40 : Nat) ≤ (140737488355328 : Nat) ∧ (0 : Nat) + List.length a5 ≤ (9223372036854775807 : Nat))) (
         .grd (decide (List.length a5 = List.length a5)) (
         .opt (β := (Int × (Int × (Int × (Int × (Int × ((List TMap) × Unit))))))) ((natExpire_fn (a9, (a0, (a1, (a2, (a3, (a4, (a5, ()))))))))) (fun r2 =>
         .opt (β := (Int × Unit)) ((natWithin_fn (r2.1, (r2.2.1, (r2.2.2.1, (r2.2.2.2.1, (r2.2.2.2.2.1, (r2.2.2.2.2.2.1, (a6, (a7, (a8, ()))))))))))) (fun r3 =>
         .ite (decide ((0 : Int) ≤ r3.1)) (
          .grd (decide ((0 : Int) ≤ r3.1 ∧ r3.1 < (↑(List.length r2.2.2.2.2.2.fst) : Int))) (
          .opt (β := TMap) (r2.2.2.2.2.2.1[Int.toNat r3.1]?) (fun r4 =>
          .grd (decide (List.length r2.2.2.2.2.2.fst = List.length r2.2.2.2.2.2.1)) (
          .opt (β := ((List TMap) × Unit)) ((delMap_fn (r3.1, (IntKind.wrap IntKind.i64 (r3.1 + (1 : Int)), (r2.2.2.2.2.2.1, ()))))) (fun r5 =>
          .grd (decide ((List.length r5.1 + List.length [TMap.mk a6 a7 a8 r4.out a9]) * (40 : Nat) ≤ (140737488355328 : Nat) ∧ List.length r5.1 + List.length [TMap.mk a6 a7 a8 r4.out a9] ≤ (9223372036854775807 : Nat))) (
          .ret (r2.1, (r2.2.1, (r2.2.2.1, (r2.2.2.2.1, (r2.2.2.2.2.1, (r5.1 ++ [TMap.mk a6 a7 a8 r4.out a9], (r4.out, ((0 : Int), ())))))))))))))) (
          .ite (decide (a6 = (17 : Int))) (
           .opt (β := (Int × (Int × (Int × (Int × Unit))))) ((portsLet_fn (r2.2.1, (r2.2.2.1, (a8, ()))))) (fun r4 =>
           .ite (!decide (r4.2.2.2.1 = (0 : Int))) (
            .ret (a0, (a1, (a2, (a3, (a4, (a5, ((0 : Int), (r4.2.2.2.1, ()))))))))) (
            .grd (decide ((List.length r2.2.2.2.2.2.1 + List.length [TMap.mk a6 a7 a8 r4.2.2.1 a9]) * (40 : Nat) ≤ (140737488355328 : Nat) ∧ List.length r2.2.2.2.2.2.1 + List.length [TMap.mk a6 a7 a8 r4.2.2.1 a9] ≤ (9223372036854775807 : Nat))) (
            .ret (r2.1, (r4.1, (r4.2.1, (r2.2.2.2.1, (r2.2.2.2.2.1, (r2.2.2.2.2.2.1 ++ [TMap.mk a6 a7 a8 r4.2.2.1 a9], (r4.2.2.1, ((0 : Int), ())))))))))))) (
           .ite (decide (a6 = (6 : Int))) (
            .opt (β := (Int × (Int × (Int × (Int × Unit))))) ((portsLet_fn (r2.2.2.2.1, (r2.2.2.2.2.1, (a8, ()))))) (fun r4 =>
            .ite (!decide (r4.2.2.2.1 = (0 : Int))) (
             .ret (a0, (a1, (a2, (a3, (a4, (a5, ((0 : Int), (r4.2.2.2.1, ()))))))))) (
             .grd (decide ((List.length r2.2.2.2.2.2.1 + List.length [TMap.mk a6 a7 a8 r4.2.2.1 a9]) * (40 : Nat) ≤ (140737488355328 : Nat) ∧ List.length r2.2.2.2.2.2.1 + List.length [TMap.mk a6 a7 a8 r4.2.2.1 a9] ≤ (9223372036854775807 : Nat))) (
             .ret (r2.1, (r2.2.1, (r2.2.2.1, (r4.1, (r4.2.1, (r2.2.2.2.2.2.1 ++ [TMap.mk a6 a7 a8 r4.2.2.1 a9], (r4.2.2.1, ((0 : Int), ())))))))))))) (
            .fail 3))))))))))))))) (
    .ite (!decide (a6 = (6 : Int))) (
     .ite (!decide (a6 = (17 : Int))) (
      .ret (a0, (a1, (a2, (a3, (a4, (a5, ((0 : Int), ((7 : Int), ()))))))))) (
      .ite (decide (a8 < (0 : Int))) (
       .ret (a0, (a1, (a2, (a3, (a4, (a5, ((0 : Int), ((1 : Int), ()))))))))) (
       .ite (decide ((65535 : Int) < a8)) (
        .ret (a0, (a1, (a2, (a3, (a4, (a5, ((0 : Int), ((1 : Int), ()))))))))) (
        .ite (decide (a9 < (0 : Int))) (
         .ret (a0, (a1, (a2, (a3, (a4, (a5, ((0 : Int), ((1 : Int), ()))))))))) (
         .ite (decide ((1099511627776 : Int) < a9)) (
          .ret (a0, (a1, (a2, (a3, (a4, (a5, ((0 : Int), ((1 : Int), ()))))))))) (
          .grd (decide (((0 : Nat) + List.length a5) * (40 : Nat) ≤ (140737488355328 : Nat) ∧ (0 : Nat) + List.length a5 ≤ (9223372036854775807 : Nat))) (
          .grd (decide (List.length a5 = List.length a5)) (
          .opt (β := (Int × (Int × (Int × (Int × (Int × ((List TMap) × Unit))))))) ((natExpire_fn (a9, (a0, (a1, (a2, (a3, (a4, (a5, ()))))))))) (fun r1 =>
          .opt (β := (Int × Unit)) ((natWithin_fn (r1.1, (r1.2.1, (r1.2.2.1, (r1.2.2.2.1, (r1.2.2.2.2.1, (r1.2.2.2.2.2.1, (a6, (a7, (a8, ()))))))))))) (fun r2 =>
          .ite (decide ((0 : Int) ≤ r2.1)) (
           .grd (decide ((0 : Int) ≤ r2.1 ∧ r2.1 < (↑(List.length r1.2.2.2.2.2.fst) : Int))) (
           .opt (β := TMap) (r1.2.2.2.2.2.1[Int.toNat r2.1]?) (fun r3 =>
           .grd (decide (List.length r1.2.2.2.2.2.fst = List.length r1.2.2.2.2.2.1)) (
           .opt (β := ((List TMap) × Unit)) ((delMap_fn (r2.1, (IntKind.wrap IntKind.i64 (r2.1 + (1 : Int)), (r1.2.2.2.2.2.1, ()))))) (fun r4 =>
           .grd (decide ((List.length r4.1 + List.length [TMap.mk a6 a7 a8 r3.out a9]) * (40 : Nat) ≤ (140737488355328 : Nat) ∧ List.length r4.1 + List.length [TMap.mk a6 a7 a8 r3.out a9] ≤ (9223372036854775807 : Nat))) (
           .ret (r1.1, (r1.2.1, (r1.2.2.1, (r1.2.2.2.1, (r1.2.2.2.2.1, (r4.1 ++ [TMap.mk a6 a7 a8 r3.out a9], (r3.out, ((0 : Int), ())))))))))))))) (
           .ite (decide (a6 = (17 : Int))) (
            .opt (β := (Int × (Int × (Int × (Int × Unit))))) ((portsLet_fn (r1.2.1, (r1.2.2.1, (a8, ()))))) (fun r3 =>
            .ite (!decide (r3.2.2.2.1 = (0 : Int))) (
             .ret (a0, (a1, (a2, (a3, (a4, (a5, ((0 : Int), (r3.2.2.2.1, ()))))))))) (
             .grd (decide ((List.length r1.2.2.2.2.2.1 + List.length [TMap.mk a6 a7 a8 r3.2.2.1 a9]) * (40 : Nat) ≤ (140737488355328 : Nat) ∧ List.length r1.2.2.2.2.2.1 + List.length [TMap.mk a6 a7 a8 r3.2.2.1 a9] ≤ (9223372036854775807 : Nat))) (
             .ret (r1.1, (r3.1, (r3.2.1, (r1.2.2.2.1, (r1.2.2.2.2.1, (r1.2.2.2.2.2.1 ++ [TMap.mk a6 a7 a8 r3.2.2.1 a9], (r3.2.2.1, ((0 : Int), ())))))))))))) (
            .ite (decide (a6 = (6 : Int))) (
             .opt (β := (Int × (Int × (Int × (Int × Unit))))) ((portsLet_fn (r1.2.2.2.1, (r1.2.2.2.2.1, (a8, ()))))) (fun r3 =>
             .ite (!decide (r3.2.2.2.1 = (0 : Int))) (
              .ret (a0, (a1, (a2, (a3, (a4, (a5, ((0 : Int), (r3.2.2.2.1, ()))))))))) (
              .grd (decide ((List.length r1.2.2.2.2.2.1 + List.length [TMap.mk a6 a7 a8 r3.2.2.1 a9]) * (40 : Nat) ≤ (140737488355328 : Nat) ∧ List.length r1.2.2.2.2.2.1 + List.length [TMap.mk a6 a7 a8 r3.2.2.1 a9] ≤ (9223372036854775807 : Nat))) (
              .ret (r1.1, (r1.2.1, (r1.2.2.1, (r3.1, (r3.2.1, (r1.2.2.2.2.2.1 ++ [TMap.mk a6 a7 a8 r3.2.2.1 a9], (r3.2.2.1, ((0 : Int), ())))))))))))) (
             .fail 3))))))))))))) (
     .ite (decide (a8 < (0 : Int))) (
      .ret (a0, (a1, (a2, (a3, (a4, (a5, ((0 : Int), ((1 : Int), ()))))))))) (
      .ite (decide ((65535 : Int) < a8)) (
       .ret (a0, (a1, (a2, (a3, (a4, (a5, ((0 : Int), ((1 : Int), ()))))))))) (
       .ite (decide (a9 < (0 : Int))) (
        .ret (a0, (a1, (a2, (a3, (a4, (a5, ((0 : Int), ((1 : Int), ()))))))))) (
        .ite (decide ((1099511627776 : Int) < a9)) (
         .ret (a0, (a1, (a2, (a3, (a4, (a5, ((0 : Int), ((1 : Int), ()))))))))) (
         .grd (decide (((0 : Nat) + List.length a5) * (40 : Nat) ≤ (140737488355328 : Nat) ∧ (0 : Nat) + List.length a5 ≤ (9223372036854775807 : Nat))) (
         .grd (decide (List.length a5 = List.length a5)) (
         .opt (β := (Int × (Int × (Int × (Int × (Int × ((List TMap) × Unit))))))) ((natExpire_fn (a9, (a0, (a1, (a2, (a3, (a4, (a5, ()))))))))) (fun r1 =>
         .opt (β := (Int × Unit)) ((natWithin_fn (r1.1, (r1.2.1, (r1.2.2.1, (r1.2.2.2.1, (r1.2.2.2.2.1, (r1.2.2.2.2.2.1, (a6, (a7, (a8, ()))))))))))) (fun r2 =>
         .ite (decide ((0 : Int) ≤ r2.1)) (
          .grd (decide ((0 : Int) ≤ r2.1 ∧ r2.1 < (↑(List.length r1.2.2.2.2.2.fst) : Int))) (
          .opt (β := TMap) (r1.2.2.2.2.2.1[Int.toNat r2.1]?) (fun r3 =>
          .grd (decide (List.length r1.2.2.2.2.2.fst = List.length r1.2.2.2.2.2.1)) (
          .opt (β := ((List TMap) × Unit)) ((delMap_fn (r2.1, (IntKind.wrap IntKind.i64 (r2.1 + (1 : Int)), (r1.2.2.2.2.2.1, ()))))) (fun r4 =>
          .grd (decide ((List.length r4.1 + List.length [TMap.mk a6 a7 a8 r3.out a9]) * (40 : Nat) ≤ (140737488355328 : Nat) ∧ List.length r4.1 + List.length [TMap.mk a6 a7 a8 r3.out a9] ≤ (9223372036854775807 : Nat))) (
          .ret (r1.1, (r1.2.1, (r1.2.2.1, (r1.2.2.2.1, (r1.2.2.2.2.1, (r4.1 ++ [TMap.mk a6 a7 a8 r3.out a9], (r3.out, ((0 : Int), ())))))))))))))) (
          .ite (decide (a6 = (17 : Int))) (
           .opt (β := (Int × (Int × (Int × (Int × Unit))))) ((portsLet_fn (r1.2.1, (r1.2.2.1, (a8, ()))))) (fun r3 =>
           .ite (!decide (r3.2.2.2.1 = (0 : Int))) (
            .ret (a0, (a1, (a2, (a3, (a4, (a5, ((0 : Int), (r3.2.2.2.1, ()))))))))) (
            .grd (decide ((List.length r1.2.2.2.2.2.1 + List.length [TMap.mk a6 a7 a8 r3.2.2.1 a9]) * (40 : Nat) ≤ (140737488355328 : Nat) ∧ List.length r1.2.2.2.2.2.1 + List.length [TMap.mk a6 a7 a8 r3.2.2.1 a9] ≤ (9223372036854775807 : Nat))) (
            .ret (r1.1, (r3.1, (r3.2.1, (r1.2.2.2.1, (r1.2.2.2.2.1, (r1.2.2.2.2.2.1 ++ [TMap.mk a6 a7 a8 r3.2.2.1 a9], (r3.2.2.1, ((0 : Int), ())))))))))))) (
           .ite (decide (a6 = (6 : Int))) (
            .opt (β := (Int × (Int × (Int × (Int × Unit))))) ((portsLet_fn (r1.2.2.2.1, (r1.2.2.2.2.1, (a8, ()))))) (fun r3 =>
            .ite (!decide (r3.2.2.2.1 = (0 : Int))) (
             .ret (a0, (a1, (a2, (a3, (a4, (a5, ((0 : Int), (r3.2.2.2.1, ()))))))))) (
             .grd (decide ((List.length r1.2.2.2.2.2.1 + List.length [TMap.mk a6 a7 a8 r3.2.2.1 a9]) * (40 : Nat) ≤ (140737488355328 : Nat) ∧ List.length r1.2.2.2.2.2.1 + List.length [TMap.mk a6 a7 a8 r3.2.2.1 a9] ≤ (9223372036854775807 : Nat))) (
             .ret (r1.1, (r1.2.1, (r1.2.2.1, (r3.1, (r3.2.1, (r1.2.2.2.2.2.1 ++ [TMap.mk a6 a7 a8 r3.2.2.1 a9], (r3.2.2.1, ((0 : Int), ())))))))))))) (
            .fail 3))))))))))))))))
theorem natOut_eq (x : (Int × (Int × (Int × (Int × (Int × ((List TMap) × (Int × (Int × (Int × (Int × Unit))))))))))) : fnTr Tryd.prog cod [tz64, FS.pf portsCheck, FS.pf portsLet, FS.pf portsEnd, clMap, GS.pf delMap, FS.pf eqMap, FS.pf natWithin, FS.pf natCheck, natPlace, GS.pf natExpire] [] 30 6 natOut_ap natOut_rp x = natOut_tree x := by kernel_rfl
def natOut_fn (x : (Int × (Int × (Int × (Int × (Int × ((List TMap) × (Int × (Int × (Int × (Int × Unit))))))))))) : Option (Int × (Int × (Int × (Int × (Int × ((List TMap) × (Int × (Int × Unit)))))))) := (natOut_tree x).eval
def natOut : FS Tryd.prog := ⟨6, natOut_ap, natOut_rp, natOut_fn, fun x r h => fnTr_sound (cod := cod) (Γ := [tz64, FS.pf portsCheck, FS.pf portsLet, FS.pf portsEnd, clMap, GS.pf delMap, FS.pf eqMap, FS.pf natWithin, FS.pf natCheck, natPlace, GS.pf natExpire]) (Λs := []) (n := 30) ((congrArg Tr.eval (natOut_eq x)).trans h)⟩
def natIn_L8_9 : LS := ⟨9, [(4, 4)], ⟨62, [(34, .v (.one (.i .i64))), (4, .v (.one (.ptr 4 0))), (3, .v (.one (.i .i64))), (2, .v (.one (.i .i64))), (1, .v (.one (.i .i64))), (32, .v (.one (.st 17 false))), (33, .v (.one (.i .i64)))], [(4, .cells [.i .i64, .i .i64, .i .u64, .i .i64, .i .u64, .st 17 false])]⟩, [⟨none, [], ⟨62, [(8, .v (.one (.i .u32))), (9, .v (.one (.i .i64))), (10, .v (.one (.i .i64)))], []⟩⟩, ⟨some 0, [], ⟨62, [], []⟩⟩], []⟩
def natIn_step8_9 : (Int × (Int × (Int × (Int × ((List TMap) × (Int × (Int × (Int × (Int × (Int × (Int × ((List TMap) × Unit)))))))))))) → Tr ((Int × (Int × (Int × (Int × ((List TMap) × (Int × (Int × (Int × (Int × (Int × (Int × ((List TMap) × Unit)))))))))))) ⊕ ((Int × (Int × (Int × Unit))) ⊕ Unit)) :=
  fun (a0, a1, a2, a3, a4, a5, a6, a7, a8, a9, a10, a11, _) =>
  .ite (decide (a0 < a5)) (
   .grd (decide ((0 : Int) ≤ a0)) (
   .opt (β := TMap) (a4[Int.toNat a0]?) (fun r0 =>
   .ite (decide (r0.proto = a3)) (
    .ite (decide (r0.out = a2)) (
     .ite (decide (IntKind.wrap IntKind.i64 (a1 - r0.at') ≤ a6)) (
      .ret (Sum.inr (Sum.inl (r0.addr, (r0.port, ((0 : Int), ())))))) (
      .ret (Sum.inl (IntKind.wrap IntKind.i64 (a0 + (1 : Int)), (a1, (a2, (a3, (a4, (a5, (a6, (a7, (a8, (a9, (a10, (a11, ()))))))))))))))) (
     .ret (Sum.inl (IntKind.wrap IntKind.i64 (a0 + (1 : Int)), (a1, (a2, (a3, (a4, (a5, (a6, (a7, (a8, (a9, (a10, (a11, ()))))))))))))))) (
    .ret (Sum.inl (IntKind.wrap IntKind.i64 (a0 + (1 : Int)), (a1, (a2, (a3, (a4, (a5, (a6, (a7, (a8, (a9, (a10, (a11, ()))))))))))))))))) (
   .ret (Sum.inr (Sum.inr ())))
def natIn_loop8_9 (x : (Int × (Int × (Int × (Int × ((List TMap) × (Int × (Int × (Int × (Int × (Int × (Int × ((List TMap) × Unit))))))))))))) : Option ((Int × (Int × (Int × Unit))) ⊕ Unit) := loopO 80009 (fun x => (natIn_step8_9 x).eval) 18446744073709551616 x
def natIn_ap : List VP1 := [.agg [.i .i64, .i .i64, .i .u64, .i .i64, .i .u64, .st 17 false], .one (.i .i64), .one (.i .i64), .one (.i .i64)]
def natIn_rp : SP := ⟨1, [(0, .tup [.one (.i .u32), .one (.i .i64), .one (.i .i64)])], []⟩
def natIn_tree : (Int × (Int × (Int × (Int × (Int × ((List TMap) × (Int × (Int × (Int × Unit))))))))) → Tr (Int × (Int × (Int × Unit))) :=
  fun (a0, a1, a2, a3, a4, a5, a6, a7, a8, _) =>
  .opt (β := (Int × Unit)) ((natCheck_fn (a0, (a1, (a2, (a3, (a4, (a5, ())))))))) (fun r0 =>
  .ite (!decide (r0.1 = (0 : Int))) (
   .ret ((0 : Int), ((0 : Int), (r0.1, ())))) (
   .ite (!decide (a6 = (6 : Int))) (
    .ite (!decide (a6 = (17 : Int))) (
     .ret ((0 : Int), ((0 : Int), ((7 : Int), ())))) (
     .ite (decide (a8 < (0 : Int))) (
      .ret ((0 : Int), ((0 : Int), ((1 : Int), ())))) (
      .ite (decide ((1099511627776 : Int) < a8)) (
       .ret ((0 : Int), ((0 : Int), ((1 : Int), ())))) (
       .opt (β := ((Int × (Int × (Int × Unit))) ⊕ Unit)) ((natIn_loop8_9 ((0 : Int), (a8, (a7, (a6, (a5, ((↑(List.length a5) : Int), (a0, (a1, (a2, (a3, (a4, (a5, ())))))))))))))) (fun r1 =>
       .sum (β := (Int × (Int × (Int × Unit)))) (γ := Unit) (r1) (fun r2 =>
        .ret (r2.1, (r2.2.1, (r2.2.2.1, ())))) (fun r2 =>
        .ret ((0 : Int), ((0 : Int), ((7 : Int), ()))))))))) (
    .ite (decide (a8 < (0 : Int))) (
     .ret ((0 : Int), ((0 : Int), ((1 : Int), ())))) (
     .ite (decide ((1099511627776 : Int) < a8)) (
      .ret ((0 : Int), ((0 : Int), ((1 : Int), ())))) (
      .opt (β := ((Int × (Int × (Int × Unit))) ⊕ Unit)) ((natIn_loop8_9 ((0 : Int), (a8, (a7, (a6, (a5, ((↑(List.length a5) : Int), (a0, (a1, (a2, (a3, (a4, (a5, ())))))))))))))) (fun r1 =>
      .sum (β := (Int × (Int × (Int × Unit)))) (γ := Unit) (r1) (fun r2 =>
       .ret (r2.1, (r2.2.1, (r2.2.2.1, ())))) (fun r2 =>
       .ret ((0 : Int), ((0 : Int), ((7 : Int), ()))))))))))
theorem natIn_eq (x : (Int × (Int × (Int × (Int × (Int × ((List TMap) × (Int × (Int × (Int × Unit)))))))))) : fnTr Tryd.prog cod [tz64, FS.pf portsCheck, FS.pf portsLet, FS.pf portsEnd, clMap, GS.pf delMap, FS.pf eqMap, FS.pf natWithin, FS.pf natCheck, natPlace, GS.pf natExpire, FS.pf natOut] [(8, natIn_L8_9)] 30 8 natIn_ap natIn_rp x = natIn_tree x := by kernel_rfl
def natIn_fn (x : (Int × (Int × (Int × (Int × (Int × ((List TMap) × (Int × (Int × (Int × Unit)))))))))) : Option (Int × (Int × (Int × Unit))) := (natIn_tree x).eval
def natIn : FS Tryd.prog := ⟨8, natIn_ap, natIn_rp, natIn_fn, fun x r h => fnTr_sound (cod := cod) (Γ := [tz64, FS.pf portsCheck, FS.pf portsLet, FS.pf portsEnd, clMap, GS.pf delMap, FS.pf eqMap, FS.pf natWithin, FS.pf natCheck, natPlace, GS.pf natExpire, FS.pf natOut]) (Λs := [(8, natIn_L8_9)]) (n := 30) ((congrArg Tr.eval (natIn_eq x)).trans h)⟩
end Go.Proofs.YtcdcdmfecglemaaDoor.X
