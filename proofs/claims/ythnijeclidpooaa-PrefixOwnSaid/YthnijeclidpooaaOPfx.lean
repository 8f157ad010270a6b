/- Functions of the program, as trees (printed by a program of mine: tool/XTool, xg.py), each with the proof that the machine comes to what its tree says. Conditions: none. -/
import Derived.Test.YthnijeclidpooaaCod
import Derived.KernelRfl
import Derived.Test.YthnijeclidpooaaGPfx
import Derived.Test.YthnijeclidpooaaPfxO
import Derived.Test.YthnijeclidpooaaPfxO
import Derived.Test.YthnijeclidpooaaAbsJ
namespace Go.Proofs.Ythnijeclidpooaa.X
open Go Go.RowKit Go.Proofs.Ythnijeclidpooaa.Abs
set_option maxRecDepth 100000
set_option linter.unusedVariables false
theorem cdNode_h1 (xs : List (τ 9)) : (bodyTr Go.Proofs.Try.prog cod 27 [.one (.nn (.st 9 xs))]).eval = (cloneRes 66 9 32 xs).eval := by kernel_rfl
theorem cdNode_h2 : (bodyTr Go.Proofs.Try.prog cod 27 [.one .nil]).eval = some (.one .nil, []) := by kernel_rfl
def cdNode : PF Go.Proofs.Try.prog := dataPF (clonePF Go.Proofs.Try.prog cod 27 66 9 32 cdNode_h1 cdNode_h2)
def prefixOwn_L2008_10 : LS := ⟨10, [(27000, 27000), (2, 2)], ⟨70, [(47, .v (.one (.i .i64))), (12, .v (.one (.own 27000))), (37, .v (.agg [.bad, .bad])), (5, .v (.one (.st 9 true))), (2, .v (.one (.ptr 2 0))), (10, .v (.one (.b))), (38, .v (.one (.kn .i64 1))), (46, .v (.one (.i .i64)))], [(27000, .row 66 9 false false), (2, .cells [.st 9 false])]⟩, [⟨some 2, [(2, 2)], ⟨70, [(37, .v (.agg [.bad, .bad])), (5, .v (.one (.st 9 true))), (2, .v (.one (.ptr 2 0))), (10, .v (.one (.b))), (38, .v (.one (.kn .i64 1)))], [(2, .cells [.st 9 false])]⟩⟩], []⟩
def prefixOwn_step2008_10 : (Int × ((List TNode) × (Bool × (Int × ((List TNode) × ((List TNode) × Unit)))))) → Tr ((Int × ((List TNode) × (Bool × (Int × ((List TNode) × ((List TNode) × Unit)))))) ⊕ ((List TNode) × (Bool × ((List TNode) × Unit)))) :=
  fun (a0, a1, a2, a3, a4, a5, _) =>
  .ite (decide (a0 < a3)) (
   .grd (decide ((0 : Int) ≤ a0 ∧ a0 < (↑(List.length a4) : Int))) (
   .opt (β := TNode) (a4[Int.toNat a0]?) (fun r0 =>
   .grd (decide ((0 : Int) ≤ a0 ∧ a0 < (↑(List.length a4) : Int))) (
   .opt (β := TNode) (a4[Int.toNat a0]?) (fun r1 =>
   .grd (decide (List.length a4 = List.length (List.set a4 (Int.toNat a0) (TNode.mk r1.next0 r1.next1 r1.set (IntKind.wrap IntKind.i64 (r0.value + (1 : Int))))))) (
   .ret (Sum.inl (IntKind.wrap IntKind.i64 (a0 + (1 : Int)), (a1, (a2, (a3, (List.set a4 (Int.toNat a0) (TNode.mk r1.next0 r1.next1 r1.set (IntKind.wrap IntKind.i64 (r0.value + (1 : Int)))), (a5, ()))))))))))))) (
   .ret (Sum.inr (a1, (a2, (a5, ())))))
def prefixOwn_loop2008_10 (x : (Int × ((List TNode) × (Bool × (Int × ((List TNode) × ((List TNode) × Unit))))))) : Option ((List TNode) × (Bool × ((List TNode) × Unit))) := loopO 20080010 (fun x => (prefixOwn_step2008_10 x).eval) 18446744073709551616 x
def prefixOwn_L1008_10 : LS := ⟨10, [(21000, 21000), (27000, 27000), (2, 2)], ⟨70, [(47, .v (.one (.i .i64))), (12, .v (.one (.own 21000))), (37, .v (.agg [.bad, .own 27000])), (5, .v (.one (.st 9 true))), (2, .v (.one (.ptr 2 0))), (10, .v (.one (.b))), (38, .v (.one (.kn .i64 0))), (46, .v (.one (.i .i64)))], [(21000, .row 66 9 false false), (27000, .row 66 9 true true), (2, .cells [.st 9 false])]⟩, [⟨some 2, [(27000, 27000), (2, 2)], ⟨70, [(37, .v (.agg [.bad, .own 27000])), (5, .v (.one (.st 9 true))), (2, .v (.one (.ptr 2 0))), (10, .v (.one (.b))), (38, .v (.one (.kn .i64 0)))], [(27000, .row 66 9 true true), (2, .cells [.st 9 false])]⟩⟩], []⟩
def prefixOwn_step1008_10 : (Int × ((List TNode) × (Bool × (Int × ((List TNode) × ((List TNode) × ((List TNode) × Unit))))))) → Tr ((Int × ((List TNode) × (Bool × (Int × ((List TNode) × ((List TNode) × ((List TNode) × Unit))))))) ⊕ ((List TNode) × (Bool × ((List TNode) × ((List TNode) × Unit))))) :=
  fun (a0, a1, a2, a3, a4, a5, a6, _) =>
  .ite (decide (a0 < a3)) (
   .grd (decide ((0 : Int) ≤ a0 ∧ a0 < (↑(List.length a4) : Int))) (
   .opt (β := TNode) (a4[Int.toNat a0]?) (fun r0 =>
   .grd (decide ((0 : Int) ≤ a0 ∧ a0 < (↑(List.length a4) : Int))) (
   .opt (β := TNode) (a4[Int.toNat a0]?) (fun r1 =>
   .grd (decide (List.length a4 = List.length (List.set a4 (Int.toNat a0) (TNode.mk r1.next0 r1.next1 r1.set (IntKind.wrap IntKind.i64 (r0.value + (1 : Int))))))) (
   .grd (decide (List.length a5 = List.length a5)) (
   .ret (Sum.inl (IntKind.wrap IntKind.i64 (a0 + (1 : Int)), (a1, (a2, (a3, (List.set a4 (Int.toNat a0) (TNode.mk r1.next0 r1.next1 r1.set (IntKind.wrap IntKind.i64 (r0.value + (1 : Int)))), (a5, (a6, ()))))))))))))))) (
   .grd (decide (List.length a5 = List.length a5)) (
   .ret (Sum.inr (a1, (a2, (a5, (a6, ())))))))
def prefixOwn_loop1008_10 (x : (Int × ((List TNode) × (Bool × (Int × ((List TNode) × ((List TNode) × ((List TNode) × Unit)))))))) : Option ((List TNode) × (Bool × ((List TNode) × ((List TNode) × Unit)))) := loopO 10080010 (fun x => (prefixOwn_step1008_10 x).eval) 18446744073709551616 x
def prefixOwn_ap : List VP1 := [.agg [.st 9 false], .agg [.i .u32, .i .i64]]
def prefixOwn_tree : ((List TNode) × (Int × (Int × Unit))) → Tr Prop :=
  fun (a0, a1, a2, _) =>
  .grd (decide (((0 : Nat) + List.length a0) * (32 : Nat) ≤ (140737488355328 : Nat) ∧ (0 : Nat) + List.length a0 ≤ (9223372036854775807 : Nat))) (
  .grd (okA a1 && okL a2) (
  .grd (okA a1 && okL a2) (
  .opt (β := (Bool × Unit)) ((eqNode_fn (a0, (a0, ())))) (fun r0 =>
  .ite (true) (
   .ret (AllP fun (n1 : Nat) =>
    .grd (decide ((↑n1 : Int) = (↑n1 : Int))) (
    .grd (decide (n1 = n1)) (
    .ret (AllY (9 : Nat) n1 fun (y2 : List (τ (9 : Nat))) =>
     .grd (decide (n1 = List.length y2)) (
     .grd (decide (List.length (remT a0 a1 a2).fst = List.length (remT a0 a1 a2).fst)) (
     .opt (β := ((List TNode) × (Bool × ((List TNode) × ((List TNode) × Unit))))) ((prefixOwn_loop1008_10 ((0 : Int), (a0, (r0.1, ((↑n1 : Int), (y2, ((remT a0 a1 a2).fst, (a0, ()))))))))) (fun r3 =>
     .ite (true) (
      .ret (AllP fun (n4 : Nat) =>
       .grd (decide ((↑n4 : Int) = (↑n4 : Int))) (
       .grd (decide (n4 = n4)) (
       .ret (AllY (9 : Nat) n4 fun (y5 : List (τ (9 : Nat))) =>
        .grd (decide (n4 = List.length y5)) (
        .opt (β := ((List TNode) × (Bool × ((List TNode) × Unit)))) ((prefixOwn_loop2008_10 ((0 : Int), (r3.1, (r3.2.1, ((↑n4 : Int), (y5, (r3.2.2.2.1, ())))))))) (fun r6 =>
        .ite (false) (
         .fail 3) (
         .opt (β := (Bool × Unit)) ((prefixLives_fn ())) (fun r7 =>
         .ite (r7.1) (
          .ite (r6.2.1) (
           .opt (β := (Bool × Unit)) ((eqNode_fn (r6.2.2.1, (r6.1, ())))) (fun r8 =>
           .ret (r8.1 = true))) (
           .ret (false = true))) (
          .ret (false = true))))))))))) (
      .opt (β := (Bool × Unit)) ((prefixLives_fn ())) (fun r4 =>
      .ite (r4.1) (
       .ite (r3.2.1) (
        .opt (β := (Bool × Unit)) ((eqNode_fn (r3.2.2.2.1, (r3.1, ())))) (fun r5 =>
        .ret (r5.1 = true))) (
        .ret (false = true))) (
       .ret (false = true)))))))))))) (
   .opt (β := (Bool × Unit)) ((prefixLives_fn ())) (fun r1 =>
   .ite (r1.1) (
    .ite (r0.1) (
     .opt (β := (Bool × Unit)) ((eqNode_fn (a0, (a0, ())))) (fun r2 =>
     .ret (r2.1 = true))) (
     .ret (false = true))) (
    .ret (false = true))))))))
theorem prefixOwn_eq (x : ((List TNode) × (Int × (Int × Unit)))) : lawJ Try.prog cod [pfFind, FS.pf eqNode, FS.pf sameTrie, FS.pf prefixLives, FS.pf prefixAny, pfPutO, pfRemO, cdNode] [(2008, prefixOwn_L2008_10), (1008, prefixOwn_L1008_10)] [(8, 12), (500010, 12)] [6] 30 8 prefixOwn_ap x = prefixOwn_tree x := by kernel_rfl
noncomputable def prefixOwn : FS Try.prog := jFS 8 prefixOwn_ap prefixOwn_tree fun x h => lawJ_sound (cod := cod) (Γ := [pfFind, FS.pf eqNode, FS.pf sameTrie, FS.pf prefixLives, FS.pf prefixAny, pfPutO, pfRemO, cdNode]) (Λs := [(2008, prefixOwn_L2008_10), (1008, prefixOwn_L1008_10)]) (opn := [(8, 12), (500010, 12)]) (un := [6]) (n := 30) (prefixOwn_eq x ▸ h)
end Go.Proofs.Ythnijeclidpooaa.X
