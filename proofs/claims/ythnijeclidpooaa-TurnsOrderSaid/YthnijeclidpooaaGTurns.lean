/- Functions of the program, as trees (printed by a program of mine: tool/XTool, xg.py), each with the proof that the machine comes to what its tree says. Conditions: none. -/
import Derived.Test.YthnijeclidpooaaCod
import Derived.KernelRfl
namespace Go.Proofs.Ythnijeclidpooaa.X
open Go Go.RowKit Go.Proofs.Ythnijeclidpooaa.Abs
set_option maxRecDepth 100000
set_option linter.unusedVariables false
theorem clInts_h1 (xs : List (τ 0)) : (bodyTr Go.Proofs.Try.prog cod 17 [.one (.nn (.st 0 xs))]).eval = (cloneRes 3 0 8 xs).eval := by kernel_rfl
theorem clInts_h2 : (bodyTr Go.Proofs.Try.prog cod 17 [.one .nil]).eval = some (.one .nil, []) := by kernel_rfl
def clInts : PF Go.Proofs.Try.prog := dataPF (clonePF Go.Proofs.Try.prog cod 17 3 0 8 clInts_h1 clInts_h2)
def tuSize_ap : List VP1 := [.one (.i .i64)]
def tuSize_rp : SP := ⟨1, [(0, .v (.one (.b)))], []⟩
def tuSize_tree : (Int × Unit) → Tr (Bool × Unit) :=
  fun (a0, _) =>
  .ite (decide ((1 : Int) ≤ a0)) (
   .ret (decide (a0 ≤ (1000000 : Int)), ())) (
   .ret (false, ()))
theorem tuSize_eq (x : (Int × Unit)) : fnTr Try.prog cod [clInts] [] 30 39 tuSize_ap tuSize_rp x = tuSize_tree x := by kernel_rfl
def tuSize_fn (x : (Int × Unit)) : Option (Bool × Unit) := (tuSize_tree x).eval
def tuSize : FS Try.prog := ⟨39, tuSize_ap, tuSize_rp, tuSize_fn, fun x r h => fnTr_sound (cod := cod) (Γ := [clInts]) (Λs := []) (n := 30) ((congrArg Tr.eval (tuSize_eq x)).trans h)⟩
def tuCheck_L13_10 : LS := ⟨10, [], ⟨63, [(32, .v (.one (.i .i64))), (30, .v (.one (.st 12 false))), (31, .v (.one (.i .i64)))], []⟩, [⟨none, [], ⟨63, [(2, .v (.one (.i .i64)))], []⟩⟩, ⟨some 2, [], ⟨63, [], []⟩⟩], []⟩
def tuCheck_step13_10 : (Int × ((List TQueue) × (Int × Unit))) → Tr ((Int × ((List TQueue) × (Int × Unit))) ⊕ ((Int × Unit) ⊕ Unit)) :=
  fun (a0, a1, a2, _) =>
  .ite (decide (a0 < a2)) (
   .grd (decide ((0 : Int) ≤ a0)) (
   .opt (β := TQueue) (a1[Int.toNat a0]?) (fun r0 =>
   .ite (decide (r0.saved < (0 : Int))) (
    .ret (Sum.inr (Sum.inl ((4 : Int), ())))) (
    .ite (decide ((↑(List.length r0.sizes) : Int) = (0 : Int))) (
     .ite (decide ((0 : Int) < r0.saved)) (
      .ret (Sum.inr (Sum.inl ((4 : Int), ())))) (
      .ite (decide ((0 : Int) < (↑(List.length r0.sizes) : Int))) (
       .grd (true) (
       .opt (β := Int) (r0.sizes[(0 : Nat)]?) (fun r1 =>
       .ite (decide (r1 ≤ r0.saved)) (
        .ret (Sum.inr (Sum.inl ((4 : Int), ())))) (
        .ret (Sum.inl (IntKind.wrap IntKind.i64 (a0 + (1 : Int)), (a1, (a2, ())))))))) (
       .ret (Sum.inl (IntKind.wrap IntKind.i64 (a0 + (1 : Int)), (a1, (a2, ()))))))) (
     .ite (decide ((0 : Int) < (↑(List.length r0.sizes) : Int))) (
      .grd (true) (
      .opt (β := Int) (r0.sizes[(0 : Nat)]?) (fun r1 =>
      .ite (decide (r1 ≤ r0.saved)) (
       .ret (Sum.inr (Sum.inl ((4 : Int), ())))) (
       .ret (Sum.inl (IntKind.wrap IntKind.i64 (a0 + (1 : Int)), (a1, (a2, ())))))))) (
      .ret (Sum.inl (IntKind.wrap IntKind.i64 (a0 + (1 : Int)), (a1, (a2, ())))))))))) (
   .ret (Sum.inr (Sum.inr ())))
def tuCheck_loop13_10 (x : (Int × ((List TQueue) × (Int × Unit)))) : Option ((Int × Unit) ⊕ Unit) := loopO 130010 (fun x => (tuCheck_step13_10 x).eval) 18446744073709551616 x
def tuCheck_L71_2 : LS := ⟨2, [], ⟨19, [(8, .v (.one (.i .i64))), (0, .v (.one (.st 0 false))), (1, .v (.one (.clo 41 []))), (7, .v (.one (.i .i64)))], []⟩, [⟨none, [], ⟨19, [(4, .v (.one (.i .i64)))], []⟩⟩, ⟨some 0, [], ⟨19, [], []⟩⟩], []⟩
def tuCheck_step71_2 : (Int × ((List Int) × (Int × Unit))) → Tr ((Int × ((List Int) × (Int × Unit))) ⊕ ((Int × Unit) ⊕ Unit)) :=
  fun (a0, a1, a2, _) =>
  .ite (decide (a0 < a2)) (
   .grd (decide ((0 : Int) ≤ a0)) (
   .opt (β := Int) (a1[Int.toNat a0]?) (fun r0 =>
   .opt (β := (Bool × Unit)) ((tuSize_fn (r0, ()))) (fun r1 =>
   .ite (!r1.1) (
    .ret (Sum.inr (Sum.inl (a0, ())))) (
    .ret (Sum.inl (IntKind.wrap IntKind.i64 (a0 + (1 : Int)), (a1, (a2, ()))))))))) (
   .ret (Sum.inr (Sum.inr ())))
def tuCheck_loop71_2 (x : (Int × ((List Int) × (Int × Unit)))) : Option ((Int × Unit) ⊕ Unit) := loopO 710002 (fun x => (tuCheck_step71_2 x).eval) 18446744073709551616 x
def tuCheck_L13_4 : LS := ⟨4, [], ⟨63, [(16, .v (.one (.i .i64))), (14, .v (.one (.st 12 false))), (0, .v (.one (.st 12 false))), (15, .v (.one (.i .i64)))], []⟩, [⟨none, [], ⟨63, [(2, .v (.one (.i .i64)))], []⟩⟩, ⟨some 0, [], ⟨63, [(0, .v (.one (.st 12 false)))], []⟩⟩], []⟩
def tuCheck_step13_4 : (Int × ((List TQueue) × ((List TQueue) × (Int × Unit)))) → Tr ((Int × ((List TQueue) × ((List TQueue) × (Int × Unit)))) ⊕ ((Int × Unit) ⊕ ((List TQueue) × Unit))) :=
  fun (a0, a1, a2, a3, _) =>
  .ite (decide (a0 < a3)) (
   .grd (decide ((0 : Int) ≤ a0)) (
   .opt (β := TQueue) (a1[Int.toNat a0]?) (fun r0 =>
   .opt (β := (Bool × Unit)) ((tuSize_fn (r0.share, ()))) (fun r1 =>
   .ite (!r1.1) (
    .ret (Sum.inr (Sum.inl ((1 : Int), ())))) (
    .opt (β := ((Int × Unit) ⊕ Unit)) ((tuCheck_loop71_2 ((0 : Int), (r0.sizes, ((↑(List.length r0.sizes) : Int), ()))))) (fun r2 =>
    .sum (β := (Int × Unit)) (γ := Unit) (r2) (fun r3 =>
     .ite (decide ((0 : Int) ≤ r3.1)) (
      .ret (Sum.inr (Sum.inl ((1 : Int), ())))) (
      .ret (Sum.inl (IntKind.wrap IntKind.i64 (a0 + (1 : Int)), (a1, (a2, (a3, ()))))))) (fun r3 =>
     .ite (false) (
      .ret (Sum.inr (Sum.inl ((1 : Int), ())))) (
      .ret (Sum.inl (IntKind.wrap IntKind.i64 (a0 + (1 : Int)), (a1, (a2, (a3, ()))))))))))))) (
   .ret (Sum.inr (Sum.inr (a2, ()))))
def tuCheck_loop13_4 (x : (Int × ((List TQueue) × ((List TQueue) × (Int × Unit))))) : Option ((Int × Unit) ⊕ ((List TQueue) × Unit)) := loopO 130004 (fun x => (tuCheck_step13_4 x).eval) 18446744073709551616 x
def tuCheck_L70_2 : LS := ⟨2, [], ⟨19, [(8, .v (.one (.i .i64))), (0, .v (.one (.st 12 false))), (1, .v (.one (.clo 38 []))), (7, .v (.one (.i .i64)))], []⟩, [⟨none, [], ⟨19, [(4, .v (.one (.i .i64)))], []⟩⟩, ⟨some 0, [], ⟨19, [], []⟩⟩], []⟩
def tuCheck_step70_2 : (Int × ((List TQueue) × (Int × Unit))) → Tr ((Int × ((List TQueue) × (Int × Unit))) ⊕ ((Int × Unit) ⊕ Unit)) :=
  fun (a0, a1, a2, _) =>
  .ite (decide (a0 < a2)) (
   .grd (decide ((0 : Int) ≤ a0)) (
   .opt (β := TQueue) (a1[Int.toNat a0]?) (fun r0 =>
   .ite (decide ((200 : Int) < (↑(List.length r0.sizes) : Int))) (
    .ret (Sum.inr (Sum.inl (a0, ())))) (
    .ret (Sum.inl (IntKind.wrap IntKind.i64 (a0 + (1 : Int)), (a1, (a2, ())))))))) (
   .ret (Sum.inr (Sum.inr ())))
def tuCheck_loop70_2 (x : (Int × ((List TQueue) × (Int × Unit)))) : Option ((Int × Unit) ⊕ Unit) := loopO 700002 (fun x => (tuCheck_step70_2 x).eval) 18446744073709551616 x
def tuCheck_ap : List VP1 := [.one (.st 12 false)]
def tuCheck_rp : SP := ⟨1, [(0, .v (.one (.i .i64)))], []⟩
def tuCheck_tree : ((List TQueue) × Unit) → Tr (Int × Unit) :=
  fun (a0, _) =>
  .ite (decide ((16 : Int) < (↑(List.length a0) : Int))) (
   .ret ((2 : Int), ())) (
   .opt (β := ((Int × Unit) ⊕ Unit)) ((tuCheck_loop70_2 ((0 : Int), (a0, ((↑(List.length a0) : Int), ()))))) (fun r0 =>
   .sum (β := (Int × Unit)) (γ := Unit) (r0) (fun r1 =>
    .ite (decide ((0 : Int) ≤ r1.1)) (
     .ret ((2 : Int), ())) (
     .opt (β := ((Int × Unit) ⊕ ((List TQueue) × Unit))) ((tuCheck_loop13_4 ((0 : Int), (a0, (a0, ((↑(List.length a0) : Int), ())))))) (fun r2 =>
     .sum (β := (Int × Unit)) (γ := ((List TQueue) × Unit)) (r2) (fun r3 =>
      .ret (r3.1, ())) (fun r3 =>
      .opt (β := ((Int × Unit) ⊕ Unit)) ((tuCheck_loop13_10 ((0 : Int), (r3.1, ((↑(List.length r3.1) : Int), ()))))) (fun r4 =>
      .sum (β := (Int × Unit)) (γ := Unit) (r4) (fun r5 =>
       .ret (r5.1, ())) (fun r5 =>
       .ret ((0 : Int), ()))))))) (fun r1 =>
    .ite (false) (
     .ret ((2 : Int), ())) (
     .opt (β := ((Int × Unit) ⊕ ((List TQueue) × Unit))) ((tuCheck_loop13_4 ((0 : Int), (a0, (a0, ((↑(List.length a0) : Int), ())))))) (fun r2 =>
     .sum (β := (Int × Unit)) (γ := ((List TQueue) × Unit)) (r2) (fun r3 =>
      .ret (r3.1, ())) (fun r3 =>
      .opt (β := ((Int × Unit) ⊕ Unit)) ((tuCheck_loop13_10 ((0 : Int), (r3.1, ((↑(List.length r3.1) : Int), ()))))) (fun r4 =>
      .sum (β := (Int × Unit)) (γ := Unit) (r4) (fun r5 =>
       .ret (r5.1, ())) (fun r5 =>
       .ret ((0 : Int), ())))))))))
theorem tuCheck_eq (x : ((List TQueue) × Unit)) : fnTr Try.prog cod [clInts, FS.pf tuSize] [(13, tuCheck_L13_10), (71, tuCheck_L71_2), (13, tuCheck_L13_4), (70, tuCheck_L70_2)] 30 13 tuCheck_ap tuCheck_rp x = tuCheck_tree x := by kernel_rfl
def tuCheck_fn (x : ((List TQueue) × Unit)) : Option (Int × Unit) := (tuCheck_tree x).eval
def tuCheck : FS Try.prog := ⟨13, tuCheck_ap, tuCheck_rp, tuCheck_fn, fun x r h => fnTr_sound (cod := cod) (Γ := [clInts, FS.pf tuSize]) (Λs := [(13, tuCheck_L13_10), (71, tuCheck_L71_2), (13, tuCheck_L13_4), (70, tuCheck_L70_2)]) (n := 30) ((congrArg Tr.eval (tuCheck_eq x)).trans h)⟩
def tuOwn_L42_3 : LS := ⟨3, [(8, 8)], ⟨25, [(11, .v (.one (.i .i64))), (3, .v (.one (.own 8))), (9, .v (.one (.st 12 false))), (10, .v (.one (.i .i64)))], [(8, .row 35 12 true true)]⟩, [⟨some 0, [(8, 8)], ⟨25, [(3, .v (.one (.own 8)))], [(8, .row 35 12 true true)]⟩⟩], []⟩
def tuOwn_step42_3 : (Int × ((List TQueue) × (Int × ((List TQueue) × Unit)))) → Tr ((Int × ((List TQueue) × (Int × ((List TQueue) × Unit)))) ⊕ ((List TQueue) × Unit)) :=
  fun (a0, a1, a2, a3, _) =>
  .ite (decide (a0 < a2)) (
   .grd (decide ((0 : Int) ≤ a0)) (
   .opt (β := TQueue) (a1[Int.toNat a0]?) (fun r0 =>
   .grd (decide (((0 : Nat) + List.length r0.sizes) * (8 : Nat) ≤ (140737488355328 : Nat) ∧ (0 : Nat) + List.length r0.sizes ≤ (9223372036854775807 : Nat))) (
   .grd (decide ((List.length a3 + List.length [TQueue.mk r0.share r0.saved r0.sizes]) * (40 : Nat) ≤ (140737488355328 : Nat) ∧ List.length a3 + List.length [TQueue.mk r0.share r0.saved r0.sizes] ≤ (9223372036854775807 : Nat))) (
   .grd (decide (List.length (a3 ++ [TQueue.mk r0.share r0.saved r0.sizes]) = List.length (a3 ++ [TQueue.mk r0.share r0.saved r0.sizes]))) (
   .ret (Sum.inl (IntKind.wrap IntKind.i64 (a0 + (1 : Int)), (a1, (a2, (a3 ++ [TQueue.mk r0.share r0.saved r0.sizes], ()))))))))))) (
   .grd (decide (List.length a3 = List.length a3)) (
   .ret (Sum.inr (a3, ()))))
def tuOwn_loop42_3 (x : (Int × ((List TQueue) × (Int × ((List TQueue) × Unit))))) : Option ((List TQueue) × Unit) := loopO 420003 (fun x => (tuOwn_step42_3 x).eval) 18446744073709551616 x
def tuOwn_ap : SP := ⟨25, [(0, .v (.one (.st 12 false)))], []⟩
def tuOwn_rp : SP := ⟨1, [(0, .v (.one (.own 2000000)))], [(2000000, .row 35 12 true true)]⟩
def tuOwn_tree : ((List TQueue) × Unit) → Tr ((List TQueue) × Unit) :=
  fun (a0, _) =>
  .grd (decide ((0 : Int) ≤ (0 : Int) ∧ (0 : Int) ≤ (↑(List.length a0) : Int) ∧ Int.toNat (↑(List.length a0) : Int) * (40 : Nat) ≤ (140737488355328 : Nat) ∧ (↑(List.length a0) : Int) ≤ (↑(9223372036854775807 : Nat) : Int))) (
  .grd (true) (
  .opt (β := ((List TQueue) × Unit)) ((tuOwn_loop42_3 ((0 : Int), (a0, ((↑(List.length a0) : Int), (List.replicate (0 : Nat) (TQueue.mk (0 : Int) (0 : Int) []), ())))))) (fun r0 =>
  .grd (decide (List.length r0.fst = List.length r0.1)) (
  .ret (r0.1, ())))))
theorem tuOwn_eq (x : ((List TQueue) × Unit)) : gsTr Try.prog cod [clInts, FS.pf tuSize, FS.pf tuCheck] [(42, tuOwn_L42_3)] 30 42 tuOwn_ap tuOwn_rp x = tuOwn_tree x := by kernel_rfl
def tuOwn_fn (x : ((List TQueue) × Unit)) : Option ((List TQueue) × Unit) := (tuOwn_tree x).eval
def tuOwn : GS Try.prog := ⟨42, [0], tuOwn_ap, tuOwn_rp, tuOwn_fn, fun x r h ys m g he hg => gs_sound (cod := cod) (Γ := [clInts, FS.pf tuSize, FS.pf tuCheck]) (Λs := [(42, tuOwn_L42_3)]) (n := 30) ((congrArg Tr.eval (tuOwn_eq x)).trans h) he hg⟩
def tuRound_L14_13 : LS := ⟨13, [(17000, 17000), (6, 6)], ⟨112, [(9, .v (.one (.i .i64))), (8, .v (.one (.pr 17000 3 0))), (7, .v (.one (.i .i64))), (6, .v (.one (.own 6))), (0, .v (.one (.own 17000))), (18, .v (.one (.i .i64))), (19, .v (.one (.i .i64)))], [(17000, .row 35 12 true true), (6, .row 32 13 true true)]⟩, [⟨some 2, [(6, 6), (17000, 17000)], ⟨112, [(6, .v (.one (.own 6))), (0, .v (.one (.own 17000))), (18, .v (.one (.i .i64))), (19, .v (.one (.i .i64))), (8, .v (.one (.pr 17000 3 0))), (9, .v (.one (.i .i64)))], [(6, .row 32 13 true true), (17000, .row 35 12 true true)]⟩⟩], []⟩
def tuRound_step14_13 : (Int × (Nat × (Int × (Int × (Int × ((List TQueue) × ((List TSent) × Unit))))))) → Tr ((Int × (Nat × (Int × (Int × (Int × ((List TQueue) × ((List TSent) × Unit))))))) ⊕ (Int × (Int × (Nat × (Int × ((List TSent) × ((List TQueue) × Unit))))))) :=
  fun (a0, a1, a2, a3, a4, a5, a6, _) =>
  .opt (β := TQueue) (a5[a1]?) (fun r0 =>
  .ite (decide (a0 < (↑(List.length r0.sizes) : Int))) (
   .opt (β := TQueue) (a5[a1]?) (fun r1 =>
   .grd (decide ((0 : Int) ≤ a0)) (
   .opt (β := Int) (r1.sizes[Int.toNat a0]?) (fun r2 =>
   .opt (β := TQueue) (a5[a1]?) (fun r3 =>
   .ite (decide (r2 ≤ r3.saved)) (
    .opt (β := TQueue) (a5[a1]?) (fun r4 =>
    .grd (decide ((0 : Int) ≤ a0)) (
    .opt (β := Int) (r4.sizes[Int.toNat a0]?) (fun r5 =>
    .grd (decide ((List.length a6 + List.length [TSent.mk a2 r5]) * (16 : Nat) ≤ (140737488355328 : Nat) ∧ List.length a6 + List.length [TSent.mk a2 r5] ≤ (9223372036854775807 : Nat))) (
    .opt (β := TQueue) (a5[a1]?) (fun r6 =>
    .opt (β := TQueue) (a5[a1]?) (fun r7 =>
    .grd (decide ((0 : Int) ≤ a0)) (
    .opt (β := Int) (r7.sizes[Int.toNat a0]?) (fun r8 =>
    .opt (β := TQueue) (a5[a1]?) (fun r9 =>
    .grd (decide (List.length (a6 ++ [TSent.mk a2 r5]) = List.length (a6 ++ [TSent.mk a2 r5]))) (
    .grd (decide (List.length a5 = List.length (List.set a5 a1 (TQueue.mk r9.share (IntKind.wrap IntKind.i64 (r6.saved - r8)) r9.sizes)))) (
    .ret (Sum.inl (IntKind.wrap IntKind.i64 (a0 + (1 : Int)), (a1, (a2, (a3, (a4, (List.set a5 a1 (TQueue.mk r9.share (IntKind.wrap IntKind.i64 (r6.saved - r8)) r9.sizes), (a6 ++ [TSent.mk a2 r5], ())))))))))))))))))))) (
    .grd (decide (List.length a6 = List.length a6)) (
    .grd (decide (List.length a5 = List.length a5)) (
    .ret (Sum.inr (a3, (a4, (a1, (a0, (a6, (a5, ()))))))))))))))) (
   .grd (decide (List.length a6 = List.length a6)) (
   .grd (decide (List.length a5 = List.length a5)) (
   .ret (Sum.inr (a3, (a4, (a1, (a0, (a6, (a5, ())))))))))))
def tuRound_loop14_13 (x : (Int × (Nat × (Int × (Int × (Int × ((List TQueue) × ((List TSent) × Unit)))))))) : Option (Int × (Int × (Nat × (Int × ((List TSent) × ((List TQueue) × Unit)))))) := loopO 140013 (fun x => (tuRound_step14_13 x).eval) 18446744073709551616 x
def tuRound_L14_7 : LS := ⟨7, [(6, 6), (17000, 17000)], ⟨112, [(19, .v (.one (.i .i64))), (6, .v (.one (.own 6))), (0, .v (.one (.own 17000))), (18, .v (.one (.i .i64)))], [(6, .row 32 13 true true), (17000, .row 35 12 true true)]⟩, [⟨some 0, [(6, 6), (17000, 17000)], ⟨112, [(6, .v (.one (.own 6))), (0, .v (.one (.own 17000)))], [(6, .row 32 13 true true), (17000, .row 35 12 true true)]⟩⟩], [(6, 32, 13)]⟩
def tuRound_step14_7 : (Int × (Int × ((List TSent) × ((List TQueue) × Unit)))) → Tr ((Int × (Int × ((List TSent) × ((List TQueue) × Unit)))) ⊕ ((List TSent) × ((List TQueue) × Unit))) :=
  fun (a0, a1, a2, a3, _) =>
  .ite (decide (a0 < a1)) (
   .grd (decide ((0 : Int) ≤ a0 ∧ a0 < (↑(List.length a3) : Int))) (
   .opt (β := TQueue) (a3[Int.toNat a0]?) (fun r0 =>
   .ite (decide ((↑(List.length r0.sizes) : Int) = (0 : Int))) (
    .grd (decide (List.length a2 = List.length a2)) (
    .grd (decide (List.length a3 = List.length a3)) (
    .ret (Sum.inl (IntKind.wrap IntKind.i64 (a0 + (1 : Int)), (a1, (a2, (a3, ())))))))) (
    .opt (β := TQueue) (a3[Int.toNat a0]?) (fun r1 =>
    .opt (β := TQueue) (a3[Int.toNat a0]?) (fun r2 =>
    .opt (β := TQueue) (a3[Int.toNat a0]?) (fun r3 =>
    .grd (decide (List.length a2 = List.length a2)) (
    .grd (decide (List.length a3 = List.length (List.set a3 (Int.toNat a0) (TQueue.mk r3.share (IntKind.wrap IntKind.i64 (r1.saved + r2.share)) r3.sizes)))) (
    .opt (β := (Int × (Int × (Nat × (Int × ((List TSent) × ((List TQueue) × Unit))))))) ((tuRound_loop14_13 ((0 : Int), (Int.toNat a0, (a0, (a1, (a0, (List.set a3 (Int.toNat a0) (TQueue.mk r3.share (IntKind.wrap IntKind.i64 (r1.saved + r2.share)) r3.sizes), (a2, ()))))))))) (fun r4 =>
    .opt (β := TQueue) (r4.2.2.2.2.2.1[r4.2.2.1]?) (fun r5 =>
    .grd (decide ((0 : Int) ≤ r4.2.2.2.1 ∧ r4.2.2.2.1 ≤ (↑(List.length r5.sizes) : Int) ∧ (↑(List.length r5.sizes) : Int) ≤ (↑(List.length r5.sizes) : Int))) (
    .opt (β := TQueue) (r4.2.2.2.2.2.1[r4.2.2.1]?) (fun r6 =>
    .opt (β := TQueue) ((List.set r4.2.2.2.2.2.1 r4.2.2.1 (TQueue.mk r6.share r6.saved (List.drop (Int.toNat r4.2.2.2.1) (List.take (Int.toNat (↑(List.length r5.sizes) : Int)) r5.sizes))))[r4.2.2.1]?) (fun r7 =>
    .ite (decide ((↑(List.length r7.sizes) : Int) = (0 : Int))) (
     .opt (β := TQueue) ((List.set r4.2.2.2.2.2.1 r4.2.2.1 (TQueue.mk r6.share r6.saved (List.drop (Int.toNat r4.2.2.2.1) (List.take (Int.toNat (↑(List.length r5.sizes) : Int)) r5.sizes))))[r4.2.2.1]?) (fun r8 =>
     .grd (decide (List.length r4.2.2.2.2.fst = List.length r4.2.2.2.2.1)) (
     .grd (decide (List.length r4.2.2.2.2.2.fst = List.length (List.set (List.set r4.2.2.2.2.2.1 r4.2.2.1 (TQueue.mk r6.share r6.saved (List.drop (Int.toNat r4.2.2.2.1) (List.take (Int.toNat (↑(List.length r5.sizes) : Int)) r5.sizes)))) r4.2.2.1 (TQueue.mk r8.share (0 : Int) r8.sizes)))) (
     .ret (Sum.inl (IntKind.wrap IntKind.i64 (r4.2.1 + (1 : Int)), (r4.1, (r4.2.2.2.2.1, (List.set (List.set r4.2.2.2.2.2.1 r4.2.2.1 (TQueue.mk r6.share r6.saved (List.drop (Int.toNat r4.2.2.2.1) (List.take (Int.toNat (↑(List.length r5.sizes) : Int)) r5.sizes)))) r4.2.2.1 (TQueue.mk r8.share (0 : Int) r8.sizes), ()))))))))) (
     .grd (decide (List.length r4.2.2.2.2.fst = List.length r4.2.2.2.2.1)) (
     .grd (decide (List.length r4.2.2.2.2.2.fst = List.length (List.set r4.2.2.2.2.2.1 r4.2.2.1 (TQueue.mk r6.share r6.saved (List.drop (Int.toNat r4.2.2.2.1) (List.take (Int.toNat (↑(List.length r5.sizes) : Int)) r5.sizes)))))) (
     .ret (Sum.inl (IntKind.wrap IntKind.i64 (r4.2.1 + (1 : Int)), (r4.1, (r4.2.2.2.2.1, (List.set r4.2.2.2.2.2.1 r4.2.2.1 (TQueue.mk r6.share r6.saved (List.drop (Int.toNat r4.2.2.2.1) (List.take (Int.toNat (↑(List.length r5.sizes) : Int)) r5.sizes))), ())))))))))))))))))))))) (
   .grd (decide (List.length a2 = List.length a2)) (
   .grd (decide (List.length a3 = List.length a3)) (
   .ret (Sum.inr (a2, (a3, ()))))))
def tuRound_loop14_7 (x : (Int × (Int × ((List TSent) × ((List TQueue) × Unit))))) : Option ((List TSent) × ((List TQueue) × Unit)) := loopO 140007 (fun x => (tuRound_step14_7 x).eval) 18446744073709551616 x
def tuRound_ap : List VP1 := [.one (.st 12 false)]
def tuRound_rp : SP := ⟨1, [(0, .tup [.one (.st 12 true), .one (.st 13 true), .one (.i .i64)])], []⟩
def tuRound_tree : ((List TQueue) × Unit) → Tr ((List TQueue) × ((List TSent) × (Int × Unit))) :=
  fun (a0, _) =>
  .opt (β := (Int × Unit)) ((tuCheck_fn (a0, ()))) (fun r0 =>
  .ite (!decide (r0.1 = (0 : Int))) (
   .ret ([], ([], (r0.1, ())))) (
   .opt (β := ((List TQueue) × Unit)) ((tuOwn_fn (a0, ()))) (fun r1 =>
   .grd (true) (
   .grd (decide (List.length r1.fst = List.length r1.1)) (
   .opt (β := ((List TSent) × ((List TQueue) × Unit))) ((tuRound_loop14_7 ((0 : Int), ((↑(List.length r1.fst) : Int), ([], (r1.1, ())))))) (fun r2 =>
   .ret (r2.2.1, (r2.1, ((0 : Int), ())))))))))
theorem tuRound_eq (x : ((List TQueue) × Unit)) : fnTr Try.prog cod [clInts, FS.pf tuSize, FS.pf tuCheck, GS.pf tuOwn] [(14, tuRound_L14_13), (14, tuRound_L14_7)] 30 14 tuRound_ap tuRound_rp x = tuRound_tree x := by kernel_rfl
def tuRound_fn (x : ((List TQueue) × Unit)) : Option ((List TQueue) × ((List TSent) × (Int × Unit))) := (tuRound_tree x).eval
def tuRound : FS Try.prog := ⟨14, tuRound_ap, tuRound_rp, tuRound_fn, fun x r h => fnTr_sound (cod := cod) (Γ := [clInts, FS.pf tuSize, FS.pf tuCheck, GS.pf tuOwn]) (Λs := [(14, tuRound_L14_13), (14, tuRound_L14_7)]) (n := 30) ((congrArg Tr.eval (tuRound_eq x)).trans h)⟩
end Go.Proofs.Ythnijeclidpooaa.X
