/- Functions of the program, as trees (printed by a program of mine: tool/XTool, xg.py), each with the proof that the machine comes to what its tree says. Conditions: none. -/
import Derived.Test.YthnijeclidpooaaCod
import Derived.KernelRfl
import Derived.Test.YthnijeclidpooaaGTurns
namespace Go.Proofs.Ythnijeclidpooaa.X
open Go Go.RowKit Go.Proofs.Ythnijeclidpooaa.Abs
set_option maxRecDepth 100000
set_option linter.unusedVariables false
theorem clOwn_h1 (xs : List (τ 0)) : (bodyTr Go.Proofs.Try.prog cod 17 [.one (.nn (.st 0 xs))]).eval = (cloneRes 3 0 8 xs).eval := by kernel_rfl
theorem clOwn_h2 : (bodyTr Go.Proofs.Try.prog cod 17 [.one .nil]).eval = some (.one .nil, []) := by kernel_rfl
def clOwn : PF Go.Proofs.Try.prog := clonePF Go.Proofs.Try.prog cod 17 3 0 8 clOwn_h1 clOwn_h2
def turnsLives_L36_4 : LS := ⟨4, [], ⟨26, [(13, .v (.one (.i .i64))), (1, .v (.one (.st 13 false))), (0, .v (.one (.st 13 false))), (12, .v (.one (.i .i64)))], []⟩, [⟨none, [], ⟨26, [(4, .v (.one (.b)))], []⟩⟩, ⟨some 0, [], ⟨26, [], []⟩⟩], []⟩
def turnsLives_step36_4 : (Int × ((List TSent) × ((List TSent) × (Int × Unit)))) → Tr ((Int × ((List TSent) × ((List TSent) × (Int × Unit)))) ⊕ ((Bool × Unit) ⊕ Unit)) :=
  fun (a0, a1, a2, a3, _) =>
  .ite (decide (a0 < a3)) (
   .grd (decide ((0 : Int) ≤ a0)) (
   .opt (β := TSent) (a2[Int.toNat a0]?) (fun r0 =>
   .grd (decide ((0 : Int) ≤ a0)) (
   .opt (β := TSent) (a1[Int.toNat a0]?) (fun r1 =>
   .ite (!(decide (r0.queue = r1.queue) && (decide (r0.size = r1.size) && true))) (
    .ret (Sum.inr (Sum.inl (false, ())))) (
    .ret (Sum.inl (IntKind.wrap IntKind.i64 (a0 + (1 : Int)), (a1, (a2, (a3, ()))))))))))) (
   .ret (Sum.inr (Sum.inr ())))
def turnsLives_loop36_4 (x : (Int × ((List TSent) × ((List TSent) × (Int × Unit))))) : Option ((Bool × Unit) ⊕ Unit) := loopO 360004 (fun x => (turnsLives_step36_4 x).eval) 18446744073709551616 x
def turnsLives_ap : List VP1 := []
def turnsLives_rp : SP := ⟨1, [(0, .v (.one (.b)))], []⟩
def turnsLives_tree : Unit → Tr (Bool × Unit) :=
  fun (_) =>
  .opt (β := ((List TQueue) × ((List TSent) × (Int × Unit)))) ((tuRound_fn ([TQueue.mk (5 : Int) (0 : Int) [(3 : Int), (3 : Int)], TQueue.mk (2 : Int) (0 : Int) [(2 : Int)]], ()))) (fun r0 =>
  .ite (decide (r0.2.2.1 = (0 : Int))) (
   .ite (!decide ((↑(List.length r0.2.1) : Int) = (↑(List.length [TSent.mk (0 : Int) (3 : Int), TSent.mk (1 : Int) (2 : Int)]) : Int))) (
    .ite (false) (
     .ite (decide ((↑(List.length r0.1) : Int) = (2 : Int))) (
      .grd (true) (
      .opt (β := TQueue) (r0.1[(0 : Nat)]?) (fun r1 =>
      .ite (decide (r1.saved = (2 : Int))) (
       .grd (true) (
       .opt (β := TQueue) (r0.1[(1 : Nat)]?) (fun r2 =>
       .ret (decide (r2.saved = (0 : Int)), ())))) (
       .ret (false, ()))))) (
      .ret (false, ()))) (
     .ret (false, ()))) (
    .opt (β := ((Bool × Unit) ⊕ Unit)) ((turnsLives_loop36_4 ((0 : Int), ([TSent.mk (0 : Int) (3 : Int), TSent.mk (1 : Int) (2 : Int)], (r0.2.1, ((↑(List.length r0.2.1) : Int), ())))))) (fun r1 =>
    .sum (β := (Bool × Unit)) (γ := Unit) (r1) (fun r2 =>
     .ite (r2.1) (
      .ite (decide ((↑(List.length r0.1) : Int) = (2 : Int))) (
       .grd (true) (
       .opt (β := TQueue) (r0.1[(0 : Nat)]?) (fun r3 =>
       .ite (decide (r3.saved = (2 : Int))) (
        .grd (true) (
        .opt (β := TQueue) (r0.1[(1 : Nat)]?) (fun r4 =>
        .ret (decide (r4.saved = (0 : Int)), ())))) (
        .ret (false, ()))))) (
       .ret (false, ()))) (
      .ret (false, ()))) (fun r2 =>
     .ite (true) (
      .ite (decide ((↑(List.length r0.1) : Int) = (2 : Int))) (
       .grd (true) (
       .opt (β := TQueue) (r0.1[(0 : Nat)]?) (fun r3 =>
       .ite (decide (r3.saved = (2 : Int))) (
        .grd (true) (
        .opt (β := TQueue) (r0.1[(1 : Nat)]?) (fun r4 =>
        .ret (decide (r4.saved = (0 : Int)), ())))) (
        .ret (false, ()))))) (
       .ret (false, ()))) (
      .ret (false, ())))))) (
   .ret (false, ())))
theorem turnsLives_eq (x : Unit) : fnTr Try.prog cod [FS.pf tuSize, FS.pf tuCheck, GS.pf tuOwn, FS.pf tuRound, clOwn] [(36, turnsLives_L36_4)] 30 12 turnsLives_ap turnsLives_rp x = turnsLives_tree x := by kernel_rfl
def turnsLives_fn (x : Unit) : Option (Bool × Unit) := (turnsLives_tree x).eval
def turnsLives : FS Try.prog := ⟨12, turnsLives_ap, turnsLives_rp, turnsLives_fn, fun x r h => fnTr_sound (cod := cod) (Γ := [FS.pf tuSize, FS.pf tuCheck, GS.pf tuOwn, FS.pf tuRound, clOwn]) (Λs := [(36, turnsLives_L36_4)]) (n := 30) ((congrArg Tr.eval (turnsLives_eq x)).trans h)⟩
def bet_ap : List VP1 := [.one (.i .i64), .one (.i .i64), .one (.i .i64)]
def bet_rp : SP := ⟨1, [(0, .v (.one (.b)))], []⟩
def bet_tree : (Int × (Int × (Int × Unit))) → Tr (Bool × Unit) :=
  fun (a0, a1, a2, _) =>
  .ite (decide (a1 ≤ a0)) (
   .ret (decide (a0 ≤ a2), ())) (
   .ret (false, ()))
theorem bet_eq (x : (Int × (Int × (Int × Unit)))) : fnTr Try.prog cod [FS.pf tuSize, FS.pf tuCheck, GS.pf tuOwn, FS.pf tuRound, clOwn, FS.pf turnsLives] [] 30 43 bet_ap bet_rp x = bet_tree x := by kernel_rfl
def bet_fn (x : (Int × (Int × (Int × Unit)))) : Option (Bool × Unit) := (bet_tree x).eval
def bet : FS Try.prog := ⟨43, bet_ap, bet_rp, bet_fn, fun x r h => fnTr_sound (cod := cod) (Γ := [FS.pf tuSize, FS.pf tuCheck, GS.pf tuOwn, FS.pf tuRound, clOwn, FS.pf turnsLives]) (Λs := []) (n := 30) ((congrArg Tr.eval (bet_eq x)).trans h)⟩
def tuRight_L15_8 : LS := ⟨8, [(7, 7)], ⟨75, [(37, .v (.one (.i .i64))), (4, .v (.one (.b))), (35, .v (.one (.st 0 false))), (3, .v (.one (.b))), (14, .v (.one (.st 12 false))), (15, .v (.one (.i .i64))), (16, .v (.one (.i .i64))), (7, .v (.one (.ptr 7 0))), (5, .v (.one (.b))), (36, .v (.one (.i .i64)))], [(7, .cells [.i .i64, .i .i64, .st 0 false])]⟩, [⟨some 2, [(7, 7)], ⟨75, [(4, .v (.one (.b))), (3, .v (.one (.b))), (14, .v (.one (.st 12 false))), (15, .v (.one (.i .i64))), (16, .v (.one (.i .i64))), (7, .v (.one (.ptr 7 0))), (5, .v (.one (.b)))], [(7, .cells [.i .i64, .i .i64, .st 0 false])]⟩⟩], []⟩
def tuRight_step15_8 : (Int × (Bool × ((List Int) × (Bool × ((List TQueue) × (Int × (Int × (Bool × (Int × (Int × (Int × ((List Int) × Unit)))))))))))) → Tr ((Int × (Bool × ((List Int) × (Bool × ((List TQueue) × (Int × (Int × (Bool × (Int × (Int × (Int × ((List Int) × Unit)))))))))))) ⊕ (Bool × (Bool × ((List TQueue) × (Int × (Int × (Bool × (Int × (Int × ((List Int) × Unit)))))))))) :=
  fun (a0, a1, a2, a3, a4, a5, a6, a7, a8, a9, a10, a11, _) =>
  .ite (decide (a0 < a8)) (
   .grd (decide ((0 : Int) ≤ a0)) (
   .opt (β := Int) (a2[Int.toNat a0]?) (fun r0 =>
   .ite (a1) (
    .ret (Sum.inl (IntKind.wrap IntKind.i64 (a0 + (1 : Int)), (true, (a2, (a3, (a4, (a5, (a6, (a7, (a8, (a9, (a10, (a11, ())))))))))))))) (
    .opt (β := (Bool × Unit)) ((bet_fn (r0, ((1 : Int), ((1000000 : Int), ()))))) (fun r1 =>
    .ret (Sum.inl (IntKind.wrap IntKind.i64 (a0 + (1 : Int)), (!r1.1, (a2, (a3, (a4, (a5, (a6, (a7, (a8, (a9, (a10, (a11, ())))))))))))))))))) (
   .ret (Sum.inr (a1, (a3, (a4, (a5, (a6, (a7, (a9, (a10, (a11, ())))))))))))
def tuRight_loop15_8 (x : (Int × (Bool × ((List Int) × (Bool × ((List TQueue) × (Int × (Int × (Bool × (Int × (Int × (Int × ((List Int) × Unit))))))))))))) : Option (Bool × (Bool × ((List TQueue) × (Int × (Int × (Bool × (Int × (Int × ((List Int) × Unit))))))))) := loopO 150008 (fun x => (tuRight_step15_8 x).eval) 18446744073709551616 x
def tuRight_L15_3 : LS := ⟨3, [], ⟨75, [(16, .v (.one (.i .i64))), (5, .v (.one (.b))), (4, .v (.one (.b))), (3, .v (.one (.b))), (14, .v (.one (.st 12 false))), (15, .v (.one (.i .i64)))], []⟩, [⟨some 0, [], ⟨75, [(5, .v (.one (.b))), (4, .v (.one (.b))), (3, .v (.one (.b)))], []⟩⟩], []⟩
def tuRight_step15_3 : (Int × (Bool × (Bool × (Bool × ((List TQueue) × (Int × Unit)))))) → Tr ((Int × (Bool × (Bool × (Bool × ((List TQueue) × (Int × Unit)))))) ⊕ (Bool × (Bool × (Bool × Unit)))) :=
  fun (a0, a1, a2, a3, a4, a5, _) =>
  .ite (decide (a0 < a5)) (
   .grd (decide ((0 : Int) ≤ a0)) (
   .opt (β := TQueue) (a4[Int.toNat a0]?) (fun r0 =>
   .ite (a3) (
    .ite (a2) (
     .opt (β := (Bool × (Bool × ((List TQueue) × (Int × (Int × (Bool × (Int × (Int × ((List Int) × Unit)))))))))) ((tuRight_loop15_8 ((0 : Int), (true, (r0.sizes, (true, (a4, (a5, (a0, (a1, ((↑(List.length r0.sizes) : Int), (r0.share, (r0.saved, (r0.sizes, ())))))))))))))) (fun r1 =>
     .ite (decide ((0 : Int) < (↑(List.length r1.2.2.2.2.2.2.2.2.1) : Int))) (
      .grd (true) (
      .opt (β := Int) (r1.2.2.2.2.2.2.2.2.1[(0 : Nat)]?) (fun r2 =>
      .ite (r1.2.2.2.2.2.1) (
       .ret (Sum.inl (IntKind.wrap IntKind.i64 (r1.2.2.2.2.1 + (1 : Int)), (true, (r1.1, (r1.2.1, (r1.2.2.1, (r1.2.2.2.1, ())))))))) (
       .ite (decide (r1.2.2.2.2.2.2.2.1 < (0 : Int))) (
        .ret (Sum.inl (IntKind.wrap IntKind.i64 (r1.2.2.2.2.1 + (1 : Int)), (true, (r1.1, (r1.2.1, (r1.2.2.1, (r1.2.2.2.1, ())))))))) (
        .ret (Sum.inl (IntKind.wrap IntKind.i64 (r1.2.2.2.2.1 + (1 : Int)), (decide (r2 ≤ r1.2.2.2.2.2.2.2.1), (r1.1, (r1.2.1, (r1.2.2.1, (r1.2.2.2.1, ())))))))))))) (
      .ite (r1.2.2.2.2.2.1) (
       .ret (Sum.inl (IntKind.wrap IntKind.i64 (r1.2.2.2.2.1 + (1 : Int)), (true, (r1.1, (r1.2.1, (r1.2.2.1, (r1.2.2.2.1, ())))))))) (
       .ite (decide (r1.2.2.2.2.2.2.2.1 < (0 : Int))) (
        .ret (Sum.inl (IntKind.wrap IntKind.i64 (r1.2.2.2.2.1 + (1 : Int)), (true, (r1.1, (r1.2.1, (r1.2.2.1, (r1.2.2.2.1, ())))))))) (
        .ret (Sum.inl (IntKind.wrap IntKind.i64 (r1.2.2.2.2.1 + (1 : Int)), (decide ((1 : Int) ≤ r1.2.2.2.2.2.2.2.1), (r1.1, (r1.2.1, (r1.2.2.1, (r1.2.2.2.1, ())))))))))))) (
     .opt (β := (Bool × Unit)) ((bet_fn (r0.share, ((1 : Int), ((1000000 : Int), ()))))) (fun r1 =>
     .opt (β := (Bool × (Bool × ((List TQueue) × (Int × (Int × (Bool × (Int × (Int × ((List Int) × Unit)))))))))) ((tuRight_loop15_8 ((0 : Int), (!r1.1, (r0.sizes, (true, (a4, (a5, (a0, (a1, ((↑(List.length r0.sizes) : Int), (r0.share, (r0.saved, (r0.sizes, ())))))))))))))) (fun r2 =>
     .ite (decide ((0 : Int) < (↑(List.length r2.2.2.2.2.2.2.2.2.1) : Int))) (
      .grd (true) (
      .opt (β := Int) (r2.2.2.2.2.2.2.2.2.1[(0 : Nat)]?) (fun r3 =>
      .ite (r2.2.2.2.2.2.1) (
       .ret (Sum.inl (IntKind.wrap IntKind.i64 (r2.2.2.2.2.1 + (1 : Int)), (true, (r2.1, (r2.2.1, (r2.2.2.1, (r2.2.2.2.1, ())))))))) (
       .ite (decide (r2.2.2.2.2.2.2.2.1 < (0 : Int))) (
        .ret (Sum.inl (IntKind.wrap IntKind.i64 (r2.2.2.2.2.1 + (1 : Int)), (true, (r2.1, (r2.2.1, (r2.2.2.1, (r2.2.2.2.1, ())))))))) (
        .ret (Sum.inl (IntKind.wrap IntKind.i64 (r2.2.2.2.2.1 + (1 : Int)), (decide (r3 ≤ r2.2.2.2.2.2.2.2.1), (r2.1, (r2.2.1, (r2.2.2.1, (r2.2.2.2.1, ())))))))))))) (
      .ite (r2.2.2.2.2.2.1) (
       .ret (Sum.inl (IntKind.wrap IntKind.i64 (r2.2.2.2.2.1 + (1 : Int)), (true, (r2.1, (r2.2.1, (r2.2.2.1, (r2.2.2.2.1, ())))))))) (
       .ite (decide (r2.2.2.2.2.2.2.2.1 < (0 : Int))) (
        .ret (Sum.inl (IntKind.wrap IntKind.i64 (r2.2.2.2.2.1 + (1 : Int)), (true, (r2.1, (r2.2.1, (r2.2.2.1, (r2.2.2.2.1, ())))))))) (
        .ret (Sum.inl (IntKind.wrap IntKind.i64 (r2.2.2.2.2.1 + (1 : Int)), (decide ((1 : Int) ≤ r2.2.2.2.2.2.2.2.1), (r2.1, (r2.2.1, (r2.2.2.1, (r2.2.2.2.1, ())))))))))))))) (
    .ite (a2) (
     .opt (β := (Bool × (Bool × ((List TQueue) × (Int × (Int × (Bool × (Int × (Int × ((List Int) × Unit)))))))))) ((tuRight_loop15_8 ((0 : Int), (true, (r0.sizes, (decide ((200 : Int) < (↑(List.length r0.sizes) : Int)), (a4, (a5, (a0, (a1, ((↑(List.length r0.sizes) : Int), (r0.share, (r0.saved, (r0.sizes, ())))))))))))))) (fun r1 =>
     .ite (decide ((0 : Int) < (↑(List.length r1.2.2.2.2.2.2.2.2.1) : Int))) (
      .grd (true) (
      .opt (β := Int) (r1.2.2.2.2.2.2.2.2.1[(0 : Nat)]?) (fun r2 =>
      .ite (r1.2.2.2.2.2.1) (
       .ret (Sum.inl (IntKind.wrap IntKind.i64 (r1.2.2.2.2.1 + (1 : Int)), (true, (r1.1, (r1.2.1, (r1.2.2.1, (r1.2.2.2.1, ())))))))) (
       .ite (decide (r1.2.2.2.2.2.2.2.1 < (0 : Int))) (
        .ret (Sum.inl (IntKind.wrap IntKind.i64 (r1.2.2.2.2.1 + (1 : Int)), (true, (r1.1, (r1.2.1, (r1.2.2.1, (r1.2.2.2.1, ())))))))) (
        .ret (Sum.inl (IntKind.wrap IntKind.i64 (r1.2.2.2.2.1 + (1 : Int)), (decide (r2 ≤ r1.2.2.2.2.2.2.2.1), (r1.1, (r1.2.1, (r1.2.2.1, (r1.2.2.2.1, ())))))))))))) (
      .ite (r1.2.2.2.2.2.1) (
       .ret (Sum.inl (IntKind.wrap IntKind.i64 (r1.2.2.2.2.1 + (1 : Int)), (true, (r1.1, (r1.2.1, (r1.2.2.1, (r1.2.2.2.1, ())))))))) (
       .ite (decide (r1.2.2.2.2.2.2.2.1 < (0 : Int))) (
        .ret (Sum.inl (IntKind.wrap IntKind.i64 (r1.2.2.2.2.1 + (1 : Int)), (true, (r1.1, (r1.2.1, (r1.2.2.1, (r1.2.2.2.1, ())))))))) (
        .ret (Sum.inl (IntKind.wrap IntKind.i64 (r1.2.2.2.2.1 + (1 : Int)), (decide ((1 : Int) ≤ r1.2.2.2.2.2.2.2.1), (r1.1, (r1.2.1, (r1.2.2.1, (r1.2.2.2.1, ())))))))))))) (
     .opt (β := (Bool × Unit)) ((bet_fn (r0.share, ((1 : Int), ((1000000 : Int), ()))))) (fun r1 =>
     .opt (β := (Bool × (Bool × ((List TQueue) × (Int × (Int × (Bool × (Int × (Int × ((List Int) × Unit)))))))))) ((tuRight_loop15_8 ((0 : Int), (!r1.1, (r0.sizes, (decide ((200 : Int) < (↑(List.length r0.sizes) : Int)), (a4, (a5, (a0, (a1, ((↑(List.length r0.sizes) : Int), (r0.share, (r0.saved, (r0.sizes, ())))))))))))))) (fun r2 =>
     .ite (decide ((0 : Int) < (↑(List.length r2.2.2.2.2.2.2.2.2.1) : Int))) (
      .grd (true) (
      .opt (β := Int) (r2.2.2.2.2.2.2.2.2.1[(0 : Nat)]?) (fun r3 =>
      .ite (r2.2.2.2.2.2.1) (
       .ret (Sum.inl (IntKind.wrap IntKind.i64 (r2.2.2.2.2.1 + (1 : Int)), (true, (r2.1, (r2.2.1, (r2.2.2.1, (r2.2.2.2.1, ())))))))) (
       .ite (decide (r2.2.2.2.2.2.2.2.1 < (0 : Int))) (
        .ret (Sum.inl (IntKind.wrap IntKind.i64 (r2.2.2.2.2.1 + (1 : Int)), (true, (r2.1, (r2.2.1, (r2.2.2.1, (r2.2.2.2.1, ())))))))) (
        .ret (Sum.inl (IntKind.wrap IntKind.i64 (r2.2.2.2.2.1 + (1 : Int)), (decide (r3 ≤ r2.2.2.2.2.2.2.2.1), (r2.1, (r2.2.1, (r2.2.2.1, (r2.2.2.2.1, ())))))))))))) (
      .ite (r2.2.2.2.2.2.1) (
       .ret (Sum.inl (IntKind.wrap IntKind.i64 (r2.2.2.2.2.1 + (1 : Int)), (true, (r2.1, (r2.2.1, (r2.2.2.1, (r2.2.2.2.1, ())))))))) (
       .ite (decide (r2.2.2.2.2.2.2.2.1 < (0 : Int))) (
        .ret (Sum.inl (IntKind.wrap IntKind.i64 (r2.2.2.2.2.1 + (1 : Int)), (true, (r2.1, (r2.2.1, (r2.2.2.1, (r2.2.2.2.1, ())))))))) (
        .ret (Sum.inl (IntKind.wrap IntKind.i64 (r2.2.2.2.2.1 + (1 : Int)), (decide ((1 : Int) ≤ r2.2.2.2.2.2.2.2.1), (r2.1, (r2.2.1, (r2.2.2.1, (r2.2.2.2.1, ()))))))))))))))))) (
   .ret (Sum.inr (a1, (a2, (a3, ())))))
def tuRight_loop15_3 (x : (Int × (Bool × (Bool × (Bool × ((List TQueue) × (Int × Unit))))))) : Option (Bool × (Bool × (Bool × Unit))) := loopO 150003 (fun x => (tuRight_step15_3 x).eval) 18446744073709551616 x
def tuRight_ap : List VP1 := [.one (.st 12 false)]
def tuRight_rp : SP := ⟨1, [(0, .v (.one (.i .i64)))], []⟩
def tuRight_tree : ((List TQueue) × Unit) → Tr (Int × Unit) :=
  fun (a0, _) =>
  .opt (β := (Bool × (Bool × (Bool × Unit)))) ((tuRight_loop15_3 ((0 : Int), (false, (false, (decide ((16 : Int) < (↑(List.length a0) : Int)), (a0, ((↑(List.length a0) : Int), ())))))))) (fun r0 =>
  .ite (r0.2.2.1) (
   .ret ((2 : Int), ())) (
   .ite (r0.2.1) (
    .ret ((1 : Int), ())) (
    .ite (r0.1) (
     .ret ((4 : Int), ())) (
     .ret ((0 : Int), ())))))
theorem tuRight_eq (x : ((List TQueue) × Unit)) : fnTr Try.prog cod [FS.pf tuSize, FS.pf tuCheck, GS.pf tuOwn, FS.pf tuRound, clOwn, FS.pf turnsLives, FS.pf bet] [(15, tuRight_L15_8), (15, tuRight_L15_3)] 30 15 tuRight_ap tuRight_rp x = tuRight_tree x := by kernel_rfl
def tuRight_fn (x : ((List TQueue) × Unit)) : Option (Int × Unit) := (tuRight_tree x).eval
def tuRight : FS Try.prog := ⟨15, tuRight_ap, tuRight_rp, tuRight_fn, fun x r h => fnTr_sound (cod := cod) (Γ := [FS.pf tuSize, FS.pf tuCheck, GS.pf tuOwn, FS.pf tuRound, clOwn, FS.pf turnsLives, FS.pf bet]) (Λs := [(15, tuRight_L15_8), (15, tuRight_L15_3)]) (n := 30) ((congrArg Tr.eval (tuRight_eq x)).trans h)⟩
def eqInts_L16_4 : LS := ⟨4, [], ⟨26, [(13, .v (.one (.i .i64))), (1, .v (.one (.st 0 false))), (0, .v (.one (.st 0 false))), (12, .v (.one (.i .i64)))], []⟩, [⟨none, [], ⟨26, [(4, .v (.one (.b)))], []⟩⟩, ⟨some 0, [], ⟨26, [], []⟩⟩], []⟩
def eqInts_step16_4 : (Int × ((List Int) × ((List Int) × (Int × Unit)))) → Tr ((Int × ((List Int) × ((List Int) × (Int × Unit)))) ⊕ ((Bool × Unit) ⊕ Unit)) :=
  fun (a0, a1, a2, a3, _) =>
  .ite (decide (a0 < a3)) (
   .grd (decide ((0 : Int) ≤ a0)) (
   .opt (β := Int) (a2[Int.toNat a0]?) (fun r0 =>
   .grd (decide ((0 : Int) ≤ a0)) (
   .opt (β := Int) (a1[Int.toNat a0]?) (fun r1 =>
   .ite (!decide (r0 = r1)) (
    .ret (Sum.inr (Sum.inl (false, ())))) (
    .ret (Sum.inl (IntKind.wrap IntKind.i64 (a0 + (1 : Int)), (a1, (a2, (a3, ()))))))))))) (
   .ret (Sum.inr (Sum.inr ())))
def eqInts_loop16_4 (x : (Int × ((List Int) × ((List Int) × (Int × Unit))))) : Option ((Bool × Unit) ⊕ Unit) := loopO 160004 (fun x => (eqInts_step16_4 x).eval) 18446744073709551616 x
def eqInts_ap : List VP1 := [.one (.st 0 false), .one (.st 0 false)]
def eqInts_rp : SP := ⟨1, [(0, .v (.one (.b)))], []⟩
def eqInts_tree : ((List Int) × ((List Int) × Unit)) → Tr (Bool × Unit) :=
  fun (a0, a1, _) =>
  .ite (!decide ((↑(List.length a0) : Int) = (↑(List.length a1) : Int))) (
   .ret (false, ())) (
   .opt (β := ((Bool × Unit) ⊕ Unit)) ((eqInts_loop16_4 ((0 : Int), (a1, (a0, ((↑(List.length a0) : Int), ())))))) (fun r0 =>
   .sum (β := (Bool × Unit)) (γ := Unit) (r0) (fun r1 =>
    .ret (r1.1, ())) (fun r1 =>
    .ret (true, ()))))
theorem eqInts_eq (x : ((List Int) × ((List Int) × Unit))) : fnTr Try.prog cod [FS.pf tuSize, FS.pf tuCheck, GS.pf tuOwn, FS.pf tuRound, clOwn, FS.pf turnsLives, FS.pf bet, FS.pf tuRight] [(16, eqInts_L16_4)] 30 16 eqInts_ap eqInts_rp x = eqInts_tree x := by kernel_rfl
def eqInts_fn (x : ((List Int) × ((List Int) × Unit))) : Option (Bool × Unit) := (eqInts_tree x).eval
def eqInts : FS Try.prog := ⟨16, eqInts_ap, eqInts_rp, eqInts_fn, fun x r h => fnTr_sound (cod := cod) (Γ := [FS.pf tuSize, FS.pf tuCheck, GS.pf tuOwn, FS.pf tuRound, clOwn, FS.pf turnsLives, FS.pf bet, FS.pf tuRight]) (Λs := [(16, eqInts_L16_4)]) (n := 30) ((congrArg Tr.eval (eqInts_eq x)).trans h)⟩
def eqSent_L36_4 : LS := ⟨4, [], ⟨26, [(13, .v (.one (.i .i64))), (1, .v (.one (.st 13 false))), (0, .v (.one (.st 13 false))), (12, .v (.one (.i .i64)))], []⟩, [⟨none, [], ⟨26, [(4, .v (.one (.b)))], []⟩⟩, ⟨some 0, [], ⟨26, [], []⟩⟩], []⟩
def eqSent_step36_4 : (Int × ((List TSent) × ((List TSent) × (Int × Unit)))) → Tr ((Int × ((List TSent) × ((List TSent) × (Int × Unit)))) ⊕ ((Bool × Unit) ⊕ Unit)) :=
  fun (a0, a1, a2, a3, _) =>
  .ite (decide (a0 < a3)) (
   .grd (decide ((0 : Int) ≤ a0)) (
   .opt (β := TSent) (a2[Int.toNat a0]?) (fun r0 =>
   .grd (decide ((0 : Int) ≤ a0)) (
   .opt (β := TSent) (a1[Int.toNat a0]?) (fun r1 =>
   .ite (!(decide (r0.queue = r1.queue) && (decide (r0.size = r1.size) && true))) (
    .ret (Sum.inr (Sum.inl (false, ())))) (
    .ret (Sum.inl (IntKind.wrap IntKind.i64 (a0 + (1 : Int)), (a1, (a2, (a3, ()))))))))))) (
   .ret (Sum.inr (Sum.inr ())))
def eqSent_loop36_4 (x : (Int × ((List TSent) × ((List TSent) × (Int × Unit))))) : Option ((Bool × Unit) ⊕ Unit) := loopO 360004 (fun x => (eqSent_step36_4 x).eval) 18446744073709551616 x
def eqSent_ap : List VP1 := [.one (.st 13 false), .one (.st 13 false)]
def eqSent_rp : SP := ⟨1, [(0, .v (.one (.b)))], []⟩
def eqSent_tree : ((List TSent) × ((List TSent) × Unit)) → Tr (Bool × Unit) :=
  fun (a0, a1, _) =>
  .ite (!decide ((↑(List.length a0) : Int) = (↑(List.length a1) : Int))) (
   .ret (false, ())) (
   .opt (β := ((Bool × Unit) ⊕ Unit)) ((eqSent_loop36_4 ((0 : Int), (a1, (a0, ((↑(List.length a0) : Int), ())))))) (fun r0 =>
   .sum (β := (Bool × Unit)) (γ := Unit) (r0) (fun r1 =>
    .ret (r1.1, ())) (fun r1 =>
    .ret (true, ()))))
theorem eqSent_eq (x : ((List TSent) × ((List TSent) × Unit))) : fnTr Try.prog cod [FS.pf tuSize, FS.pf tuCheck, GS.pf tuOwn, FS.pf tuRound, clOwn, FS.pf turnsLives, FS.pf bet, FS.pf tuRight, FS.pf eqInts] [(36, eqSent_L36_4)] 30 36 eqSent_ap eqSent_rp x = eqSent_tree x := by kernel_rfl
def eqSent_fn (x : ((List TSent) × ((List TSent) × Unit))) : Option (Bool × Unit) := (eqSent_tree x).eval
def eqSent : FS Try.prog := ⟨36, eqSent_ap, eqSent_rp, eqSent_fn, fun x r h => fnTr_sound (cod := cod) (Γ := [FS.pf tuSize, FS.pf tuCheck, GS.pf tuOwn, FS.pf tuRound, clOwn, FS.pf turnsLives, FS.pf bet, FS.pf tuRight, FS.pf eqInts]) (Λs := [(36, eqSent_L36_4)]) (n := 30) ((congrArg Tr.eval (eqSent_eq x)).trans h)⟩
def turnsOrder_L3_20 : LS := ⟨20, [(32, 32)], ⟨112, [(91, .v (.one (.i .i64))), (6, .v (.one (.st 12 false))), (5, .v (.one (.dp 32))), (89, .v (.one (.st 12 false))), (90, .v (.one (.i .i64)))], [(32, .deep 33 3 22)]⟩, [⟨none, [], ⟨112, [(4, .v (.one (.b)))], []⟩⟩, ⟨some 4, [], ⟨112, [], []⟩⟩], []⟩
def turnsOrder_step3_20 : (Int × ((List TQueue) × (Nat × ((List TQueue) × (Int × ((List (List Int)) × Unit)))))) → Tr ((Int × ((List TQueue) × (Nat × ((List TQueue) × (Int × ((List (List Int)) × Unit)))))) ⊕ ((Bool × Unit) ⊕ Unit)) :=
  fun (a0, a1, a2, a3, a4, a5, _) =>
  .ite (decide (a0 < a4)) (
   .grd (decide ((0 : Int) ≤ a0)) (
   .opt (β := TQueue) (a3[Int.toNat a0]?) (fun r0 =>
   .grd (decide ((0 : Int) ≤ a0 ∧ a0 < (↑(List.length a5) : Int))) (
   .opt (β := (List Int)) (a5[Int.toNat a0]?) (fun r1 =>
   .grd (decide (((0 : Nat) + List.length r1) * (8 : Nat) ≤ (140737488355328 : Nat) ∧ (0 : Nat) + List.length r1 ≤ (9223372036854775807 : Nat))) (
   .grd (decide ((0 : Int) ≤ a0)) (
   .opt (β := TQueue) (a1[Int.toNat a0]?) (fun r2 =>
   .grd (decide ((List.length r1 + List.length r2.sizes) * (8 : Nat) ≤ (140737488355328 : Nat) ∧ List.length r1 + List.length r2.sizes ≤ (9223372036854775807 : Nat))) (
   .opt (β := (Bool × Unit)) ((eqInts_fn (r1 ++ r2.sizes, (r0.sizes, ())))) (fun r3 =>
   .ite (!r3.1) (
    .ret (Sum.inr (Sum.inl (false, ())))) (
    .grd (decide (List.length a5 = List.length (List.modify a5 (Int.toNat a0) fun x => r1))) (
    .ret (Sum.inl (IntKind.wrap IntKind.i64 (a0 + (1 : Int)), (a1, (a2, (a3, (a4, (List.modify a5 (Int.toNat a0) fun x => r1, ()))))))))))))))))))) (
   .ret (Sum.inr (Sum.inr ())))
def turnsOrder_loop3_20 (x : (Int × ((List TQueue) × (Nat × ((List TQueue) × (Int × ((List (List Int)) × Unit))))))) : Option ((Bool × Unit) ⊕ Unit) := loopO 30020 (fun x => (turnsOrder_step3_20 x).eval) 18446744073709551616 x
def turnsOrder_L3_11 : LS := ⟨11, [(32, 32)], ⟨112, [(59, .v (.one (.i .i64))), (5, .v (.one (.dp 32))), (0, .v (.one (.st 12 false))), (57, .v (.one (.st 13 true))), (34, .v (.one (.i .i64))), (35, .v (.one (.i .i64))), (7, .v (.one (.st 12 true))), (58, .v (.one (.i .i64)))], [(32, .deep 33 3 22)]⟩, [⟨none, [], ⟨112, [(4, .v (.one (.b)))], []⟩⟩, ⟨some 2, [(32, 32)], ⟨112, [(5, .v (.one (.dp 32))), (0, .v (.one (.st 12 false))), (34, .v (.one (.i .i64))), (35, .v (.one (.i .i64))), (7, .v (.one (.st 12 true)))], [(32, .deep 33 3 22)]⟩⟩], []⟩
def turnsOrder_step3_11 : (Int × (Nat × ((List TQueue) × ((List TSent) × (Int × (Int × ((List TQueue) × (Int × ((List (List Int)) × Unit))))))))) → Tr ((Int × (Nat × ((List TQueue) × ((List TSent) × (Int × (Int × ((List TQueue) × (Int × ((List (List Int)) × Unit))))))))) ⊕ ((Bool × Unit) ⊕ (Nat × ((List TQueue) × (Int × (Int × ((List TQueue) × ((List (List Int)) × Unit)))))))) :=
  fun (a0, a1, a2, a3, a4, a5, a6, a7, a8, _) =>
  .ite (decide (a0 < a7)) (
   .grd (decide ((0 : Int) ≤ a0)) (
   .opt (β := TSent) (a3[Int.toNat a0]?) (fun r0 =>
   .ite (decide (r0.queue < (0 : Int))) (
    .ret (Sum.inr (Sum.inl (false, ())))) (
    .ite (decide ((↑(List.length a2) : Int) ≤ r0.queue)) (
     .ret (Sum.inr (Sum.inl (false, ())))) (
     .grd (decide ((0 : Int) ≤ r0.queue ∧ r0.queue < (↑(List.length a8) : Int))) (
     .opt (β := (List Int)) (a8[Int.toNat r0.queue]?) (fun r1 =>
     .grd (decide ((List.length r1 + List.length [r0.size]) * (8 : Nat) ≤ (140737488355328 : Nat) ∧ List.length r1 + List.length [r0.size] ≤ (9223372036854775807 : Nat))) (
     .grd (decide ((0 : Int) ≤ r0.queue ∧ r0.queue < (↑(List.length a8) : Int))) (
     .grd (decide (Int.toNat r0.queue = Int.toNat r0.queue)) (
     .opt (β := (List Int)) (a8[Int.toNat r0.queue]?) (fun r2 =>
     .grd (decide (List.length a8 = List.length (List.set a8 (Int.toNat r0.queue) (r1 ++ [r0.size])))) (
     .ret (Sum.inl (IntKind.wrap IntKind.i64 (a0 + (1 : Int)), (a1, (a2, (a3, (a4, (a5, (a6, (a7, (List.set a8 (Int.toNat r0.queue) (r1 ++ [r0.size]), ())))))))))))))))))))))) (
   .grd (decide (List.length a8 = List.length a8)) (
   .ret (Sum.inr (Sum.inr (a1, (a2, (a4, (a5, (a6, (a8, ()))))))))))
def turnsOrder_loop3_11 (x : (Int × (Nat × ((List TQueue) × ((List TSent) × (Int × (Int × ((List TQueue) × (Int × ((List (List Int)) × Unit)))))))))) : Option ((Bool × Unit) ⊕ (Nat × ((List TQueue) × (Int × (Int × ((List TQueue) × ((List (List Int)) × Unit))))))) := loopO 30011 (fun x => (turnsOrder_step3_11 x).eval) 18446744073709551616 x
def turnsOrder_L3_6 : LS := ⟨6, [(32, 32)], ⟨112, [(5, .v (.one (.dp 32))), (0, .v (.one (.st 12 false))), (35, .v (.one (.i .i64))), (6, .v (.one (.st 12 false))), (34, .v (.one (.i .i64)))], [(32, .deep 33 3 22)]⟩, [⟨none, [], ⟨112, [(4, .v (.one (.b)))], []⟩⟩, ⟨some 0, [(32, 32)], ⟨112, [(6, .v (.one (.st 12 false))), (5, .v (.one (.dp 32))), (0, .v (.one (.st 12 false)))], [(32, .deep 33 3 22)]⟩⟩], []⟩
def turnsOrder_step3_6 : (Nat × ((List TQueue) × (Int × ((List TQueue) × (Int × ((List (List Int)) × Unit)))))) → Tr ((Nat × ((List TQueue) × (Int × ((List TQueue) × (Int × ((List (List Int)) × Unit)))))) ⊕ ((Bool × Unit) ⊕ ((List TQueue) × (Nat × ((List TQueue) × ((List (List Int)) × Unit)))))) :=
  fun (a0, a1, a2, a3, a4, a5, _) =>
  .ite (decide (a2 < a4)) (
   .opt (β := ((List TQueue) × ((List TSent) × (Int × Unit)))) ((tuRound_fn (a3, ()))) (fun r0 =>
   .ite (!decide (r0.2.2.1 = (0 : Int))) (
    .ret (Sum.inr (Sum.inl (false, ())))) (
    .ite (!decide ((↑(List.length r0.1) : Int) = (↑(List.length a1) : Int))) (
     .ret (Sum.inr (Sum.inl (false, ())))) (
     .opt (β := (Int × Unit)) ((tuRight_fn (r0.1, ()))) (fun r1 =>
     .ite (!decide (r1.1 = (0 : Int))) (
      .ret (Sum.inr (Sum.inl (false, ())))) (
      .grd (decide (List.length a5 = List.length a5)) (
      .opt (β := ((Bool × Unit) ⊕ (Nat × ((List TQueue) × (Int × (Int × ((List TQueue) × ((List (List Int)) × Unit)))))))) ((turnsOrder_loop3_11 ((0 : Int), (a0, (a1, (r0.2.1, (a4, (a2, (r0.1, ((↑(List.length r0.2.1) : Int), (a5, ()))))))))))) (fun r2 =>
      .sum (β := (Bool × Unit)) (γ := (Nat × ((List TQueue) × (Int × (Int × ((List TQueue) × ((List (List Int)) × Unit))))))) (r2) (fun r3 =>
       .ret (Sum.inr (Sum.inl (r3.1, ())))) (fun r3 =>
       .grd (decide (List.length r3.2.2.2.2.2.fst = List.length r3.2.2.2.2.2.1)) (
       .ret (Sum.inl (r3.1, (r3.2.1, (IntKind.wrap IntKind.i64 (r3.2.2.2.1 + (1 : Int)), (r3.2.2.2.2.1, (r3.2.2.1, (r3.2.2.2.2.2.1, ()))))))))))))))))) (
   .grd (decide (List.length a5 = List.length a5)) (
   .ret (Sum.inr (Sum.inr (a3, (a0, (a1, (a5, ()))))))))
def turnsOrder_loop3_6 (x : (Nat × ((List TQueue) × (Int × ((List TQueue) × (Int × ((List (List Int)) × Unit))))))) : Option ((Bool × Unit) ⊕ ((List TQueue) × (Nat × ((List TQueue) × ((List (List Int)) × Unit))))) := loopO 30006 (fun x => (turnsOrder_step3_6 x).eval) 18446744073709551616 x
def turnsOrder_ap : List VP1 := [.one (.st 12 false), .one (.i .i64)]
def turnsOrder_rp : SP := ⟨1, [(0, .v (.one (.b)))], []⟩
def turnsOrder_tree : ((List TQueue) × (Int × Unit)) → Tr (Bool × Unit) :=
  fun (a0, a1, _) =>
  .opt (β := (Bool × Unit)) ((turnsLives_fn ())) (fun r0 =>
  .ite (!r0.1) (
   .opt (β := (Bool × Unit)) ((turnsLives_fn ())) (fun r1 =>
   .ret (r1.1, ()))) (
   .opt (β := (Int × Unit)) ((tuCheck_fn (a0, ()))) (fun r1 =>
   .ite (!decide (r1.1 = (0 : Int))) (
    .opt (β := (Bool × Unit)) ((turnsLives_fn ())) (fun r2 =>
    .ret (r2.1, ()))) (
    .ite (decide (a1 < (0 : Int))) (
     .opt (β := (Bool × Unit)) ((turnsLives_fn ())) (fun r2 =>
     .ret (r2.1, ()))) (
     .ite (decide ((100 : Int) < a1)) (
      .opt (β := (Bool × Unit)) ((turnsLives_fn ())) (fun r2 =>
      .ret (r2.1, ()))) (
      .grd (decide ((0 : Int) ≤ (↑(List.length a0) : Int) ∧ (↑(List.length a0) : Int) ≤ (↑(List.length a0) : Int) ∧ Int.toNat (↑(List.length a0) : Int) * (24 : Nat) ≤ (140737488355328 : Nat) ∧ (↑(List.length a0) : Int) ≤ (↑(9223372036854775807 : Nat) : Int))) (
      .grd (decide (List.length (List.replicate (Int.toNat (↑(List.length a0) : Int)) nilI) = List.length (List.replicate (Int.toNat (↑(List.length a0) : Int)) nilI))) (
      .opt (β := ((Bool × Unit) ⊕ ((List TQueue) × (Nat × ((List TQueue) × ((List (List Int)) × Unit)))))) ((turnsOrder_loop3_6 (Int.toNat (↑(List.length a0) : Int), (a0, ((0 : Int), (a0, (a1, (List.replicate (Int.toNat (↑(List.length a0) : Int)) nilI, ())))))))) (fun r2 =>
      .sum (β := (Bool × Unit)) (γ := ((List TQueue) × (Nat × ((List TQueue) × ((List (List Int)) × Unit))))) (r2) (fun r3 =>
       .ret (r3.1, ())) (fun r3 =>
       .grd (decide (List.length r3.2.2.2.fst = List.length r3.2.2.2.1)) (
       .opt (β := ((Bool × Unit) ⊕ Unit)) ((turnsOrder_loop3_20 ((0 : Int), (r3.1, (r3.2.1, (r3.2.2.1, ((↑(List.length r3.2.2.1) : Int), (r3.2.2.2.1, ())))))))) (fun r4 =>
       .sum (β := (Bool × Unit)) (γ := Unit) (r4) (fun r5 =>
        .ret (r5.1, ())) (fun r5 =>
        .ret (true, ()))))))))))))))
theorem turnsOrder_eq (x : ((List TQueue) × (Int × Unit))) : fnTr Try.prog cod [FS.pf tuSize, FS.pf tuCheck, GS.pf tuOwn, FS.pf tuRound, clOwn, FS.pf turnsLives, FS.pf bet, FS.pf tuRight, FS.pf eqInts, FS.pf eqSent] [(3, turnsOrder_L3_20), (3, turnsOrder_L3_11), (3, turnsOrder_L3_6)] 30 3 turnsOrder_ap turnsOrder_rp x = turnsOrder_tree x := by kernel_rfl
def turnsOrder_fn (x : ((List TQueue) × (Int × Unit))) : Option (Bool × Unit) := (turnsOrder_tree x).eval
def turnsOrder : FS Try.prog := ⟨3, turnsOrder_ap, turnsOrder_rp, turnsOrder_fn, fun x r h => fnTr_sound (cod := cod) (Γ := [FS.pf tuSize, FS.pf tuCheck, GS.pf tuOwn, FS.pf tuRound, clOwn, FS.pf turnsLives, FS.pf bet, FS.pf tuRight, FS.pf eqInts, FS.pf eqSent]) (Λs := [(3, turnsOrder_L3_20), (3, turnsOrder_L3_11), (3, turnsOrder_L3_6)]) (n := 30) ((congrArg Tr.eval (turnsOrder_eq x)).trans h)⟩
end Go.Proofs.Ythnijeclidpooaa.X
