/- Functions of the program, as trees (printed by a program of mine: tool/XTool, xg.py), each with the proof that the machine comes to what its tree says. Conditions: none. -/
import Derived.Test.YtgdlhdkofcicjaaCod
import Derived.KernelRfl
import Derived.Test.YtgdlhdkofcicjaaGTurns
namespace Go.Proofs.Ytgdlhdkofcicjaa.X
open Go Go.RowKit Go.Proofs.Ytgdlhdkofcicjaa.Abs
set_option maxRecDepth 100000
set_option linter.unusedVariables false
def eqSent_L44_4 : LS := ⟨4, [], ⟨26, [(13, .v (.one (.i .i64))), (1, .v (.one (.st 13 false))), (0, .v (.one (.st 13 false))), (12, .v (.one (.i .i64)))], []⟩, [⟨none, [], ⟨26, [(4, .v (.one (.b)))], []⟩⟩, ⟨some 0, [], ⟨26, [], []⟩⟩], []⟩
def eqSent_step44_4 : (Int × ((List TSent) × ((List TSent) × (Int × Unit)))) → Tr ((Int × ((List TSent) × ((List TSent) × (Int × Unit)))) ⊕ ((Bool × Unit) ⊕ Unit)) :=
  fun (a0, a1, a2, a3, _) =>
  .ite (decide (a0 < a3)) (
   .grd (decide ((0 : Int) ≤ a0)) (
   .opt (β := TSent) (a2[Int.toNat a0]?) (fun r0 =>
   .grd (decide ((0 : Int) ≤ a0)) (
   .opt (β := TSent) (a1[Int.toNat a0]?) (fun r1 =>
   .ite (!(decide (r0.queue = r1.queue) && (decide (r0.size = r1.size) && true))) (
    .ret (Sum.inr (Sum.inl (false, ())))) (
    .ret (Sum.inl (IntKind.wrap IntKind.i64 (a0 + (1 : Int)), (a1, (a2, (a3, ()))))))))))) (
   .ret (Sum.inr (Sum.inr ())))
def eqSent_loop44_4 (x : (Int × ((List TSent) × ((List TSent) × (Int × Unit))))) : Option ((Bool × Unit) ⊕ Unit) := loopO 440004 (fun x => (eqSent_step44_4 x).eval) 18446744073709551616 x
def eqSent_ap : List VP1 := [.one (.st 13 false), .one (.st 13 false)]
def eqSent_rp : SP := ⟨1, [(0, .v (.one (.b)))], []⟩
def eqSent_tree : ((List TSent) × ((List TSent) × Unit)) → Tr (Bool × Unit) :=
  fun (a0, a1, _) =>
  .ite (!decide ((↑(List.length a0) : Int) = (↑(List.length a1) : Int))) (
   .ret (false, ())) (
   .opt (β := ((Bool × Unit) ⊕ Unit)) ((eqSent_loop44_4 ((0 : Int), (a1, (a0, ((↑(List.length a0) : Int), ())))))) (fun r0 =>
   .sum (β := (Bool × Unit)) (γ := Unit) (r0) (fun r1 =>
    .ret (r1.1, ())) (fun r1 =>
    .ret (true, ()))))
theorem eqSent_eq (x : ((List TSent) × ((List TSent) × Unit))) : fnTr Try.prog cod [clInts, FS.pf tuSize, FS.pf tuCheck, GS.pf tuOwn, FS.pf tuRound] [(44, eqSent_L44_4)] 30 44 eqSent_ap eqSent_rp x = eqSent_tree x := by kernel_rfl
def eqSent_fn (x : ((List TSent) × ((List TSent) × Unit))) : Option (Bool × Unit) := (eqSent_tree x).eval
def eqSent : FS Try.prog := ⟨44, eqSent_ap, eqSent_rp, eqSent_fn, fun x r h => fnTr_sound (cod := cod) (Γ := [clInts, FS.pf tuSize, FS.pf tuCheck, GS.pf tuOwn, FS.pf tuRound]) (Λs := [(44, eqSent_L44_4)]) (n := 30) ((congrArg Tr.eval (eqSent_eq x)).trans h)⟩
def turnsLives_ap : List VP1 := []
def turnsLives_rp : SP := ⟨1, [(0, .v (.one (.b)))], []⟩
def turnsLives_tree : Unit → Tr (Bool × Unit) :=
  fun (_) =>
  .opt (β := ((List TQueue) × ((List TSent) × (Int × Unit)))) ((tuRound_fn ([TQueue.mk (5 : Int) (0 : Int) [(3 : Int), (3 : Int)], TQueue.mk (2 : Int) (0 : Int) [(2 : Int)]], ()))) (fun r0 =>
  .ite (decide (r0.2.2.1 = (0 : Int))) (
   .opt (β := (Bool × Unit)) ((eqSent_fn (r0.2.1, ([TSent.mk (0 : Int) (3 : Int), TSent.mk (1 : Int) (2 : Int)], ())))) (fun r1 =>
   .ite (r1.1) (
    .ite (decide ((↑(List.length r0.1) : Int) = (2 : Int))) (
     .grd (true) (
     .opt (β := TQueue) (r0.1[(0 : Nat)]?) (fun r2 =>
     .ite (decide (r2.saved = (2 : Int))) (
      .grd (true) (
      .opt (β := TQueue) (r0.1[(1 : Nat)]?) (fun r3 =>
      .ret (decide (r3.saved = (0 : Int)), ())))) (
      .ret (false, ()))))) (
     .ret (false, ()))) (
    .ret (false, ())))) (
   .ret (false, ())))
theorem turnsLives_eq (x : Unit) : fnTr Try.prog cod [clInts, FS.pf tuSize, FS.pf tuCheck, GS.pf tuOwn, FS.pf tuRound, FS.pf eqSent] [] 30 14 turnsLives_ap turnsLives_rp x = turnsLives_tree x := by kernel_rfl
def turnsLives_fn (x : Unit) : Option (Bool × Unit) := (turnsLives_tree x).eval
def turnsLives : FS Try.prog := ⟨14, turnsLives_ap, turnsLives_rp, turnsLives_fn, fun x r h => fnTr_sound (cod := cod) (Γ := [clInts, FS.pf tuSize, FS.pf tuCheck, GS.pf tuOwn, FS.pf tuRound, FS.pf eqSent]) (Λs := []) (n := 30) ((congrArg Tr.eval (turnsLives_eq x)).trans h)⟩
def tuRounds_L16_21 : LS := ⟨21, [(24, 24), (21, 21)], ⟨116, [(93, .v (.one (.i .i64))), (9, .v (.one (.own 24))), (91, .v (.one (.st 12 true))), (8, .v (.one (.own 21))), (0, .v (.one (.st 12 true))), (40, .v (.one (.i .i64))), (41, .v (.one (.i .i64))), (92, .v (.one (.i .i64)))], [(24, .row 4 1 true true), (21, .row 3 0 true true)]⟩, [⟨some 6, [(24, 24), (21, 21)], ⟨116, [(9, .v (.one (.own 24))), (8, .v (.one (.own 21))), (0, .v (.one (.st 12 true))), (40, .v (.one (.i .i64))), (41, .v (.one (.i .i64)))], [(24, .row 4 1 true true), (21, .row 3 0 true true)]⟩⟩], []⟩
def tuRounds_step16_21 : (Int × ((List TQueue) × ((List TQueue) × (Int × (Int × (Int × ((List Bool) × ((List Int) × Unit)))))))) → Tr ((Int × ((List TQueue) × ((List TQueue) × (Int × (Int × (Int × ((List Bool) × ((List Int) × Unit)))))))) ⊕ ((List TQueue) × (Int × (Int × ((List Bool) × ((List Int) × Unit)))))) :=
  fun (a0, a1, a2, a3, a4, a5, a6, a7, _) =>
  .ite (decide (a0 < a5)) (
   .grd (decide ((0 : Int) ≤ a0)) (
   .opt (β := TQueue) (a1[Int.toNat a0]?) (fun r0 =>
   .grd (decide ((0 : Int) ≤ a0 ∧ a0 < (↑(List.length a6) : Int))) (
   .opt (β := Bool) (a6[Int.toNat a0]?) (fun r1 =>
   .ite (r1) (
    .grd (decide ((0 : Int) ≤ a0 ∧ a0 < (↑(List.length a6) : Int))) (
    .opt (β := Bool) (a6[Int.toNat a0]?) (fun r2 =>
    .grd (decide (List.length a6 = List.length (List.set a6 (Int.toNat a0) (decide ((0 : Int) < (↑(List.length r0.sizes) : Int)))))) (
    .grd (decide (List.length a7 = List.length a7)) (
    .ret (Sum.inl (IntKind.wrap IntKind.i64 (a0 + (1 : Int)), (a1, (a2, (a3, (a4, (a5, (List.set a6 (Int.toNat a0) (decide ((0 : Int) < (↑(List.length r0.sizes) : Int))), (a7, ())))))))))))))) (
    .grd (decide ((0 : Int) ≤ a0 ∧ a0 < (↑(List.length a6) : Int))) (
    .opt (β := Bool) (a6[Int.toNat a0]?) (fun r2 =>
    .grd (decide (List.length a6 = List.length (List.set a6 (Int.toNat a0) false))) (
    .grd (decide (List.length a7 = List.length a7)) (
    .ret (Sum.inl (IntKind.wrap IntKind.i64 (a0 + (1 : Int)), (a1, (a2, (a3, (a4, (a5, (List.set a6 (Int.toNat a0) false, (a7, ()))))))))))))))))))) (
   .grd (decide (List.length a6 = List.length a6)) (
   .grd (decide (List.length a7 = List.length a7)) (
   .ret (Sum.inr (a2, (a3, (a4, (a6, (a7, ())))))))))
def tuRounds_loop16_21 (x : (Int × ((List TQueue) × ((List TQueue) × (Int × (Int × (Int × ((List Bool) × ((List Int) × Unit))))))))) : Option ((List TQueue) × (Int × (Int × ((List Bool) × ((List Int) × Unit))))) := loopO 160021 (fun x => (tuRounds_step16_21 x).eval) 18446744073709551616 x
def tuRounds_L16_13 : LS := ⟨13, [(24, 24), (21, 21)], ⟨116, [(9, .v (.one (.own 24))), (8, .v (.one (.own 21))), (0, .v (.one (.st 12 false))), (63, .v (.one (.i .i64))), (61, .v (.one (.st 13 true))), (40, .v (.one (.i .i64))), (41, .v (.one (.i .i64))), (12, .v (.one (.st 12 true))), (62, .v (.one (.i .i64)))], [(24, .row 4 1 true true), (21, .row 3 0 true true)]⟩, [⟨none, [(21, 21), (24, 24)], ⟨116, [(4, .v (.one (.st 12 false))), (5, .v (.one (.own 21))), (6, .v (.one (.own 24))), (7, .v (.one (.b)))], [(21, .row 3 0 true true), (24, .row 4 1 true true)]⟩⟩, ⟨some 4, [(24, 24), (21, 21)], ⟨116, [(9, .v (.one (.own 24))), (8, .v (.one (.own 21))), (40, .v (.one (.i .i64))), (41, .v (.one (.i .i64))), (12, .v (.one (.st 12 true)))], [(24, .row 4 1 true true), (21, .row 3 0 true true)]⟩⟩], []⟩
def tuRounds_step16_13 : ((List TQueue) × (Int × ((List TSent) × (Int × (Int × ((List TQueue) × (Int × ((List Bool) × ((List Int) × Unit))))))))) → Tr (((List TQueue) × (Int × ((List TSent) × (Int × (Int × ((List TQueue) × (Int × ((List Bool) × ((List Int) × Unit))))))))) ⊕ (((List TQueue) × (Bool × ((List Int) × ((List Bool) × Unit)))) ⊕ (Int × (Int × ((List TQueue) × ((List Bool) × ((List Int) × Unit))))))) :=
  fun (a0, a1, a2, a3, a4, a5, a6, a7, a8, _) =>
  .ite (decide (a1 < a6)) (
   .grd (decide ((0 : Int) ≤ a1)) (
   .opt (β := TSent) (a2[Int.toNat a1]?) (fun r0 =>
   .ite (decide (r0.queue < (0 : Int))) (
    .grd (decide (List.length a8 = List.length a8)) (
    .grd (decide (List.length a7 = List.length a7)) (
    .ret (Sum.inr (Sum.inl (a0, (false, (a8, (a7, ()))))))))) (
    .ite (decide ((↑(List.length a8) : Int) ≤ r0.queue)) (
     .grd (decide (List.length a8 = List.length a8)) (
     .grd (decide (List.length a7 = List.length a7)) (
     .ret (Sum.inr (Sum.inl (a0, (false, (a8, (a7, ()))))))))) (
     .grd (decide ((0 : Int) ≤ r0.queue ∧ r0.queue < (↑(List.length a8) : Int))) (
     .opt (β := Int) (a8[Int.toNat r0.queue]?) (fun r1 =>
     .grd (decide ((0 : Int) ≤ r0.queue ∧ r0.queue < (↑(List.length a8) : Int))) (
     .opt (β := Int) (a8[Int.toNat r0.queue]?) (fun r2 =>
     .grd (decide (List.length a7 = List.length a7)) (
     .grd (decide (List.length a8 = List.length (List.set a8 (Int.toNat r0.queue) (IntKind.wrap IntKind.i64 (r1 + r0.size))))) (
     .ret (Sum.inl (a0, (IntKind.wrap IntKind.i64 (a1 + (1 : Int)), (a2, (a3, (a4, (a5, (a6, (a7, (List.set a8 (Int.toNat r0.queue) (IntKind.wrap IntKind.i64 (r1 + r0.size)), ()))))))))))))))))))))) (
   .grd (decide (List.length a7 = List.length a7)) (
   .grd (decide (List.length a8 = List.length a8)) (
   .ret (Sum.inr (Sum.inr (a3, (a4, (a5, (a7, (a8, ()))))))))))
def tuRounds_loop16_13 (x : ((List TQueue) × (Int × ((List TSent) × (Int × (Int × ((List TQueue) × (Int × ((List Bool) × ((List Int) × Unit)))))))))) : Option (((List TQueue) × (Bool × ((List Int) × ((List Bool) × Unit)))) ⊕ (Int × (Int × ((List TQueue) × ((List Bool) × ((List Int) × Unit)))))) := loopO 160013 (fun x => (tuRounds_step16_13 x).eval) 18446744073709551616 x
def tuRounds_L16_8 : LS := ⟨8, [(24, 24), (21, 21)], ⟨116, [(9, .v (.one (.own 24))), (8, .v (.one (.own 21))), (0, .v (.one (.st 12 false))), (41, .v (.one (.i .i64))), (40, .v (.one (.i .i64)))], [(24, .row 4 1 true true), (21, .row 3 0 true true)]⟩, [⟨none, [(21, 21), (24, 24)], ⟨116, [(4, .v (.one (.st 12 false))), (5, .v (.one (.own 21))), (6, .v (.one (.own 24))), (7, .v (.one (.b)))], [(21, .row 3 0 true true), (24, .row 4 1 true true)]⟩⟩, ⟨some 2, [(24, 24), (21, 21)], ⟨116, [(9, .v (.one (.own 24))), (8, .v (.one (.own 21))), (0, .v (.one (.st 12 false)))], [(24, .row 4 1 true true), (21, .row 3 0 true true)]⟩⟩], []⟩
def tuRounds_step16_8 : ((List TQueue) × (Int × (Int × ((List Bool) × ((List Int) × Unit))))) → Tr (((List TQueue) × (Int × (Int × ((List Bool) × ((List Int) × Unit))))) ⊕ (((List TQueue) × (Bool × ((List Int) × ((List Bool) × Unit)))) ⊕ ((List TQueue) × ((List Bool) × ((List Int) × Unit))))) :=
  fun (a0, a1, a2, a3, a4, _) =>
  .ite (decide (a1 < a2)) (
   .opt (β := ((List TQueue) × ((List TSent) × (Int × Unit)))) ((tuRound_fn (a0, ()))) (fun r0 =>
   .ite (!decide (r0.2.2.1 = (0 : Int))) (
    .grd (decide (List.length a4 = List.length a4)) (
    .grd (decide (List.length a3 = List.length a3)) (
    .ret (Sum.inr (Sum.inl (a0, (false, (a4, (a3, ()))))))))) (
    .ite (!decide ((↑(List.length r0.1) : Int) = (↑(List.length a0) : Int))) (
     .grd (decide (List.length a4 = List.length a4)) (
     .grd (decide (List.length a3 = List.length a3)) (
     .ret (Sum.inr (Sum.inl (a0, (false, (a4, (a3, ()))))))))) (
     .grd (decide (List.length a3 = List.length a3)) (
     .grd (decide (List.length a4 = List.length a4)) (
     .opt (β := (((List TQueue) × (Bool × ((List Int) × ((List Bool) × Unit)))) ⊕ (Int × (Int × ((List TQueue) × ((List Bool) × ((List Int) × Unit))))))) ((tuRounds_loop16_13 (a0, ((0 : Int), (r0.2.1, (a2, (a1, (r0.1, ((↑(List.length r0.2.1) : Int), (a3, (a4, ()))))))))))) (fun r1 =>
     .sum (β := ((List TQueue) × (Bool × ((List Int) × ((List Bool) × Unit))))) (γ := (Int × (Int × ((List TQueue) × ((List Bool) × ((List Int) × Unit)))))) (r1) (fun r2 =>
      .grd (decide (List.length r2.2.2.fst = List.length r2.2.2.1)) (
      .grd (decide (List.length r2.2.2.2.fst = List.length r2.2.2.2.1)) (
      .ret (Sum.inr (Sum.inl (r2.1, (r2.2.1, (r2.2.2.1, (r2.2.2.2.1, ()))))))))) (fun r2 =>
      .grd (decide (List.length r2.2.2.2.fst = List.length r2.2.2.2.1)) (
      .grd (decide (List.length r2.2.2.2.2.fst = List.length r2.2.2.2.2.1)) (
      .opt (β := ((List TQueue) × (Int × (Int × ((List Bool) × ((List Int) × Unit)))))) ((tuRounds_loop16_21 ((0 : Int), (r2.2.2.1, (r2.2.2.1, (r2.1, (r2.2.1, ((↑(List.length r2.2.2.1) : Int), (r2.2.2.2.1, (r2.2.2.2.2.1, ())))))))))) (fun r3 =>
      .grd (decide (List.length r3.2.2.2.fst = List.length r3.2.2.2.1)) (
      .grd (decide (List.length r3.2.2.2.2.fst = List.length r3.2.2.2.2.1)) (
      .ret (Sum.inl (r3.1, (IntKind.wrap IntKind.i64 (r3.2.2.1 + (1 : Int)), (r3.2.1, (r3.2.2.2.1, (r3.2.2.2.2.1, ()))))))))))))))))))) (
   .grd (decide (List.length a3 = List.length a3)) (
   .grd (decide (List.length a4 = List.length a4)) (
   .ret (Sum.inr (Sum.inr (a0, (a3, (a4, ()))))))))
def tuRounds_loop16_8 (x : ((List TQueue) × (Int × (Int × ((List Bool) × ((List Int) × Unit)))))) : Option (((List TQueue) × (Bool × ((List Int) × ((List Bool) × Unit)))) ⊕ ((List TQueue) × ((List Bool) × ((List Int) × Unit)))) := loopO 160008 (fun x => (tuRounds_step16_8 x).eval) 18446744073709551616 x
def tuRounds_L16_3 : LS := ⟨3, [(24, 24), (21, 21)], ⟨116, [(27, .v (.one (.i .i64))), (9, .v (.one (.own 24))), (25, .v (.one (.st 12 false))), (8, .v (.one (.own 21))), (0, .v (.one (.st 12 false))), (1, .v (.one (.i .i64))), (26, .v (.one (.i .i64)))], [(24, .row 4 1 true true), (21, .row 3 0 true true)]⟩, [⟨some 0, [(24, 24), (21, 21)], ⟨116, [(9, .v (.one (.own 24))), (8, .v (.one (.own 21))), (0, .v (.one (.st 12 false))), (1, .v (.one (.i .i64)))], [(24, .row 4 1 true true), (21, .row 3 0 true true)]⟩⟩], []⟩
def tuRounds_step16_3 : (Int × ((List TQueue) × ((List TQueue) × (Int × (Int × ((List Bool) × ((List Int) × Unit))))))) → Tr ((Int × ((List TQueue) × ((List TQueue) × (Int × (Int × ((List Bool) × ((List Int) × Unit))))))) ⊕ ((List TQueue) × (Int × ((List Bool) × ((List Int) × Unit))))) :=
  fun (a0, a1, a2, a3, a4, a5, a6, _) =>
  .ite (decide (a0 < a4)) (
   .grd (decide ((0 : Int) ≤ a0)) (
   .opt (β := TQueue) (a1[Int.toNat a0]?) (fun r0 =>
   .grd (decide ((0 : Int) ≤ a0 ∧ a0 < (↑(List.length a5) : Int))) (
   .opt (β := Bool) (a5[Int.toNat a0]?) (fun r1 =>
   .grd (decide (List.length a5 = List.length (List.set a5 (Int.toNat a0) (decide ((0 : Int) < (↑(List.length r0.sizes) : Int)))))) (
   .grd (decide (List.length a6 = List.length a6)) (
   .ret (Sum.inl (IntKind.wrap IntKind.i64 (a0 + (1 : Int)), (a1, (a2, (a3, (a4, (List.set a5 (Int.toNat a0) (decide ((0 : Int) < (↑(List.length r0.sizes) : Int))), (a6, ()))))))))))))))) (
   .grd (decide (List.length a5 = List.length a5)) (
   .grd (decide (List.length a6 = List.length a6)) (
   .ret (Sum.inr (a2, (a3, (a5, (a6, ()))))))))
def tuRounds_loop16_3 (x : (Int × ((List TQueue) × ((List TQueue) × (Int × (Int × ((List Bool) × ((List Int) × Unit)))))))) : Option ((List TQueue) × (Int × ((List Bool) × ((List Int) × Unit)))) := loopO 160003 (fun x => (tuRounds_step16_3 x).eval) 18446744073709551616 x
def tuRounds_ap : List VP1 := [.one (.st 12 false), .one (.i .i64)]
def tuRounds_rp : SP := ⟨1, [(0, .tup [.one (.st 12 false), .one (.st 0 false), .one (.st 1 false), .one (.b)])], []⟩
def tuRounds_tree : ((List TQueue) × (Int × Unit)) → Tr ((List TQueue) × ((List Int) × ((List Bool) × (Bool × Unit)))) :=
  fun (a0, a1, _) =>
  .grd (decide ((0 : Int) ≤ (↑(List.length a0) : Int) ∧ (↑(List.length a0) : Int) ≤ (↑(List.length a0) : Int) ∧ Int.toNat (↑(List.length a0) : Int) * (8 : Nat) ≤ (140737488355328 : Nat) ∧ (↑(List.length a0) : Int) ≤ (↑(9223372036854775807 : Nat) : Int))) (
  .grd (decide ((0 : Int) ≤ (↑(List.length a0) : Int) ∧ (↑(List.length a0) : Int) ≤ (↑(List.length a0) : Int) ∧ Int.toNat (↑(List.length a0) : Int) * (1 : Nat) ≤ (140737488355328 : Nat) ∧ (↑(List.length a0) : Int) ≤ (↑(9223372036854775807 : Nat) : Int))) (
  .grd (decide (List.length (List.replicate (Int.toNat (↑(List.length a0) : Int)) false) = List.length (List.replicate (Int.toNat (↑(List.length a0) : Int)) false))) (
  .grd (decide (List.length (List.replicate (Int.toNat (↑(List.length a0) : Int)) (0 : Int)) = List.length (List.replicate (Int.toNat (↑(List.length a0) : Int)) (0 : Int)))) (
  .opt (β := ((List TQueue) × (Int × ((List Bool) × ((List Int) × Unit))))) ((tuRounds_loop16_3 ((0 : Int), (a0, (a0, (a1, ((↑(List.length a0) : Int), (List.replicate (Int.toNat (↑(List.length a0) : Int)) false, (List.replicate (Int.toNat (↑(List.length a0) : Int)) (0 : Int), ()))))))))) (fun r0 =>
  .grd (decide (List.length r0.2.2.fst = List.length r0.2.2.1)) (
  .grd (decide (List.length r0.2.2.2.fst = List.length r0.2.2.2.1)) (
  .opt (β := (((List TQueue) × (Bool × ((List Int) × ((List Bool) × Unit)))) ⊕ ((List TQueue) × ((List Bool) × ((List Int) × Unit))))) ((tuRounds_loop16_8 (r0.1, ((0 : Int), (r0.2.1, (r0.2.2.1, (r0.2.2.2.1, ()))))))) (fun r1 =>
  .sum (β := ((List TQueue) × (Bool × ((List Int) × ((List Bool) × Unit))))) (γ := ((List TQueue) × ((List Bool) × ((List Int) × Unit)))) (r1) (fun r2 =>
   .ret (r2.1, (r2.2.2.1, (r2.2.2.2.1, (r2.2.1, ()))))) (fun r2 =>
   .ret (r2.1, (r2.2.2.1, (r2.2.1, (true, ())))))))))))))
theorem tuRounds_eq (x : ((List TQueue) × (Int × Unit))) : fnTr Try.prog cod [clInts, FS.pf tuSize, FS.pf tuCheck, GS.pf tuOwn, FS.pf tuRound, FS.pf eqSent, FS.pf turnsLives] [(16, tuRounds_L16_21), (16, tuRounds_L16_13), (16, tuRounds_L16_8), (16, tuRounds_L16_3)] 30 16 tuRounds_ap tuRounds_rp x = tuRounds_tree x := by kernel_rfl
def tuRounds_fn (x : ((List TQueue) × (Int × Unit))) : Option ((List TQueue) × ((List Int) × ((List Bool) × (Bool × Unit)))) := (tuRounds_tree x).eval
def tuRounds : FS Try.prog := ⟨16, tuRounds_ap, tuRounds_rp, tuRounds_fn, fun x r h => fnTr_sound (cod := cod) (Γ := [clInts, FS.pf tuSize, FS.pf tuCheck, GS.pf tuOwn, FS.pf tuRound, FS.pf eqSent, FS.pf turnsLives]) (Λs := [(16, tuRounds_L16_21), (16, tuRounds_L16_13), (16, tuRounds_L16_8), (16, tuRounds_L16_3)]) (n := 30) ((congrArg Tr.eval (tuRounds_eq x)).trans h)⟩
def turnsFair_L3_18 : LS := ⟨18, [], ⟨141, [(66, .v (.one (.i .i64))), (0, .v (.one (.st 12 false))), (14, .v (.one (.i .i64))), (5, .v (.one (.i .i64))), (12, .v (.one (.st 1 false))), (13, .v (.one (.b))), (11, .v (.one (.st 0 false))), (60, .v (.one (.i .i64))), (61, .v (.one (.i .i64))), (65, .v (.one (.i .i64)))], []⟩, [⟨none, [], ⟨141, [(4, .v (.one (.b)))], []⟩⟩, ⟨some 6, [], ⟨141, [(0, .v (.one (.st 12 false))), (5, .v (.one (.i .i64))), (12, .v (.one (.st 1 false))), (13, .v (.one (.b))), (11, .v (.one (.st 0 false))), (60, .v (.one (.i .i64))), (61, .v (.one (.i .i64)))], []⟩⟩], []⟩
def turnsFair_step3_18 : (Int × ((List TQueue) × (Int × (Int × ((List Bool) × (Bool × ((List Int) × (Int × (Int × (Int × Unit)))))))))) → Tr ((Int × ((List TQueue) × (Int × (Int × ((List Bool) × (Bool × ((List Int) × (Int × (Int × (Int × Unit)))))))))) ⊕ ((Bool × Unit) ⊕ ((List TQueue) × (Int × ((List Bool) × (Bool × ((List Int) × (Int × (Int × Unit))))))))) :=
  fun (a0, a1, a2, a3, a4, a5, a6, a7, a8, a9, _) =>
  .ite (decide (a0 < a9)) (
   .grd (decide ((0 : Int) ≤ a2)) (
   .opt (β := Int) (a6[Int.toNat a2]?) (fun r0 =>
   .grd (decide ((0 : Int) ≤ a0)) (
   .opt (β := TQueue) (a1[Int.toNat a0]?) (fun r1 =>
   .grd (decide ((0 : Int) ≤ a0)) (
   .opt (β := Int) (a6[Int.toNat a0]?) (fun r2 =>
   .grd (decide ((0 : Int) ≤ a2)) (
   .opt (β := TQueue) (a1[Int.toNat a2]?) (fun r3 =>
   .ite (a5) (
    .grd (decide ((0 : Int) ≤ a2)) (
    .opt (β := Bool) (a4[Int.toNat a2]?) (fun r4 =>
    .ite (r4) (
     .grd (decide ((0 : Int) ≤ a0)) (
     .opt (β := Bool) (a4[Int.toNat a0]?) (fun r5 =>
     .ite (r5) (
      .grd (decide ((0 : Int) ≤ a2)) (
      .opt (β := TQueue) (a1[Int.toNat a2]?) (fun r6 =>
      .grd (decide ((0 : Int) ≤ a0)) (
      .opt (β := TQueue) (a1[Int.toNat a0]?) (fun r7 =>
      .ite (decide (IntKind.wrap IntKind.i64 (a3 * IntKind.wrap IntKind.i64 (r6.share + r7.share)) ≤ IntKind.wrap IntKind.i64 (IntKind.wrap IntKind.i64 (r0 * r1.share) - IntKind.wrap IntKind.i64 (r2 * r3.share)))) (
       .ret (Sum.inr (Sum.inl (false, ())))) (
       .grd (decide ((0 : Int) ≤ a2)) (
       .opt (β := TQueue) (a1[Int.toNat a2]?) (fun r8 =>
       .grd (decide ((0 : Int) ≤ a0)) (
       .opt (β := TQueue) (a1[Int.toNat a0]?) (fun r9 =>
       .ite (decide (IntKind.wrap IntKind.i64 (a3 * IntKind.wrap IntKind.i64 (r8.share + r9.share)) ≤ IntKind.wrap IntKind.i64 ((0 : Int) - IntKind.wrap IntKind.i64 (IntKind.wrap IntKind.i64 (r0 * r1.share) - IntKind.wrap IntKind.i64 (r2 * r3.share))))) (
        .ret (Sum.inr (Sum.inl (false, ())))) (
        .ret (Sum.inl (IntKind.wrap IntKind.i64 (a0 + (1 : Int)), (a1, (a2, (a3, (a4, (a5, (a6, (a7, (a8, (a9, ())))))))))))))))))))))) (
      .ret (Sum.inl (IntKind.wrap IntKind.i64 (a0 + (1 : Int)), (a1, (a2, (a3, (a4, (a5, (a6, (a7, (a8, (a9, ()))))))))))))))) (
     .ret (Sum.inl (IntKind.wrap IntKind.i64 (a0 + (1 : Int)), (a1, (a2, (a3, (a4, (a5, (a6, (a7, (a8, (a9, ()))))))))))))))) (
    .ret (Sum.inl (IntKind.wrap IntKind.i64 (a0 + (1 : Int)), (a1, (a2, (a3, (a4, (a5, (a6, (a7, (a8, (a9, ()))))))))))))))))))))) (
   .ret (Sum.inr (Sum.inr (a1, (a3, (a4, (a5, (a6, (a7, (a8, ()))))))))))
def turnsFair_loop3_18 (x : (Int × ((List TQueue) × (Int × (Int × ((List Bool) × (Bool × ((List Int) × (Int × (Int × (Int × Unit))))))))))) : Option ((Bool × Unit) ⊕ ((List TQueue) × (Int × ((List Bool) × (Bool × ((List Int) × (Int × (Int × Unit)))))))) := loopO 30018 (fun x => (turnsFair_step3_18 x).eval) 18446744073709551616 x
def turnsFair_L3_15 : LS := ⟨15, [], ⟨141, [(0, .v (.one (.st 12 false))), (5, .v (.one (.i .i64))), (12, .v (.one (.st 1 false))), (13, .v (.one (.b))), (11, .v (.one (.st 0 false))), (61, .v (.one (.i .i64))), (60, .v (.one (.i .i64)))], []⟩, [⟨none, [], ⟨141, [(4, .v (.one (.b)))], []⟩⟩, ⟨some 4, [], ⟨141, [(13, .v (.one (.b)))], []⟩⟩], []⟩
def turnsFair_step3_15 : ((List TQueue) × (Int × ((List Bool) × (Bool × ((List Int) × (Int × (Int × Unit))))))) → Tr (((List TQueue) × (Int × ((List Bool) × (Bool × ((List Int) × (Int × (Int × Unit))))))) ⊕ ((Bool × Unit) ⊕ (Bool × Unit))) :=
  fun (a0, a1, a2, a3, a4, a5, a6, _) =>
  .ite (decide (a5 < a6)) (
   .opt (β := ((Bool × Unit) ⊕ ((List TQueue) × (Int × ((List Bool) × (Bool × ((List Int) × (Int × (Int × Unit))))))))) ((turnsFair_loop3_18 ((0 : Int), (a0, (a5, (a1, (a2, (a3, (a4, (a6, (a5, ((↑(List.length a0) : Int), ())))))))))))) (fun r0 =>
   .sum (β := (Bool × Unit)) (γ := ((List TQueue) × (Int × ((List Bool) × (Bool × ((List Int) × (Int × (Int × Unit)))))))) (r0) (fun r1 =>
    .ret (Sum.inr (Sum.inl (r1.1, ())))) (fun r1 =>
    .ret (Sum.inl (r1.1, (r1.2.1, (r1.2.2.1, (r1.2.2.2.1, (r1.2.2.2.2.1, (IntKind.wrap IntKind.i64 (r1.2.2.2.2.2.2.1 + (1 : Int)), (r1.2.2.2.2.2.1, ()))))))))))) (
   .ret (Sum.inr (Sum.inr (a3, ()))))
def turnsFair_loop3_15 (x : ((List TQueue) × (Int × ((List Bool) × (Bool × ((List Int) × (Int × (Int × Unit)))))))) : Option ((Bool × Unit) ⊕ (Bool × Unit)) := loopO 30015 (fun x => (turnsFair_step3_15 x).eval) 18446744073709551616 x
def turnsFair_L3_8 : LS := ⟨8, [], ⟨141, [(42, .v (.one (.i .i64))), (5, .v (.one (.i .i64))), (40, .v (.one (.st 0 false))), (33, .v (.one (.st 12 false))), (0, .v (.one (.st 12 false))), (1, .v (.one (.i .i64))), (34, .v (.one (.i .i64))), (35, .v (.one (.i .i64))), (41, .v (.one (.i .i64)))], []⟩, [⟨some 2, [], ⟨141, [(5, .v (.one (.i .i64))), (33, .v (.one (.st 12 false))), (0, .v (.one (.st 12 false))), (1, .v (.one (.i .i64))), (34, .v (.one (.i .i64))), (35, .v (.one (.i .i64)))], []⟩⟩], []⟩
def turnsFair_step3_8 : (Int × (Int × ((List Int) × ((List TQueue) × ((List TQueue) × (Int × (Int × (Int × (Int × Unit))))))))) → Tr ((Int × (Int × ((List Int) × ((List TQueue) × ((List TQueue) × (Int × (Int × (Int × (Int × Unit))))))))) ⊕ (Int × ((List TQueue) × ((List TQueue) × (Int × (Int × (Int × Unit))))))) :=
  fun (a0, a1, a2, a3, a4, a5, a6, a7, a8, _) =>
  .ite (decide (a0 < a8)) (
   .grd (decide ((0 : Int) ≤ a0)) (
   .opt (β := Int) (a2[Int.toNat a0]?) (fun r0 =>
   .ret (Sum.inl (IntKind.wrap IntKind.i64 (a0 + (1 : Int)), (if false = true then if r0 < a1 then r0 else a1 else if r0 > a1 then r0 else a1, (a2, (a3, (a4, (a5, (a6, (a7, (a8, ()))))))))))))) (
   .ret (Sum.inr (a1, (a3, (a4, (a5, (a6, (a7, ()))))))))
def turnsFair_loop3_8 (x : (Int × (Int × ((List Int) × ((List TQueue) × ((List TQueue) × (Int × (Int × (Int × (Int × Unit)))))))))) : Option (Int × ((List TQueue) × ((List TQueue) × (Int × (Int × (Int × Unit)))))) := loopO 30008 (fun x => (turnsFair_step3_8 x).eval) 18446744073709551616 x
def turnsFair_L3_5 : LS := ⟨5, [], ⟨141, [(5, .v (.one (.i .i64))), (35, .v (.one (.i .i64))), (33, .v (.one (.st 12 false))), (0, .v (.one (.st 12 false))), (1, .v (.one (.i .i64))), (34, .v (.one (.i .i64)))], []⟩, [⟨some 0, [], ⟨141, [(0, .v (.one (.st 12 false))), (5, .v (.one (.i .i64))), (1, .v (.one (.i .i64)))], []⟩⟩], []⟩
def turnsFair_step3_5 : (Int × (Int × ((List TQueue) × ((List TQueue) × (Int × (Int × Unit)))))) → Tr ((Int × (Int × ((List TQueue) × ((List TQueue) × (Int × (Int × Unit)))))) ⊕ ((List TQueue) × (Int × (Int × Unit)))) :=
  fun (a0, a1, a2, a3, a4, a5, _) =>
  .ite (decide (a1 < a5)) (
   .grd (decide ((0 : Int) ≤ a1)) (
   .opt (β := TQueue) (a2[Int.toNat a1]?) (fun r0 =>
   .opt (β := (Int × ((List TQueue) × ((List TQueue) × (Int × (Int × (Int × Unit))))))) ((turnsFair_loop3_8 ((0 : Int), (a0, (r0.sizes, (a2, (a3, (a4, (a5, (a1, ((↑(List.length r0.sizes) : Int), ()))))))))))) (fun r1 =>
   .ret (Sum.inl (r1.1, (IntKind.wrap IntKind.i64 (r1.2.2.2.2.2.1 + (1 : Int)), (r1.2.1, (r1.2.2.1, (r1.2.2.2.1, (r1.2.2.2.2.1, ()))))))))))) (
   .ret (Sum.inr (a3, (a0, (a4, ())))))
def turnsFair_loop3_5 (x : (Int × (Int × ((List TQueue) × ((List TQueue) × (Int × (Int × Unit))))))) : Option ((List TQueue) × (Int × (Int × Unit))) := loopO 30005 (fun x => (turnsFair_step3_5 x).eval) 18446744073709551616 x
def turnsFair_ap : List VP1 := [.one (.st 12 false), .one (.i .i64)]
def turnsFair_rp : SP := ⟨1, [(0, .v (.one (.b)))], []⟩
def turnsFair_tree : ((List TQueue) × (Int × Unit)) → Tr (Bool × Unit) :=
  fun (a0, a1, _) =>
  .opt (β := (Bool × Unit)) ((turnsLives_fn ())) (fun r0 =>
  .ite (!r0.1) (
   .opt (β := (Bool × Unit)) ((turnsLives_fn ())) (fun r1 =>
   .ret (r1.1, ()))) (
   .opt (β := (Int × Unit)) ((tuCheck_fn (a0, ()))) (fun r1 =>
   .ite (!decide (r1.1 = (0 : Int))) (
    .opt (β := (Bool × Unit)) ((turnsLives_fn ())) (fun r2 =>
    .ret (r2.1, ()))) (
    .ite (decide (a1 < (0 : Int))) (
     .opt (β := (Bool × Unit)) ((turnsLives_fn ())) (fun r2 =>
     .ret (r2.1, ()))) (
     .ite (decide ((100 : Int) < a1)) (
      .opt (β := (Bool × Unit)) ((turnsLives_fn ())) (fun r2 =>
      .ret (r2.1, ()))) (
      .opt (β := ((List TQueue) × (Int × (Int × Unit)))) ((turnsFair_loop3_5 ((0 : Int), ((0 : Int), (a0, (a0, (a1, ((↑(List.length a0) : Int), ())))))))) (fun r2 =>
      .opt (β := ((List TQueue) × ((List Int) × ((List Bool) × (Bool × Unit))))) ((tuRounds_fn (r2.1, (r2.2.2.1, ())))) (fun r3 =>
      .opt (β := ((Bool × Unit) ⊕ (Bool × Unit))) ((turnsFair_loop3_15 (r2.1, (r2.2.1, (r3.2.2.1, (r3.2.2.2.1, (r3.2.1, ((0 : Int), ((↑(List.length r2.1) : Int), ()))))))))) (fun r4 =>
      .sum (β := (Bool × Unit)) (γ := (Bool × Unit)) (r4) (fun r5 =>
       .ret (r5.1, ())) (fun r5 =>
       .ret (r5.1, ())))))))))))
theorem turnsFair_eq (x : ((List TQueue) × (Int × Unit))) : fnTr Try.prog cod [clInts, FS.pf tuSize, FS.pf tuCheck, GS.pf tuOwn, FS.pf tuRound, FS.pf eqSent, FS.pf turnsLives, FS.pf tuRounds] [(3, turnsFair_L3_18), (3, turnsFair_L3_15), (3, turnsFair_L3_8), (3, turnsFair_L3_5)] 30 3 turnsFair_ap turnsFair_rp x = turnsFair_tree x := by kernel_rfl
def turnsFair_fn (x : ((List TQueue) × (Int × Unit))) : Option (Bool × Unit) := (turnsFair_tree x).eval
def turnsFair : FS Try.prog := ⟨3, turnsFair_ap, turnsFair_rp, turnsFair_fn, fun x r h => fnTr_sound (cod := cod) (Γ := [clInts, FS.pf tuSize, FS.pf tuCheck, GS.pf tuOwn, FS.pf tuRound, FS.pf eqSent, FS.pf turnsLives, FS.pf tuRounds]) (Λs := [(3, turnsFair_L3_18), (3, turnsFair_L3_15), (3, turnsFair_L3_8), (3, turnsFair_L3_5)]) (n := 30) ((congrArg Tr.eval (turnsFair_eq x)).trans h)⟩
def turnsServed_L4_7 : LS := ⟨7, [], ⟨105, [(46, .v (.one (.i .i64))), (6, .v (.one (.st 0 false))), (1, .v (.one (.i .i64))), (5, .v (.one (.st 12 false))), (7, .v (.one (.st 1 false))), (44, .v (.one (.st 12 false))), (45, .v (.one (.i .i64)))], []⟩, [⟨none, [], ⟨105, [(4, .v (.one (.b)))], []⟩⟩, ⟨some 0, [], ⟨105, [], []⟩⟩], []⟩
def turnsServed_step4_7 : (Int × ((List Int) × (Int × ((List TQueue) × ((List Bool) × ((List TQueue) × (Int × Unit))))))) → Tr ((Int × ((List Int) × (Int × ((List TQueue) × ((List Bool) × ((List TQueue) × (Int × Unit))))))) ⊕ ((Bool × Unit) ⊕ Unit)) :=
  fun (a0, a1, a2, a3, a4, a5, a6, _) =>
  .ite (decide (a0 < a6)) (
   .grd (decide ((0 : Int) ≤ a0)) (
   .opt (β := TQueue) (a5[Int.toNat a0]?) (fun r0 =>
   .grd (decide ((0 : Int) ≤ a0)) (
   .opt (β := Bool) (a4[Int.toNat a0]?) (fun r1 =>
   .ite (r1) (
    .grd (decide ((0 : Int) ≤ a0)) (
    .opt (β := Int) (a1[Int.toNat a0]?) (fun r2 =>
    .grd (decide ((0 : Int) ≤ a0)) (
    .opt (β := TQueue) (a3[Int.toNat a0]?) (fun r3 =>
    .ite (!decide (r2 = IntKind.wrap IntKind.i64 (IntKind.wrap IntKind.i64 (IntKind.wrap IntKind.i64 (a2 * r0.share) + r0.saved) - r3.saved))) (
     .ret (Sum.inr (Sum.inl (false, ())))) (
     .ite (decide ((0 : Int) < (↑(List.length r0.sizes) : Int))) (
      .grd (true) (
      .opt (β := Int) (r0.sizes[(0 : Nat)]?) (fun r4 =>
      .grd (decide (r0.share ≠ (0 : Int))) (
      .ite (decide (IntKind.wrap IntKind.i64 (Int.tdiv (IntKind.wrap IntKind.i64 (IntKind.wrap IntKind.i64 (IntKind.wrap IntKind.i64 (r4 - r0.saved) + r0.share) - (1 : Int))) r0.share) ≤ a2)) (
       .grd (decide ((0 : Int) ≤ a0)) (
       .opt (β := Int) (a1[Int.toNat a0]?) (fun r5 =>
       .ite (decide (r5 = (0 : Int))) (
        .ret (Sum.inr (Sum.inl (false, ())))) (
        .ret (Sum.inl (IntKind.wrap IntKind.i64 (a0 + (1 : Int)), (a1, (a2, (a3, (a4, (a5, (a6, ())))))))))))) (
       .ret (Sum.inl (IntKind.wrap IntKind.i64 (a0 + (1 : Int)), (a1, (a2, (a3, (a4, (a5, (a6, ()))))))))))))) (
      .ret (Sum.inl (IntKind.wrap IntKind.i64 (a0 + (1 : Int)), (a1, (a2, (a3, (a4, (a5, (a6, ()))))))))))))))) (
    .ite (decide ((0 : Int) < (↑(List.length r0.sizes) : Int))) (
     .grd (true) (
     .opt (β := Int) (r0.sizes[(0 : Nat)]?) (fun r2 =>
     .grd (decide (r0.share ≠ (0 : Int))) (
     .ite (decide (IntKind.wrap IntKind.i64 (Int.tdiv (IntKind.wrap IntKind.i64 (IntKind.wrap IntKind.i64 (IntKind.wrap IntKind.i64 (r2 - r0.saved) + r0.share) - (1 : Int))) r0.share) ≤ a2)) (
      .grd (decide ((0 : Int) ≤ a0)) (
      .opt (β := Int) (a1[Int.toNat a0]?) (fun r3 =>
      .ite (decide (r3 = (0 : Int))) (
       .ret (Sum.inr (Sum.inl (false, ())))) (
       .ret (Sum.inl (IntKind.wrap IntKind.i64 (a0 + (1 : Int)), (a1, (a2, (a3, (a4, (a5, (a6, ())))))))))))) (
      .ret (Sum.inl (IntKind.wrap IntKind.i64 (a0 + (1 : Int)), (a1, (a2, (a3, (a4, (a5, (a6, ()))))))))))))) (
     .ret (Sum.inl (IntKind.wrap IntKind.i64 (a0 + (1 : Int)), (a1, (a2, (a3, (a4, (a5, (a6, ()))))))))))))))) (
   .ret (Sum.inr (Sum.inr ())))
def turnsServed_loop4_7 (x : (Int × ((List Int) × (Int × ((List TQueue) × ((List Bool) × ((List TQueue) × (Int × Unit)))))))) : Option ((Bool × Unit) ⊕ Unit) := loopO 40007 (fun x => (turnsServed_step4_7 x).eval) 18446744073709551616 x
def turnsServed_ap : List VP1 := [.one (.st 12 false), .one (.i .i64)]
def turnsServed_rp : SP := ⟨1, [(0, .v (.one (.b)))], []⟩
def turnsServed_tree : ((List TQueue) × (Int × Unit)) → Tr (Bool × Unit) :=
  fun (a0, a1, _) =>
  .opt (β := (Bool × Unit)) ((turnsLives_fn ())) (fun r0 =>
  .ite (!r0.1) (
   .opt (β := (Bool × Unit)) ((turnsLives_fn ())) (fun r1 =>
   .ret (r1.1, ()))) (
   .opt (β := (Int × Unit)) ((tuCheck_fn (a0, ()))) (fun r1 =>
   .ite (!decide (r1.1 = (0 : Int))) (
    .opt (β := (Bool × Unit)) ((turnsLives_fn ())) (fun r2 =>
    .ret (r2.1, ()))) (
    .ite (decide (a1 < (0 : Int))) (
     .opt (β := (Bool × Unit)) ((turnsLives_fn ())) (fun r2 =>
     .ret (r2.1, ()))) (
     .ite (decide ((100 : Int) < a1)) (
      .opt (β := (Bool × Unit)) ((turnsLives_fn ())) (fun r2 =>
      .ret (r2.1, ()))) (
      .opt (β := ((List TQueue) × ((List Int) × ((List Bool) × (Bool × Unit))))) ((tuRounds_fn (a0, (a1, ())))) (fun r2 =>
      .ite (!r2.2.2.2.1) (
       .ret (false, ())) (
       .ite (!decide ((↑(List.length r2.1) : Int) = (↑(List.length a0) : Int))) (
        .ret (false, ())) (
        .opt (β := ((Bool × Unit) ⊕ Unit)) ((turnsServed_loop4_7 ((0 : Int), (r2.2.1, (a1, (r2.1, (r2.2.2.1, (a0, ((↑(List.length a0) : Int), ()))))))))) (fun r3 =>
        .sum (β := (Bool × Unit)) (γ := Unit) (r3) (fun r4 =>
         .ret (r4.1, ())) (fun r4 =>
         .ret (true, ()))))))))))))
theorem turnsServed_eq (x : ((List TQueue) × (Int × Unit))) : fnTr Try.prog cod [clInts, FS.pf tuSize, FS.pf tuCheck, GS.pf tuOwn, FS.pf tuRound, FS.pf eqSent, FS.pf turnsLives, FS.pf tuRounds, FS.pf turnsFair] [(4, turnsServed_L4_7)] 30 4 turnsServed_ap turnsServed_rp x = turnsServed_tree x := by kernel_rfl
def turnsServed_fn (x : ((List TQueue) × (Int × Unit))) : Option (Bool × Unit) := (turnsServed_tree x).eval
def turnsServed : FS Try.prog := ⟨4, turnsServed_ap, turnsServed_rp, turnsServed_fn, fun x r h => fnTr_sound (cod := cod) (Γ := [clInts, FS.pf tuSize, FS.pf tuCheck, GS.pf tuOwn, FS.pf tuRound, FS.pf eqSent, FS.pf turnsLives, FS.pf tuRounds, FS.pf turnsFair]) (Λs := [(4, turnsServed_L4_7)]) (n := 30) ((congrArg Tr.eval (turnsServed_eq x)).trans h)⟩
end Go.Proofs.Ytgdlhdkofcicjaa.X
