/- Functions of the program, as trees (printed by a program of mine: tool/XTool, xg.py), each with the proof that the machine comes to what its tree says. Conditions: none. -/
import Derived.Test.YtgdlhdkofcicjaaCod
import Derived.KernelRfl
import Derived.Test.YtgdlhdkofcicjaaGAges
namespace Go.Proofs.Ytgdlhdkofcicjaa.X
open Go Go.RowKit Go.Proofs.Ytgdlhdkofcicjaa.Abs
set_option maxRecDepth 100000
set_option linter.unusedVariables false
def agNew_ap : List VP1 := [.one (.i .i64)]
def agNew_rp : SP := ⟨1, [(0, .tup [.agg [.i .i64, .st 8 true], .one (.i .i64)])], []⟩
def agNew_tree : (Int × Unit) → Tr (Int × ((List TStay) × (Int × Unit))) :=
  fun (a0, _) =>
  .ite (decide (a0 < (1 : Int))) (
   .ret ((0 : Int), ([], ((1 : Int), ())))) (
   .ite (decide ((64 : Int) < a0)) (
    .ret ((0 : Int), ([], ((1 : Int), ())))) (
    .ret (a0, ([], ((0 : Int), ())))))
theorem agNew_eq (x : (Int × Unit)) : fnTr Try.prog cod [clStay, GS.pf delStay, FS.pf eqStay, FS.pf agTaken, FS.pf agCheck, FS.pf agPlace, FS.pf agLate, FS.pf agBehind, FS.pf agTake, FS.pf agTouch, FS.pf agLeave, FS.pf agExpire] [] 30 41 agNew_ap agNew_rp x = agNew_tree x := by kernel_rfl
def agNew_fn (x : (Int × Unit)) : Option (Int × ((List TStay) × (Int × Unit))) := (agNew_tree x).eval
def agNew : FS Try.prog := ⟨41, agNew_ap, agNew_rp, agNew_fn, fun x r h => fnTr_sound (cod := cod) (Γ := [clStay, GS.pf delStay, FS.pf eqStay, FS.pf agTaken, FS.pf agCheck, FS.pf agPlace, FS.pf agLate, FS.pf agBehind, FS.pf agTake, FS.pf agTouch, FS.pf agLeave, FS.pf agExpire]) (Λs := []) (n := 30) ((congrArg Tr.eval (agNew_eq x)).trans h)⟩
def containsInt_L66_2 : LS := ⟨2, [], ⟨19, [(8, .v (.one (.i .i64))), (0, .v (.one (.st 0 false))), (1, .v (.one (.i .i64))), (7, .v (.one (.i .i64)))], []⟩, [⟨none, [], ⟨19, [(4, .v (.one (.i .i64)))], []⟩⟩, ⟨some 0, [], ⟨19, [], []⟩⟩], []⟩
def containsInt_step66_2 : (Int × ((List Int) × (Int × (Int × Unit)))) → Tr ((Int × ((List Int) × (Int × (Int × Unit)))) ⊕ ((Int × Unit) ⊕ Unit)) :=
  fun (a0, a1, a2, a3, _) =>
  .ite (decide (a0 < a3)) (
   .grd (decide ((0 : Int) ≤ a0)) (
   .opt (β := Int) (a1[Int.toNat a0]?) (fun r0 =>
   .ite (decide (a2 = r0)) (
    .ret (Sum.inr (Sum.inl (a0, ())))) (
    .ret (Sum.inl (IntKind.wrap IntKind.i64 (a0 + (1 : Int)), (a1, (a2, (a3, ()))))))))) (
   .ret (Sum.inr (Sum.inr ())))
def containsInt_loop66_2 (x : (Int × ((List Int) × (Int × (Int × Unit))))) : Option ((Int × Unit) ⊕ Unit) := loopO 660002 (fun x => (containsInt_step66_2 x).eval) 18446744073709551616 x
def containsInt_ap : List VP1 := [.one (.st 0 false), .one (.i .i64)]
def containsInt_rp : SP := ⟨1, [(0, .v (.one (.b)))], []⟩
def containsInt_tree : ((List Int) × (Int × Unit)) → Tr (Bool × Unit) :=
  fun (a0, a1, _) =>
  .opt (β := ((Int × Unit) ⊕ Unit)) ((containsInt_loop66_2 ((0 : Int), (a0, (a1, ((↑(List.length a0) : Int), ())))))) (fun r0 =>
  .sum (β := (Int × Unit)) (γ := Unit) (r0) (fun r1 =>
   .ret (decide ((0 : Int) ≤ r1.1), ())) (fun r1 =>
   .ret (false, ())))
theorem containsInt_eq (x : ((List Int) × (Int × Unit))) : fnTr Try.prog cod [clStay, GS.pf delStay, FS.pf eqStay, FS.pf agTaken, FS.pf agCheck, FS.pf agPlace, FS.pf agLate, FS.pf agBehind, FS.pf agTake, FS.pf agTouch, FS.pf agLeave, FS.pf agExpire, FS.pf agNew] [(66, containsInt_L66_2)] 30 42 containsInt_ap containsInt_rp x = containsInt_tree x := by kernel_rfl
def containsInt_fn (x : ((List Int) × (Int × Unit))) : Option (Bool × Unit) := (containsInt_tree x).eval
def containsInt : FS Try.prog := ⟨42, containsInt_ap, containsInt_rp, containsInt_fn, fun x r h => fnTr_sound (cod := cod) (Γ := [clStay, GS.pf delStay, FS.pf eqStay, FS.pf agTaken, FS.pf agCheck, FS.pf agPlace, FS.pf agLate, FS.pf agBehind, FS.pf agTake, FS.pf agTouch, FS.pf agLeave, FS.pf agExpire, FS.pf agNew]) (Λs := [(66, containsInt_L66_2)]) (n := 30) ((congrArg Tr.eval (containsInt_eq x)).trans h)⟩
def eqInt_L19_4 : LS := ⟨4, [], ⟨26, [(13, .v (.one (.i .i64))), (1, .v (.one (.st 0 false))), (0, .v (.one (.st 0 false))), (12, .v (.one (.i .i64)))], []⟩, [⟨none, [], ⟨26, [(4, .v (.one (.b)))], []⟩⟩, ⟨some 0, [], ⟨26, [], []⟩⟩], []⟩
def eqInt_step19_4 : (Int × ((List Int) × ((List Int) × (Int × Unit)))) → Tr ((Int × ((List Int) × ((List Int) × (Int × Unit)))) ⊕ ((Bool × Unit) ⊕ Unit)) :=
  fun (a0, a1, a2, a3, _) =>
  .ite (decide (a0 < a3)) (
   .grd (decide ((0 : Int) ≤ a0)) (
   .opt (β := Int) (a2[Int.toNat a0]?) (fun r0 =>
   .grd (decide ((0 : Int) ≤ a0)) (
   .opt (β := Int) (a1[Int.toNat a0]?) (fun r1 =>
   .ite (!decide (r0 = r1)) (
    .ret (Sum.inr (Sum.inl (false, ())))) (
    .ret (Sum.inl (IntKind.wrap IntKind.i64 (a0 + (1 : Int)), (a1, (a2, (a3, ()))))))))))) (
   .ret (Sum.inr (Sum.inr ())))
def eqInt_loop19_4 (x : (Int × ((List Int) × ((List Int) × (Int × Unit))))) : Option ((Bool × Unit) ⊕ Unit) := loopO 190004 (fun x => (eqInt_step19_4 x).eval) 18446744073709551616 x
def eqInt_ap : List VP1 := [.one (.st 0 false), .one (.st 0 false)]
def eqInt_rp : SP := ⟨1, [(0, .v (.one (.b)))], []⟩
def eqInt_tree : ((List Int) × ((List Int) × Unit)) → Tr (Bool × Unit) :=
  fun (a0, a1, _) =>
  .ite (!decide ((↑(List.length a0) : Int) = (↑(List.length a1) : Int))) (
   .ret (false, ())) (
   .opt (β := ((Bool × Unit) ⊕ Unit)) ((eqInt_loop19_4 ((0 : Int), (a1, (a0, ((↑(List.length a0) : Int), ())))))) (fun r0 =>
   .sum (β := (Bool × Unit)) (γ := Unit) (r0) (fun r1 =>
    .ret (r1.1, ())) (fun r1 =>
    .ret (true, ()))))
theorem eqInt_eq (x : ((List Int) × ((List Int) × Unit))) : fnTr Try.prog cod [clStay, GS.pf delStay, FS.pf eqStay, FS.pf agTaken, FS.pf agCheck, FS.pf agPlace, FS.pf agLate, FS.pf agBehind, FS.pf agTake, FS.pf agTouch, FS.pf agLeave, FS.pf agExpire, FS.pf agNew, FS.pf containsInt] [(19, eqInt_L19_4)] 30 19 eqInt_ap eqInt_rp x = eqInt_tree x := by kernel_rfl
def eqInt_fn (x : ((List Int) × ((List Int) × Unit))) : Option (Bool × Unit) := (eqInt_tree x).eval
def eqInt : FS Try.prog := ⟨19, eqInt_ap, eqInt_rp, eqInt_fn, fun x r h => fnTr_sound (cod := cod) (Γ := [clStay, GS.pf delStay, FS.pf eqStay, FS.pf agTaken, FS.pf agCheck, FS.pf agPlace, FS.pf agLate, FS.pf agBehind, FS.pf agTake, FS.pf agTouch, FS.pf agLeave, FS.pf agExpire, FS.pf agNew, FS.pf containsInt]) (Λs := [(19, eqInt_L19_4)]) (n := 30) ((congrArg Tr.eval (eqInt_eq x)).trans h)⟩
def agesLives_ap : List VP1 := []
def agesLives_rp : SP := ⟨1, [(0, .v (.one (.b)))], []⟩
def agesLives_tree : Unit → Tr (Bool × Unit) :=
  fun (_) =>
  .opt (β := (Int × ((List TStay) × (Int × Unit)))) ((agNew_fn ((2 : Int), ()))) (fun r0 =>
  .opt (β := (Int × ((List TStay) × (Int × (Int × Unit))))) ((agTake_fn (r0.1, (r0.2.1, ((5 : Int), ()))))) (fun r1 =>
  .opt (β := (Int × ((List TStay) × (Int × (Int × Unit))))) ((agTake_fn (r1.1, (r1.2.1, ((6 : Int), ()))))) (fun r2 =>
  .opt (β := (Int × ((List TStay) × (Int × Unit)))) ((agTouch_fn (r2.1, (r2.2.1, (r1.2.2.1, ((7 : Int), ())))))) (fun r3 =>
  .opt (β := (Int × ((List TStay) × ((List Int) × (Int × Unit))))) ((agExpire_fn (r3.1, (r3.2.1, ((7 : Int), ()))))) (fun r4 =>
  .ite (decide (r0.2.2.1 = (0 : Int))) (
   .ite (decide (r1.2.2.2.1 = (0 : Int))) (
    .ite (decide (r2.2.2.2.1 = (0 : Int))) (
     .ite (decide (r3.2.2.1 = (0 : Int))) (
      .ite (decide (r4.2.2.2.1 = (0 : Int))) (
       .ite (decide (r1.2.2.1 = (0 : Int))) (
        .ite (decide (r2.2.2.1 = (1 : Int))) (
         .opt (β := (Bool × Unit)) ((eqInt_fn (r4.2.2.1, ([(1 : Int)], ())))) (fun r5 =>
         .ite (r5.1) (
          .ret (decide ((↑(List.length r4.2.1) : Int) = (1 : Int)), ())) (
          .ret (false, ())))) (
         .ret (false, ()))) (
        .ret (false, ()))) (
       .ret (false, ()))) (
      .ret (false, ()))) (
     .ret (false, ()))) (
    .ret (false, ()))) (
   .ret (false, ())))))))
theorem agesLives_eq (x : Unit) : fnTr Try.prog cod [clStay, GS.pf delStay, FS.pf eqStay, FS.pf agTaken, FS.pf agCheck, FS.pf agPlace, FS.pf agLate, FS.pf agBehind, FS.pf agTake, FS.pf agTouch, FS.pf agLeave, FS.pf agExpire, FS.pf agNew, FS.pf containsInt, FS.pf eqInt] [] 30 35 agesLives_ap agesLives_rp x = agesLives_tree x := by kernel_rfl
def agesLives_fn (x : Unit) : Option (Bool × Unit) := (agesLives_tree x).eval
def agesLives : FS Try.prog := ⟨35, agesLives_ap, agesLives_rp, agesLives_fn, fun x r h => fnTr_sound (cod := cod) (Γ := [clStay, GS.pf delStay, FS.pf eqStay, FS.pf agTaken, FS.pf agCheck, FS.pf agPlace, FS.pf agLate, FS.pf agBehind, FS.pf agTake, FS.pf agTouch, FS.pf agLeave, FS.pf agExpire, FS.pf agNew, FS.pf containsInt, FS.pf eqInt]) (Λs := []) (n := 30) ((congrArg Tr.eval (agesLives_eq x)).trans h)⟩
def agesRight_L43_9 : LS := ⟨9, [(4, 4), (1, 1)], ⟨49, [(31, .v (.one (.i .i64))), (4, .v (.one (.ptr 4 0))), (29, .v (.one (.st 8 false))), (1, .v (.one (.ptr 1 0))), (12, .v (.one (.st 8 false))), (13, .v (.one (.i .i64))), (14, .v (.one (.i .i64))), (30, .v (.one (.i .i64)))], [(4, .cells [.i .i64, .i .i64]), (1, .cells [.i .i64, .st 8 false])]⟩, [⟨none, [], ⟨49, [(2, .v (.one (.i .i64)))], []⟩⟩, ⟨some 2, [(1, 1)], ⟨49, [(1, .v (.one (.ptr 1 0))), (12, .v (.one (.st 8 false))), (13, .v (.one (.i .i64))), (14, .v (.one (.i .i64)))], [(1, .cells [.i .i64, .st 8 false])]⟩⟩], []⟩
def agesRight_step43_9 : (Int × ((List TStay) × ((List TStay) × (Int × (Int × (Int × (Int × (Int × (Int × ((List TStay) × Unit)))))))))) → Tr ((Int × ((List TStay) × ((List TStay) × (Int × (Int × (Int × (Int × (Int × (Int × ((List TStay) × Unit)))))))))) ⊕ ((Int × Unit) ⊕ ((List TStay) × (Int × (Int × (Int × ((List TStay) × Unit))))))) :=
  fun (a0, a1, a2, a3, a4, a5, a6, a7, a8, a9, _) =>
  .ite (decide (a0 < a5)) (
   .grd (decide ((0 : Int) ≤ a0)) (
   .opt (β := TStay) (a1[Int.toNat a0]?) (fun r0 =>
   .ite (decide (r0.room = a6)) (
    .ret (Sum.inr (Sum.inl ((4 : Int), ())))) (
    .ite (decide (a7 < r0.at')) (
     .ret (Sum.inr (Sum.inl ((4 : Int), ())))) (
     .ret (Sum.inl (IntKind.wrap IntKind.i64 (a0 + (1 : Int)), (a1, (a2, (a3, (a4, (a5, (a6, (a7, (a8, (a9, ())))))))))))))))) (
   .ret (Sum.inr (Sum.inr (a2, (a3, (a4, (a8, (a9, ()))))))))
def agesRight_loop43_9 (x : (Int × ((List TStay) × ((List TStay) × (Int × (Int × (Int × (Int × (Int × (Int × ((List TStay) × Unit))))))))))) : Option ((Int × Unit) ⊕ ((List TStay) × (Int × (Int × (Int × ((List TStay) × Unit)))))) := loopO 430009 (fun x => (agesRight_step43_9 x).eval) 18446744073709551616 x
def agesRight_L43_4 : LS := ⟨4, [(1, 1)], ⟨49, [(14, .v (.one (.i .i64))), (1, .v (.one (.ptr 1 0))), (12, .v (.one (.st 8 false))), (13, .v (.one (.i .i64)))], [(1, .cells [.i .i64, .st 8 false])]⟩, [⟨none, [], ⟨49, [(2, .v (.one (.i .i64)))], []⟩⟩, ⟨some 0, [], ⟨49, [], []⟩⟩], []⟩
def agesRight_step43_4 : (Int × ((List TStay) × (Int × (Int × ((List TStay) × Unit))))) → Tr ((Int × ((List TStay) × (Int × (Int × ((List TStay) × Unit))))) ⊕ ((Int × Unit) ⊕ Unit)) :=
  fun (a0, a1, a2, a3, a4, _) =>
  .ite (decide (a0 < a2)) (
   .grd (decide ((0 : Int) ≤ a0)) (
   .opt (β := TStay) (a1[Int.toNat a0]?) (fun r0 =>
   .ite (decide ((0 : Int) ≤ r0.room)) (
    .ite (!decide (r0.room ≤ IntKind.wrap IntKind.i64 (a3 - (1 : Int)))) (
     .ret (Sum.inr (Sum.inl ((4 : Int), ())))) (
     .grd (decide ((0 : Int) ≤ (0 : Int) ∧ (0 : Int) ≤ a0 ∧ a0 ≤ (↑(List.length a4) : Int))) (
     .opt (β := ((Int × Unit) ⊕ ((List TStay) × (Int × (Int × (Int × ((List TStay) × Unit))))))) ((agesRight_loop43_9 ((0 : Int), (List.drop (0 : Nat) (List.take (Int.toNat a0) a4), (a1, (a2, (a0, ((↑(List.length (List.drop (0 : Nat) (List.take (Int.toNat a0) a4))) : Int), (r0.room, (r0.at', (a3, (a4, ())))))))))))) (fun r1 =>
     .sum (β := (Int × Unit)) (γ := ((List TStay) × (Int × (Int × (Int × ((List TStay) × Unit)))))) (r1) (fun r2 =>
      .ret (Sum.inr (Sum.inl (r2.1, ())))) (fun r2 =>
      .ret (Sum.inl (IntKind.wrap IntKind.i64 (r2.2.2.1 + (1 : Int)), (r2.1, (r2.2.1, (r2.2.2.2.1, (r2.2.2.2.2.1, ()))))))))))) (
    .ite (true) (
     .ret (Sum.inr (Sum.inl ((4 : Int), ())))) (
     .grd (decide ((0 : Int) ≤ (0 : Int) ∧ (0 : Int) ≤ a0 ∧ a0 ≤ (↑(List.length a4) : Int))) (
     .opt (β := ((Int × Unit) ⊕ ((List TStay) × (Int × (Int × (Int × ((List TStay) × Unit))))))) ((agesRight_loop43_9 ((0 : Int), (List.drop (0 : Nat) (List.take (Int.toNat a0) a4), (a1, (a2, (a0, ((↑(List.length (List.drop (0 : Nat) (List.take (Int.toNat a0) a4))) : Int), (r0.room, (r0.at', (a3, (a4, ())))))))))))) (fun r1 =>
     .sum (β := (Int × Unit)) (γ := ((List TStay) × (Int × (Int × (Int × ((List TStay) × Unit)))))) (r1) (fun r2 =>
      .ret (Sum.inr (Sum.inl (r2.1, ())))) (fun r2 =>
      .ret (Sum.inl (IntKind.wrap IntKind.i64 (r2.2.2.1 + (1 : Int)), (r2.1, (r2.2.1, (r2.2.2.2.1, (r2.2.2.2.2.1, ())))))))))))))) (
   .ret (Sum.inr (Sum.inr ())))
def agesRight_loop43_4 (x : (Int × ((List TStay) × (Int × (Int × ((List TStay) × Unit)))))) : Option ((Int × Unit) ⊕ Unit) := loopO 430004 (fun x => (agesRight_step43_4 x).eval) 18446744073709551616 x
def agesRight_ap : List VP1 := [.agg [.i .i64, .st 8 false]]
def agesRight_rp : SP := ⟨1, [(0, .v (.one (.i .i64)))], []⟩
def agesRight_tree : (Int × ((List TStay) × Unit)) → Tr (Int × Unit) :=
  fun (a0, a1, _) =>
  .ite (decide ((1 : Int) ≤ a0)) (
   .ite (!decide (a0 ≤ (64 : Int))) (
    .ret ((1 : Int), ())) (
    .opt (β := ((Int × Unit) ⊕ Unit)) ((agesRight_loop43_4 ((0 : Int), (a1, ((↑(List.length a1) : Int), (a0, (a1, ()))))))) (fun r0 =>
    .sum (β := (Int × Unit)) (γ := Unit) (r0) (fun r1 =>
     .ret (r1.1, ())) (fun r1 =>
     .ret ((0 : Int), ()))))) (
   .ite (true) (
    .ret ((1 : Int), ())) (
    .opt (β := ((Int × Unit) ⊕ Unit)) ((agesRight_loop43_4 ((0 : Int), (a1, ((↑(List.length a1) : Int), (a0, (a1, ()))))))) (fun r0 =>
    .sum (β := (Int × Unit)) (γ := Unit) (r0) (fun r1 =>
     .ret (r1.1, ())) (fun r1 =>
     .ret ((0 : Int), ())))))
theorem agesRight_eq (x : (Int × ((List TStay) × Unit))) : fnTr Try.prog cod [clStay, GS.pf delStay, FS.pf eqStay, FS.pf agTaken, FS.pf agCheck, FS.pf agPlace, FS.pf agLate, FS.pf agBehind, FS.pf agTake, FS.pf agTouch, FS.pf agLeave, FS.pf agExpire, FS.pf agNew, FS.pf containsInt, FS.pf eqInt, FS.pf agesLives] [(43, agesRight_L43_9), (43, agesRight_L43_4)] 30 43 agesRight_ap agesRight_rp x = agesRight_tree x := by kernel_rfl
def agesRight_fn (x : (Int × ((List TStay) × Unit))) : Option (Int × Unit) := (agesRight_tree x).eval
def agesRight : FS Try.prog := ⟨43, agesRight_ap, agesRight_rp, agesRight_fn, fun x r h => fnTr_sound (cod := cod) (Γ := [clStay, GS.pf delStay, FS.pf eqStay, FS.pf agTaken, FS.pf agCheck, FS.pf agPlace, FS.pf agLate, FS.pf agBehind, FS.pf agTake, FS.pf agTouch, FS.pf agLeave, FS.pf agExpire, FS.pf agNew, FS.pf containsInt, FS.pf eqInt, FS.pf agesLives]) (Λs := [(43, agesRight_L43_9), (43, agesRight_L43_4)]) (n := 30) ((congrArg Tr.eval (agesRight_eq x)).trans h)⟩
def agesRoom_ap : List VP1 := [.agg [.i .i64, .st 8 false], .one (.i .i64), .one (.i .i64)]
def agesRoom_rp : SP := ⟨1, [(0, .v (.one (.b)))], []⟩
def agesRoom_tree : (Int × ((List TStay) × (Int × (Int × Unit)))) → Tr (Bool × Unit) :=
  fun (a0, a1, a2, a3, _) =>
  .opt (β := (Int × ((List TStay) × (Int × Unit)))) ((agLeave_fn (a0, (a1, (a2, ()))))) (fun r0 =>
  .opt (β := (Bool × Unit)) ((agesLives_fn ())) (fun r1 =>
  .ite (!r1.1) (
   .opt (β := (Bool × Unit)) ((agesLives_fn ())) (fun r2 =>
   .ret (r2.1, ()))) (
   .ite (!decide (r0.2.2.1 = (0 : Int))) (
    .opt (β := (Bool × Unit)) ((agesLives_fn ())) (fun r2 =>
    .ret (r2.1, ()))) (
    .opt (β := (Int × ((List TStay) × (Int × (Int × Unit))))) ((agTake_fn (r0.1, (r0.2.1, (a3, ()))))) (fun r2 =>
    .ite (decide (r2.2.2.2.1 = (1 : Int))) (
     .ret (true, ())) (
     .ite (decide (r2.2.2.2.1 = (0 : Int))) (
      .ite (decide (r2.2.2.1 ≤ a2)) (
       .ret (decide ((↑(List.length r2.2.1) : Int) = (↑(List.length a1) : Int)), ())) (
       .ret (false, ()))) (
      .ret (false, ()))))))))
theorem agesRoom_eq (x : (Int × ((List TStay) × (Int × (Int × Unit))))) : fnTr Try.prog cod [clStay, GS.pf delStay, FS.pf eqStay, FS.pf agTaken, FS.pf agCheck, FS.pf agPlace, FS.pf agLate, FS.pf agBehind, FS.pf agTake, FS.pf agTouch, FS.pf agLeave, FS.pf agExpire, FS.pf agNew, FS.pf containsInt, FS.pf eqInt, FS.pf agesLives, FS.pf agesRight] [] 30 11 agesRoom_ap agesRoom_rp x = agesRoom_tree x := by kernel_rfl
def agesRoom_fn (x : (Int × ((List TStay) × (Int × (Int × Unit))))) : Option (Bool × Unit) := (agesRoom_tree x).eval
def agesRoom : FS Try.prog := ⟨11, agesRoom_ap, agesRoom_rp, agesRoom_fn, fun x r h => fnTr_sound (cod := cod) (Γ := [clStay, GS.pf delStay, FS.pf eqStay, FS.pf agTaken, FS.pf agCheck, FS.pf agPlace, FS.pf agLate, FS.pf agBehind, FS.pf agTake, FS.pf agTouch, FS.pf agLeave, FS.pf agExpire, FS.pf agNew, FS.pf containsInt, FS.pf eqInt, FS.pf agesLives, FS.pf agesRight]) (Λs := []) (n := 30) ((congrArg Tr.eval (agesRoom_eq x)).trans h)⟩
end Go.Proofs.Ytgdlhdkofcicjaa.X
