/- Functions of the program, as trees (printed by a program of mine: tool/XTool, xg.py), each with the proof that the machine comes to what its tree says. Conditions: none. -/
import Derived.Test.YtcdcdmfecglemaaDoorCod
import Derived.KernelRfl
import Derived.Test.YtcdcdmfecglemaaDoorHNat
namespace Go.Proofs.YtcdcdmfecglemaaDoor.X
open Go Go.RowKit Go.Proofs.YtcdcdmfecglemaaDoor.Abs
set_option maxRecDepth 100000
set_option linter.unusedVariables false
def natLives_ap : List VP1 := []
def natLives_rp : SP := ⟨1, [(0, .v (.one (.b)))], []⟩
def natLives_tree : Unit → Tr (Bool × Unit) :=
  fun (_) =>
  .opt (β := (Int × (Int × (Int × (Int × (Int × ((List TMap) × (Int × (Int × Unit))))))))) ((natOut_fn ((9 : Int), ((1024 : Int), ((0 : Int), ((2048 : Int), ((0 : Int), ([], ((17 : Int), ((5 : Int), ((1030 : Int), ((0 : Int), ())))))))))))) (fun r0 =>
  .opt (β := (Int × (Int × (Int × Unit)))) ((natIn_fn (r0.1, (r0.2.1, (r0.2.2.1, (r0.2.2.2.1, (r0.2.2.2.2.1, (r0.2.2.2.2.2.1, ((17 : Int), (r0.2.2.2.2.2.2.1, ((9 : Int), ()))))))))))) (fun r1 =>
  .ite (decide (r0.2.2.2.2.2.2.2.1 = (0 : Int))) (
   .ite (decide (r1.2.2.1 = (0 : Int))) (
    .ite (decide (r0.2.2.2.2.2.2.1 = (1030 : Int))) (
     .ite (decide (r1.1 = (5 : Int))) (
      .ret (decide (r1.2.1 = (1030 : Int)), ())) (
      .ret (false, ()))) (
     .ret (false, ()))) (
    .ret (false, ()))) (
   .ret (false, ()))))
theorem natLives_eq (x : Unit) : fnTr Tryd.prog cod [tz64, FS.pf portsCheck, FS.pf portsLet, FS.pf portsEnd, clMap, GS.pf delMap, FS.pf eqMap, FS.pf natWithin, FS.pf natCheck, natPlace, GS.pf natExpire, FS.pf natOut, FS.pf natIn] [] 30 7 natLives_ap natLives_rp x = natLives_tree x := by kernel_rfl
def natLives_fn (x : Unit) : Option (Bool × Unit) := (natLives_tree x).eval
def natLives : FS Tryd.prog := ⟨7, natLives_ap, natLives_rp, natLives_fn, fun x r h => fnTr_sound (cod := cod) (Γ := [tz64, FS.pf portsCheck, FS.pf portsLet, FS.pf portsEnd, clMap, GS.pf delMap, FS.pf eqMap, FS.pf natWithin, FS.pf natCheck, natPlace, GS.pf natExpire, FS.pf natOut, FS.pf natIn]) (Λs := []) (n := 30) ((congrArg Tr.eval (natLives_eq x)).trans h)⟩
def eqMap2_ap : List VP1 := [.agg [.i .i64, .i .i64, .i .u64, .i .i64, .i .u64, .st 17 false], .agg [.i .i64, .i .i64, .i .u64, .i .i64, .i .u64, .st 17 false]]
def eqMap2_rp : SP := ⟨1, [(0, .v (.one (.b)))], []⟩
def eqMap2_tree : (Int × (Int × (Int × (Int × (Int × ((List TMap) × (Int × (Int × (Int × (Int × (Int × ((List TMap) × Unit)))))))))))) → Tr (Bool × Unit) :=
  fun (a0, a1, a2, a3, a4, a5, a6, a7, a8, a9, a10, a11, _) =>
  .ite (decide (a0 = a6)) (
   .ite (decide (a1 = a7) && (decide (a2 = a8) && true)) (
    .ite (decide (a3 = a9) && (decide (a4 = a10) && true)) (
     .opt (β := (Bool × Unit)) ((eqMap_fn (a5, (a11, ())))) (fun r0 =>
     .ret (r0.1, ()))) (
     .ret (false, ()))) (
    .ret (false, ()))) (
   .ret (false, ()))
theorem eqMap2_eq (x : (Int × (Int × (Int × (Int × (Int × ((List TMap) × (Int × (Int × (Int × (Int × (Int × ((List TMap) × Unit))))))))))))) : fnTr Tryd.prog cod [tz64, FS.pf portsCheck, FS.pf portsLet, FS.pf portsEnd, clMap, GS.pf delMap, FS.pf eqMap, FS.pf natWithin, FS.pf natCheck, natPlace, GS.pf natExpire, FS.pf natOut, FS.pf natIn, FS.pf natLives] [] 30 11 eqMap2_ap eqMap2_rp x = eqMap2_tree x := by kernel_rfl
def eqMap2_fn (x : (Int × (Int × (Int × (Int × (Int × ((List TMap) × (Int × (Int × (Int × (Int × (Int × ((List TMap) × Unit))))))))))))) : Option (Bool × Unit) := (eqMap2_tree x).eval
def eqMap2 : FS Tryd.prog := ⟨11, eqMap2_ap, eqMap2_rp, eqMap2_fn, fun x r h => fnTr_sound (cod := cod) (Γ := [tz64, FS.pf portsCheck, FS.pf portsLet, FS.pf portsEnd, clMap, GS.pf delMap, FS.pf eqMap, FS.pf natWithin, FS.pf natCheck, natPlace, GS.pf natExpire, FS.pf natOut, FS.pf natIn, FS.pf natLives]) (Λs := []) (n := 30) ((congrArg Tr.eval (eqMap2_eq x)).trans h)⟩
def rBetween_ap : List VP1 := [.one (.i .i64), .one (.i .i64), .one (.i .i64)]
def rBetween_rp : SP := ⟨1, [(0, .v (.one (.b)))], []⟩
def rBetween_tree : (Int × (Int × (Int × Unit))) → Tr (Bool × Unit) :=
  fun (a0, a1, a2, _) =>
  .ite (decide (a1 ≤ a0)) (
   .ret (decide (a0 ≤ a2), ())) (
   .ret (false, ()))
theorem rBetween_eq (x : (Int × (Int × (Int × Unit)))) : fnTr Tryd.prog cod [tz64, FS.pf portsCheck, FS.pf portsLet, FS.pf portsEnd, clMap, GS.pf delMap, FS.pf eqMap, FS.pf natWithin, FS.pf natCheck, natPlace, GS.pf natExpire, FS.pf natOut, FS.pf natIn, FS.pf natLives, FS.pf eqMap2] [] 30 21 rBetween_ap rBetween_rp x = rBetween_tree x := by kernel_rfl
def rBetween_fn (x : (Int × (Int × (Int × Unit)))) : Option (Bool × Unit) := (rBetween_tree x).eval
def rBetween : FS Tryd.prog := ⟨21, rBetween_ap, rBetween_rp, rBetween_fn, fun x r h => fnTr_sound (cod := cod) (Γ := [tz64, FS.pf portsCheck, FS.pf portsLet, FS.pf portsEnd, clMap, GS.pf delMap, FS.pf eqMap, FS.pf natWithin, FS.pf natCheck, natPlace, GS.pf natExpire, FS.pf natOut, FS.pf natIn, FS.pf natLives, FS.pf eqMap2]) (Λs := []) (n := 30) ((congrArg Tr.eval (rBetween_eq x)).trans h)⟩
def portsRight_ap : List VP1 := [.agg [.i .i64, .i .u64]]
def portsRight_rp : SP := ⟨1, [(0, .v (.one (.i .i64)))], []⟩
def portsRight_tree : (Int × (Int × Unit)) → Tr (Int × Unit) :=
  fun (a0, a1, _) =>
  .opt (β := (Bool × Unit)) ((rBetween_fn (a0, ((64 : Int), ((65472 : Int), ()))))) (fun r0 =>
  .ite (!r0.1) (
   .ret ((1 : Int), ())) (
   .grd (true) (
   .ite (!decide (Int.tmod a0 (64 : Int) = (0 : Int))) (
    .ret ((1 : Int), ())) (
    .ret ((0 : Int), ())))))
theorem portsRight_eq (x : (Int × (Int × Unit))) : fnTr Tryd.prog cod [tz64, FS.pf portsCheck, FS.pf portsLet, FS.pf portsEnd, clMap, GS.pf delMap, FS.pf eqMap, FS.pf natWithin, FS.pf natCheck, natPlace, GS.pf natExpire, FS.pf natOut, FS.pf natIn, FS.pf natLives, FS.pf eqMap2, FS.pf rBetween] [] 30 22 portsRight_ap portsRight_rp x = portsRight_tree x := by kernel_rfl
def portsRight_fn (x : (Int × (Int × Unit))) : Option (Int × Unit) := (portsRight_tree x).eval
def portsRight : FS Tryd.prog := ⟨22, portsRight_ap, portsRight_rp, portsRight_fn, fun x r h => fnTr_sound (cod := cod) (Γ := [tz64, FS.pf portsCheck, FS.pf portsLet, FS.pf portsEnd, clMap, GS.pf delMap, FS.pf eqMap, FS.pf natWithin, FS.pf natCheck, natPlace, GS.pf natExpire, FS.pf natOut, FS.pf natIn, FS.pf natLives, FS.pf eqMap2, FS.pf rBetween]) (Λs := []) (n := 30) ((congrArg Tr.eval (portsRight_eq x)).trans h)⟩
def freePorts_L30_4 : LS := ⟨4, [(1, 1), (3, 3)], ⟨25, [(8, .v (.one (.i .i64))), (4, .v (.one (.i .u64))), (1, .v (.one (.ptr 1 0))), (3, .v (.one (.own 3)))], [(1, .cells [.i .i64, .i .u64]), (3, .row 3 0 true true)]⟩, [⟨some 0, [(3, 3)], ⟨25, [(3, .v (.one (.own 3)))], [(3, .row 3 0 true true)]⟩⟩], [(3, 3, 0)]⟩
def freePorts_step30_4 : (Int × (Int × (Int × (Int × ((List Int) × Unit))))) → Tr ((Int × (Int × (Int × (Int × ((List Int) × Unit))))) ⊕ ((List Int) × Unit)) :=
  fun (a0, a1, a2, a3, a4, _) =>
  .ite (decide (a0 < (64 : Int))) (
   .grd (true) (
   .ite (decide (Int.tmod a1 (2 : Int) = (0 : Int))) (
    .grd (decide ((List.length a4 + List.length [IntKind.wrap IntKind.i64 (a2 + a0)]) * (8 : Nat) ≤ (140737488355328 : Nat) ∧ List.length a4 + List.length [IntKind.wrap IntKind.i64 (a2 + a0)] ≤ (9223372036854775807 : Nat))) (
    .grd (true) (
    .grd (decide (List.length (a4 ++ [IntKind.wrap IntKind.i64 (a2 + a0)]) = List.length (a4 ++ [IntKind.wrap IntKind.i64 (a2 + a0)]))) (
    .ret (Sum.inl (IntKind.wrap IntKind.i64 (a0 + (1 : Int)), (IntKind.wrap IntKind.u64 (Int.tdiv a1 (2 : Int)), (a2, (a3, (a4 ++ [IntKind.wrap IntKind.i64 (a2 + a0)], ())))))))))) (
    .grd (true) (
    .grd (decide (List.length a4 = List.length a4)) (
    .ret (Sum.inl (IntKind.wrap IntKind.i64 (a0 + (1 : Int)), (IntKind.wrap IntKind.u64 (Int.tdiv a1 (2 : Int)), (a2, (a3, (a4, ()))))))))))) (
   .grd (decide (List.length a4 = List.length a4)) (
   .ret (Sum.inr (a4, ()))))
def freePorts_loop30_4 (x : (Int × (Int × (Int × (Int × ((List Int) × Unit)))))) : Option ((List Int) × Unit) := loopO 300004 (fun x => (freePorts_step30_4 x).eval) 18446744073709551616 x
def freePorts_ap : List VP1 := [.agg [.i .i64, .i .u64]]
def freePorts_rp : SP := ⟨1, [(0, .v (.one (.st 0 true)))], []⟩
def freePorts_tree : (Int × (Int × Unit)) → Tr ((List Int) × Unit) :=
  fun (a0, a1, _) =>
  .grd (true) (
  .opt (β := ((List Int) × Unit)) ((freePorts_loop30_4 ((0 : Int), (a1, (a0, (a1, ([], ()))))))) (fun r0 =>
  .ret (r0.1, ())))
theorem freePorts_eq (x : (Int × (Int × Unit))) : fnTr Tryd.prog cod [tz64, FS.pf portsCheck, FS.pf portsLet, FS.pf portsEnd, clMap, GS.pf delMap, FS.pf eqMap, FS.pf natWithin, FS.pf natCheck, natPlace, GS.pf natExpire, FS.pf natOut, FS.pf natIn, FS.pf natLives, FS.pf eqMap2, FS.pf rBetween, FS.pf portsRight] [(30, freePorts_L30_4)] 30 30 freePorts_ap freePorts_rp x = freePorts_tree x := by kernel_rfl
def freePorts_fn (x : (Int × (Int × Unit))) : Option ((List Int) × Unit) := (freePorts_tree x).eval
def freePorts : FS Tryd.prog := ⟨30, freePorts_ap, freePorts_rp, freePorts_fn, fun x r h => fnTr_sound (cod := cod) (Γ := [tz64, FS.pf portsCheck, FS.pf portsLet, FS.pf portsEnd, clMap, GS.pf delMap, FS.pf eqMap, FS.pf natWithin, FS.pf natCheck, natPlace, GS.pf natExpire, FS.pf natOut, FS.pf natIn, FS.pf natLives, FS.pf eqMap2, FS.pf rBetween, FS.pf portsRight]) (Λs := [(30, freePorts_L30_4)]) (n := 30) ((congrArg Tr.eval (freePorts_eq x)).trans h)⟩
def indexInt_L31_2 : LS := ⟨2, [], ⟨19, [(8, .v (.one (.i .i64))), (0, .v (.one (.st 0 false))), (1, .v (.one (.i .i64))), (7, .v (.one (.i .i64)))], []⟩, [⟨none, [], ⟨19, [(4, .v (.one (.i .i64)))], []⟩⟩, ⟨some 0, [], ⟨19, [], []⟩⟩], []⟩
def indexInt_step31_2 : (Int × ((List Int) × (Int × (Int × Unit)))) → Tr ((Int × ((List Int) × (Int × (Int × Unit)))) ⊕ ((Int × Unit) ⊕ Unit)) :=
  fun (a0, a1, a2, a3, _) =>
  .ite (decide (a0 < a3)) (
   .grd (decide ((0 : Int) ≤ a0)) (
   .opt (β := Int) (a1[Int.toNat a0]?) (fun r0 =>
   .ite (decide (a2 = r0)) (
    .ret (Sum.inr (Sum.inl (a0, ())))) (
    .ret (Sum.inl (IntKind.wrap IntKind.i64 (a0 + (1 : Int)), (a1, (a2, (a3, ()))))))))) (
   .ret (Sum.inr (Sum.inr ())))
def indexInt_loop31_2 (x : (Int × ((List Int) × (Int × (Int × Unit))))) : Option ((Int × Unit) ⊕ Unit) := loopO 310002 (fun x => (indexInt_step31_2 x).eval) 18446744073709551616 x
def indexInt_ap : List VP1 := [.one (.st 0 false), .one (.i .i64)]
def indexInt_rp : SP := ⟨1, [(0, .v (.one (.i .i64)))], []⟩
def indexInt_tree : ((List Int) × (Int × Unit)) → Tr (Int × Unit) :=
  fun (a0, a1, _) =>
  .opt (β := ((Int × Unit) ⊕ Unit)) ((indexInt_loop31_2 ((0 : Int), (a0, (a1, ((↑(List.length a0) : Int), ())))))) (fun r0 =>
  .sum (β := (Int × Unit)) (γ := Unit) (r0) (fun r1 =>
   .ret (r1.1, ())) (fun r1 =>
   .ret ((-1 : Int), ())))
theorem indexInt_eq (x : ((List Int) × (Int × Unit))) : fnTr Tryd.prog cod [tz64, FS.pf portsCheck, FS.pf portsLet, FS.pf portsEnd, clMap, GS.pf delMap, FS.pf eqMap, FS.pf natWithin, FS.pf natCheck, natPlace, GS.pf natExpire, FS.pf natOut, FS.pf natIn, FS.pf natLives, FS.pf eqMap2, FS.pf rBetween, FS.pf portsRight, FS.pf freePorts] [(31, indexInt_L31_2)] 30 31 indexInt_ap indexInt_rp x = indexInt_tree x := by kernel_rfl
def indexInt_fn (x : ((List Int) × (Int × Unit))) : Option (Int × Unit) := (indexInt_tree x).eval
def indexInt : FS Tryd.prog := ⟨31, indexInt_ap, indexInt_rp, indexInt_fn, fun x r h => fnTr_sound (cod := cod) (Γ := [tz64, FS.pf portsCheck, FS.pf portsLet, FS.pf portsEnd, clMap, GS.pf delMap, FS.pf eqMap, FS.pf natWithin, FS.pf natCheck, natPlace, GS.pf natExpire, FS.pf natOut, FS.pf natIn, FS.pf natLives, FS.pf eqMap2, FS.pf rBetween, FS.pf portsRight, FS.pf freePorts]) (Λs := [(31, indexInt_L31_2)]) (n := 30) ((congrArg Tr.eval (indexInt_eq x)).trans h)⟩
def containsInt_ap : List VP1 := [.one (.st 0 false), .one (.i .i64)]
def containsInt_rp : SP := ⟨1, [(0, .v (.one (.b)))], []⟩
def containsInt_tree : ((List Int) × (Int × Unit)) → Tr (Bool × Unit) :=
  fun (a0, a1, _) =>
  .opt (β := (Int × Unit)) ((indexInt_fn (a0, (a1, ())))) (fun r0 =>
  .ret (decide ((0 : Int) ≤ r0.1), ()))
theorem containsInt_eq (x : ((List Int) × (Int × Unit))) : fnTr Tryd.prog cod [tz64, FS.pf portsCheck, FS.pf portsLet, FS.pf portsEnd, clMap, GS.pf delMap, FS.pf eqMap, FS.pf natWithin, FS.pf natCheck, natPlace, GS.pf natExpire, FS.pf natOut, FS.pf natIn, FS.pf natLives, FS.pf eqMap2, FS.pf rBetween, FS.pf portsRight, FS.pf freePorts, FS.pf indexInt] [] 30 29 containsInt_ap containsInt_rp x = containsInt_tree x := by kernel_rfl
def containsInt_fn (x : ((List Int) × (Int × Unit))) : Option (Bool × Unit) := (containsInt_tree x).eval
def containsInt : FS Tryd.prog := ⟨29, containsInt_ap, containsInt_rp, containsInt_fn, fun x r h => fnTr_sound (cod := cod) (Γ := [tz64, FS.pf portsCheck, FS.pf portsLet, FS.pf portsEnd, clMap, GS.pf delMap, FS.pf eqMap, FS.pf natWithin, FS.pf natCheck, natPlace, GS.pf natExpire, FS.pf natOut, FS.pf natIn, FS.pf natLives, FS.pf eqMap2, FS.pf rBetween, FS.pf portsRight, FS.pf freePorts, FS.pf indexInt]) (Λs := []) (n := 30) ((congrArg Tr.eval (containsInt_eq x)).trans h)⟩
def natTaken_L23_3 : LS := ⟨3, [(1, 1), (3, 3)], ⟨25, [(5, .v (.one (.i .i64))), (1, .v (.one (.ptr 1 0))), (3, .v (.one (.own 3)))], [(1, .cells [.i .i64, .i .u64]), (3, .row 3 0 true true)]⟩, [⟨some 0, [(3, 3)], ⟨25, [(3, .v (.one (.own 3)))], [(3, .row 3 0 true true)]⟩⟩], [(3, 3, 0)]⟩
def natTaken_step23_3 : (Int × (Int × (Int × ((List Int) × Unit)))) → Tr ((Int × (Int × (Int × ((List Int) × Unit)))) ⊕ ((List Int) × Unit)) :=
  fun (a0, a1, a2, a3, _) =>
  .ite (decide (a0 < (64 : Int))) (
   .opt (β := ((List Int) × Unit)) ((freePorts_fn (a1, (a2, ())))) (fun r0 =>
   .opt (β := (Bool × Unit)) ((containsInt_fn (r0.1, (IntKind.wrap IntKind.i64 (a1 + a0), ())))) (fun r1 =>
   .ite (!r1.1) (
    .grd (decide ((List.length a3 + List.length [IntKind.wrap IntKind.i64 (a1 + a0)]) * (8 : Nat) ≤ (140737488355328 : Nat) ∧ List.length a3 + List.length [IntKind.wrap IntKind.i64 (a1 + a0)] ≤ (9223372036854775807 : Nat))) (
    .grd (decide (List.length (a3 ++ [IntKind.wrap IntKind.i64 (a1 + a0)]) = List.length (a3 ++ [IntKind.wrap IntKind.i64 (a1 + a0)]))) (
    .ret (Sum.inl (IntKind.wrap IntKind.i64 (a0 + (1 : Int)), (a1, (a2, (a3 ++ [IntKind.wrap IntKind.i64 (a1 + a0)], ())))))))) (
    .grd (decide (List.length a3 = List.length a3)) (
    .ret (Sum.inl (IntKind.wrap IntKind.i64 (a0 + (1 : Int)), (a1, (a2, (a3, ())))))))))) (
   .grd (decide (List.length a3 = List.length a3)) (
   .ret (Sum.inr (a3, ()))))
def natTaken_loop23_3 (x : (Int × (Int × (Int × ((List Int) × Unit))))) : Option ((List Int) × Unit) := loopO 230003 (fun x => (natTaken_step23_3 x).eval) 18446744073709551616 x
def natTaken_ap : List VP1 := [.agg [.i .i64, .i .u64]]
def natTaken_rp : SP := ⟨1, [(0, .v (.one (.st 0 true)))], []⟩
def natTaken_tree : (Int × (Int × Unit)) → Tr ((List Int) × Unit) :=
  fun (a0, a1, _) =>
  .grd (true) (
  .opt (β := ((List Int) × Unit)) ((natTaken_loop23_3 ((0 : Int), (a0, (a1, ([], ())))))) (fun r0 =>
  .ret (r0.1, ())))
theorem natTaken_eq (x : (Int × (Int × Unit))) : fnTr Tryd.prog cod [tz64, FS.pf portsCheck, FS.pf portsLet, FS.pf portsEnd, clMap, GS.pf delMap, FS.pf eqMap, FS.pf natWithin, FS.pf natCheck, natPlace, GS.pf natExpire, FS.pf natOut, FS.pf natIn, FS.pf natLives, FS.pf eqMap2, FS.pf rBetween, FS.pf portsRight, FS.pf freePorts, FS.pf indexInt, FS.pf containsInt] [(23, natTaken_L23_3)] 30 23 natTaken_ap natTaken_rp x = natTaken_tree x := by kernel_rfl
def natTaken_fn (x : (Int × (Int × Unit))) : Option ((List Int) × Unit) := (natTaken_tree x).eval
def natTaken : FS Tryd.prog := ⟨23, natTaken_ap, natTaken_rp, natTaken_fn, fun x r h => fnTr_sound (cod := cod) (Γ := [tz64, FS.pf portsCheck, FS.pf portsLet, FS.pf portsEnd, clMap, GS.pf delMap, FS.pf eqMap, FS.pf natWithin, FS.pf natCheck, natPlace, GS.pf natExpire, FS.pf natOut, FS.pf natIn, FS.pf natLives, FS.pf eqMap2, FS.pf rBetween, FS.pf portsRight, FS.pf freePorts, FS.pf indexInt, FS.pf containsInt]) (Λs := [(23, natTaken_L23_3)]) (n := 30) ((congrArg Tr.eval (natTaken_eq x)).trans h)⟩
def natRight_L10_27 : LS := ⟨27, [(30, 30)], ⟨155, [(145, .v (.one (.i .i64))), (3, .v (.one (.mp 30))), (143, .v (.one (.st 0 true))), (144, .v (.one (.i .i64)))], [(30, .map 17)]⟩, [⟨none, [], ⟨155, [(2, .v (.one (.i .i64)))], []⟩⟩, ⟨some 6, [], ⟨155, [], []⟩⟩], []⟩
def natRight_step10_27 : (Int × ((List Int) × (Int × ((List (TMap × Int)) × Unit)))) → Tr ((Int × ((List Int) × (Int × ((List (TMap × Int)) × Unit)))) ⊕ ((Int × Unit) ⊕ Unit)) :=
  fun (a0, a1, a2, a3, _) =>
  .ite (decide (a0 < a2)) (
   .grd (decide ((0 : Int) ≤ a0)) (
   .opt (β := Int) (a1[Int.toNat a0]?) (fun r0 =>
   .ite (!decide (Option.getD (mGet (17 : Nat) (TMap.mk (6 : Int) (0 : Int) (0 : Int) r0 (0 : Int)) a3) (0 : Int) = (1 : Int))) (
    .ret (Sum.inr (Sum.inl ((4 : Int), ())))) (
    .ret (Sum.inl (IntKind.wrap IntKind.i64 (a0 + (1 : Int)), (a1, (a2, (a3, ()))))))))) (
   .ret (Sum.inr (Sum.inr ())))
def natRight_loop10_27 (x : (Int × ((List Int) × (Int × ((List (TMap × Int)) × Unit))))) : Option ((Int × Unit) ⊕ Unit) := loopO 100027 (fun x => (natRight_step10_27 x).eval) 18446744073709551616 x
def natRight_L10_21 : LS := ⟨21, [(30, 30)], ⟨155, [(133, .v (.one (.i .i64))), (3, .v (.one (.mp 30))), (131, .v (.one (.st 0 true))), (9, .v (.one (.st 0 true))), (132, .v (.one (.i .i64)))], [(30, .map 17)]⟩, [⟨none, [], ⟨155, [(2, .v (.one (.i .i64)))], []⟩⟩, ⟨some 4, [(30, 30)], ⟨155, [(3, .v (.one (.mp 30))), (9, .v (.one (.st 0 true)))], [(30, .map 17)]⟩⟩], []⟩
def natRight_step10_21 : (Int × ((List Int) × ((List Int) × (Int × ((List (TMap × Int)) × Unit))))) → Tr ((Int × ((List Int) × ((List Int) × (Int × ((List (TMap × Int)) × Unit))))) ⊕ ((Int × Unit) ⊕ ((List Int) × ((List (TMap × Int)) × Unit)))) :=
  fun (a0, a1, a2, a3, a4, _) =>
  .ite (decide (a0 < a3)) (
   .grd (decide ((0 : Int) ≤ a0)) (
   .opt (β := Int) (a1[Int.toNat a0]?) (fun r0 =>
   .ite (!decide (Option.getD (mGet (17 : Nat) (TMap.mk (17 : Int) (0 : Int) (0 : Int) r0 (0 : Int)) a4) (0 : Int) = (1 : Int))) (
    .ret (Sum.inr (Sum.inl ((4 : Int), ())))) (
    .ret (Sum.inl (IntKind.wrap IntKind.i64 (a0 + (1 : Int)), (a1, (a2, (a3, (a4, ())))))))))) (
   .ret (Sum.inr (Sum.inr (a2, (a4, ())))))
def natRight_loop10_21 (x : (Int × ((List Int) × ((List Int) × (Int × ((List (TMap × Int)) × Unit)))))) : Option ((Int × Unit) ⊕ ((List Int) × ((List (TMap × Int)) × Unit))) := loopO 100021 (fun x => (natRight_step10_21 x).eval) 18446744073709551616 x
def natRight_L10_10 : LS := ⟨10, [(5, 5), (30, 30), (1, 1)], ⟨155, [(64, .v (.one (.i .i64))), (5, .v (.one (.ptr 5 0))), (62, .v (.one (.st 17 false))), (3, .v (.one (.mp 30))), (1, .v (.one (.ptr 1 0))), (32, .v (.one (.st 17 false))), (33, .v (.one (.i .i64))), (34, .v (.one (.i .i64))), (63, .v (.one (.i .i64)))], [(5, .cells [.i .i64, .i .u32, .i .i64, .i .i64, .i .i64]), (30, .map 17), (1, .cells [.i .i64, .i .i64, .i .u64, .i .i64, .i .u64, .st 17 false])]⟩, [⟨none, [], ⟨155, [(2, .v (.one (.i .i64)))], []⟩⟩, ⟨some 2, [(30, 30), (1, 1), (5, 5)], ⟨155, [(3, .v (.one (.mp 30))), (1, .v (.one (.ptr 1 0))), (32, .v (.one (.st 17 false))), (33, .v (.one (.i .i64))), (34, .v (.one (.i .i64))), (5, .v (.one (.ptr 5 0)))], [(30, .map 17), (1, .cells [.i .i64, .i .i64, .i .u64, .i .i64, .i .u64, .st 17 false]), (5, .cells [.i .i64, .i .u32, .i .i64, .i .i64, .i .i64])]⟩⟩], []⟩
def natRight_step10_10 : (Int × ((List TMap) × ((List TMap) × (Int × (Int × (Int × (Int × (Int × (Int × (Int × (Int × ((List (TMap × Int)) × (Int × (Int × (Int × (Int × (Int × ((List TMap) × Unit)))))))))))))))))) → Tr ((Int × ((List TMap) × ((List TMap) × (Int × (Int × (Int × (Int × (Int × (Int × (Int × (Int × ((List (TMap × Int)) × (Int × (Int × (Int × (Int × (Int × ((List TMap) × Unit)))))))))))))))))) ⊕ ((Int × Unit) ⊕ ((List TMap) × (Int × (Int × ((List (TMap × Int)) × (Int × (Int × (Int × (Int × (Int × ((List TMap) × (Int × (Int × (Int × (Int × (Int × Unit))))))))))))))))) :=
  fun (a0, a1, a2, a3, a4, a5, a6, a7, a8, a9, a10, a11, a12, a13, a14, a15, a16, a17, _) =>
  .ite (decide (a0 < a5)) (
   .grd (decide ((0 : Int) ≤ a0)) (
   .opt (β := TMap) (a1[Int.toNat a0]?) (fun r0 =>
   .ite (decide (a10 < r0.at')) (
    .ret (Sum.inr (Sum.inl ((4 : Int), ())))) (
    .ite (decide (r0.proto = a6)) (
     .ite (decide (r0.out = a9)) (
      .ret (Sum.inr (Sum.inl ((4 : Int), ())))) (
      .ite (decide (r0.addr = a7)) (
       .ite (decide (r0.port = a8)) (
        .ret (Sum.inr (Sum.inl ((4 : Int), ())))) (
        .ret (Sum.inl (IntKind.wrap IntKind.i64 (a0 + (1 : Int)), (a1, (a2, (a3, (a4, (a5, (a6, (a7, (a8, (a9, (a10, (a11, (a12, (a13, (a14, (a15, (a16, (a17, ()))))))))))))))))))))) (
       .ret (Sum.inl (IntKind.wrap IntKind.i64 (a0 + (1 : Int)), (a1, (a2, (a3, (a4, (a5, (a6, (a7, (a8, (a9, (a10, (a11, (a12, (a13, (a14, (a15, (a16, (a17, ())))))))))))))))))))))) (
     .ret (Sum.inl (IntKind.wrap IntKind.i64 (a0 + (1 : Int)), (a1, (a2, (a3, (a4, (a5, (a6, (a7, (a8, (a9, (a10, (a11, (a12, (a13, (a14, (a15, (a16, (a17, ())))))))))))))))))))))))) (
   .ret (Sum.inr (Sum.inr (a2, (a3, (a4, (a11, (a12, (a13, (a14, (a15, (a16, (a17, (a6, (a7, (a8, (a9, (a10, ()))))))))))))))))))
def natRight_loop10_10 (x : (Int × ((List TMap) × ((List TMap) × (Int × (Int × (Int × (Int × (Int × (Int × (Int × (Int × ((List (TMap × Int)) × (Int × (Int × (Int × (Int × (Int × ((List TMap) × Unit))))))))))))))))))) : Option ((Int × Unit) ⊕ ((List TMap) × (Int × (Int × ((List (TMap × Int)) × (Int × (Int × (Int × (Int × (Int × ((List TMap) × (Int × (Int × (Int × (Int × (Int × Unit)))))))))))))))) := loopO 100010 (fun x => (natRight_step10_10 x).eval) 18446744073709551616 x
def natRight_L10_5 : LS := ⟨5, [(30, 30), (1, 1)], ⟨155, [(34, .v (.one (.i .i64))), (3, .v (.one (.mp 30))), (1, .v (.one (.ptr 1 0))), (32, .v (.one (.st 17 false))), (33, .v (.one (.i .i64)))], [(30, .map 17), (1, .cells [.i .i64, .i .i64, .i .u64, .i .i64, .i .u64, .st 17 false])]⟩, [⟨none, [], ⟨155, [(2, .v (.one (.i .i64)))], []⟩⟩, ⟨some 0, [(30, 30), (1, 1)], ⟨155, [(3, .v (.one (.mp 30))), (1, .v (.one (.ptr 1 0)))], [(30, .map 17), (1, .cells [.i .i64, .i .i64, .i .u64, .i .i64, .i .u64, .st 17 false])]⟩⟩], []⟩
def natRight_step10_5 : (Int × ((List TMap) × (Int × ((List (TMap × Int)) × (Int × (Int × (Int × (Int × (Int × ((List TMap) × Unit)))))))))) → Tr ((Int × ((List TMap) × (Int × ((List (TMap × Int)) × (Int × (Int × (Int × (Int × (Int × ((List TMap) × Unit)))))))))) ⊕ ((Int × Unit) ⊕ ((List (TMap × Int)) × (Int × (Int × (Int × (Int × (Int × ((List TMap) × Unit))))))))) :=
  fun (a0, a1, a2, a3, a4, a5, a6, a7, a8, a9, _) =>
  .ite (decide (a0 < a2)) (
   .grd (decide ((0 : Int) ≤ a0)) (
   .opt (β := TMap) (a1[Int.toNat a0]?) (fun r0 =>
   .ite (!decide (r0.proto = (17 : Int))) (
    .ite (!decide (r0.proto = (6 : Int))) (
     .ret (Sum.inr (Sum.inl ((4 : Int), ())))) (
     .opt (β := (Bool × Unit)) ((rBetween_fn (r0.port, ((0 : Int), ((65535 : Int), ()))))) (fun r1 =>
     .ite (!r1.1) (
      .ret (Sum.inr (Sum.inl ((4 : Int), ())))) (
      .opt (β := (Bool × Unit)) ((rBetween_fn (r0.at', ((0 : Int), ((1099511627776 : Int), ()))))) (fun r2 =>
      .ite (!r2.1) (
       .ret (Sum.inr (Sum.inl ((4 : Int), ())))) (
       .grd (decide ((0 : Int) ≤ (0 : Int) ∧ (0 : Int) ≤ a0 ∧ a0 ≤ (↑(List.length a9) : Int))) (
       .opt (β := ((Int × Unit) ⊕ ((List TMap) × (Int × (Int × ((List (TMap × Int)) × (Int × (Int × (Int × (Int × (Int × ((List TMap) × (Int × (Int × (Int × (Int × (Int × Unit))))))))))))))))) ((natRight_loop10_10 ((0 : Int), (List.drop (0 : Nat) (List.take (Int.toNat a0) a9), (a1, (a2, (a0, ((↑(List.length (List.drop (0 : Nat) (List.take (Int.toNat a0) a9))) : Int), (r0.proto, (r0.addr, (r0.port, (r0.out, (r0.at', (a3, (a4, (a5, (a6, (a7, (a8, (a9, ())))))))))))))))))))) (fun r3 =>
       .sum (β := (Int × Unit)) (γ := ((List TMap) × (Int × (Int × ((List (TMap × Int)) × (Int × (Int × (Int × (Int × (Int × ((List TMap) × (Int × (Int × (Int × (Int × (Int × Unit)))))))))))))))) (r3) (fun r4 =>
        .ret (Sum.inr (Sum.inl (r4.1, ())))) (fun r4 =>
        .ret (Sum.inl (IntKind.wrap IntKind.i64 (r4.2.2.1 + (1 : Int)), (r4.1, (r4.2.1, (mPut (17 : Nat) (TMap.mk r4.2.2.2.2.2.2.2.2.2.2.1 (0 : Int) (0 : Int) r4.2.2.2.2.2.2.2.2.2.2.2.2.2.1 (0 : Int)) (1 : Int) r4.2.2.2.1, (r4.2.2.2.2.1, (r4.2.2.2.2.2.1, (r4.2.2.2.2.2.2.1, (r4.2.2.2.2.2.2.2.1, (r4.2.2.2.2.2.2.2.2.1, (r4.2.2.2.2.2.2.2.2.2.1, ())))))))))))))))))))) (
    .opt (β := (Bool × Unit)) ((rBetween_fn (r0.port, ((0 : Int), ((65535 : Int), ()))))) (fun r1 =>
    .ite (!r1.1) (
     .ret (Sum.inr (Sum.inl ((4 : Int), ())))) (
     .opt (β := (Bool × Unit)) ((rBetween_fn (r0.at', ((0 : Int), ((1099511627776 : Int), ()))))) (fun r2 =>
     .ite (!r2.1) (
      .ret (Sum.inr (Sum.inl ((4 : Int), ())))) (
      .grd (decide ((0 : Int) ≤ (0 : Int) ∧ (0 : Int) ≤ a0 ∧ a0 ≤ (↑(List.length a9) : Int))) (
      .opt (β := ((Int × Unit) ⊕ ((List TMap) × (Int × (Int × ((List (TMap × Int)) × (Int × (Int × (Int × (Int × (Int × ((List TMap) × (Int × (Int × (Int × (Int × (Int × Unit))))))))))))))))) ((natRight_loop10_10 ((0 : Int), (List.drop (0 : Nat) (List.take (Int.toNat a0) a9), (a1, (a2, (a0, ((↑(List.length (List.drop (0 : Nat) (List.take (Int.toNat a0) a9))) : Int), (r0.proto, (r0.addr, (r0.port, (r0.out, (r0.at', (a3, (a4, (a5, (a6, (a7, (a8, (a9, ())))))))))))))))))))) (fun r3 =>
      .sum (β := (Int × Unit)) (γ := ((List TMap) × (Int × (Int × ((List (TMap × Int)) × (Int × (Int × (Int × (Int × (Int × ((List TMap) × (Int × (Int × (Int × (Int × (Int × Unit)))))))))))))))) (r3) (fun r4 =>
       .ret (Sum.inr (Sum.inl (r4.1, ())))) (fun r4 =>
       .ret (Sum.inl (IntKind.wrap IntKind.i64 (r4.2.2.1 + (1 : Int)), (r4.1, (r4.2.1, (mPut (17 : Nat) (TMap.mk r4.2.2.2.2.2.2.2.2.2.2.1 (0 : Int) (0 : Int) r4.2.2.2.2.2.2.2.2.2.2.2.2.2.1 (0 : Int)) (1 : Int) r4.2.2.2.1, (r4.2.2.2.2.1, (r4.2.2.2.2.2.1, (r4.2.2.2.2.2.2.1, (r4.2.2.2.2.2.2.2.1, (r4.2.2.2.2.2.2.2.2.1, (r4.2.2.2.2.2.2.2.2.2.1, ())))))))))))))))))))))) (
   .ret (Sum.inr (Sum.inr (a3, (a4, (a5, (a6, (a7, (a8, (a9, ()))))))))))
def natRight_loop10_5 (x : (Int × ((List TMap) × (Int × ((List (TMap × Int)) × (Int × (Int × (Int × (Int × (Int × ((List TMap) × Unit))))))))))) : Option ((Int × Unit) ⊕ ((List (TMap × Int)) × (Int × (Int × (Int × (Int × (Int × ((List TMap) × Unit)))))))) := loopO 100005 (fun x => (natRight_step10_5 x).eval) 18446744073709551616 x
def natRight_ap : List VP1 := [.agg [.i .i64, .i .i64, .i .u64, .i .i64, .i .u64, .st 17 false]]
def natRight_rp : SP := ⟨1, [(0, .v (.one (.i .i64)))], []⟩
def natRight_tree : (Int × (Int × (Int × (Int × (Int × ((List TMap) × Unit)))))) → Tr (Int × Unit) :=
  fun (a0, a1, a2, a3, a4, a5, _) =>
  .opt (β := (Bool × Unit)) ((rBetween_fn (a0, ((1 : Int), ((1000000 : Int), ()))))) (fun r0 =>
  .ite (!r0.1) (
   .ret ((1 : Int), ())) (
   .opt (β := (Int × Unit)) ((portsRight_fn (a1, (a2, ())))) (fun r1 =>
   .ite (!decide (r1.1 = (0 : Int))) (
    .ret ((1 : Int), ())) (
    .opt (β := (Int × Unit)) ((portsRight_fn (a3, (a4, ())))) (fun r2 =>
    .ite (!decide (r2.1 = (0 : Int))) (
     .ret ((1 : Int), ())) (
     .opt (β := ((Int × Unit) ⊕ ((List (TMap × Int)) × (Int × (Int × (Int × (Int × (Int × ((List TMap) × Unit))))))))) ((natRight_loop10_5 ((0 : Int), (a5, ((↑(List.length a5) : Int), ([], (a0, (a1, (a2, (a3, (a4, (a5, ())))))))))))) (fun r3 =>
     .sum (β := (Int × Unit)) (γ := ((List (TMap × Int)) × (Int × (Int × (Int × (Int × (Int × ((List TMap) × Unit)))))))) (r3) (fun r4 =>
      .ret (r4.1, ())) (fun r4 =>
      .opt (β := ((List Int) × Unit)) ((natTaken_fn (r4.2.2.1, (r4.2.2.2.1, ())))) (fun r5 =>
      .opt (β := ((List Int) × Unit)) ((natTaken_fn (r4.2.2.2.2.1, (r4.2.2.2.2.2.1, ())))) (fun r6 =>
      .ite (!decide ((↑(List.length r4.1) : Int) = IntKind.wrap IntKind.i64 ((↑(List.length r5.1) : Int) + (↑(List.length r6.1) : Int)))) (
       .ret ((4 : Int), ())) (
       .ite (!decide ((↑(List.length r4.2.2.2.2.2.2.1) : Int) = (↑(List.length r4.1) : Int))) (
        .ret ((4 : Int), ())) (
        .opt (β := ((Int × Unit) ⊕ ((List Int) × ((List (TMap × Int)) × Unit)))) ((natRight_loop10_21 ((0 : Int), (r5.1, (r6.1, ((↑(List.length r5.1) : Int), (r4.1, ()))))))) (fun r7 =>
        .sum (β := (Int × Unit)) (γ := ((List Int) × ((List (TMap × Int)) × Unit))) (r7) (fun r8 =>
         .ret (r8.1, ())) (fun r8 =>
         .opt (β := ((Int × Unit) ⊕ Unit)) ((natRight_loop10_27 ((0 : Int), (r8.1, ((↑(List.length r8.1) : Int), (r8.2.1, ())))))) (fun r9 =>
         .sum (β := (Int × Unit)) (γ := Unit) (r9) (fun r10 =>
          .ret (r10.1, ())) (fun r10 =>
          .ret ((0 : Int), ())))))))))))))))))
theorem natRight_eq (x : (Int × (Int × (Int × (Int × (Int × ((List TMap) × Unit))))))) : fnTr Tryd.prog cod [tz64, FS.pf portsCheck, FS.pf portsLet, FS.pf portsEnd, clMap, GS.pf delMap, FS.pf eqMap, FS.pf natWithin, FS.pf natCheck, natPlace, GS.pf natExpire, FS.pf natOut, FS.pf natIn, FS.pf natLives, FS.pf eqMap2, FS.pf rBetween, FS.pf portsRight, FS.pf freePorts, FS.pf indexInt, FS.pf containsInt, FS.pf natTaken] [(10, natRight_L10_27), (10, natRight_L10_21), (10, natRight_L10_10), (10, natRight_L10_5)] 30 10 natRight_ap natRight_rp x = natRight_tree x := by kernel_rfl
def natRight_fn (x : (Int × (Int × (Int × (Int × (Int × ((List TMap) × Unit))))))) : Option (Int × Unit) := (natRight_tree x).eval
def natRight : FS Tryd.prog := ⟨10, natRight_ap, natRight_rp, natRight_fn, fun x r h => fnTr_sound (cod := cod) (Γ := [tz64, FS.pf portsCheck, FS.pf portsLet, FS.pf portsEnd, clMap, GS.pf delMap, FS.pf eqMap, FS.pf natWithin, FS.pf natCheck, natPlace, GS.pf natExpire, FS.pf natOut, FS.pf natIn, FS.pf natLives, FS.pf eqMap2, FS.pf rBetween, FS.pf portsRight, FS.pf freePorts, FS.pf indexInt, FS.pf containsInt, FS.pf natTaken]) (Λs := [(10, natRight_L10_27), (10, natRight_L10_21), (10, natRight_L10_10), (10, natRight_L10_5)]) (n := 30) ((congrArg Tr.eval (natRight_eq x)).trans h)⟩
def idxMap_L25_2 : LS := ⟨2, [(3, 3)], ⟨19, [(8, .v (.one (.i .i64))), (0, .v (.one (.st 17 false))), (3, .v (.one (.ptr 3 0))), (7, .v (.one (.i .i64)))], [(3, .cells [.i .i64, .i .u32, .i .i64, .i .i64, .i .i64])]⟩, [⟨none, [], ⟨19, [(4, .v (.one (.i .i64)))], []⟩⟩, ⟨some 0, [], ⟨19, [], []⟩⟩], []⟩
def idxMap_step25_2 : (Int × ((List TMap) × (Int × (Int × (Int × (Int × (Int × (Int × Unit)))))))) → Tr ((Int × ((List TMap) × (Int × (Int × (Int × (Int × (Int × (Int × Unit)))))))) ⊕ ((Int × Unit) ⊕ Unit)) :=
  fun (a0, a1, a2, a3, a4, a5, a6, a7, _) =>
  .ite (decide (a0 < a2)) (
   .grd (decide ((0 : Int) ≤ a0)) (
   .opt (β := TMap) (a1[Int.toNat a0]?) (fun r0 =>
   .ite (decide (a3 = r0.proto) && (decide (a4 = r0.addr) && (decide (a5 = r0.port) && (decide (a6 = r0.out) && (decide (a7 = r0.at') && true))))) (
    .ret (Sum.inr (Sum.inl (a0, ())))) (
    .ret (Sum.inl (IntKind.wrap IntKind.i64 (a0 + (1 : Int)), (a1, (a2, (a3, (a4, (a5, (a6, (a7, ()))))))))))))) (
   .ret (Sum.inr (Sum.inr ())))
def idxMap_loop25_2 (x : (Int × ((List TMap) × (Int × (Int × (Int × (Int × (Int × (Int × Unit))))))))) : Option ((Int × Unit) ⊕ Unit) := loopO 250002 (fun x => (idxMap_step25_2 x).eval) 18446744073709551616 x
def idxMap_ap : List VP1 := [.one (.st 17 false), .agg [.i .i64, .i .u32, .i .i64, .i .i64, .i .i64]]
def idxMap_rp : SP := ⟨1, [(0, .v (.one (.i .i64)))], []⟩
def idxMap_tree : ((List TMap) × (Int × (Int × (Int × (Int × (Int × Unit)))))) → Tr (Int × Unit) :=
  fun (a0, a1, a2, a3, a4, a5, _) =>
  .opt (β := ((Int × Unit) ⊕ Unit)) ((idxMap_loop25_2 ((0 : Int), (a0, ((↑(List.length a0) : Int), (a1, (a2, (a3, (a4, (a5, ())))))))))) (fun r0 =>
  .sum (β := (Int × Unit)) (γ := Unit) (r0) (fun r1 =>
   .ret (r1.1, ())) (fun r1 =>
   .ret ((-1 : Int), ())))
theorem idxMap_eq (x : ((List TMap) × (Int × (Int × (Int × (Int × (Int × Unit))))))) : fnTr Tryd.prog cod [tz64, FS.pf portsCheck, FS.pf portsLet, FS.pf portsEnd, clMap, GS.pf delMap, FS.pf eqMap, FS.pf natWithin, FS.pf natCheck, natPlace, GS.pf natExpire, FS.pf natOut, FS.pf natIn, FS.pf natLives, FS.pf eqMap2, FS.pf rBetween, FS.pf portsRight, FS.pf freePorts, FS.pf indexInt, FS.pf containsInt, FS.pf natTaken, FS.pf natRight] [(25, idxMap_L25_2)] 30 25 idxMap_ap idxMap_rp x = idxMap_tree x := by kernel_rfl
def idxMap_fn (x : ((List TMap) × (Int × (Int × (Int × (Int × (Int × Unit))))))) : Option (Int × Unit) := (idxMap_tree x).eval
def idxMap : FS Tryd.prog := ⟨25, idxMap_ap, idxMap_rp, idxMap_fn, fun x r h => fnTr_sound (cod := cod) (Γ := [tz64, FS.pf portsCheck, FS.pf portsLet, FS.pf portsEnd, clMap, GS.pf delMap, FS.pf eqMap, FS.pf natWithin, FS.pf natCheck, natPlace, GS.pf natExpire, FS.pf natOut, FS.pf natIn, FS.pf natLives, FS.pf eqMap2, FS.pf rBetween, FS.pf portsRight, FS.pf freePorts, FS.pf indexInt, FS.pf containsInt, FS.pf natTaken, FS.pf natRight]) (Λs := [(25, idxMap_L25_2)]) (n := 30) ((congrArg Tr.eval (idxMap_eq x)).trans h)⟩
def containsMap_ap : List VP1 := [.one (.st 17 false), .agg [.i .i64, .i .u32, .i .i64, .i .i64, .i .i64]]
def containsMap_rp : SP := ⟨1, [(0, .v (.one (.b)))], []⟩
def containsMap_tree : ((List TMap) × (Int × (Int × (Int × (Int × (Int × Unit)))))) → Tr (Bool × Unit) :=
  fun (a0, a1, a2, a3, a4, a5, _) =>
  .opt (β := (Int × Unit)) ((idxMap_fn (a0, (a1, (a2, (a3, (a4, (a5, ())))))))) (fun r0 =>
  .ret (decide ((0 : Int) ≤ r0.1), ()))
theorem containsMap_eq (x : ((List TMap) × (Int × (Int × (Int × (Int × (Int × Unit))))))) : fnTr Tryd.prog cod [tz64, FS.pf portsCheck, FS.pf portsLet, FS.pf portsEnd, clMap, GS.pf delMap, FS.pf eqMap, FS.pf natWithin, FS.pf natCheck, natPlace, GS.pf natExpire, FS.pf natOut, FS.pf natIn, FS.pf natLives, FS.pf eqMap2, FS.pf rBetween, FS.pf portsRight, FS.pf freePorts, FS.pf indexInt, FS.pf containsInt, FS.pf natTaken, FS.pf natRight, FS.pf idxMap] [] 30 12 containsMap_ap containsMap_rp x = containsMap_tree x := by kernel_rfl
def containsMap_fn (x : ((List TMap) × (Int × (Int × (Int × (Int × (Int × Unit))))))) : Option (Bool × Unit) := (containsMap_tree x).eval
def containsMap : FS Tryd.prog := ⟨12, containsMap_ap, containsMap_rp, containsMap_fn, fun x r h => fnTr_sound (cod := cod) (Γ := [tz64, FS.pf portsCheck, FS.pf portsLet, FS.pf portsEnd, clMap, GS.pf delMap, FS.pf eqMap, FS.pf natWithin, FS.pf natCheck, natPlace, GS.pf natExpire, FS.pf natOut, FS.pf natIn, FS.pf natLives, FS.pf eqMap2, FS.pf rBetween, FS.pf portsRight, FS.pf freePorts, FS.pf indexInt, FS.pf containsInt, FS.pf natTaken, FS.pf natRight, FS.pf idxMap]) (Λs := []) (n := 30) ((congrArg Tr.eval (containsMap_eq x)).trans h)⟩
def natBack_ap : List VP1 := [.agg [.i .i64, .i .i64, .i .u64, .i .i64, .i .u64, .st 17 false], .one (.i .i64), .one (.i .u32), .one (.i .i64), .one (.i .i64), .one (.i .i64)]
def natBack_rp : SP := ⟨1, [(0, .v (.one (.b)))], []⟩
def natBack_tree : (Int × (Int × (Int × (Int × (Int × ((List TMap) × (Int × (Int × (Int × (Int × (Int × Unit))))))))))) → Tr (Bool × Unit) :=
  fun (a0, a1, a2, a3, a4, a5, a6, a7, a8, a9, a10, _) =>
  .opt (β := (Int × (Int × (Int × (Int × (Int × ((List TMap) × (Int × (Int × Unit))))))))) ((natOut_fn (a0, (a1, (a2, (a3, (a4, (a5, (a6, (a7, (a8, (a9, ())))))))))))) (fun r0 =>
  .opt (β := (Bool × Unit)) ((natLives_fn ())) (fun r1 =>
  .ite (!r1.1) (
   .opt (β := (Bool × Unit)) ((natLives_fn ())) (fun r2 =>
   .ret (r2.1, ()))) (
   .ite (!decide (r0.2.2.2.2.2.2.2.1 = (0 : Int))) (
    .opt (β := (Bool × Unit)) ((natLives_fn ())) (fun r2 =>
    .ret (r2.1, ()))) (
    .ite (decide (a10 < (0 : Int))) (
     .opt (β := (Bool × Unit)) ((natLives_fn ())) (fun r2 =>
     .ret (r2.1, ()))) (
     .ite (decide (a0 < a10)) (
      .opt (β := (Bool × Unit)) ((natLives_fn ())) (fun r2 =>
      .ret (r2.1, ()))) (
      .ite (decide ((1099511627776 : Int) < IntKind.wrap IntKind.i64 (a9 + a10))) (
       .opt (β := (Bool × Unit)) ((natLives_fn ())) (fun r2 =>
       .ret (r2.1, ()))) (
       .opt (β := (Int × (Int × (Int × Unit)))) ((natIn_fn (r0.1, (r0.2.1, (r0.2.2.1, (r0.2.2.2.1, (r0.2.2.2.2.1, (r0.2.2.2.2.2.1, (a6, (r0.2.2.2.2.2.2.1, (IntKind.wrap IntKind.i64 (a9 + a10), ()))))))))))) (fun r2 =>
       .opt (β := (Int × (Int × (Int × (Int × (Int × ((List TMap) × (Int × (Int × Unit))))))))) ((natOut_fn (r0.1, (r0.2.1, (r0.2.2.1, (r0.2.2.2.1, (r0.2.2.2.2.1, (r0.2.2.2.2.2.1, (a6, (a7, (a8, (IntKind.wrap IntKind.i64 (a9 + a10), ())))))))))))) (fun r3 =>
       .opt (β := (Int × (Int × (Int × Unit)))) ((natIn_fn (r3.1, (r3.2.1, (r3.2.2.1, (r3.2.2.2.1, (r3.2.2.2.2.1, (r3.2.2.2.2.2.1, (a6, (r0.2.2.2.2.2.2.1, (if true = true then if IntKind.wrap IntKind.i64 (IntKind.wrap IntKind.i64 (IntKind.wrap IntKind.i64 (a9 + a10) + a0) + (1 : Int)) < (1099511627776 : Int) then IntKind.wrap IntKind.i64 (IntKind.wrap IntKind.i64 (IntKind.wrap IntKind.i64 (a9 + a10) + a0) + (1 : Int)) else (1099511627776 : Int) else if IntKind.wrap IntKind.i64 (IntKind.wrap IntKind.i64 (IntKind.wrap IntKind.i64 (a9 + a10) + a0) + (1 : Int)) > (1099511627776 : Int) then IntKind.wrap IntKind.i64 (IntKind.wrap IntKind.i64 (IntKind.wrap IntKind.i64 (a9 + a10) + a0) + (1 : Int)) else (1099511627776 : Int), ()))))))))))) (fun r4 =>
       .ite (decide (r2.2.2.1 = (0 : Int))) (
        .ite (decide (r3.2.2.2.2.2.2.2.1 = (0 : Int))) (
         .ite (decide (r2.1 = a7)) (
          .ite (decide (r2.2.1 = a8)) (
           .ite (decide (r3.2.2.2.2.2.2.1 = r0.2.2.2.2.2.2.1)) (
            .ite (decide (r4.2.2.1 = (7 : Int))) (
             .ret (true, ())) (
             .ret (decide ((1099511627776 : Int) < IntKind.wrap IntKind.i64 (IntKind.wrap IntKind.i64 (IntKind.wrap IntKind.i64 (a9 + a10) + a0) + (1 : Int))), ()))) (
            .ret (false, ()))) (
           .ret (false, ()))) (
          .ret (false, ()))) (
         .ret (false, ()))) (
        .ret (false, ()))))))))))))
theorem natBack_eq (x : (Int × (Int × (Int × (Int × (Int × ((List TMap) × (Int × (Int × (Int × (Int × (Int × Unit)))))))))))) : fnTr Tryd.prog cod [tz64, FS.pf portsCheck, FS.pf portsLet, FS.pf portsEnd, clMap, GS.pf delMap, FS.pf eqMap, FS.pf natWithin, FS.pf natCheck, natPlace, GS.pf natExpire, FS.pf natOut, FS.pf natIn, FS.pf natLives, FS.pf eqMap2, FS.pf rBetween, FS.pf portsRight, FS.pf freePorts, FS.pf indexInt, FS.pf containsInt, FS.pf natTaken, FS.pf natRight, FS.pf idxMap, FS.pf containsMap] [] 30 3 natBack_ap natBack_rp x = natBack_tree x := by kernel_rfl
def natBack_fn (x : (Int × (Int × (Int × (Int × (Int × ((List TMap) × (Int × (Int × (Int × (Int × (Int × Unit)))))))))))) : Option (Bool × Unit) := (natBack_tree x).eval
def natBack : FS Tryd.prog := ⟨3, natBack_ap, natBack_rp, natBack_fn, fun x r h => fnTr_sound (cod := cod) (Γ := [tz64, FS.pf portsCheck, FS.pf portsLet, FS.pf portsEnd, clMap, GS.pf delMap, FS.pf eqMap, FS.pf natWithin, FS.pf natCheck, natPlace, GS.pf natExpire, FS.pf natOut, FS.pf natIn, FS.pf natLives, FS.pf eqMap2, FS.pf rBetween, FS.pf portsRight, FS.pf freePorts, FS.pf indexInt, FS.pf containsInt, FS.pf natTaken, FS.pf natRight, FS.pf idxMap, FS.pf containsMap]) (Λs := []) (n := 30) ((congrArg Tr.eval (natBack_eq x)).trans h)⟩
def natApart_L5_17 : LS := ⟨17, [(5, 5), (11, 11)], ⟨137, [(80, .v (.one (.i .i64))), (12, .v (.one (.i .i64))), (5, .v (.one (.ptr 5 0))), (4, .v (.one (.i .i64))), (11, .v (.one (.ptr 11 0))), (3, .v (.one (.i .i64))), (2, .v (.one (.i .u32))), (1, .v (.one (.i .i64))), (78, .v (.one (.st 17 false))), (79, .v (.one (.i .i64)))], [(5, .cells [.i .i64, .i .i64, .i .u64, .i .i64, .i .u64, .st 17 false]), (11, .cells [.i .i64, .i .i64, .i .u64, .i .i64, .i .u64, .st 17 true])]⟩, [⟨none, [], ⟨137, [(10, .v (.one (.b)))], []⟩⟩, ⟨some 4, [], ⟨137, [], []⟩⟩], []⟩
def natApart_step5_17 : (Int × (Int × (Int × (Int × (Int × (Int × ((List TMap) × (Int × (Int × (Int × (Int × (Int × (Int × ((List TMap) × (Int × (Int × (Int × (Int × (Int × ((List TMap) × Unit)))))))))))))))))))) → Tr ((Int × (Int × (Int × (Int × (Int × (Int × ((List TMap) × (Int × (Int × (Int × (Int × (Int × (Int × ((List TMap) × (Int × (Int × (Int × (Int × (Int × ((List TMap) × Unit)))))))))))))))))))) ⊕ ((Bool × Unit) ⊕ Unit)) :=
  fun (a0, a1, a2, a3, a4, a5, a6, a7, a8, a9, a10, a11, a12, a13, a14, a15, a16, a17, a18, a19, _) =>
  .ite (decide (a0 < a7)) (
   .grd (decide ((0 : Int) ≤ a0)) (
   .opt (β := TMap) (a6[Int.toNat a0]?) (fun r0 =>
   .ite (decide (r0.proto = a5)) (
    .ite (decide (r0.addr = a4)) (
     .ite (decide (IntKind.wrap IntKind.i64 (a2 - r0.at') ≤ a8)) (
      .ite (!decide (r0.port = a3)) (
       .opt (β := (Bool × Unit)) ((containsMap_fn (a19, (r0.proto, (r0.addr, (r0.port, (r0.out, (r0.at', ())))))))) (fun r1 =>
       .ite (!r1.1) (
        .ret (Sum.inr (Sum.inl (false, ())))) (
        .ite (decide (r0.port = a3)) (
         .ite (decide (IntKind.wrap IntKind.i64 (a2 - r0.at') ≤ a8)) (
          .ite (!decide (a1 = r0.out)) (
           .ret (Sum.inr (Sum.inl (false, ())))) (
           .ret (Sum.inl (IntKind.wrap IntKind.i64 (a0 + (1 : Int)), (a1, (a2, (a3, (a4, (a5, (a6, (a7, (a8, (a9, (a10, (a11, (a12, (a13, (a14, (a15, (a16, (a17, (a18, (a19, ()))))))))))))))))))))))) (
          .ret (Sum.inl (IntKind.wrap IntKind.i64 (a0 + (1 : Int)), (a1, (a2, (a3, (a4, (a5, (a6, (a7, (a8, (a9, (a10, (a11, (a12, (a13, (a14, (a15, (a16, (a17, (a18, (a19, ()))))))))))))))))))))))) (
         .ret (Sum.inl (IntKind.wrap IntKind.i64 (a0 + (1 : Int)), (a1, (a2, (a3, (a4, (a5, (a6, (a7, (a8, (a9, (a10, (a11, (a12, (a13, (a14, (a15, (a16, (a17, (a18, (a19, ()))))))))))))))))))))))))) (
       .ite (decide (r0.port = a3)) (
        .ite (decide (IntKind.wrap IntKind.i64 (a2 - r0.at') ≤ a8)) (
         .ite (!decide (a1 = r0.out)) (
          .ret (Sum.inr (Sum.inl (false, ())))) (
          .ret (Sum.inl (IntKind.wrap IntKind.i64 (a0 + (1 : Int)), (a1, (a2, (a3, (a4, (a5, (a6, (a7, (a8, (a9, (a10, (a11, (a12, (a13, (a14, (a15, (a16, (a17, (a18, (a19, ()))))))))))))))))))))))) (
         .ret (Sum.inl (IntKind.wrap IntKind.i64 (a0 + (1 : Int)), (a1, (a2, (a3, (a4, (a5, (a6, (a7, (a8, (a9, (a10, (a11, (a12, (a13, (a14, (a15, (a16, (a17, (a18, (a19, ()))))))))))))))))))))))) (
        .ret (Sum.inl (IntKind.wrap IntKind.i64 (a0 + (1 : Int)), (a1, (a2, (a3, (a4, (a5, (a6, (a7, (a8, (a9, (a10, (a11, (a12, (a13, (a14, (a15, (a16, (a17, (a18, (a19, ())))))))))))))))))))))))) (
      .ite (decide (r0.port = a3)) (
       .ite (decide (IntKind.wrap IntKind.i64 (a2 - r0.at') ≤ a8)) (
        .ite (!decide (a1 = r0.out)) (
         .ret (Sum.inr (Sum.inl (false, ())))) (
         .ret (Sum.inl (IntKind.wrap IntKind.i64 (a0 + (1 : Int)), (a1, (a2, (a3, (a4, (a5, (a6, (a7, (a8, (a9, (a10, (a11, (a12, (a13, (a14, (a15, (a16, (a17, (a18, (a19, ()))))))))))))))))))))))) (
        .ret (Sum.inl (IntKind.wrap IntKind.i64 (a0 + (1 : Int)), (a1, (a2, (a3, (a4, (a5, (a6, (a7, (a8, (a9, (a10, (a11, (a12, (a13, (a14, (a15, (a16, (a17, (a18, (a19, ()))))))))))))))))))))))) (
       .ret (Sum.inl (IntKind.wrap IntKind.i64 (a0 + (1 : Int)), (a1, (a2, (a3, (a4, (a5, (a6, (a7, (a8, (a9, (a10, (a11, (a12, (a13, (a14, (a15, (a16, (a17, (a18, (a19, ())))))))))))))))))))))))) (
     .ite (decide (IntKind.wrap IntKind.i64 (a2 - r0.at') ≤ a8)) (
      .ite (true) (
       .opt (β := (Bool × Unit)) ((containsMap_fn (a19, (r0.proto, (r0.addr, (r0.port, (r0.out, (r0.at', ())))))))) (fun r1 =>
       .ite (!r1.1) (
        .ret (Sum.inr (Sum.inl (false, ())))) (
        .ret (Sum.inl (IntKind.wrap IntKind.i64 (a0 + (1 : Int)), (a1, (a2, (a3, (a4, (a5, (a6, (a7, (a8, (a9, (a10, (a11, (a12, (a13, (a14, (a15, (a16, (a17, (a18, (a19, ())))))))))))))))))))))))) (
       .ret (Sum.inl (IntKind.wrap IntKind.i64 (a0 + (1 : Int)), (a1, (a2, (a3, (a4, (a5, (a6, (a7, (a8, (a9, (a10, (a11, (a12, (a13, (a14, (a15, (a16, (a17, (a18, (a19, ()))))))))))))))))))))))) (
      .ret (Sum.inl (IntKind.wrap IntKind.i64 (a0 + (1 : Int)), (a1, (a2, (a3, (a4, (a5, (a6, (a7, (a8, (a9, (a10, (a11, (a12, (a13, (a14, (a15, (a16, (a17, (a18, (a19, ())))))))))))))))))))))))) (
    .ite (decide (IntKind.wrap IntKind.i64 (a2 - r0.at') ≤ a8)) (
     .ite (true) (
      .opt (β := (Bool × Unit)) ((containsMap_fn (a19, (r0.proto, (r0.addr, (r0.port, (r0.out, (r0.at', ())))))))) (fun r1 =>
      .ite (!r1.1) (
       .ret (Sum.inr (Sum.inl (false, ())))) (
       .ret (Sum.inl (IntKind.wrap IntKind.i64 (a0 + (1 : Int)), (a1, (a2, (a3, (a4, (a5, (a6, (a7, (a8, (a9, (a10, (a11, (a12, (a13, (a14, (a15, (a16, (a17, (a18, (a19, ())))))))))))))))))))))))) (
      .ret (Sum.inl (IntKind.wrap IntKind.i64 (a0 + (1 : Int)), (a1, (a2, (a3, (a4, (a5, (a6, (a7, (a8, (a9, (a10, (a11, (a12, (a13, (a14, (a15, (a16, (a17, (a18, (a19, ()))))))))))))))))))))))) (
     .ret (Sum.inl (IntKind.wrap IntKind.i64 (a0 + (1 : Int)), (a1, (a2, (a3, (a4, (a5, (a6, (a7, (a8, (a9, (a10, (a11, (a12, (a13, (a14, (a15, (a16, (a17, (a18, (a19, ())))))))))))))))))))))))))) (
   .ret (Sum.inr (Sum.inr ())))
def natApart_loop5_17 (x : (Int × (Int × (Int × (Int × (Int × (Int × ((List TMap) × (Int × (Int × (Int × (Int × (Int × (Int × ((List TMap) × (Int × (Int × (Int × (Int × (Int × ((List TMap) × Unit))))))))))))))))))))) : Option ((Bool × Unit) ⊕ Unit) := loopO 50017 (fun x => (natApart_step5_17 x).eval) 18446744073709551616 x
def natApart_L5_10 : LS := ⟨10, [(15, 15), (11, 11), (5, 5)], ⟨137, [(59, .v (.one (.i .i64))), (15, .v (.one (.ptr 15 0))), (57, .v (.one (.st 17 true))), (11, .v (.one (.ptr 11 0))), (47, .v (.one (.st 17 true))), (12, .v (.one (.i .i64))), (5, .v (.one (.ptr 5 0))), (4, .v (.one (.i .i64))), (3, .v (.one (.i .i64))), (2, .v (.one (.i .u32))), (1, .v (.one (.i .i64))), (48, .v (.one (.i .i64))), (49, .v (.one (.i .i64))), (58, .v (.one (.i .i64)))], [(15, .cells [.i .i64, .i .u32, .i .i64, .i .i64, .i .i64]), (11, .cells [.i .i64, .i .i64, .i .u64, .i .i64, .i .u64, .st 17 true]), (5, .cells [.i .i64, .i .i64, .i .u64, .i .i64, .i .u64, .st 17 false])]⟩, [⟨none, [], ⟨137, [(10, .v (.one (.b)))], []⟩⟩, ⟨some 2, [(11, 11), (5, 5)], ⟨137, [(11, .v (.one (.ptr 11 0))), (47, .v (.one (.st 17 true))), (12, .v (.one (.i .i64))), (5, .v (.one (.ptr 5 0))), (4, .v (.one (.i .i64))), (3, .v (.one (.i .i64))), (2, .v (.one (.i .u32))), (1, .v (.one (.i .i64))), (48, .v (.one (.i .i64))), (49, .v (.one (.i .i64)))], [(11, .cells [.i .i64, .i .i64, .i .u64, .i .i64, .i .u64, .st 17 true]), (5, .cells [.i .i64, .i .i64, .i .u64, .i .i64, .i .u64, .st 17 false])]⟩⟩], []⟩
def natApart_step5_10 : (Int × ((List TMap) × ((List TMap) × (Int × (Int × (Int × (Int × (Int × (Int × (Int × (Int × (Int × (Int × (Int × (Int × (Int × (Int × (Int × (Int × (Int × (Int × ((List TMap) × (Int × (Int × (Int × (Int × (Int × ((List TMap) × Unit)))))))))))))))))))))))))))) → Tr ((Int × ((List TMap) × ((List TMap) × (Int × (Int × (Int × (Int × (Int × (Int × (Int × (Int × (Int × (Int × (Int × (Int × (Int × (Int × (Int × (Int × (Int × (Int × ((List TMap) × (Int × (Int × (Int × (Int × (Int × ((List TMap) × Unit)))))))))))))))))))))))))))) ⊕ ((Bool × Unit) ⊕ ((List TMap) × (Int × (Int × (Int × (Int × (Int × (Int × (Int × (Int × (Int × (Int × (Int × (Int × ((List TMap) × (Int × (Int × (Int × (Int × (Int × ((List TMap) × Unit)))))))))))))))))))))) :=
  fun (a0, a1, a2, a3, a4, a5, a6, a7, a8, a9, a10, a11, a12, a13, a14, a15, a16, a17, a18, a19, a20, a21, a22, a23, a24, a25, a26, a27, _) =>
  .ite (decide (a0 < a10)) (
   .grd (decide ((0 : Int) ≤ a0)) (
   .opt (β := TMap) (a1[Int.toNat a0]?) (fun r0 =>
   .ite (decide (a11 = r0.proto)) (
    .ite (decide (a14 = r0.out)) (
     .ret (Sum.inr (Sum.inl (false, ())))) (
     .ret (Sum.inl (IntKind.wrap IntKind.i64 (a0 + (1 : Int)), (a1, (a2, (a3, (a4, (a5, (a6, (a7, (a8, (a9, (a10, (a11, (a12, (a13, (a14, (a15, (a16, (a17, (a18, (a19, (a20, (a21, (a22, (a23, (a24, (a25, (a26, (a27, ()))))))))))))))))))))))))))))))) (
    .ret (Sum.inl (IntKind.wrap IntKind.i64 (a0 + (1 : Int)), (a1, (a2, (a3, (a4, (a5, (a6, (a7, (a8, (a9, (a10, (a11, (a12, (a13, (a14, (a15, (a16, (a17, (a18, (a19, (a20, (a21, (a22, (a23, (a24, (a25, (a26, (a27, ()))))))))))))))))))))))))))))))))) (
   .ret (Sum.inr (Sum.inr (a2, (a3, (a4, (a5, (a6, (a7, (a8, (a9, (a16, (a17, (a18, (a19, (a20, (a21, (a22, (a23, (a24, (a25, (a26, (a27, ())))))))))))))))))))))))
def natApart_loop5_10 (x : (Int × ((List TMap) × ((List TMap) × (Int × (Int × (Int × (Int × (Int × (Int × (Int × (Int × (Int × (Int × (Int × (Int × (Int × (Int × (Int × (Int × (Int × (Int × ((List TMap) × (Int × (Int × (Int × (Int × (Int × ((List TMap) × Unit))))))))))))))))))))))))))))) : Option ((Bool × Unit) ⊕ ((List TMap) × (Int × (Int × (Int × (Int × (Int × (Int × (Int × (Int × (Int × (Int × (Int × (Int × ((List TMap) × (Int × (Int × (Int × (Int × (Int × ((List TMap) × Unit))))))))))))))))))))) := loopO 50010 (fun x => (natApart_step5_10 x).eval) 18446744073709551616 x
def natApart_L5_7 : LS := ⟨7, [(11, 11), (5, 5)], ⟨137, [(49, .v (.one (.i .i64))), (11, .v (.one (.ptr 11 0))), (47, .v (.one (.st 17 true))), (12, .v (.one (.i .i64))), (5, .v (.one (.ptr 5 0))), (4, .v (.one (.i .i64))), (3, .v (.one (.i .i64))), (2, .v (.one (.i .u32))), (1, .v (.one (.i .i64))), (48, .v (.one (.i .i64)))], [(11, .cells [.i .i64, .i .i64, .i .u64, .i .i64, .i .u64, .st 17 true]), (5, .cells [.i .i64, .i .i64, .i .u64, .i .i64, .i .u64, .st 17 false])]⟩, [⟨none, [], ⟨137, [(10, .v (.one (.b)))], []⟩⟩, ⟨some 0, [(5, 5), (11, 11)], ⟨137, [(12, .v (.one (.i .i64))), (5, .v (.one (.ptr 5 0))), (4, .v (.one (.i .i64))), (11, .v (.one (.ptr 11 0))), (3, .v (.one (.i .i64))), (2, .v (.one (.i .u32))), (1, .v (.one (.i .i64)))], [(5, .cells [.i .i64, .i .i64, .i .u64, .i .i64, .i .u64, .st 17 false]), (11, .cells [.i .i64, .i .i64, .i .u64, .i .i64, .i .u64, .st 17 true])]⟩⟩], []⟩
def natApart_step5_7 : (Int × ((List TMap) × (Int × (Int × (Int × (Int × (Int × (Int × (Int × (Int × (Int × (Int × (Int × ((List TMap) × (Int × (Int × (Int × (Int × (Int × ((List TMap) × Unit)))))))))))))))))))) → Tr ((Int × ((List TMap) × (Int × (Int × (Int × (Int × (Int × (Int × (Int × (Int × (Int × (Int × (Int × ((List TMap) × (Int × (Int × (Int × (Int × (Int × ((List TMap) × Unit)))))))))))))))))))) ⊕ ((Bool × Unit) ⊕ (Int × (Int × (Int × (Int × (Int × (Int × (Int × (Int × (Int × (Int × ((List TMap) × (Int × (Int × (Int × (Int × (Int × ((List TMap) × Unit))))))))))))))))))) :=
  fun (a0, a1, a2, a3, a4, a5, a6, a7, a8, a9, a10, a11, a12, a13, a14, a15, a16, a17, a18, a19, _) =>
  .ite (decide (a0 < a7)) (
   .grd (decide ((0 : Int) ≤ a0)) (
   .opt (β := TMap) (a1[Int.toNat a0]?) (fun r0 =>
   .grd (decide ((0 : Int) ≤ (0 : Int) ∧ (0 : Int) ≤ a0 ∧ a0 ≤ (↑(List.length a13) : Int))) (
   .opt (β := ((Bool × Unit) ⊕ ((List TMap) × (Int × (Int × (Int × (Int × (Int × (Int × (Int × (Int × (Int × (Int × (Int × (Int × ((List TMap) × (Int × (Int × (Int × (Int × (Int × ((List TMap) × Unit)))))))))))))))))))))) ((natApart_loop5_10 ((0 : Int), (List.drop (0 : Nat) (List.take (Int.toNat a0) a13), (a1, (a2, (a3, (a4, (a5, (a6, (a7, (a0, ((↑(List.length (List.drop (0 : Nat) (List.take (Int.toNat a0) a13))) : Int), (r0.proto, (r0.addr, (r0.port, (r0.out, (r0.at', (a8, (a9, (a10, (a11, (a12, (a13, (a14, (a15, (a16, (a17, (a18, (a19, ())))))))))))))))))))))))))))))) (fun r1 =>
   .sum (β := (Bool × Unit)) (γ := ((List TMap) × (Int × (Int × (Int × (Int × (Int × (Int × (Int × (Int × (Int × (Int × (Int × (Int × ((List TMap) × (Int × (Int × (Int × (Int × (Int × ((List TMap) × Unit))))))))))))))))))))) (r1) (fun r2 =>
    .ret (Sum.inr (Sum.inl (r2.1, ())))) (fun r2 =>
    .ret (Sum.inl (IntKind.wrap IntKind.i64 (r2.2.2.2.2.2.2.2.1 + (1 : Int)), (r2.1, (r2.2.1, (r2.2.2.1, (r2.2.2.2.1, (r2.2.2.2.2.1, (r2.2.2.2.2.2.1, (r2.2.2.2.2.2.2.1, (r2.2.2.2.2.2.2.2.2.1, (r2.2.2.2.2.2.2.2.2.2.1, (r2.2.2.2.2.2.2.2.2.2.2.1, (r2.2.2.2.2.2.2.2.2.2.2.2.1, (r2.2.2.2.2.2.2.2.2.2.2.2.2.1, (r2.2.2.2.2.2.2.2.2.2.2.2.2.2.1, (r2.2.2.2.2.2.2.2.2.2.2.2.2.2.2.1, (r2.2.2.2.2.2.2.2.2.2.2.2.2.2.2.2.1, (r2.2.2.2.2.2.2.2.2.2.2.2.2.2.2.2.2.1, (r2.2.2.2.2.2.2.2.2.2.2.2.2.2.2.2.2.2.1, (r2.2.2.2.2.2.2.2.2.2.2.2.2.2.2.2.2.2.2.1, (r2.2.2.2.2.2.2.2.2.2.2.2.2.2.2.2.2.2.2.2.1, ()))))))))))))))))))))))))))) (
   .ret (Sum.inr (Sum.inr (a2, (a3, (a4, (a5, (a6, (a14, (a15, (a16, (a17, (a18, (a19, (a8, (a9, (a10, (a11, (a12, (a13, ()))))))))))))))))))))
def natApart_loop5_7 (x : (Int × ((List TMap) × (Int × (Int × (Int × (Int × (Int × (Int × (Int × (Int × (Int × (Int × (Int × ((List TMap) × (Int × (Int × (Int × (Int × (Int × ((List TMap) × Unit))))))))))))))))))))) : Option ((Bool × Unit) ⊕ (Int × (Int × (Int × (Int × (Int × (Int × (Int × (Int × (Int × (Int × ((List TMap) × (Int × (Int × (Int × (Int × (Int × ((List TMap) × Unit)))))))))))))))))) := loopO 50007 (fun x => (natApart_step5_7 x).eval) 18446744073709551616 x
def natApart_ap : List VP1 := [.agg [.i .i64, .i .i64, .i .u64, .i .i64, .i .u64, .st 17 false], .one (.i .i64), .one (.i .u32), .one (.i .i64), .one (.i .i64)]
def natApart_rp : SP := ⟨1, [(0, .v (.one (.b)))], []⟩
def natApart_tree : (Int × (Int × (Int × (Int × (Int × ((List TMap) × (Int × (Int × (Int × (Int × Unit)))))))))) → Tr (Bool × Unit) :=
  fun (a0, a1, a2, a3, a4, a5, a6, a7, a8, a9, _) =>
  .opt (β := (Int × (Int × (Int × (Int × (Int × ((List TMap) × (Int × (Int × Unit))))))))) ((natOut_fn (a0, (a1, (a2, (a3, (a4, (a5, (a6, (a7, (a8, (a9, ())))))))))))) (fun r0 =>
  .opt (β := (Bool × Unit)) ((natLives_fn ())) (fun r1 =>
  .ite (!r1.1) (
   .opt (β := (Bool × Unit)) ((natLives_fn ())) (fun r2 =>
   .ite (r2.1) (
    .opt (β := (Bool × Unit)) ((eqMap2_fn (r0.1, (r0.2.1, (r0.2.2.1, (r0.2.2.2.1, (r0.2.2.2.2.1, (r0.2.2.2.2.2.1, (a0, (a1, (a2, (a3, (a4, (a5, ())))))))))))))) (fun r3 =>
    .ret (r3.1, ()))) (
    .ret (false, ())))) (
   .ite (!decide (r0.2.2.2.2.2.2.2.1 = (0 : Int))) (
    .opt (β := (Bool × Unit)) ((natLives_fn ())) (fun r2 =>
    .ite (r2.1) (
     .opt (β := (Bool × Unit)) ((eqMap2_fn (r0.1, (r0.2.1, (r0.2.2.1, (r0.2.2.2.1, (r0.2.2.2.2.1, (r0.2.2.2.2.2.1, (a0, (a1, (a2, (a3, (a4, (a5, ())))))))))))))) (fun r3 =>
     .ret (r3.1, ()))) (
     .ret (false, ())))) (
    .opt (β := (Int × Unit)) ((natRight_fn (r0.1, (r0.2.1, (r0.2.2.1, (r0.2.2.2.1, (r0.2.2.2.2.1, (r0.2.2.2.2.2.1, ())))))))) (fun r2 =>
    .ite (!decide (r2.1 = (0 : Int))) (
     .ret (false, ())) (
     .opt (β := ((Bool × Unit) ⊕ (Int × (Int × (Int × (Int × (Int × (Int × (Int × (Int × (Int × (Int × ((List TMap) × (Int × (Int × (Int × (Int × (Int × ((List TMap) × Unit))))))))))))))))))) ((natApart_loop5_7 ((0 : Int), (r0.2.2.2.2.2.1, (r0.2.2.2.2.2.2.1, (a9, (a8, (a7, (a6, ((↑(List.length r0.2.2.2.2.2.1) : Int), (r0.1, (r0.2.1, (r0.2.2.1, (r0.2.2.2.1, (r0.2.2.2.2.1, (r0.2.2.2.2.2.1, (a0, (a1, (a2, (a3, (a4, (a5, ())))))))))))))))))))))) (fun r3 =>
     .sum (β := (Bool × Unit)) (γ := (Int × (Int × (Int × (Int × (Int × (Int × (Int × (Int × (Int × (Int × ((List TMap) × (Int × (Int × (Int × (Int × (Int × ((List TMap) × Unit)))))))))))))))))) (r3) (fun r4 =>
      .ret (r4.1, ())) (fun r4 =>
      .opt (β := ((Bool × Unit) ⊕ Unit)) ((natApart_loop5_17 ((0 : Int), (r4.1, (r4.2.1, (r4.2.2.1, (r4.2.2.2.1, (r4.2.2.2.2.1, (r4.2.2.2.2.2.2.2.2.2.2.1, ((↑(List.length r4.2.2.2.2.2.2.2.2.2.2.1) : Int), (r4.2.2.2.2.2.1, (r4.2.2.2.2.2.2.1, (r4.2.2.2.2.2.2.2.1, (r4.2.2.2.2.2.2.2.2.1, (r4.2.2.2.2.2.2.2.2.2.1, (r4.2.2.2.2.2.2.2.2.2.2.1, (r4.2.2.2.2.2.2.2.2.2.2.2.1, (r4.2.2.2.2.2.2.2.2.2.2.2.2.1, (r4.2.2.2.2.2.2.2.2.2.2.2.2.2.1, (r4.2.2.2.2.2.2.2.2.2.2.2.2.2.2.1, (r4.2.2.2.2.2.2.2.2.2.2.2.2.2.2.2.1, (r4.2.2.2.2.2.2.2.2.2.2.2.2.2.2.2.2.1, ())))))))))))))))))))))) (fun r5 =>
      .sum (β := (Bool × Unit)) (γ := Unit) (r5) (fun r6 =>
       .ret (r6.1, ())) (fun r6 =>
       .ret (true, ())))))))))))
theorem natApart_eq (x : (Int × (Int × (Int × (Int × (Int × ((List TMap) × (Int × (Int × (Int × (Int × Unit))))))))))) : fnTr Tryd.prog cod [tz64, FS.pf portsCheck, FS.pf portsLet, FS.pf portsEnd, clMap, GS.pf delMap, FS.pf eqMap, FS.pf natWithin, FS.pf natCheck, natPlace, GS.pf natExpire, FS.pf natOut, FS.pf natIn, FS.pf natLives, FS.pf eqMap2, FS.pf rBetween, FS.pf portsRight, FS.pf freePorts, FS.pf indexInt, FS.pf containsInt, FS.pf natTaken, FS.pf natRight, FS.pf idxMap, FS.pf containsMap, FS.pf natBack] [(5, natApart_L5_17), (5, natApart_L5_10), (5, natApart_L5_7)] 30 5 natApart_ap natApart_rp x = natApart_tree x := by kernel_rfl
def natApart_fn (x : (Int × (Int × (Int × (Int × (Int × ((List TMap) × (Int × (Int × (Int × (Int × Unit))))))))))) : Option (Bool × Unit) := (natApart_tree x).eval
def natApart : FS Tryd.prog := ⟨5, natApart_ap, natApart_rp, natApart_fn, fun x r h => fnTr_sound (cod := cod) (Γ := [tz64, FS.pf portsCheck, FS.pf portsLet, FS.pf portsEnd, clMap, GS.pf delMap, FS.pf eqMap, FS.pf natWithin, FS.pf natCheck, natPlace, GS.pf natExpire, FS.pf natOut, FS.pf natIn, FS.pf natLives, FS.pf eqMap2, FS.pf rBetween, FS.pf portsRight, FS.pf freePorts, FS.pf indexInt, FS.pf containsInt, FS.pf natTaken, FS.pf natRight, FS.pf idxMap, FS.pf containsMap, FS.pf natBack]) (Λs := [(5, natApart_L5_17), (5, natApart_L5_10), (5, natApart_L5_7)]) (n := 30) ((congrArg Tr.eval (natApart_eq x)).trans h)⟩
end Go.Proofs.YtcdcdmfecglemaaDoor.X
