/- Functions of the program, as trees (printed by a program of mine: tool/XTool, xg.py), each with the proof that the machine comes to what its tree says. Conditions: none. -/
import Derived.Test.YtcedkdopoigijaaCod
import Derived.KernelRfl
import Derived.Test.YtcedkdopoigijaaHBridge
namespace Go.Proofs.Ytcedkdopoigijaa.X
open Go Go.RowKit Go.Proofs.Ytcedkdopoigijaa.Abs
set_option maxRecDepth 100000
set_option linter.unusedVariables false
def eqStation_L72_4 : LS := ⟨4, [], ⟨26, [(13, .v (.one (.i .i64))), (1, .v (.one (.st 15 false))), (0, .v (.one (.st 15 false))), (12, .v (.one (.i .i64)))], []⟩, [⟨none, [], ⟨26, [(4, .v (.one (.b)))], []⟩⟩, ⟨some 0, [], ⟨26, [], []⟩⟩], []⟩
def eqStation_step72_4 : (Int × ((List TStation) × ((List TStation) × (Int × Unit)))) → Tr ((Int × ((List TStation) × ((List TStation) × (Int × Unit)))) ⊕ ((Bool × Unit) ⊕ Unit)) :=
  fun (a0, a1, a2, a3, _) =>
  .ite (decide (a0 < a3)) (
   .grd (decide ((0 : Int) ≤ a0)) (
   .opt (β := TStation) (a2[Int.toNat a0]?) (fun r0 =>
   .grd (decide ((0 : Int) ≤ a0)) (
   .opt (β := TStation) (a1[Int.toNat a0]?) (fun r1 =>
   .ite (!(decide (r0.m0 = r1.m0) && (decide (r0.m1 = r1.m1) && (decide (r0.m2 = r1.m2) && (decide (r0.m3 = r1.m3) && (decide (r0.m4 = r1.m4) && (decide (r0.m5 = r1.m5) && true))))) && (decide (r0.port = r1.port) && (decide (r0.at' = r1.at') && true)))) (
    .ret (Sum.inr (Sum.inl (false, ())))) (
    .ret (Sum.inl (IntKind.wrap IntKind.i64 (a0 + (1 : Int)), (a1, (a2, (a3, ()))))))))))) (
   .ret (Sum.inr (Sum.inr ())))
def eqStation_loop72_4 (x : (Int × ((List TStation) × ((List TStation) × (Int × Unit))))) : Option ((Bool × Unit) ⊕ Unit) := loopO 720004 (fun x => (eqStation_step72_4 x).eval) 18446744073709551616 x
def eqStation_ap : List VP1 := [.one (.st 15 false), .one (.st 15 false)]
def eqStation_rp : SP := ⟨1, [(0, .v (.one (.b)))], []⟩
def eqStation_tree : ((List TStation) × ((List TStation) × Unit)) → Tr (Bool × Unit) :=
  fun (a0, a1, _) =>
  .ite (!decide ((↑(List.length a0) : Int) = (↑(List.length a1) : Int))) (
   .ret (false, ())) (
   .opt (β := ((Bool × Unit) ⊕ Unit)) ((eqStation_loop72_4 ((0 : Int), (a1, (a0, ((↑(List.length a0) : Int), ())))))) (fun r0 =>
   .sum (β := (Bool × Unit)) (γ := Unit) (r0) (fun r1 =>
    .ret (r1.1, ())) (fun r1 =>
    .ret (true, ()))))
theorem eqStation_eq (x : ((List TStation) × ((List TStation) × Unit))) : fnTr Try.prog cod [FS.pf ethMany, FS.pf ethWrite, FS.pf ethRead, clStation, GS.pf delStation, FS.pf brCheck, FS.pf brLast, FS.pf brFind, GS.pf dfStation, GS.pf brLearn, FS.pf brHear, FS.pf brWhere] [(72, eqStation_L72_4)] 30 72 eqStation_ap eqStation_rp x = eqStation_tree x := by kernel_rfl
def eqStation_fn (x : ((List TStation) × ((List TStation) × Unit))) : Option (Bool × Unit) := (eqStation_tree x).eval
def eqStation : FS Try.prog := ⟨72, eqStation_ap, eqStation_rp, eqStation_fn, fun x r h => fnTr_sound (cod := cod) (Γ := [FS.pf ethMany, FS.pf ethWrite, FS.pf ethRead, clStation, GS.pf delStation, FS.pf brCheck, FS.pf brLast, FS.pf brFind, GS.pf dfStation, GS.pf brLearn, FS.pf brHear, FS.pf brWhere]) (Λs := [(72, eqStation_L72_4)]) (n := 30) ((congrArg Tr.eval (eqStation_eq x)).trans h)⟩
def bridgeLives_L44_4 : LS := ⟨4, [], ⟨26, [(13, .v (.one (.i .i64))), (1, .v (.one (.st 0 false))), (0, .v (.one (.st 0 false))), (12, .v (.one (.i .i64)))], []⟩, [⟨none, [], ⟨26, [(4, .v (.one (.b)))], []⟩⟩, ⟨some 0, [], ⟨26, [], []⟩⟩], []⟩
def bridgeLives_step44_4 : (Int × ((List Int) × ((List Int) × (Int × Unit)))) → Tr ((Int × ((List Int) × ((List Int) × (Int × Unit)))) ⊕ ((Bool × Unit) ⊕ Unit)) :=
  fun (a0, a1, a2, a3, _) =>
  .ite (decide (a0 < a3)) (
   .grd (decide ((0 : Int) ≤ a0)) (
   .opt (β := Int) (a2[Int.toNat a0]?) (fun r0 =>
   .grd (decide ((0 : Int) ≤ a0)) (
   .opt (β := Int) (a1[Int.toNat a0]?) (fun r1 =>
   .ite (!decide (r0 = r1)) (
    .ret (Sum.inr (Sum.inl (false, ())))) (
    .ret (Sum.inl (IntKind.wrap IntKind.i64 (a0 + (1 : Int)), (a1, (a2, (a3, ()))))))))))) (
   .ret (Sum.inr (Sum.inr ())))
def bridgeLives_loop44_4 (x : (Int × ((List Int) × ((List Int) × (Int × Unit))))) : Option ((Bool × Unit) ⊕ Unit) := loopO 440004 (fun x => (bridgeLives_step44_4 x).eval) 18446744073709551616 x
def bridgeLives_ap : List VP1 := []
def bridgeLives_rp : SP := ⟨1, [(0, .v (.one (.b)))], []⟩
def bridgeLives_tree : Unit → Tr (Bool × Unit) :=
  fun (_) =>
  .opt (β := ((List UInt8) × (Int × Unit))) ((ethWrite_fn ((4 : Int), ((0 : Int), ((0 : Int), ((0 : Int), ((0 : Int), ((0 : Int), ((2 : Int), ((0 : Int), ((0 : Int), ((0 : Int), ((0 : Int), ((0 : Int), ((-1 : Int), ((0 : Int), ([], ()))))))))))))))))) (fun r0 =>
  .opt (β := (Int × (Int × ((List TStation) × ((List Int) × (Int × Unit)))))) ((brHear_fn ((3 : Int), ((5 : Int), ([], ((1 : Int), ((7 : Int), (r0.1, ())))))))) (fun r1 =>
  .opt (β := (Int × (Int × Unit))) ((brWhere_fn (r1.1, (r1.2.1, (r1.2.2.1, ((2 : Int), ((0 : Int), ((0 : Int), ((0 : Int), ((0 : Int), ((0 : Int), ((12 : Int), ())))))))))))) (fun r2 =>
  .ite (decide (r0.2.1 = (0 : Int))) (
   .ite (decide (r1.2.2.2.2.1 = (0 : Int))) (
    .ite (decide (r2.2.1 = (0 : Int))) (
     .ite (decide (r2.1 = (1 : Int))) (
      .ite (!decide ((↑(List.length r1.2.2.2.1) : Int) = (↑(List.length [(0 : Int), (2 : Int)]) : Int))) (
       .ret (false, ())) (
       .opt (β := ((Bool × Unit) ⊕ Unit)) ((bridgeLives_loop44_4 ((0 : Int), ([(0 : Int), (2 : Int)], (r1.2.2.2.1, ((↑(List.length r1.2.2.2.1) : Int), ())))))) (fun r3 =>
       .sum (β := (Bool × Unit)) (γ := Unit) (r3) (fun r4 =>
        .ret (r4.1, ())) (fun r4 =>
        .ret (true, ()))))) (
      .ret (false, ()))) (
     .ret (false, ()))) (
    .ret (false, ()))) (
   .ret (false, ())))))
theorem bridgeLives_eq (x : Unit) : fnTr Try.prog cod [FS.pf ethMany, FS.pf ethWrite, FS.pf ethRead, clStation, GS.pf delStation, FS.pf brCheck, FS.pf brLast, FS.pf brFind, GS.pf dfStation, GS.pf brLearn, FS.pf brHear, FS.pf brWhere, FS.pf eqStation] [(44, bridgeLives_L44_4)] 30 40 bridgeLives_ap bridgeLives_rp x = bridgeLives_tree x := by kernel_rfl
def bridgeLives_fn (x : Unit) : Option (Bool × Unit) := (bridgeLives_tree x).eval
def bridgeLives : FS Try.prog := ⟨40, bridgeLives_ap, bridgeLives_rp, bridgeLives_fn, fun x r h => fnTr_sound (cod := cod) (Γ := [FS.pf ethMany, FS.pf ethWrite, FS.pf ethRead, clStation, GS.pf delStation, FS.pf brCheck, FS.pf brLast, FS.pf brFind, GS.pf dfStation, GS.pf brLearn, FS.pf brHear, FS.pf brWhere, FS.pf eqStation]) (Λs := [(44, bridgeLives_L44_4)]) (n := 30) ((congrArg Tr.eval (bridgeLives_eq x)).trans h)⟩
def rBetween_ap : List VP1 := [.one (.i .i64), .one (.i .i64), .one (.i .i64)]
def rBetween_rp : SP := ⟨1, [(0, .v (.one (.b)))], []⟩
def rBetween_tree : (Int × (Int × (Int × Unit))) → Tr (Bool × Unit) :=
  fun (a0, a1, a2, _) =>
  .ite (decide (a1 ≤ a0)) (
   .ret (decide (a0 ≤ a2), ())) (
   .ret (false, ()))
theorem rBetween_eq (x : (Int × (Int × (Int × Unit)))) : fnTr Try.prog cod [FS.pf ethMany, FS.pf ethWrite, FS.pf ethRead, clStation, GS.pf delStation, FS.pf brCheck, FS.pf brLast, FS.pf brFind, GS.pf dfStation, GS.pf brLearn, FS.pf brHear, FS.pf brWhere, FS.pf eqStation, FS.pf bridgeLives] [] 30 61 rBetween_ap rBetween_rp x = rBetween_tree x := by kernel_rfl
def rBetween_fn (x : (Int × (Int × (Int × Unit)))) : Option (Bool × Unit) := (rBetween_tree x).eval
def rBetween : FS Try.prog := ⟨61, rBetween_ap, rBetween_rp, rBetween_fn, fun x r h => fnTr_sound (cod := cod) (Γ := [FS.pf ethMany, FS.pf ethWrite, FS.pf ethRead, clStation, GS.pf delStation, FS.pf brCheck, FS.pf brLast, FS.pf brFind, GS.pf dfStation, GS.pf brLearn, FS.pf brHear, FS.pf brWhere, FS.pf eqStation, FS.pf bridgeLives]) (Λs := []) (n := 30) ((congrArg Tr.eval (rBetween_eq x)).trans h)⟩
def bridgeRight_L46_11 : LS := ⟨11, [(4, 4), (1, 1)], ⟨72, [(54, .v (.one (.i .i64))), (4, .v (.one (.ptr 4 0))), (52, .v (.one (.st 15 false))), (1, .v (.one (.ptr 1 0))), (22, .v (.one (.st 15 false))), (23, .v (.one (.i .i64))), (24, .v (.one (.i .i64))), (53, .v (.one (.i .i64)))], [(4, .cells [.i .u8, .i .u8, .i .u8, .i .u8, .i .u8, .i .u8, .i .i64, .i .i64]), (1, .cells [.i .i64, .i .i64, .st 15 false])]⟩, [⟨none, [], ⟨72, [(2, .v (.one (.i .i64)))], []⟩⟩, ⟨some 2, [(1, 1)], ⟨72, [(1, .v (.one (.ptr 1 0))), (22, .v (.one (.st 15 false))), (23, .v (.one (.i .i64))), (24, .v (.one (.i .i64)))], [(1, .cells [.i .i64, .i .i64, .st 15 false])]⟩⟩], []⟩
def bridgeRight_step46_11 : (Int × ((List TStation) × ((List TStation) × (Int × (Int × (Int × (Int × (Int × (Int × (Int × (Int × (Int × (Int × (Int × (Int × (Int × ((List TStation) × Unit))))))))))))))))) → Tr ((Int × ((List TStation) × ((List TStation) × (Int × (Int × (Int × (Int × (Int × (Int × (Int × (Int × (Int × (Int × (Int × (Int × (Int × ((List TStation) × Unit))))))))))))))))) ⊕ ((Int × Unit) ⊕ ((List TStation) × (Int × (Int × (Int × (Int × ((List TStation) × Unit)))))))) :=
  fun (a0, a1, a2, a3, a4, a5, a6, a7, a8, a9, a10, a11, a12, a13, a14, a15, a16, _) =>
  .ite (decide (a0 < a5)) (
   .grd (decide ((0 : Int) ≤ a0)) (
   .opt (β := TStation) (a1[Int.toNat a0]?) (fun r0 =>
   .ite (decide (r0.m0 = a6) && (decide (r0.m1 = a7) && (decide (r0.m2 = a8) && (decide (r0.m3 = a9) && (decide (r0.m4 = a10) && (decide (r0.m5 = a11) && true)))))) (
    .ret (Sum.inr (Sum.inl ((4 : Int), ())))) (
    .ite (decide (a13 < r0.at')) (
     .ret (Sum.inr (Sum.inl ((4 : Int), ())))) (
     .ret (Sum.inl (IntKind.wrap IntKind.i64 (a0 + (1 : Int)), (a1, (a2, (a3, (a4, (a5, (a6, (a7, (a8, (a9, (a10, (a11, (a12, (a13, (a14, (a15, (a16, ()))))))))))))))))))))))) (
   .ret (Sum.inr (Sum.inr (a2, (a3, (a4, (a14, (a15, (a16, ())))))))))
def bridgeRight_loop46_11 (x : (Int × ((List TStation) × ((List TStation) × (Int × (Int × (Int × (Int × (Int × (Int × (Int × (Int × (Int × (Int × (Int × (Int × (Int × ((List TStation) × Unit)))))))))))))))))) : Option ((Int × Unit) ⊕ ((List TStation) × (Int × (Int × (Int × (Int × ((List TStation) × Unit))))))) := loopO 460011 (fun x => (bridgeRight_step46_11 x).eval) 18446744073709551616 x
def bridgeRight_L46_6 : LS := ⟨6, [(1, 1)], ⟨72, [(24, .v (.one (.i .i64))), (1, .v (.one (.ptr 1 0))), (22, .v (.one (.st 15 false))), (23, .v (.one (.i .i64)))], [(1, .cells [.i .i64, .i .i64, .st 15 false])]⟩, [⟨none, [], ⟨72, [(2, .v (.one (.i .i64)))], []⟩⟩, ⟨some 0, [], ⟨72, [], []⟩⟩], []⟩
def bridgeRight_step46_6 : (Int × ((List TStation) × (Int × (Int × (Int × ((List TStation) × Unit)))))) → Tr ((Int × ((List TStation) × (Int × (Int × (Int × ((List TStation) × Unit)))))) ⊕ ((Int × Unit) ⊕ Unit)) :=
  fun (a0, a1, a2, a3, a4, a5, _) =>
  .ite (decide (a0 < a2)) (
   .grd (decide ((0 : Int) ≤ a0)) (
   .opt (β := TStation) (a1[Int.toNat a0]?) (fun r0 =>
   .opt (β := (Bool × Unit)) ((rBetween_fn (r0.port, ((0 : Int), (IntKind.wrap IntKind.i64 (a3 - (1 : Int)), ()))))) (fun r1 =>
   .ite (!r1.1) (
    .ret (Sum.inr (Sum.inl ((4 : Int), ())))) (
    .opt (β := (Bool × Unit)) ((rBetween_fn (r0.at', ((0 : Int), ((1099511627776 : Int), ()))))) (fun r2 =>
    .ite (!r2.1) (
     .ret (Sum.inr (Sum.inl ((4 : Int), ())))) (
     .grd (true) (
     .ite (decide (Int.tmod r0.m0 (2 : Int) = (1 : Int))) (
      .ret (Sum.inr (Sum.inl ((4 : Int), ())))) (
      .grd (decide ((0 : Int) ≤ (0 : Int) ∧ (0 : Int) ≤ a0 ∧ a0 ≤ (↑(List.length a5) : Int))) (
      .opt (β := ((Int × Unit) ⊕ ((List TStation) × (Int × (Int × (Int × (Int × ((List TStation) × Unit)))))))) ((bridgeRight_loop46_11 ((0 : Int), (List.drop (0 : Nat) (List.take (Int.toNat a0) a5), (a1, (a2, (a0, ((↑(List.length (List.drop (0 : Nat) (List.take (Int.toNat a0) a5))) : Int), (r0.m0, (r0.m1, (r0.m2, (r0.m3, (r0.m4, (r0.m5, (r0.port, (r0.at', (a3, (a4, (a5, ()))))))))))))))))))) (fun r3 =>
      .sum (β := (Int × Unit)) (γ := ((List TStation) × (Int × (Int × (Int × (Int × ((List TStation) × Unit))))))) (r3) (fun r4 =>
       .ret (Sum.inr (Sum.inl (r4.1, ())))) (fun r4 =>
       .ret (Sum.inl (IntKind.wrap IntKind.i64 (r4.2.2.1 + (1 : Int)), (r4.1, (r4.2.1, (r4.2.2.2.1, (r4.2.2.2.2.1, (r4.2.2.2.2.2.1, ()))))))))))))))))))) (
   .ret (Sum.inr (Sum.inr ())))
def bridgeRight_loop46_6 (x : (Int × ((List TStation) × (Int × (Int × (Int × ((List TStation) × Unit))))))) : Option ((Int × Unit) ⊕ Unit) := loopO 460006 (fun x => (bridgeRight_step46_6 x).eval) 18446744073709551616 x
def bridgeRight_ap : List VP1 := [.agg [.i .i64, .i .i64, .st 15 false]]
def bridgeRight_rp : SP := ⟨1, [(0, .v (.one (.i .i64)))], []⟩
def bridgeRight_tree : (Int × (Int × ((List TStation) × Unit))) → Tr (Int × Unit) :=
  fun (a0, a1, a2, _) =>
  .opt (β := (Bool × Unit)) ((rBetween_fn (a0, ((2 : Int), ((16 : Int), ()))))) (fun r0 =>
  .ite (!r0.1) (
   .ret ((1 : Int), ())) (
   .opt (β := (Bool × Unit)) ((rBetween_fn (a1, ((1 : Int), ((1000000 : Int), ()))))) (fun r1 =>
   .ite (!r1.1) (
    .ret ((1 : Int), ())) (
    .ite (decide ((64 : Int) < (↑(List.length a2) : Int))) (
     .ret ((2 : Int), ())) (
     .opt (β := ((Int × Unit) ⊕ Unit)) ((bridgeRight_loop46_6 ((0 : Int), (a2, ((↑(List.length a2) : Int), (a0, (a1, (a2, ())))))))) (fun r2 =>
     .sum (β := (Int × Unit)) (γ := Unit) (r2) (fun r3 =>
      .ret (r3.1, ())) (fun r3 =>
      .ret ((0 : Int), ()))))))))
theorem bridgeRight_eq (x : (Int × (Int × ((List TStation) × Unit)))) : fnTr Try.prog cod [FS.pf ethMany, FS.pf ethWrite, FS.pf ethRead, clStation, GS.pf delStation, FS.pf brCheck, FS.pf brLast, FS.pf brFind, GS.pf dfStation, GS.pf brLearn, FS.pf brHear, FS.pf brWhere, FS.pf eqStation, FS.pf bridgeLives, FS.pf rBetween] [(46, bridgeRight_L46_11), (46, bridgeRight_L46_6)] 30 46 bridgeRight_ap bridgeRight_rp x = bridgeRight_tree x := by kernel_rfl
def bridgeRight_fn (x : (Int × (Int × ((List TStation) × Unit)))) : Option (Int × Unit) := (bridgeRight_tree x).eval
def bridgeRight : FS Try.prog := ⟨46, bridgeRight_ap, bridgeRight_rp, bridgeRight_fn, fun x r h => fnTr_sound (cod := cod) (Γ := [FS.pf ethMany, FS.pf ethWrite, FS.pf ethRead, clStation, GS.pf delStation, FS.pf brCheck, FS.pf brLast, FS.pf brFind, GS.pf dfStation, GS.pf brLearn, FS.pf brHear, FS.pf brWhere, FS.pf eqStation, FS.pf bridgeLives, FS.pf rBetween]) (Λs := [(46, bridgeRight_L46_11), (46, bridgeRight_L46_6)]) (n := 30) ((congrArg Tr.eval (bridgeRight_eq x)).trans h)⟩
def sameBridge_ap : List VP1 := [.agg [.i .i64, .i .i64, .st 15 false], .agg [.i .i64, .i .i64, .st 15 false]]
def sameBridge_rp : SP := ⟨1, [(0, .v (.one (.b)))], []⟩
def sameBridge_tree : (Int × (Int × ((List TStation) × (Int × (Int × ((List TStation) × Unit)))))) → Tr (Bool × Unit) :=
  fun (a0, a1, a2, a3, a4, a5, _) =>
  .ite (decide (a0 = a3)) (
   .ite (decide (a1 = a4)) (
    .opt (β := (Bool × Unit)) ((eqStation_fn (a2, (a5, ())))) (fun r0 =>
    .ret (r0.1, ()))) (
    .ret (false, ()))) (
   .ret (false, ()))
theorem sameBridge_eq (x : (Int × (Int × ((List TStation) × (Int × (Int × ((List TStation) × Unit))))))) : fnTr Try.prog cod [FS.pf ethMany, FS.pf ethWrite, FS.pf ethRead, clStation, GS.pf delStation, FS.pf brCheck, FS.pf brLast, FS.pf brFind, GS.pf dfStation, GS.pf brLearn, FS.pf brHear, FS.pf brWhere, FS.pf eqStation, FS.pf bridgeLives, FS.pf rBetween, FS.pf bridgeRight] [] 30 45 sameBridge_ap sameBridge_rp x = sameBridge_tree x := by kernel_rfl
def sameBridge_fn (x : (Int × (Int × ((List TStation) × (Int × (Int × ((List TStation) × Unit))))))) : Option (Bool × Unit) := (sameBridge_tree x).eval
def sameBridge : FS Try.prog := ⟨45, sameBridge_ap, sameBridge_rp, sameBridge_fn, fun x r h => fnTr_sound (cod := cod) (Γ := [FS.pf ethMany, FS.pf ethWrite, FS.pf ethRead, clStation, GS.pf delStation, FS.pf brCheck, FS.pf brLast, FS.pf brFind, GS.pf dfStation, GS.pf brLearn, FS.pf brHear, FS.pf brWhere, FS.pf eqStation, FS.pf bridgeLives, FS.pf rBetween, FS.pf bridgeRight]) (Λs := []) (n := 30) ((congrArg Tr.eval (sameBridge_eq x)).trans h)⟩
def bridgeEcho_L12_5 : LS := ⟨5, [(4, 4), (9, 9)], ⟨118, [(44, .v (.one (.i .i64))), (10, .v (.one (.st 0 true))), (1, .v (.one (.i .i64))), (4, .v (.one (.ptr 4 0))), (42, .v (.one (.st 0 true))), (9, .v (.one (.ptr 9 0))), (3, .v (.one (.s))), (43, .v (.one (.i .i64)))], [(4, .cells [.i .i64, .i .i64, .st 15 false]), (9, .cells [.i .i64, .i .i64, .st 15 true])]⟩, [⟨none, [], ⟨118, [(8, .v (.one (.b)))], []⟩⟩, ⟨some 0, [(4, 4), (9, 9)], ⟨118, [(4, .v (.one (.ptr 4 0))), (9, .v (.one (.ptr 9 0))), (10, .v (.one (.st 0 true))), (3, .v (.one (.s)))], [(4, .cells [.i .i64, .i .i64, .st 15 false]), (9, .cells [.i .i64, .i .i64, .st 15 true])]⟩⟩], []⟩
def bridgeEcho_step12_5 : (Int × ((List Int) × (Int × ((List Int) × ((List UInt8) × (Int × (Int × (Int × ((List TStation) × (Int × (Int × ((List TStation) × Unit)))))))))))) → Tr ((Int × ((List Int) × (Int × ((List Int) × ((List UInt8) × (Int × (Int × (Int × ((List TStation) × (Int × (Int × ((List TStation) × Unit)))))))))))) ⊕ ((Bool × Unit) ⊕ ((List Int) × ((List UInt8) × (Int × (Int × ((List TStation) × (Int × (Int × ((List TStation) × Unit)))))))))) :=
  fun (a0, a1, a2, a3, a4, a5, a6, a7, a8, a9, a10, a11, _) =>
  .ite (decide (a0 < a5)) (
   .grd (decide ((0 : Int) ≤ a0)) (
   .opt (β := Int) (a3[Int.toNat a0]?) (fun r0 =>
   .ite (decide (r0 < (0 : Int))) (
    .ret (Sum.inr (Sum.inl (false, ())))) (
    .ite (decide (a6 ≤ r0)) (
     .ret (Sum.inr (Sum.inl (false, ())))) (
     .ite (decide (r0 = a2)) (
      .ret (Sum.inr (Sum.inl (false, ())))) (
      .ite (decide ((0 : Int) < a0)) (
       .grd (decide ((0 : Int) ≤ IntKind.wrap IntKind.i64 (a0 - (1 : Int)))) (
       .opt (β := Int) (a1[Int.toNat (IntKind.wrap IntKind.i64 (a0 - (1 : Int)))]?) (fun r1 =>
       .ite (decide (r0 ≤ r1)) (
        .ret (Sum.inr (Sum.inl (false, ())))) (
        .ret (Sum.inl (IntKind.wrap IntKind.i64 (a0 + (1 : Int)), (a1, (a2, (a3, (a4, (a5, (a6, (a7, (a8, (a9, (a10, (a11, ()))))))))))))))))) (
       .ret (Sum.inl (IntKind.wrap IntKind.i64 (a0 + (1 : Int)), (a1, (a2, (a3, (a4, (a5, (a6, (a7, (a8, (a9, (a10, (a11, ())))))))))))))))))))) (
   .ret (Sum.inr (Sum.inr (a1, (a4, (a6, (a7, (a8, (a9, (a10, (a11, ())))))))))))
def bridgeEcho_loop12_5 (x : (Int × ((List Int) × (Int × ((List Int) × ((List UInt8) × (Int × (Int × (Int × ((List TStation) × (Int × (Int × ((List TStation) × Unit))))))))))))) : Option ((Bool × Unit) ⊕ ((List Int) × ((List UInt8) × (Int × (Int × ((List TStation) × (Int × (Int × ((List TStation) × Unit))))))))) := loopO 120005 (fun x => (bridgeEcho_step12_5 x).eval) 18446744073709551616 x
def bridgeEcho_ap : List VP1 := [.agg [.i .i64, .i .i64, .st 15 false], .one (.i .i64), .one (.i .i64), .one (.s)]
def bridgeEcho_rp : SP := ⟨1, [(0, .v (.one (.b)))], []⟩
def bridgeEcho_tree : (Int × (Int × ((List TStation) × (Int × (Int × ((List UInt8) × Unit)))))) → Tr (Bool × Unit) :=
  fun (a0, a1, a2, a3, a4, a5, _) =>
  .opt (β := (Int × (Int × ((List TStation) × ((List Int) × (Int × Unit)))))) ((brHear_fn (a0, (a1, (a2, (a3, (a4, (a5, ())))))))) (fun r0 =>
  .opt (β := (Bool × Unit)) ((bridgeLives_fn ())) (fun r1 =>
  .ite (!r1.1) (
   .opt (β := (Bool × Unit)) ((bridgeLives_fn ())) (fun r2 =>
   .ite (r2.1) (
    .ite (decide ((↑(List.length r0.2.2.2.1) : Int) = (0 : Int))) (
     .opt (β := (Bool × Unit)) ((sameBridge_fn (r0.1, (r0.2.1, (r0.2.2.1, (a0, (a1, (a2, ())))))))) (fun r3 =>
     .ret (r3.1, ()))) (
     .ret (false, ()))) (
    .ret (false, ())))) (
   .ite (!decide (r0.2.2.2.2.1 = (0 : Int))) (
    .opt (β := (Bool × Unit)) ((bridgeLives_fn ())) (fun r2 =>
    .ite (r2.1) (
     .ite (decide ((↑(List.length r0.2.2.2.1) : Int) = (0 : Int))) (
      .opt (β := (Bool × Unit)) ((sameBridge_fn (r0.1, (r0.2.1, (r0.2.2.1, (a0, (a1, (a2, ())))))))) (fun r3 =>
      .ret (r3.1, ()))) (
      .ret (false, ()))) (
     .ret (false, ())))) (
    .opt (β := ((Bool × Unit) ⊕ ((List Int) × ((List UInt8) × (Int × (Int × ((List TStation) × (Int × (Int × ((List TStation) × Unit)))))))))) ((bridgeEcho_loop12_5 ((0 : Int), (r0.2.2.2.1, (a3, (r0.2.2.2.1, (a5, ((↑(List.length r0.2.2.2.1) : Int), (a0, (a1, (a2, (r0.1, (r0.2.1, (r0.2.2.1, ())))))))))))))) (fun r2 =>
    .sum (β := (Bool × Unit)) (γ := ((List Int) × ((List UInt8) × (Int × (Int × ((List TStation) × (Int × (Int × ((List TStation) × Unit))))))))) (r2) (fun r3 =>
     .ret (r3.1, ())) (fun r3 =>
     .opt (β := (Int × (Int × (Int × (Int × (Int × (Int × (Int × (Int × (Int × (Int × (Int × (Int × (Int × (Int × ((List UInt8) × (Int × Unit))))))))))))))))) ((ethRead_fn (r3.2.1, ()))) (fun r4 =>
     .opt (β := (Bool × Unit)) ((ethMany_fn (r4.1, (r4.2.1, (r4.2.2.1, (r4.2.2.2.1, (r4.2.2.2.2.1, (r4.2.2.2.2.2.1, ())))))))) (fun r5 =>
     .ite (r5.1) (
      .ite (!decide ((↑(List.length r3.1) : Int) = IntKind.wrap IntKind.i64 (r3.2.2.1 - (1 : Int)))) (
       .ret (false, ())) (
       .ite (decide ((↑(List.length r3.1) : Int) ≤ (1 : Int))) (
        .opt (β := (Int × Unit)) ((bridgeRight_fn (r3.2.2.2.2.2.1, (r3.2.2.2.2.2.2.1, (r3.2.2.2.2.2.2.2.1, ()))))) (fun r6 =>
        .ite (decide (r6.1 = (0 : Int))) (
         .ret (decide ((↑(List.length r3.2.2.2.2.2.2.2.1) : Int) ≤ IntKind.wrap IntKind.i64 ((↑(List.length r3.2.2.2.2.1) : Int) + (1 : Int))), ())) (
         .ret (false, ())))) (
        .ite (decide ((↑(List.length r3.1) : Int) = IntKind.wrap IntKind.i64 (r3.2.2.1 - (1 : Int)))) (
         .opt (β := (Int × Unit)) ((bridgeRight_fn (r3.2.2.2.2.2.1, (r3.2.2.2.2.2.2.1, (r3.2.2.2.2.2.2.2.1, ()))))) (fun r6 =>
         .ite (decide (r6.1 = (0 : Int))) (
          .ret (decide ((↑(List.length r3.2.2.2.2.2.2.2.1) : Int) ≤ IntKind.wrap IntKind.i64 ((↑(List.length r3.2.2.2.2.1) : Int) + (1 : Int))), ())) (
          .ret (false, ())))) (
         .ret (false, ()))))) (
      .ite (decide ((↑(List.length r3.1) : Int) ≤ (1 : Int))) (
       .opt (β := (Int × Unit)) ((bridgeRight_fn (r3.2.2.2.2.2.1, (r3.2.2.2.2.2.2.1, (r3.2.2.2.2.2.2.2.1, ()))))) (fun r6 =>
       .ite (decide (r6.1 = (0 : Int))) (
        .ret (decide ((↑(List.length r3.2.2.2.2.2.2.2.1) : Int) ≤ IntKind.wrap IntKind.i64 ((↑(List.length r3.2.2.2.2.1) : Int) + (1 : Int))), ())) (
        .ret (false, ())))) (
       .ite (decide ((↑(List.length r3.1) : Int) = IntKind.wrap IntKind.i64 (r3.2.2.1 - (1 : Int)))) (
        .opt (β := (Int × Unit)) ((bridgeRight_fn (r3.2.2.2.2.2.1, (r3.2.2.2.2.2.2.1, (r3.2.2.2.2.2.2.2.1, ()))))) (fun r6 =>
        .ite (decide (r6.1 = (0 : Int))) (
         .ret (decide ((↑(List.length r3.2.2.2.2.2.2.2.1) : Int) ≤ IntKind.wrap IntKind.i64 ((↑(List.length r3.2.2.2.2.1) : Int) + (1 : Int))), ())) (
         .ret (false, ())))) (
        .ret (false, ()))))))))))))
theorem bridgeEcho_eq (x : (Int × (Int × ((List TStation) × (Int × (Int × ((List UInt8) × Unit))))))) : fnTr Try.prog cod [FS.pf ethMany, FS.pf ethWrite, FS.pf ethRead, clStation, GS.pf delStation, FS.pf brCheck, FS.pf brLast, FS.pf brFind, GS.pf dfStation, GS.pf brLearn, FS.pf brHear, FS.pf brWhere, FS.pf eqStation, FS.pf bridgeLives, FS.pf rBetween, FS.pf bridgeRight, FS.pf sameBridge] [(12, bridgeEcho_L12_5)] 30 12 bridgeEcho_ap bridgeEcho_rp x = bridgeEcho_tree x := by kernel_rfl
def bridgeEcho_fn (x : (Int × (Int × ((List TStation) × (Int × (Int × ((List UInt8) × Unit))))))) : Option (Bool × Unit) := (bridgeEcho_tree x).eval
def bridgeEcho : FS Try.prog := ⟨12, bridgeEcho_ap, bridgeEcho_rp, bridgeEcho_fn, fun x r h => fnTr_sound (cod := cod) (Γ := [FS.pf ethMany, FS.pf ethWrite, FS.pf ethRead, clStation, GS.pf delStation, FS.pf brCheck, FS.pf brLast, FS.pf brFind, GS.pf dfStation, GS.pf brLearn, FS.pf brHear, FS.pf brWhere, FS.pf eqStation, FS.pf bridgeLives, FS.pf rBetween, FS.pf bridgeRight, FS.pf sameBridge]) (Λs := [(12, bridgeEcho_L12_5)]) (n := 30) ((congrArg Tr.eval (bridgeEcho_eq x)).trans h)⟩
def bridgeBack_L44_4 : LS := ⟨4, [], ⟨26, [(13, .v (.one (.i .i64))), (1, .v (.one (.st 0 false))), (0, .v (.one (.st 0 false))), (12, .v (.one (.i .i64)))], []⟩, [⟨none, [], ⟨26, [(4, .v (.one (.b)))], []⟩⟩, ⟨some 0, [], ⟨26, [], []⟩⟩], []⟩
def bridgeBack_step44_4 : (Int × ((List Int) × ((List Int) × (Int × Unit)))) → Tr ((Int × ((List Int) × ((List Int) × (Int × Unit)))) ⊕ ((Bool × Unit) ⊕ Unit)) :=
  fun (a0, a1, a2, a3, _) =>
  .ite (decide (a0 < a3)) (
   .grd (decide ((0 : Int) ≤ a0)) (
   .opt (β := Int) (a2[Int.toNat a0]?) (fun r0 =>
   .grd (decide ((0 : Int) ≤ a0)) (
   .opt (β := Int) (a1[Int.toNat a0]?) (fun r1 =>
   .ite (!decide (r0 = r1)) (
    .ret (Sum.inr (Sum.inl (false, ())))) (
    .ret (Sum.inl (IntKind.wrap IntKind.i64 (a0 + (1 : Int)), (a1, (a2, (a3, ()))))))))))) (
   .ret (Sum.inr (Sum.inr ())))
def bridgeBack_loop44_4 (x : (Int × ((List Int) × ((List Int) × (Int × Unit))))) : Option ((Bool × Unit) ⊕ Unit) := loopO 440004 (fun x => (bridgeBack_step44_4 x).eval) 18446744073709551616 x
def bridgeBack_ap : List VP1 := [.agg [.i .i64, .i .i64, .st 15 false], .one (.i .i64), .one (.i .i64), .one (.i .i64), .one (.s), .one (.s), .one (.i .i64)]
def bridgeBack_rp : SP := ⟨1, [(0, .v (.one (.b)))], []⟩
def bridgeBack_tree : (Int × (Int × ((List TStation) × (Int × (Int × (Int × ((List UInt8) × ((List UInt8) × (Int × Unit))))))))) → Tr (Bool × Unit) :=
  fun (a0, a1, a2, a3, a4, a5, a6, a7, a8, _) =>
  .opt (β := (Int × (Int × ((List TStation) × ((List Int) × (Int × Unit)))))) ((brHear_fn (a0, (a1, (a2, (a3, (a4, (a6, ())))))))) (fun r0 =>
  .opt (β := (Int × (Int × (Int × (Int × (Int × (Int × (Int × (Int × (Int × (Int × (Int × (Int × (Int × (Int × ((List UInt8) × (Int × Unit))))))))))))))))) ((ethRead_fn (a6, ()))) (fun r1 =>
  .opt (β := (Bool × Unit)) ((bridgeLives_fn ())) (fun r2 =>
  .ite (!r2.1) (
   .opt (β := (Bool × Unit)) ((bridgeLives_fn ())) (fun r3 =>
   .ret (r3.1, ()))) (
   .ite (!decide (r0.2.2.2.2.1 = (0 : Int))) (
    .opt (β := (Bool × Unit)) ((bridgeLives_fn ())) (fun r3 =>
    .ret (r3.1, ()))) (
    .ite (decide (a5 < (0 : Int))) (
     .opt (β := (Bool × Unit)) ((bridgeLives_fn ())) (fun r3 =>
     .ret (r3.1, ()))) (
     .ite (decide (r0.2.1 < a5)) (
      .opt (β := (Bool × Unit)) ((bridgeLives_fn ())) (fun r3 =>
      .ret (r3.1, ()))) (
      .ite (decide ((1099511627776 : Int) < IntKind.wrap IntKind.i64 (a4 + a5))) (
       .opt (β := (Bool × Unit)) ((bridgeLives_fn ())) (fun r3 =>
       .ret (r3.1, ()))) (
       .ite (decide (a8 = a3)) (
        .opt (β := (Bool × Unit)) ((bridgeLives_fn ())) (fun r3 =>
        .ret (r3.1, ()))) (
        .opt (β := (Int × (Int × Unit))) ((brWhere_fn (r0.1, (r0.2.1, (r0.2.2.1, (r1.2.2.2.2.2.2.1, (r1.2.2.2.2.2.2.2.1, (r1.2.2.2.2.2.2.2.2.1, (r1.2.2.2.2.2.2.2.2.2.1, (r1.2.2.2.2.2.2.2.2.2.2.1, (r1.2.2.2.2.2.2.2.2.2.2.2.1, (IntKind.wrap IntKind.i64 (a4 + a5), ())))))))))))) (fun r3 =>
        .opt (β := (Int × (Int × (Int × (Int × (Int × (Int × (Int × (Int × (Int × (Int × (Int × (Int × (Int × (Int × ((List UInt8) × (Int × Unit))))))))))))))))) ((ethRead_fn (a7, ()))) (fun r4 =>
        .ite (!decide (r4.2.2.2.2.2.2.2.2.2.2.2.2.2.2.2.1 = (0 : Int))) (
         .ite (decide (r3.2.1 = (0 : Int))) (
          .ret (decide (r3.1 = a3), ())) (
          .ret (false, ()))) (
         .opt (β := (Bool × Unit)) ((ethMany_fn (r4.2.2.2.2.2.2.1, (r4.2.2.2.2.2.2.2.1, (r4.2.2.2.2.2.2.2.2.1, (r4.2.2.2.2.2.2.2.2.2.1, (r4.2.2.2.2.2.2.2.2.2.2.1, (r4.2.2.2.2.2.2.2.2.2.2.2.1, ())))))))) (fun r5 =>
         .ite (r5.1) (
          .ite (decide (r3.2.1 = (0 : Int))) (
           .ret (decide (r3.1 = a3), ())) (
           .ret (false, ()))) (
          .ite (decide (r4.2.2.2.2.2.2.1 = r1.2.2.2.2.2.2.1) && (decide (r4.2.2.2.2.2.2.2.1 = r1.2.2.2.2.2.2.2.1) && (decide (r4.2.2.2.2.2.2.2.2.1 = r1.2.2.2.2.2.2.2.2.1) && (decide (r4.2.2.2.2.2.2.2.2.2.1 = r1.2.2.2.2.2.2.2.2.2.1) && (decide (r4.2.2.2.2.2.2.2.2.2.2.1 = r1.2.2.2.2.2.2.2.2.2.2.1) && (decide (r4.2.2.2.2.2.2.2.2.2.2.2.1 = r1.2.2.2.2.2.2.2.2.2.2.2.1) && true)))))) (
           .ite (decide (r3.2.1 = (0 : Int))) (
            .ret (decide (r3.1 = a3), ())) (
            .ret (false, ()))) (
           .ite (decide (a8 < (0 : Int))) (
            .ite (decide (r3.2.1 = (0 : Int))) (
             .ret (decide (r3.1 = a3), ())) (
             .ret (false, ()))) (
            .ite (decide (r0.1 ≤ a8)) (
             .ite (decide (r3.2.1 = (0 : Int))) (
              .ret (decide (r3.1 = a3), ())) (
              .ret (false, ()))) (
             .opt (β := ((List UInt8) × (Int × Unit))) ((ethWrite_fn (r1.2.2.2.2.2.2.1, (r1.2.2.2.2.2.2.2.1, (r1.2.2.2.2.2.2.2.2.1, (r1.2.2.2.2.2.2.2.2.2.1, (r1.2.2.2.2.2.2.2.2.2.2.1, (r1.2.2.2.2.2.2.2.2.2.2.2.1, (r4.2.2.2.2.2.2.1, (r4.2.2.2.2.2.2.2.1, (r4.2.2.2.2.2.2.2.2.1, (r4.2.2.2.2.2.2.2.2.2.1, (r4.2.2.2.2.2.2.2.2.2.2.1, (r4.2.2.2.2.2.2.2.2.2.2.2.1, (r4.2.2.2.2.2.2.2.2.2.2.2.2.1, (r4.2.2.2.2.2.2.2.2.2.2.2.2.2.1, (r4.2.2.2.2.2.2.2.2.2.2.2.2.2.2.1, ()))))))))))))))))) (fun r6 =>
             .ite (!decide (r6.2.1 = (0 : Int))) (
              .ret (true, ())) (
              .opt (β := (Int × (Int × ((List TStation) × ((List Int) × (Int × Unit)))))) ((brHear_fn (r0.1, (r0.2.1, (r0.2.2.1, (a8, (IntKind.wrap IntKind.i64 (a4 + a5), (r6.1, ())))))))) (fun r7 =>
              .ite (decide (r3.2.1 = (0 : Int))) (
               .ite (decide (r3.1 = a3)) (
                .ite (decide (r7.2.2.2.2.1 = (0 : Int))) (
                 .ite (!decide ((↑(List.length r7.2.2.2.1) : Int) = (↑(List.length [a3]) : Int))) (
                  .ite (false) (
                   .ret (true, ())) (
                   .ret (decide ((↑(List.length r0.2.2.1) : Int) = (64 : Int)), ()))) (
                  .opt (β := ((Bool × Unit) ⊕ Unit)) ((bridgeBack_loop44_4 ((0 : Int), ([a3], (r7.2.2.2.1, ((↑(List.length r7.2.2.2.1) : Int), ())))))) (fun r8 =>
                  .sum (β := (Bool × Unit)) (γ := Unit) (r8) (fun r9 =>
                   .ite (r9.1) (
                    .ret (true, ())) (
                    .ret (decide ((↑(List.length r0.2.2.1) : Int) = (64 : Int)), ()))) (fun r9 =>
                   .ite (true) (
                    .ret (true, ())) (
                    .ret (decide ((↑(List.length r0.2.2.1) : Int) = (64 : Int)), ())))))) (
                 .ret (false, ()))) (
                .ret (false, ()))) (
               .ret (false, ()))))))))))))))))))))))
theorem bridgeBack_eq (x : (Int × (Int × ((List TStation) × (Int × (Int × (Int × ((List UInt8) × ((List UInt8) × (Int × Unit)))))))))) : fnTr Try.prog cod [FS.pf ethMany, FS.pf ethWrite, FS.pf ethRead, clStation, GS.pf delStation, FS.pf brCheck, FS.pf brLast, FS.pf brFind, GS.pf dfStation, GS.pf brLearn, FS.pf brHear, FS.pf brWhere, FS.pf eqStation, FS.pf bridgeLives, FS.pf rBetween, FS.pf bridgeRight, FS.pf sameBridge, FS.pf bridgeEcho] [(44, bridgeBack_L44_4)] 30 11 bridgeBack_ap bridgeBack_rp x = bridgeBack_tree x := by kernel_rfl
def bridgeBack_fn (x : (Int × (Int × ((List TStation) × (Int × (Int × (Int × ((List UInt8) × ((List UInt8) × (Int × Unit)))))))))) : Option (Bool × Unit) := (bridgeBack_tree x).eval
def bridgeBack : FS Try.prog := ⟨11, bridgeBack_ap, bridgeBack_rp, bridgeBack_fn, fun x r h => fnTr_sound (cod := cod) (Γ := [FS.pf ethMany, FS.pf ethWrite, FS.pf ethRead, clStation, GS.pf delStation, FS.pf brCheck, FS.pf brLast, FS.pf brFind, GS.pf dfStation, GS.pf brLearn, FS.pf brHear, FS.pf brWhere, FS.pf eqStation, FS.pf bridgeLives, FS.pf rBetween, FS.pf bridgeRight, FS.pf sameBridge, FS.pf bridgeEcho]) (Λs := [(44, bridgeBack_L44_4)]) (n := 30) ((congrArg Tr.eval (bridgeBack_eq x)).trans h)⟩
def bridgeBounds_L13_10 : LS := ⟨10, [(3, 3)], ⟨69, [(35, .v (.one (.i .i64))), (3, .v (.one (.ptr 3 0))), (7, .v (.one (.i .i64))), (1, .v (.one (.st 0 false))), (33, .v (.one (.st 3 false))), (34, .v (.one (.i .i64)))], [(3, .cells [.i .i64, .i .i64, .st 15 false])]⟩, [⟨none, [], ⟨69, [(6, .v (.one (.b)))], []⟩⟩, ⟨some 2, [], ⟨69, [], []⟩⟩], []⟩
def bridgeBounds_step13_10 : (Int × (Int × ((List Int) × ((List (List UInt8)) × (Int × (Int × (Int × ((List TStation) × Unit)))))))) → Tr ((Int × (Int × ((List Int) × ((List (List UInt8)) × (Int × (Int × (Int × ((List TStation) × Unit)))))))) ⊕ ((Bool × Unit) ⊕ Unit)) :=
  fun (a0, a1, a2, a3, a4, a5, a6, a7, _) =>
  .ite (decide (a0 < a4)) (
   .grd (decide ((0 : Int) ≤ a0)) (
   .opt (β := (List UInt8)) (a3[Int.toNat a0]?) (fun r0 =>
   .ite (decide (a0 < (↑(List.length a2) : Int))) (
    .grd (decide ((0 : Int) ≤ a0)) (
    .opt (β := Int) (a2[Int.toNat a0]?) (fun r1 =>
    .opt (β := (Int × (Int × ((List TStation) × ((List Int) × (Int × Unit)))))) ((brHear_fn (a5, (a6, (a7, (r1, (IntKind.wrap IntKind.i64 (a1 + a0), (r0, ())))))))) (fun r2 =>
    .opt (β := (Int × Unit)) ((bridgeRight_fn (r2.1, (r2.2.1, (r2.2.2.1, ()))))) (fun r3 =>
    .ite (!decide (r3.1 = (0 : Int))) (
     .ret (Sum.inr (Sum.inl (false, ())))) (
     .ite (decide ((64 : Int) < (↑(List.length r2.2.2.1) : Int))) (
      .ret (Sum.inr (Sum.inl (false, ())))) (
      .ret (Sum.inl (IntKind.wrap IntKind.i64 (a0 + (1 : Int)), (a1, (a2, (a3, (a4, (r2.1, (r2.2.1, (r2.2.2.1, ())))))))))))))))) (
    .opt (β := (Int × (Int × ((List TStation) × ((List Int) × (Int × Unit)))))) ((brHear_fn (a5, (a6, (a7, ((0 : Int), (IntKind.wrap IntKind.i64 (a1 + a0), (r0, ())))))))) (fun r1 =>
    .opt (β := (Int × Unit)) ((bridgeRight_fn (r1.1, (r1.2.1, (r1.2.2.1, ()))))) (fun r2 =>
    .ite (!decide (r2.1 = (0 : Int))) (
     .ret (Sum.inr (Sum.inl (false, ())))) (
     .ite (decide ((64 : Int) < (↑(List.length r1.2.2.1) : Int))) (
      .ret (Sum.inr (Sum.inl (false, ())))) (
      .ret (Sum.inl (IntKind.wrap IntKind.i64 (a0 + (1 : Int)), (a1, (a2, (a3, (a4, (r1.1, (r1.2.1, (r1.2.2.1, ()))))))))))))))))) (
   .ret (Sum.inr (Sum.inr ())))
def bridgeBounds_loop13_10 (x : (Int × (Int × ((List Int) × ((List (List UInt8)) × (Int × (Int × (Int × ((List TStation) × Unit))))))))) : Option ((Bool × Unit) ⊕ Unit) := loopO 130010 (fun x => (bridgeBounds_step13_10 x).eval) 18446744073709551616 x
def bridgeBounds_L13_5 : LS := ⟨5, [(3, 3)], ⟨69, [(24, .v (.one (.i .i64))), (7, .v (.one (.i .i64))), (22, .v (.one (.st 15 false))), (3, .v (.one (.ptr 3 0))), (1, .v (.one (.st 0 false))), (2, .v (.one (.st 3 false))), (23, .v (.one (.i .i64)))], [(3, .cells [.i .i64, .i .i64, .st 15 false])]⟩, [⟨some 0, [(3, 3)], ⟨69, [(3, .v (.one (.ptr 3 0))), (7, .v (.one (.i .i64))), (1, .v (.one (.st 0 false))), (2, .v (.one (.st 3 false)))], [(3, .cells [.i .i64, .i .i64, .st 15 false])]⟩⟩], []⟩
def bridgeBounds_step13_5 : (Int × (Int × ((List TStation) × ((List Int) × ((List (List UInt8)) × (Int × (Int × (Int × ((List TStation) × Unit))))))))) → Tr ((Int × (Int × ((List TStation) × ((List Int) × ((List (List UInt8)) × (Int × (Int × (Int × ((List TStation) × Unit))))))))) ⊕ (Int × ((List Int) × ((List (List UInt8)) × (Int × (Int × ((List TStation) × Unit))))))) :=
  fun (a0, a1, a2, a3, a4, a5, a6, a7, a8, _) =>
  .ite (decide (a0 < a5)) (
   .grd (decide ((0 : Int) ≤ a0)) (
   .opt (β := TStation) (a2[Int.toNat a0]?) (fun r0 =>
   .ret (Sum.inl (IntKind.wrap IntKind.i64 (a0 + (1 : Int)), (if false = true then if r0.at' < a1 then r0.at' else a1 else if r0.at' > a1 then r0.at' else a1, (a2, (a3, (a4, (a5, (a6, (a7, (a8, ()))))))))))))) (
   .ret (Sum.inr (a1, (a3, (a4, (a6, (a7, (a8, ()))))))))
def bridgeBounds_loop13_5 (x : (Int × (Int × ((List TStation) × ((List Int) × ((List (List UInt8)) × (Int × (Int × (Int × ((List TStation) × Unit)))))))))) : Option (Int × ((List Int) × ((List (List UInt8)) × (Int × (Int × ((List TStation) × Unit)))))) := loopO 130005 (fun x => (bridgeBounds_step13_5 x).eval) 18446744073709551616 x
def bridgeBounds_ap : List VP1 := [.agg [.i .i64, .i .i64, .st 15 false], .one (.st 0 false), .one (.st 3 false)]
def bridgeBounds_rp : SP := ⟨1, [(0, .v (.one (.b)))], []⟩
def bridgeBounds_tree : (Int × (Int × ((List TStation) × ((List Int) × ((List (List UInt8)) × Unit))))) → Tr (Bool × Unit) :=
  fun (a0, a1, a2, a3, a4, _) =>
  .opt (β := (Bool × Unit)) ((bridgeLives_fn ())) (fun r0 =>
  .ite (!r0.1) (
   .opt (β := (Bool × Unit)) ((bridgeLives_fn ())) (fun r1 =>
   .ret (r1.1, ()))) (
   .opt (β := (Int × Unit)) ((brCheck_fn (a0, (a1, (a2, ()))))) (fun r1 =>
   .ite (!decide (r1.1 = (0 : Int))) (
    .opt (β := (Bool × Unit)) ((bridgeLives_fn ())) (fun r2 =>
    .ret (r2.1, ()))) (
    .opt (β := (Int × ((List Int) × ((List (List UInt8)) × (Int × (Int × ((List TStation) × Unit))))))) ((bridgeBounds_loop13_5 ((0 : Int), ((0 : Int), (a2, (a3, (a4, ((↑(List.length a2) : Int), (a0, (a1, (a2, ()))))))))))) (fun r2 =>
    .opt (β := ((Bool × Unit) ⊕ Unit)) ((bridgeBounds_loop13_10 ((0 : Int), (r2.1, (r2.2.1, (r2.2.2.1, ((↑(List.length r2.2.2.1) : Int), (r2.2.2.2.1, (r2.2.2.2.2.1, (r2.2.2.2.2.2.1, ())))))))))) (fun r3 =>
    .sum (β := (Bool × Unit)) (γ := Unit) (r3) (fun r4 =>
     .ret (r4.1, ())) (fun r4 =>
     .ret (true, ()))))))))
theorem bridgeBounds_eq (x : (Int × (Int × ((List TStation) × ((List Int) × ((List (List UInt8)) × Unit)))))) : fnTr Try.prog cod [FS.pf ethMany, FS.pf ethWrite, FS.pf ethRead, clStation, GS.pf delStation, FS.pf brCheck, FS.pf brLast, FS.pf brFind, GS.pf dfStation, GS.pf brLearn, FS.pf brHear, FS.pf brWhere, FS.pf eqStation, FS.pf bridgeLives, FS.pf rBetween, FS.pf bridgeRight, FS.pf sameBridge, FS.pf bridgeEcho, FS.pf bridgeBack] [(13, bridgeBounds_L13_10), (13, bridgeBounds_L13_5)] 30 13 bridgeBounds_ap bridgeBounds_rp x = bridgeBounds_tree x := by kernel_rfl
def bridgeBounds_fn (x : (Int × (Int × ((List TStation) × ((List Int) × ((List (List UInt8)) × Unit)))))) : Option (Bool × Unit) := (bridgeBounds_tree x).eval
def bridgeBounds : FS Try.prog := ⟨13, bridgeBounds_ap, bridgeBounds_rp, bridgeBounds_fn, fun x r h => fnTr_sound (cod := cod) (Γ := [FS.pf ethMany, FS.pf ethWrite, FS.pf ethRead, clStation, GS.pf delStation, FS.pf brCheck, FS.pf brLast, FS.pf brFind, GS.pf dfStation, GS.pf brLearn, FS.pf brHear, FS.pf brWhere, FS.pf eqStation, FS.pf bridgeLives, FS.pf rBetween, FS.pf bridgeRight, FS.pf sameBridge, FS.pf bridgeEcho, FS.pf bridgeBack]) (Λs := [(13, bridgeBounds_L13_10), (13, bridgeBounds_L13_5)]) (n := 30) ((congrArg Tr.eval (bridgeBounds_eq x)).trans h)⟩
end Go.Proofs.Ytcedkdopoigijaa.X
