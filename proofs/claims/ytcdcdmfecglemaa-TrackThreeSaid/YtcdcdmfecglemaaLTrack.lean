/- Functions of the program, as trees (printed by a program of mine: tool/XTool, xg.py), each with the proof that the machine comes to what its tree says. Conditions: none. -/
import Derived.Test.YtcdcdmfecglemaaCod
import Derived.KernelRfl
import Derived.Test.YtcdcdmfecglemaaGTrack
namespace Go.Proofs.Ytcdcdmfecglemaa.X
open Go Go.RowKit Go.Proofs.Ytcdcdmfecglemaa.Abs
set_option maxRecDepth 100000
set_option linter.unusedVariables false
def trackLives_ap : List VP1 := []
def trackLives_rp : SP := ⟨1, [(0, .v (.one (.b)))], []⟩
def trackLives_tree : Unit → Tr (Bool × Unit) :=
  fun (_) =>
  .opt (β := ((List TTalk) × (Bool × (Int × Unit)))) ((trHear_fn ([], ((1 : Int), ((2 : Int), ((3 : Int), ((4 : Int), ((2 : Int), ((0 : Int), ()))))))))) (fun r0 =>
  .opt (β := ((List TTalk) × (Bool × (Int × Unit)))) ((trHear_fn (r0.1, ((2 : Int), ((1 : Int), ((4 : Int), ((3 : Int), ((18 : Int), ((1 : Int), ()))))))))) (fun r1 =>
  .opt (β := ((List TTalk) × (Bool × (Int × Unit)))) ((trHear_fn (r1.1, ((1 : Int), ((2 : Int), ((3 : Int), ((4 : Int), ((16 : Int), ((2 : Int), ()))))))))) (fun r2 =>
  .opt (β := (Int × (Int × (Int × (Int × (Int × (Int × (Int × (Bool × (Int × Unit)))))))))) ((trFind_fn (r2.1, ((1 : Int), ((2 : Int), ((3 : Int), ((4 : Int), ((3 : Int), ())))))))) (fun r3 =>
  .ite (r0.2.1) (
   .ite (r1.2.1) (
    .ite (r2.2.1) (
     .ite (r3.2.2.2.2.2.2.2.1) (
      .ite (decide (r0.2.2.1 = (0 : Int))) (
       .ite (decide (r1.2.2.1 = (0 : Int))) (
        .ite (decide (r2.2.2.1 = (0 : Int))) (
         .ite (decide (r3.2.2.2.2.2.2.2.2.1 = (0 : Int))) (
          .ret (decide (r3.1 = (1 : Int)) && (decide (r3.2.1 = (2 : Int)) && (decide (r3.2.2.1 = (3 : Int)) && (decide (r3.2.2.2.1 = (4 : Int)) && true))) && (decide (r3.2.2.2.2.1 = (3 : Int)) && (decide (r3.2.2.2.2.2.1 = (0 : Int)) && (decide (r3.2.2.2.2.2.2.1 = (2 : Int)) && true))), ())) (
          .ret (false, ()))) (
         .ret (false, ()))) (
        .ret (false, ()))) (
       .ret (false, ()))) (
      .ret (false, ()))) (
     .ret (false, ()))) (
    .ret (false, ()))) (
   .ret (false, ()))))))
theorem trackLives_eq (x : Unit) : fnTr Try.prog cod [clTalk, GS.pf delTalk, FS.pf eqTalk, FS.pf trTurned, FS.pf trPort, FS.pf trRoad, FS.pf trForm, FS.pf trPlace, FS.pf trCheck, FS.pf trOld, GS.pf dfTalk, GS.pf trOpen, GS.pf trPasses, FS.pf trHear, FS.pf trFind] [] 30 12 trackLives_ap trackLives_rp x = trackLives_tree x := by kernel_rfl
def trackLives_fn (x : Unit) : Option (Bool × Unit) := (trackLives_tree x).eval
def trackLives : FS Try.prog := ⟨12, trackLives_ap, trackLives_rp, trackLives_fn, fun x r h => fnTr_sound (cod := cod) (Γ := [clTalk, GS.pf delTalk, FS.pf eqTalk, FS.pf trTurned, FS.pf trPort, FS.pf trRoad, FS.pf trForm, FS.pf trPlace, FS.pf trCheck, FS.pf trOld, GS.pf dfTalk, GS.pf trOpen, GS.pf trPasses, FS.pf trHear, FS.pf trFind]) (Λs := []) (n := 30) ((congrArg Tr.eval (trackLives_eq x)).trans h)⟩
def rTurn_ap : List VP1 := [.agg [.i .u32, .i .u32, .i .i64, .i .i64]]
def rTurn_rp : SP := ⟨1, [(0, .v (.agg [.i .u32, .i .u32, .i .i64, .i .i64]))], []⟩
def rTurn_tree : (Int × (Int × (Int × (Int × Unit)))) → Tr (Int × (Int × (Int × (Int × Unit)))) :=
  fun (a0, a1, a2, a3, _) =>
  .ret (a1, (a0, (a3, (a2, ()))))
theorem rTurn_eq (x : (Int × (Int × (Int × (Int × Unit))))) : fnTr Try.prog cod [clTalk, GS.pf delTalk, FS.pf eqTalk, FS.pf trTurned, FS.pf trPort, FS.pf trRoad, FS.pf trForm, FS.pf trPlace, FS.pf trCheck, FS.pf trOld, GS.pf dfTalk, GS.pf trOpen, GS.pf trPasses, FS.pf trHear, FS.pf trFind, FS.pf trackLives] [] 30 13 rTurn_ap rTurn_rp x = rTurn_tree x := by kernel_rfl
def rTurn_fn (x : (Int × (Int × (Int × (Int × Unit))))) : Option (Int × (Int × (Int × (Int × Unit)))) := (rTurn_tree x).eval
def rTurn : FS Try.prog := ⟨13, rTurn_ap, rTurn_rp, rTurn_fn, fun x r h => fnTr_sound (cod := cod) (Γ := [clTalk, GS.pf delTalk, FS.pf eqTalk, FS.pf trTurned, FS.pf trPort, FS.pf trRoad, FS.pf trForm, FS.pf trPlace, FS.pf trCheck, FS.pf trOld, GS.pf dfTalk, GS.pf trOpen, GS.pf trPasses, FS.pf trHear, FS.pf trFind, FS.pf trackLives]) (Λs := []) (n := 30) ((congrArg Tr.eval (rTurn_eq x)).trans h)⟩
def rBetween_ap : List VP1 := [.one (.i .i64), .one (.i .i64), .one (.i .i64)]
def rBetween_rp : SP := ⟨1, [(0, .v (.one (.b)))], []⟩
def rBetween_tree : (Int × (Int × (Int × Unit))) → Tr (Bool × Unit) :=
  fun (a0, a1, a2, _) =>
  .ite (decide (a1 ≤ a0)) (
   .ret (decide (a0 ≤ a2), ())) (
   .ret (false, ()))
theorem rBetween_eq (x : (Int × (Int × (Int × Unit)))) : fnTr Try.prog cod [clTalk, GS.pf delTalk, FS.pf eqTalk, FS.pf trTurned, FS.pf trPort, FS.pf trRoad, FS.pf trForm, FS.pf trPlace, FS.pf trCheck, FS.pf trOld, GS.pf dfTalk, GS.pf trOpen, GS.pf trPasses, FS.pf trHear, FS.pf trFind, FS.pf trackLives, FS.pf rTurn] [] 30 56 rBetween_ap rBetween_rp x = rBetween_tree x := by kernel_rfl
def rBetween_fn (x : (Int × (Int × (Int × Unit)))) : Option (Bool × Unit) := (rBetween_tree x).eval
def rBetween : FS Try.prog := ⟨56, rBetween_ap, rBetween_rp, rBetween_fn, fun x r h => fnTr_sound (cod := cod) (Γ := [clTalk, GS.pf delTalk, FS.pf eqTalk, FS.pf trTurned, FS.pf trPort, FS.pf trRoad, FS.pf trForm, FS.pf trPlace, FS.pf trCheck, FS.pf trOld, GS.pf dfTalk, GS.pf trOpen, GS.pf trPasses, FS.pf trHear, FS.pf trFind, FS.pf trackLives, FS.pf rTurn]) (Λs := []) (n := 30) ((congrArg Tr.eval (rBetween_eq x)).trans h)⟩
def talkRight_ap : List VP1 := [.agg [.i .u32, .i .u32, .i .i64, .i .i64, .i .i64, .i .i64, .i .i64]]
def talkRight_rp : SP := ⟨1, [(0, .v (.one (.b)))], []⟩
def talkRight_tree : (Int × (Int × (Int × (Int × (Int × (Int × (Int × Unit))))))) → Tr (Bool × Unit) :=
  fun (a0, a1, a2, a3, a4, a5, a6, _) =>
  .opt (β := (Bool × Unit)) ((rBetween_fn (a2, ((0 : Int), ((65535 : Int), ()))))) (fun r0 =>
  .ite (r0.1) (
   .opt (β := (Bool × Unit)) ((rBetween_fn (a3, ((0 : Int), ((65535 : Int), ()))))) (fun r1 =>
   .ite (!r1.1) (
    .ret (false, ())) (
    .opt (β := (Int × (Int × (Int × (Int × Unit))))) ((rTurn_fn (a0, (a1, (a2, (a3, ())))))) (fun r2 =>
    .ite (decide (a0 = r2.1) && (decide (a1 = r2.2.1) && (decide (a2 = r2.2.2.1) && (decide (a3 = r2.2.2.2.1) && true)))) (
     .ret (false, ())) (
     .opt (β := (Bool × Unit)) ((rBetween_fn (a6, ((0 : Int), ((1099511627776 : Int), ()))))) (fun r3 =>
     .ite (!r3.1) (
      .ret (false, ())) (
      .opt (β := (Bool × Unit)) ((rBetween_fn (a4, ((1 : Int), ((4 : Int), ()))))) (fun r4 =>
      .ite (!r4.1) (
       .ret (false, ())) (
       .grd (decide ((0 : Int) ≤ a4 ∧ a4 < (↑(5 : Nat) : Int))) (
       .opt (β := Int) ([(0 : Int), (0 : Int), (0 : Int), (0 : Int), (3 : Int)][Int.toNat a4]?) (fun r5 =>
       .grd (decide ((0 : Int) ≤ a4 ∧ a4 < (↑(5 : Nat) : Int))) (
       .opt (β := Int) ([(0 : Int), (0 : Int), (0 : Int), (2 : Int), (3 : Int)][Int.toNat a4]?) (fun r6 =>
       .opt (β := (Bool × Unit)) ((rBetween_fn (a5, (r5, (r6, ()))))) (fun r7 =>
       .ret (r7.1, ()))))))))))))))) (
   .ite (true) (
    .ret (false, ())) (
    .opt (β := (Int × (Int × (Int × (Int × Unit))))) ((rTurn_fn (a0, (a1, (a2, (a3, ())))))) (fun r1 =>
    .ite (decide (a0 = r1.1) && (decide (a1 = r1.2.1) && (decide (a2 = r1.2.2.1) && (decide (a3 = r1.2.2.2.1) && true)))) (
     .ret (false, ())) (
     .opt (β := (Bool × Unit)) ((rBetween_fn (a6, ((0 : Int), ((1099511627776 : Int), ()))))) (fun r2 =>
     .ite (!r2.1) (
      .ret (false, ())) (
      .opt (β := (Bool × Unit)) ((rBetween_fn (a4, ((1 : Int), ((4 : Int), ()))))) (fun r3 =>
      .ite (!r3.1) (
       .ret (false, ())) (
       .grd (decide ((0 : Int) ≤ a4 ∧ a4 < (↑(5 : Nat) : Int))) (
       .opt (β := Int) ([(0 : Int), (0 : Int), (0 : Int), (0 : Int), (3 : Int)][Int.toNat a4]?) (fun r4 =>
       .grd (decide ((0 : Int) ≤ a4 ∧ a4 < (↑(5 : Nat) : Int))) (
       .opt (β := Int) ([(0 : Int), (0 : Int), (0 : Int), (2 : Int), (3 : Int)][Int.toNat a4]?) (fun r5 =>
       .opt (β := (Bool × Unit)) ((rBetween_fn (a5, (r4, (r5, ()))))) (fun r6 =>
       .ret (r6.1, ())))))))))))))))
theorem talkRight_eq (x : (Int × (Int × (Int × (Int × (Int × (Int × (Int × Unit)))))))) : fnTr Try.prog cod [clTalk, GS.pf delTalk, FS.pf eqTalk, FS.pf trTurned, FS.pf trPort, FS.pf trRoad, FS.pf trForm, FS.pf trPlace, FS.pf trCheck, FS.pf trOld, GS.pf dfTalk, GS.pf trOpen, GS.pf trPasses, FS.pf trHear, FS.pf trFind, FS.pf trackLives, FS.pf rTurn, FS.pf rBetween] [] 30 41 talkRight_ap talkRight_rp x = talkRight_tree x := by kernel_rfl
def talkRight_fn (x : (Int × (Int × (Int × (Int × (Int × (Int × (Int × Unit)))))))) : Option (Bool × Unit) := (talkRight_tree x).eval
def talkRight : FS Try.prog := ⟨41, talkRight_ap, talkRight_rp, talkRight_fn, fun x r h => fnTr_sound (cod := cod) (Γ := [clTalk, GS.pf delTalk, FS.pf eqTalk, FS.pf trTurned, FS.pf trPort, FS.pf trRoad, FS.pf trForm, FS.pf trPlace, FS.pf trCheck, FS.pf trOld, GS.pf dfTalk, GS.pf trOpen, GS.pf trPasses, FS.pf trHear, FS.pf trFind, FS.pf trackLives, FS.pf rTurn, FS.pf rBetween]) (Λs := []) (n := 30) ((congrArg Tr.eval (talkRight_eq x)).trans h)⟩
def trackRight_L17_9 : LS := ⟨9, [(4, 4)], ⟨41, [(24, .v (.one (.i .i64))), (4, .v (.one (.ptr 4 0))), (22, .v (.one (.st 16 false))), (0, .v (.one (.st 16 false))), (10, .v (.one (.st 16 false))), (11, .v (.one (.i .i64))), (12, .v (.one (.i .i64))), (23, .v (.one (.i .i64)))], [(4, .cells [.i .u32, .i .u32, .i .i64, .i .i64, .i .i64, .i .i64, .i .i64])]⟩, [⟨none, [], ⟨41, [(2, .v (.one (.i .i64)))], []⟩⟩, ⟨some 2, [], ⟨41, [(0, .v (.one (.st 16 false))), (10, .v (.one (.st 16 false))), (11, .v (.one (.i .i64))), (12, .v (.one (.i .i64)))], []⟩⟩], []⟩
def trackRight_step17_9 : (Int × ((List TTalk) × ((List TTalk) × ((List TTalk) × (Int × (Int × (Int × (Int × (Int × (Int × (Int × (Int × (Int × (Int × Unit)))))))))))))) → Tr ((Int × ((List TTalk) × ((List TTalk) × ((List TTalk) × (Int × (Int × (Int × (Int × (Int × (Int × (Int × (Int × (Int × (Int × Unit)))))))))))))) ⊕ ((Int × Unit) ⊕ ((List TTalk) × ((List TTalk) × (Int × (Int × Unit)))))) :=
  fun (a0, a1, a2, a3, a4, a5, a6, a7, a8, a9, a10, a11, a12, a13, _) =>
  .ite (decide (a0 < a6)) (
   .grd (decide ((0 : Int) ≤ a0)) (
   .opt (β := TTalk) (a1[Int.toNat a0]?) (fun r0 =>
   .ite (decide (a13 < r0.at')) (
    .ret (Sum.inr (Sum.inl ((4 : Int), ())))) (
    .ite (decide (r0.from' = a7) && (decide (r0.to = a8) && (decide (r0.fromPort = a9) && (decide (r0.toPort = a10) && true)))) (
     .ite (true) (
      .ret (Sum.inr (Sum.inl ((4 : Int), ())))) (
      .ret (Sum.inl (IntKind.wrap IntKind.i64 (a0 + (1 : Int)), (a1, (a2, (a3, (a4, (a5, (a6, (a7, (a8, (a9, (a10, (a11, (a12, (a13, ()))))))))))))))))) (
     .opt (β := (Int × (Int × (Int × (Int × Unit))))) ((rTurn_fn (a7, (a8, (a9, (a10, ())))))) (fun r1 =>
     .ite (decide (r0.from' = r1.1) && (decide (r0.to = r1.2.1) && (decide (r0.fromPort = r1.2.2.1) && (decide (r0.toPort = r1.2.2.2.1) && true)))) (
      .ret (Sum.inr (Sum.inl ((4 : Int), ())))) (
      .ret (Sum.inl (IntKind.wrap IntKind.i64 (a0 + (1 : Int)), (a1, (a2, (a3, (a4, (a5, (a6, (a7, (a8, (a9, (a10, (a11, (a12, (a13, ())))))))))))))))))))))) (
   .ret (Sum.inr (Sum.inr (a2, (a3, (a4, (a5, ())))))))
def trackRight_loop17_9 (x : (Int × ((List TTalk) × ((List TTalk) × ((List TTalk) × (Int × (Int × (Int × (Int × (Int × (Int × (Int × (Int × (Int × (Int × Unit))))))))))))))) : Option ((Int × Unit) ⊕ ((List TTalk) × ((List TTalk) × (Int × (Int × Unit))))) := loopO 170009 (fun x => (trackRight_step17_9 x).eval) 18446744073709551616 x
def trackRight_L17_4 : LS := ⟨4, [], ⟨41, [(12, .v (.one (.i .i64))), (0, .v (.one (.st 16 false))), (10, .v (.one (.st 16 false))), (11, .v (.one (.i .i64)))], []⟩, [⟨none, [], ⟨41, [(2, .v (.one (.i .i64)))], []⟩⟩, ⟨some 0, [], ⟨41, [], []⟩⟩], []⟩
def trackRight_step17_4 : (Int × ((List TTalk) × ((List TTalk) × (Int × Unit)))) → Tr ((Int × ((List TTalk) × ((List TTalk) × (Int × Unit)))) ⊕ ((Int × Unit) ⊕ Unit)) :=
  fun (a0, a1, a2, a3, _) =>
  .ite (decide (a0 < a3)) (
   .grd (decide ((0 : Int) ≤ a0)) (
   .opt (β := TTalk) (a2[Int.toNat a0]?) (fun r0 =>
   .opt (β := (Bool × Unit)) ((talkRight_fn (r0.from', (r0.to, (r0.fromPort, (r0.toPort, (r0.state, (r0.over, (r0.at', ()))))))))) (fun r1 =>
   .ite (!r1.1) (
    .ret (Sum.inr (Sum.inl ((4 : Int), ())))) (
    .grd (decide ((0 : Int) ≤ (0 : Int) ∧ (0 : Int) ≤ a0 ∧ a0 ≤ (↑(List.length a1) : Int))) (
    .opt (β := ((Int × Unit) ⊕ ((List TTalk) × ((List TTalk) × (Int × (Int × Unit)))))) ((trackRight_loop17_9 ((0 : Int), (List.drop (0 : Nat) (List.take (Int.toNat a0) a1), (a1, (a2, (a3, (a0, ((↑(List.length (List.drop (0 : Nat) (List.take (Int.toNat a0) a1))) : Int), (r0.from', (r0.to, (r0.fromPort, (r0.toPort, (r0.state, (r0.over, (r0.at', ())))))))))))))))) (fun r2 =>
    .sum (β := (Int × Unit)) (γ := ((List TTalk) × ((List TTalk) × (Int × (Int × Unit))))) (r2) (fun r3 =>
     .ret (Sum.inr (Sum.inl (r3.1, ())))) (fun r3 =>
     .ret (Sum.inl (IntKind.wrap IntKind.i64 (r3.2.2.2.1 + (1 : Int)), (r3.1, (r3.2.1, (r3.2.2.1, ()))))))))))))) (
   .ret (Sum.inr (Sum.inr ())))
def trackRight_loop17_4 (x : (Int × ((List TTalk) × ((List TTalk) × (Int × Unit))))) : Option ((Int × Unit) ⊕ Unit) := loopO 170004 (fun x => (trackRight_step17_4 x).eval) 18446744073709551616 x
def trackRight_ap : List VP1 := [.one (.st 16 false)]
def trackRight_rp : SP := ⟨1, [(0, .v (.one (.i .i64)))], []⟩
def trackRight_tree : ((List TTalk) × Unit) → Tr (Int × Unit) :=
  fun (a0, _) =>
  .ite (decide ((64 : Int) < (↑(List.length a0) : Int))) (
   .ret ((2 : Int), ())) (
   .opt (β := ((Int × Unit) ⊕ Unit)) ((trackRight_loop17_4 ((0 : Int), (a0, (a0, ((↑(List.length a0) : Int), ())))))) (fun r0 =>
   .sum (β := (Int × Unit)) (γ := Unit) (r0) (fun r1 =>
    .ret (r1.1, ())) (fun r1 =>
    .ret ((0 : Int), ()))))
theorem trackRight_eq (x : ((List TTalk) × Unit)) : fnTr Try.prog cod [clTalk, GS.pf delTalk, FS.pf eqTalk, FS.pf trTurned, FS.pf trPort, FS.pf trRoad, FS.pf trForm, FS.pf trPlace, FS.pf trCheck, FS.pf trOld, GS.pf dfTalk, GS.pf trOpen, GS.pf trPasses, FS.pf trHear, FS.pf trFind, FS.pf trackLives, FS.pf rTurn, FS.pf rBetween, FS.pf talkRight] [(17, trackRight_L17_9), (17, trackRight_L17_4)] 30 17 trackRight_ap trackRight_rp x = trackRight_tree x := by kernel_rfl
def trackRight_fn (x : ((List TTalk) × Unit)) : Option (Int × Unit) := (trackRight_tree x).eval
def trackRight : FS Try.prog := ⟨17, trackRight_ap, trackRight_rp, trackRight_fn, fun x r h => fnTr_sound (cod := cod) (Γ := [clTalk, GS.pf delTalk, FS.pf eqTalk, FS.pf trTurned, FS.pf trPort, FS.pf trRoad, FS.pf trForm, FS.pf trPlace, FS.pf trCheck, FS.pf trOld, GS.pf dfTalk, GS.pf trOpen, GS.pf trPasses, FS.pf trHear, FS.pf trFind, FS.pf trackLives, FS.pf rTurn, FS.pf rBetween, FS.pf talkRight]) (Λs := [(17, trackRight_L17_9), (17, trackRight_L17_4)]) (n := 30) ((congrArg Tr.eval (trackRight_eq x)).trans h)⟩
def talkOld_ap : List VP1 := [.agg [.i .u32, .i .u32, .i .i64, .i .i64, .i .i64, .i .i64, .i .i64], .one (.i .i64)]
def talkOld_rp : SP := ⟨1, [(0, .v (.one (.b)))], []⟩
def talkOld_tree : (Int × (Int × (Int × (Int × (Int × (Int × (Int × (Int × Unit)))))))) → Tr (Bool × Unit) :=
  fun (a0, a1, a2, a3, a4, a5, a6, a7, _) =>
  .grd (decide ((0 : Int) ≤ a4 ∧ a4 < (↑(5 : Nat) : Int))) (
  .opt (β := Int) ([(0 : Int), (30 : Int), (30 : Int), (3000 : Int), (60 : Int)][Int.toNat a4]?) (fun r0 =>
  .ret (decide (IntKind.wrap IntKind.i64 (a6 + r0) < a7), ())))
theorem talkOld_eq (x : (Int × (Int × (Int × (Int × (Int × (Int × (Int × (Int × Unit))))))))) : fnTr Try.prog cod [clTalk, GS.pf delTalk, FS.pf eqTalk, FS.pf trTurned, FS.pf trPort, FS.pf trRoad, FS.pf trForm, FS.pf trPlace, FS.pf trCheck, FS.pf trOld, GS.pf dfTalk, GS.pf trOpen, GS.pf trPasses, FS.pf trHear, FS.pf trFind, FS.pf trackLives, FS.pf rTurn, FS.pf rBetween, FS.pf talkRight, FS.pf trackRight] [] 30 21 talkOld_ap talkOld_rp x = talkOld_tree x := by kernel_rfl
def talkOld_fn (x : (Int × (Int × (Int × (Int × (Int × (Int × (Int × (Int × Unit))))))))) : Option (Bool × Unit) := (talkOld_tree x).eval
def talkOld : FS Try.prog := ⟨21, talkOld_ap, talkOld_rp, talkOld_fn, fun x r h => fnTr_sound (cod := cod) (Γ := [clTalk, GS.pf delTalk, FS.pf eqTalk, FS.pf trTurned, FS.pf trPort, FS.pf trRoad, FS.pf trForm, FS.pf trPlace, FS.pf trCheck, FS.pf trOld, GS.pf dfTalk, GS.pf trOpen, GS.pf trPasses, FS.pf trHear, FS.pf trFind, FS.pf trackLives, FS.pf rTurn, FS.pf rBetween, FS.pf talkRight, FS.pf trackRight]) (Λs := []) (n := 30) ((congrArg Tr.eval (talkOld_eq x)).trans h)⟩
def dfTalk2_L18_5 : LS := ⟨5, [(1000100, 1000100), (1000200, 1000200)], ⟨42, [(6, .v (.one (.i .i64))), (5, .v (.one (.i .i64))), (0, .v (.one (.own 1000100))), (1, .v (.one (.clp 20 [(1000200, 0)])))], [(1000100, .row 35 16 true true), (1000200, .cells [.i .i64])]⟩, [⟨some 0, [(1000100, 1000100), (1000200, 1000200)], ⟨42, [(5, .v (.one (.i .i64))), (0, .v (.one (.own 1000100)))], [(1000100, .row 35 16 true true), (1000200, .cells [.i .i64])]⟩⟩], []⟩
def dfTalk2_step18_5 : (Int × (Int × ((List TTalk) × (Int × Unit)))) → Tr ((Int × (Int × ((List TTalk) × (Int × Unit)))) ⊕ (Int × ((List TTalk) × (Int × Unit)))) :=
  fun (a0, a1, a2, a3, _) =>
  .ite (decide (a0 < (↑(List.length a2) : Int))) (
   .grd (decide ((0 : Int) ≤ a0 ∧ a0 < (↑(List.length a2) : Int))) (
   .opt (β := TTalk) (a2[Int.toNat a0]?) (fun r0 =>
   .opt (β := (Bool × Unit)) ((talkOld_fn (r0.from', (r0.to, (r0.fromPort, (r0.toPort, (r0.state, (r0.over, (r0.at', (a3, ())))))))))) (fun r1 =>
   .ite (!r1.1) (
    .grd (decide ((0 : Int) ≤ a1 ∧ a1 < (↑(List.length a2) : Int))) (
    .opt (β := TTalk) (a2[Int.toNat a1]?) (fun r2 =>
    .grd (decide (List.length a2 = List.length (List.set a2 (Int.toNat a1) (TTalk.mk r0.from' r0.to r0.fromPort r0.toPort r0.state r0.over r0.at')))) (
    .ret (Sum.inl (IntKind.wrap IntKind.i64 (a0 + (1 : Int)), (IntKind.wrap IntKind.i64 (a1 + (1 : Int)), (List.set a2 (Int.toNat a1) (TTalk.mk r0.from' r0.to r0.fromPort r0.toPort r0.state r0.over r0.at'), (a3, ()))))))))) (
    .grd (decide (List.length a2 = List.length a2)) (
    .ret (Sum.inl (IntKind.wrap IntKind.i64 (a0 + (1 : Int)), (a1, (a2, (a3, ()))))))))))) (
   .grd (decide (List.length a2 = List.length a2)) (
   .ret (Sum.inr (a1, (a2, (a3, ()))))))
def dfTalk2_loop18_5 (x : (Int × (Int × ((List TTalk) × (Int × Unit))))) : Option (Int × ((List TTalk) × (Int × Unit))) := loopO 180005 (fun x => (dfTalk2_step18_5 x).eval) 18446744073709551616 x
def dfTalk2_L43_2 : LS := ⟨2, [(1000200, 1000200)], ⟨19, [(8, .v (.one (.i .i64))), (0, .v (.one (.st 16 false))), (1, .v (.one (.clp 20 [(1000200, 0)]))), (7, .v (.one (.i .i64)))], [(1000200, .cells [.i .i64])]⟩, [⟨none, [(1000200, 1000200)], ⟨19, [(4, .v (.one (.i .i64)))], [(1000200, .cells [.i .i64])]⟩⟩, ⟨some 0, [(1000200, 1000200)], ⟨19, [], [(1000200, .cells [.i .i64])]⟩⟩], []⟩
def dfTalk2_step43_2 : (Int × ((List TTalk) × (Int × (Int × Unit)))) → Tr ((Int × ((List TTalk) × (Int × (Int × Unit)))) ⊕ ((Int × (Int × Unit)) ⊕ (Int × Unit))) :=
  fun (a0, a1, a2, a3, _) =>
  .ite (decide (a0 < a2)) (
   .grd (decide ((0 : Int) ≤ a0)) (
   .opt (β := TTalk) (a1[Int.toNat a0]?) (fun r0 =>
   .opt (β := (Bool × Unit)) ((talkOld_fn (r0.from', (r0.to, (r0.fromPort, (r0.toPort, (r0.state, (r0.over, (r0.at', (a3, ())))))))))) (fun r1 =>
   .ite (r1.1) (
    .ret (Sum.inr (Sum.inl (a0, (a3, ()))))) (
    .ret (Sum.inl (IntKind.wrap IntKind.i64 (a0 + (1 : Int)), (a1, (a2, (a3, ())))))))))) (
   .ret (Sum.inr (Sum.inr (a3, ()))))
def dfTalk2_loop43_2 (x : (Int × ((List TTalk) × (Int × (Int × Unit))))) : Option ((Int × (Int × Unit)) ⊕ (Int × Unit)) := loopO 430002 (fun x => (dfTalk2_step43_2 x).eval) 18446744073709551616 x
def dfTalk2_ap : SP := ⟨42, [(0, .v (.one (.own 1000100))), (1, .v (.one (.clp 20 [(1000200, 0)])))], [(1000200, .cells [.i .i64]), (1000100, .row 35 16 true true)]⟩
def dfTalk2_rp : SP := ⟨1, [(0, .v (.one (.own 1000100)))], [(1000200, .cells [.i .i64]), (1000100, .row 35 16 true true)]⟩
def dfTalk2_tree : (Int × ((List TTalk) × Unit)) → Tr (Int × ((List TTalk) × Unit)) :=
  fun (a0, a1, _) =>
  .opt (β := ((Int × (Int × Unit)) ⊕ (Int × Unit))) ((dfTalk2_loop43_2 ((0 : Int), (a1, ((↑(List.length a1) : Int), (a0, ())))))) (fun r0 =>
  .sum (β := (Int × (Int × Unit))) (γ := (Int × Unit)) (r0) (fun r1 =>
   .ite (decide (r1.1 = (-1 : Int))) (
    .grd (decide (List.length a1 = List.length a1)) (
    .ret (r1.2.1, (a1, ())))) (
    .grd (decide (List.length a1 = List.length a1)) (
    .opt (β := (Int × ((List TTalk) × (Int × Unit)))) ((dfTalk2_loop18_5 (IntKind.wrap IntKind.i64 (r1.1 + (1 : Int)), (r1.1, (a1, (r1.2.1, ())))))) (fun r2 =>
    .grd (decide ((0 : Int) ≤ r2.1 ∧ r2.1 ≤ (↑(List.length r2.2.fst) : Int) ∧ (↑(List.length r2.2.fst) : Int) ≤ (↑(List.length r2.2.fst) : Int))) (
    .grd (decide (Int.toNat r2.1 + Int.toNat ((↑(List.length r2.2.fst) : Int) - r2.1) ≤ List.length r2.2.1)) (
    .grd (decide ((0 : Int) ≤ r2.1 ∧ r2.1 ≤ (↑(List.length r2.2.fst) : Int))) (
    .grd (decide (Int.toNat r2.1 = List.length (List.take (Int.toNat r2.1) (List.take (Int.toNat r2.1) r2.2.1 ++ List.replicate (Int.toNat ((↑(List.length r2.2.fst) : Int) - r2.1)) (TTalk.mk (0 : Int) (0 : Int) (0 : Int) (0 : Int) (0 : Int) (0 : Int) (0 : Int)) ++ List.drop (Int.toNat r2.1 + List.length (List.replicate (Int.toNat ((↑(List.length r2.2.fst) : Int) - r2.1)) (TTalk.mk (0 : Int) (0 : Int) (0 : Int) (0 : Int) (0 : Int) (0 : Int) (0 : Int)))) r2.2.1)))) (
    .ret (r2.2.2.1, (List.take (Int.toNat r2.1) (List.take (Int.toNat r2.1) r2.2.1 ++ List.replicate (Int.toNat ((↑(List.length r2.2.fst) : Int) - r2.1)) (TTalk.mk (0 : Int) (0 : Int) (0 : Int) (0 : Int) (0 : Int) (0 : Int) (0 : Int)) ++ List.drop (Int.toNat r2.1 + List.length (List.replicate (Int.toNat ((↑(List.length r2.2.fst) : Int) - r2.1)) (TTalk.mk (0 : Int) (0 : Int) (0 : Int) (0 : Int) (0 : Int) (0 : Int) (0 : Int)))) r2.2.1), ())))))))))) (fun r1 =>
   .ite (true) (
    .grd (decide (List.length a1 = List.length a1)) (
    .ret (r1.1, (a1, ())))) (
    .grd (decide (List.length a1 = List.length a1)) (
    .opt (β := (Int × ((List TTalk) × (Int × Unit)))) ((dfTalk2_loop18_5 ((0 : Int), ((-1 : Int), (a1, (r1.1, ())))))) (fun r2 =>
    .grd (decide ((0 : Int) ≤ r2.1 ∧ r2.1 ≤ (↑(List.length r2.2.fst) : Int) ∧ (↑(List.length r2.2.fst) : Int) ≤ (↑(List.length r2.2.fst) : Int))) (
    .grd (decide (Int.toNat r2.1 + Int.toNat ((↑(List.length r2.2.fst) : Int) - r2.1) ≤ List.length r2.2.1)) (
    .grd (decide ((0 : Int) ≤ r2.1 ∧ r2.1 ≤ (↑(List.length r2.2.fst) : Int))) (
    .grd (decide (Int.toNat r2.1 = List.length (List.take (Int.toNat r2.1) (List.take (Int.toNat r2.1) r2.2.1 ++ List.replicate (Int.toNat ((↑(List.length r2.2.fst) : Int) - r2.1)) (TTalk.mk (0 : Int) (0 : Int) (0 : Int) (0 : Int) (0 : Int) (0 : Int) (0 : Int)) ++ List.drop (Int.toNat r2.1 + List.length (List.replicate (Int.toNat ((↑(List.length r2.2.fst) : Int) - r2.1)) (TTalk.mk (0 : Int) (0 : Int) (0 : Int) (0 : Int) (0 : Int) (0 : Int) (0 : Int)))) r2.2.1)))) (
    .ret (r2.2.2.1, (List.take (Int.toNat r2.1) (List.take (Int.toNat r2.1) r2.2.1 ++ List.replicate (Int.toNat ((↑(List.length r2.2.fst) : Int) - r2.1)) (TTalk.mk (0 : Int) (0 : Int) (0 : Int) (0 : Int) (0 : Int) (0 : Int) (0 : Int)) ++ List.drop (Int.toNat r2.1 + List.length (List.replicate (Int.toNat ((↑(List.length r2.2.fst) : Int) - r2.1)) (TTalk.mk (0 : Int) (0 : Int) (0 : Int) (0 : Int) (0 : Int) (0 : Int) (0 : Int)))) r2.2.1), ())))))))))))
theorem dfTalk2_eq (x : (Int × ((List TTalk) × Unit))) : gsTr Try.prog cod [clTalk, GS.pf delTalk, FS.pf eqTalk, FS.pf trTurned, FS.pf trPort, FS.pf trRoad, FS.pf trForm, FS.pf trPlace, FS.pf trCheck, FS.pf trOld, GS.pf dfTalk, GS.pf trOpen, GS.pf trPasses, FS.pf trHear, FS.pf trFind, FS.pf trackLives, FS.pf rTurn, FS.pf rBetween, FS.pf talkRight, FS.pf trackRight, FS.pf talkOld] [(18, dfTalk2_L18_5), (43, dfTalk2_L43_2)] 30 18 dfTalk2_ap dfTalk2_rp x = dfTalk2_tree x := by kernel_rfl
def dfTalk2_fn (x : (Int × ((List TTalk) × Unit))) : Option (Int × ((List TTalk) × Unit)) := (dfTalk2_tree x).eval
def dfTalk2 : GS Try.prog := ⟨18, [1, 0], dfTalk2_ap, dfTalk2_rp, dfTalk2_fn, fun x r h ys m g he hg => gs_sound (cod := cod) (Γ := [clTalk, GS.pf delTalk, FS.pf eqTalk, FS.pf trTurned, FS.pf trPort, FS.pf trRoad, FS.pf trForm, FS.pf trPlace, FS.pf trCheck, FS.pf trOld, GS.pf dfTalk, GS.pf trOpen, GS.pf trPasses, FS.pf trHear, FS.pf trFind, FS.pf trackLives, FS.pf rTurn, FS.pf rBetween, FS.pf talkRight, FS.pf trackRight, FS.pf talkOld]) (Λs := [(18, dfTalk2_L18_5), (43, dfTalk2_L43_2)]) (n := 30) ((congrArg Tr.eval (dfTalk2_eq x)).trans h) he hg⟩
def trackClosed_ap : List VP1 := [.one (.st 16 false), .agg [.i .u32, .i .u32, .i .i64, .i .i64], .one (.i .i64), .one (.i .i64)]
def trackClosed_rp : SP := ⟨1, [(0, .v (.one (.b)))], []⟩
def trackClosed_tree : ((List TTalk) × (Int × (Int × (Int × (Int × (Int × (Int × Unit))))))) → Tr (Bool × Unit) :=
  fun (a0, a1, a2, a3, a4, a5, a6, _) =>
  .opt (β := (Int × (Int × (Int × (Int × (Int × (Int × (Int × (Bool × (Int × Unit)))))))))) ((trFind_fn (a0, (a1, (a2, (a3, (a4, (a6, ())))))))) (fun r0 =>
  .opt (β := ((List TTalk) × (Bool × (Int × Unit)))) ((trHear_fn (a0, (a1, (a2, (a3, (a4, ((4 : Int), (a6, ()))))))))) (fun r1 =>
  .opt (β := (Bool × Unit)) ((trackLives_fn ())) (fun r2 =>
  .ite (!r2.1) (
   .opt (β := (Bool × Unit)) ((trackLives_fn ())) (fun r3 =>
   .ret (r3.1, ()))) (
   .ite (!decide (r0.2.2.2.2.2.2.2.2.1 = (0 : Int))) (
    .opt (β := (Bool × Unit)) ((trackLives_fn ())) (fun r3 =>
    .ret (r3.1, ()))) (
    .ite (!decide (r1.2.2.1 = (0 : Int))) (
     .opt (β := (Bool × Unit)) ((trackLives_fn ())) (fun r3 =>
     .ret (r3.1, ()))) (
     .opt (β := (Int × (Int × (Int × (Int × (Int × (Int × (Int × (Bool × (Int × Unit)))))))))) ((trFind_fn (r1.1, (a1, (a2, (a3, (a4, (a6, ())))))))) (fun r3 =>
     .opt (β := ((List TTalk) × (Bool × (Int × Unit)))) ((trHear_fn (r1.1, (a1, (a2, (a3, (a4, (a5, (a6, ()))))))))) (fun r4 =>
     .ite (r1.2.1 == r0.2.2.2.2.2.2.2.1) (
      .ite (!r3.2.2.2.2.2.2.2.1) (
       .ite (decide (r3.2.2.2.2.2.2.2.2.1 = (0 : Int))) (
        .ite (!decide (r4.2.2.1 = (0 : Int))) (
         .ite (!r4.2.1) (
          .ret (true, ())) (
          .ret (r4.2.1 == decide (bits BinOp.and IntKind.i64 a5 (23 : Int) = (2 : Int)), ()))) (
         .ret (r4.2.1 == decide (bits BinOp.and IntKind.i64 a5 (23 : Int) = (2 : Int)), ()))) (
        .ret (false, ()))) (
       .ret (false, ()))) (
      .ret (false, ()))))))))))
theorem trackClosed_eq (x : ((List TTalk) × (Int × (Int × (Int × (Int × (Int × (Int × Unit)))))))) : fnTr Try.prog cod [clTalk, GS.pf delTalk, FS.pf eqTalk, FS.pf trTurned, FS.pf trPort, FS.pf trRoad, FS.pf trForm, FS.pf trPlace, FS.pf trCheck, FS.pf trOld, GS.pf dfTalk, GS.pf trOpen, GS.pf trPasses, FS.pf trHear, FS.pf trFind, FS.pf trackLives, FS.pf rTurn, FS.pf rBetween, FS.pf talkRight, FS.pf trackRight, FS.pf talkOld, GS.pf dfTalk2] [] 30 5 trackClosed_ap trackClosed_rp x = trackClosed_tree x := by kernel_rfl
def trackClosed_fn (x : ((List TTalk) × (Int × (Int × (Int × (Int × (Int × (Int × Unit)))))))) : Option (Bool × Unit) := (trackClosed_tree x).eval
def trackClosed : FS Try.prog := ⟨5, trackClosed_ap, trackClosed_rp, trackClosed_fn, fun x r h => fnTr_sound (cod := cod) (Γ := [clTalk, GS.pf delTalk, FS.pf eqTalk, FS.pf trTurned, FS.pf trPort, FS.pf trRoad, FS.pf trForm, FS.pf trPlace, FS.pf trCheck, FS.pf trOld, GS.pf dfTalk, GS.pf trOpen, GS.pf trPasses, FS.pf trHear, FS.pf trFind, FS.pf trackLives, FS.pf rTurn, FS.pf rBetween, FS.pf talkRight, FS.pf trackRight, FS.pf talkOld, GS.pf dfTalk2]) (Λs := []) (n := 30) ((congrArg Tr.eval (trackClosed_eq x)).trans h)⟩
def trackApart_ap : List VP1 := [.one (.st 16 false), .agg [.i .u32, .i .u32, .i .i64, .i .i64], .agg [.i .u32, .i .u32, .i .i64, .i .i64], .one (.i .i64), .one (.i .i64)]
def trackApart_rp : SP := ⟨1, [(0, .v (.one (.b)))], []⟩
def trackApart_tree : ((List TTalk) × (Int × (Int × (Int × (Int × (Int × (Int × (Int × (Int × (Int × (Int × Unit))))))))))) → Tr (Bool × Unit) :=
  fun (a0, a1, a2, a3, a4, a5, a6, a7, a8, a9, a10, _) =>
  .opt (β := (Int × (Int × (Int × (Int × (Int × (Int × (Int × (Bool × (Int × Unit)))))))))) ((trFind_fn (a0, (a5, (a6, (a7, (a8, (a10, ())))))))) (fun r0 =>
  .opt (β := ((List TTalk) × (Bool × (Int × Unit)))) ((trHear_fn (a0, (a1, (a2, (a3, (a4, (a9, (a10, ()))))))))) (fun r1 =>
  .opt (β := (Bool × Unit)) ((trackLives_fn ())) (fun r2 =>
  .ite (!r2.1) (
   .opt (β := (Bool × Unit)) ((trackLives_fn ())) (fun r3 =>
   .ret (r3.1, ()))) (
   .ite (!decide (r0.2.2.2.2.2.2.2.2.1 = (0 : Int))) (
    .opt (β := (Bool × Unit)) ((trackLives_fn ())) (fun r3 =>
    .ret (r3.1, ()))) (
    .ite (!decide (r1.2.2.1 = (0 : Int))) (
     .opt (β := (Bool × Unit)) ((trackLives_fn ())) (fun r3 =>
     .ret (r3.1, ()))) (
     .ite (decide (a5 = a1) && (decide (a6 = a2) && (decide (a7 = a3) && (decide (a8 = a4) && true)))) (
      .opt (β := (Bool × Unit)) ((trackLives_fn ())) (fun r3 =>
      .ret (r3.1, ()))) (
      .opt (β := (Int × (Int × (Int × (Int × Unit))))) ((rTurn_fn (a1, (a2, (a3, (a4, ())))))) (fun r3 =>
      .ite (decide (a5 = r3.1) && (decide (a6 = r3.2.1) && (decide (a7 = r3.2.2.1) && (decide (a8 = r3.2.2.2.1) && true)))) (
       .opt (β := (Bool × Unit)) ((trackLives_fn ())) (fun r4 =>
       .ret (r4.1, ()))) (
       .opt (β := (Int × (Int × (Int × (Int × (Int × (Int × (Int × (Bool × (Int × Unit)))))))))) ((trFind_fn (r1.1, (a5, (a6, (a7, (a8, (a10, ())))))))) (fun r4 =>
       .opt (β := (Int × (Int × (Int × (Int × Unit))))) ((rTurn_fn (a5, (a6, (a7, (a8, ())))))) (fun r5 =>
       .opt (β := (Int × (Int × (Int × (Int × (Int × (Int × (Int × (Bool × (Int × Unit)))))))))) ((trFind_fn (r1.1, (r5.1, (r5.2.1, (r5.2.2.1, (r5.2.2.2.1, (a10, ())))))))) (fun r6 =>
       .ite (decide (r4.2.2.2.2.2.2.2.2.1 = (0 : Int))) (
        .ite (decide (r6.2.2.2.2.2.2.2.2.1 = (0 : Int))) (
         .ite (r0.2.2.2.2.2.2.2.1 == r4.2.2.2.2.2.2.2.1) (
          .ite (decide (r0.1 = r4.1) && (decide (r0.2.1 = r4.2.1) && (decide (r0.2.2.1 = r4.2.2.1) && (decide (r0.2.2.2.1 = r4.2.2.2.1) && true))) && (decide (r0.2.2.2.2.1 = r4.2.2.2.2.1) && (decide (r0.2.2.2.2.2.1 = r4.2.2.2.2.2.1) && (decide (r0.2.2.2.2.2.2.1 = r4.2.2.2.2.2.2.1) && true)))) (
           .ite (r6.2.2.2.2.2.2.2.1 == r4.2.2.2.2.2.2.2.1) (
            .ret (decide (r6.1 = r4.1) && (decide (r6.2.1 = r4.2.1) && (decide (r6.2.2.1 = r4.2.2.1) && (decide (r6.2.2.2.1 = r4.2.2.2.1) && true))) && (decide (r6.2.2.2.2.1 = r4.2.2.2.2.1) && (decide (r6.2.2.2.2.2.1 = r4.2.2.2.2.2.1) && (decide (r6.2.2.2.2.2.2.1 = r4.2.2.2.2.2.2.1) && true))), ())) (
            .ret (false, ()))) (
           .ret (false, ()))) (
          .ret (false, ()))) (
         .ret (false, ()))) (
        .ret (false, ()))))))))))))))
theorem trackApart_eq (x : ((List TTalk) × (Int × (Int × (Int × (Int × (Int × (Int × (Int × (Int × (Int × (Int × Unit)))))))))))) : fnTr Try.prog cod [clTalk, GS.pf delTalk, FS.pf eqTalk, FS.pf trTurned, FS.pf trPort, FS.pf trRoad, FS.pf trForm, FS.pf trPlace, FS.pf trCheck, FS.pf trOld, GS.pf dfTalk, GS.pf trOpen, GS.pf trPasses, FS.pf trHear, FS.pf trFind, FS.pf trackLives, FS.pf rTurn, FS.pf rBetween, FS.pf talkRight, FS.pf trackRight, FS.pf talkOld, GS.pf dfTalk2, FS.pf trackClosed] [] 30 4 trackApart_ap trackApart_rp x = trackApart_tree x := by kernel_rfl
def trackApart_fn (x : ((List TTalk) × (Int × (Int × (Int × (Int × (Int × (Int × (Int × (Int × (Int × (Int × Unit)))))))))))) : Option (Bool × Unit) := (trackApart_tree x).eval
def trackApart : FS Try.prog := ⟨4, trackApart_ap, trackApart_rp, trackApart_fn, fun x r h => fnTr_sound (cod := cod) (Γ := [clTalk, GS.pf delTalk, FS.pf eqTalk, FS.pf trTurned, FS.pf trPort, FS.pf trRoad, FS.pf trForm, FS.pf trPlace, FS.pf trCheck, FS.pf trOld, GS.pf dfTalk, GS.pf trOpen, GS.pf trPasses, FS.pf trHear, FS.pf trFind, FS.pf trackLives, FS.pf rTurn, FS.pf rBetween, FS.pf talkRight, FS.pf trackRight, FS.pf talkOld, GS.pf dfTalk2, FS.pf trackClosed]) (Λs := []) (n := 30) ((congrArg Tr.eval (trackApart_eq x)).trans h)⟩
def trackBounds_ap : List VP1 := [.one (.st 16 false), .agg [.i .u32, .i .u32, .i .i64, .i .i64], .one (.i .i64), .one (.i .i64)]
def trackBounds_rp : SP := ⟨1, [(0, .v (.one (.b)))], []⟩
def trackBounds_tree : ((List TTalk) × (Int × (Int × (Int × (Int × (Int × (Int × Unit))))))) → Tr (Bool × Unit) :=
  fun (a0, a1, a2, a3, a4, a5, a6, _) =>
  .opt (β := ((List TTalk) × (Bool × (Int × Unit)))) ((trHear_fn (a0, (a1, (a2, (a3, (a4, (a5, (a6, ()))))))))) (fun r0 =>
  .opt (β := (Bool × Unit)) ((trackLives_fn ())) (fun r1 =>
  .ite (!r1.1) (
   .opt (β := (Bool × Unit)) ((trackLives_fn ())) (fun r2 =>
   .ite (r2.1) (
    .ite (!r0.2.1) (
     .opt (β := (Bool × Unit)) ((eqTalk_fn (r0.1, (a0, ())))) (fun r3 =>
     .ret (r3.1, ()))) (
     .ret (false, ()))) (
    .ret (false, ())))) (
   .ite (!decide (r0.2.2.1 = (0 : Int))) (
    .opt (β := (Bool × Unit)) ((trackLives_fn ())) (fun r2 =>
    .ite (r2.1) (
     .ite (!r0.2.1) (
      .opt (β := (Bool × Unit)) ((eqTalk_fn (r0.1, (a0, ())))) (fun r3 =>
      .ret (r3.1, ()))) (
      .ret (false, ()))) (
     .ret (false, ())))) (
    .opt (β := (Int × Unit)) ((trackRight_fn (r0.1, ()))) (fun r2 =>
    .ite (!decide (r2.1 = (0 : Int))) (
     .ret (false, ())) (
     .ite (decide (IntKind.wrap IntKind.i64 ((↑(List.length a0) : Int) + (1 : Int)) < (↑(List.length r0.1) : Int))) (
      .ret (false, ())) (
      .grd (decide (((0 : Nat) + List.length a0) * (48 : Nat) ≤ (140737488355328 : Nat) ∧ (0 : Nat) + List.length a0 ≤ (9223372036854775807 : Nat))) (
      .grd (decide (List.length a0 = List.length a0)) (
      .opt (β := (Int × ((List TTalk) × Unit))) ((dfTalk2_fn (a6, (a0, ())))) (fun r3 =>
      .ite (r0.2.1) (
       .ret (true, ())) (
       .opt (β := (Bool × Unit)) ((eqTalk_fn (r0.1, (r3.2.1, ())))) (fun r4 =>
       .ret (r4.1, ())))))))))))))
theorem trackBounds_eq (x : ((List TTalk) × (Int × (Int × (Int × (Int × (Int × (Int × Unit)))))))) : fnTr Try.prog cod [clTalk, GS.pf delTalk, FS.pf eqTalk, FS.pf trTurned, FS.pf trPort, FS.pf trRoad, FS.pf trForm, FS.pf trPlace, FS.pf trCheck, FS.pf trOld, GS.pf dfTalk, GS.pf trOpen, GS.pf trPasses, FS.pf trHear, FS.pf trFind, FS.pf trackLives, FS.pf rTurn, FS.pf rBetween, FS.pf talkRight, FS.pf trackRight, FS.pf talkOld, GS.pf dfTalk2, FS.pf trackClosed, FS.pf trackApart] [] 30 6 trackBounds_ap trackBounds_rp x = trackBounds_tree x := by kernel_rfl
def trackBounds_fn (x : ((List TTalk) × (Int × (Int × (Int × (Int × (Int × (Int × Unit)))))))) : Option (Bool × Unit) := (trackBounds_tree x).eval
def trackBounds : FS Try.prog := ⟨6, trackBounds_ap, trackBounds_rp, trackBounds_fn, fun x r h => fnTr_sound (cod := cod) (Γ := [clTalk, GS.pf delTalk, FS.pf eqTalk, FS.pf trTurned, FS.pf trPort, FS.pf trRoad, FS.pf trForm, FS.pf trPlace, FS.pf trCheck, FS.pf trOld, GS.pf dfTalk, GS.pf trOpen, GS.pf trPasses, FS.pf trHear, FS.pf trFind, FS.pf trackLives, FS.pf rTurn, FS.pf rBetween, FS.pf talkRight, FS.pf trackRight, FS.pf talkOld, GS.pf dfTalk2, FS.pf trackClosed, FS.pf trackApart]) (Λs := []) (n := 30) ((congrArg Tr.eval (trackBounds_eq x)).trans h)⟩
end Go.Proofs.Ytcdcdmfecglemaa.X
