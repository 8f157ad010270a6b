/- Functions of the program, as trees (printed by a program of mine: tool/XTool, xg.py), each with the proof that the machine comes to what its tree says. Conditions: none. -/
import Derived.Test.YtcdcdmfecglemaaCod
import Derived.KernelRfl
import Derived.Test.YtcdcdmfecglemaaMProxy
namespace Go.Proofs.Ytcdcdmfecglemaa.X
open Go Go.RowKit Go.Proofs.Ytcdcdmfecglemaa.Abs
set_option maxRecDepth 100000
set_option linter.unusedVariables false
def rBetween_ap : List VP1 := [.one (.i .i64), .one (.i .i64), .one (.i .i64)]
def rBetween_rp : SP := ⟨1, [(0, .v (.one (.b)))], []⟩
def rBetween_tree : (Int × (Int × (Int × Unit))) → Tr (Bool × Unit) :=
  fun (a0, a1, a2, _) =>
  .ite (decide (a1 ≤ a0)) (
   .ret (decide (a0 ≤ a2), ())) (
   .ret (false, ()))
theorem rBetween_eq (x : (Int × (Int × (Int × Unit)))) : fnTr Try.prog cod [FS.pf rotl, FS.pf sipCheck, FS.pf sipBegin, FS.pf sipNumber, FS.pf sipMore, FS.pf sipEnd, FS.pf sipOf, FS.pf coPort, FS.pf coLong, FS.pf coSizes, FS.pf coIndex, FS.pf coMake, FS.pf coOpen, FS.pf sumFold, FS.pf sumAdd, FS.pf sumOf, clOpt, FS.pf tcWord, FS.pf tcLong, FS.pf tcWordAt, FS.pf tcLongAt, FS.pf tcWords, FS.pf tcOptions, FS.pf tcWrite, FS.pf tcMss, FS.pf tcMove, clGuard, GS.pf delGuard, FS.pf prTurned, FS.pf prPort, FS.pf prPlace, FS.pf prCheck, FS.pf prOld, FS.pf prRefused, GS.pf dfGuard, FS.pf prMss, mHas, mLeaves, mHeard, mAsk, mStranger, mFromClient, mFromServer, FS.pf prClient, FS.pf prServer, FS.pf kTalkOf, FS.pf kProxyLives, FS.pf kTurn, FS.pf kSameProxy, FS.pf kShuts, FS.pf kBlind, FS.pf kApart, FS.pf rRoadRight, FS.pf kOpens] [] 30 56 rBetween_ap rBetween_rp x = rBetween_tree x := by kernel_rfl
def rBetween_fn (x : (Int × (Int × (Int × Unit)))) : Option (Bool × Unit) := (rBetween_tree x).eval
def rBetween : FS Try.prog := ⟨56, rBetween_ap, rBetween_rp, rBetween_fn, fun x r h => fnTr_sound (cod := cod) (Γ := [FS.pf rotl, FS.pf sipCheck, FS.pf sipBegin, FS.pf sipNumber, FS.pf sipMore, FS.pf sipEnd, FS.pf sipOf, FS.pf coPort, FS.pf coLong, FS.pf coSizes, FS.pf coIndex, FS.pf coMake, FS.pf coOpen, FS.pf sumFold, FS.pf sumAdd, FS.pf sumOf, clOpt, FS.pf tcWord, FS.pf tcLong, FS.pf tcWordAt, FS.pf tcLongAt, FS.pf tcWords, FS.pf tcOptions, FS.pf tcWrite, FS.pf tcMss, FS.pf tcMove, clGuard, GS.pf delGuard, FS.pf prTurned, FS.pf prPort, FS.pf prPlace, FS.pf prCheck, FS.pf prOld, FS.pf prRefused, GS.pf dfGuard, FS.pf prMss, mHas, mLeaves, mHeard, mAsk, mStranger, mFromClient, mFromServer, FS.pf prClient, FS.pf prServer, FS.pf kTalkOf, FS.pf kProxyLives, FS.pf kTurn, FS.pf kSameProxy, FS.pf kShuts, FS.pf kBlind, FS.pf kApart, FS.pf rRoadRight, FS.pf kOpens]) (Λs := []) (n := 30) ((congrArg Tr.eval (rBetween_eq x)).trans h)⟩
def rProxyRight_L32_11 : LS := ⟨11, [(4, 4), (1, 1)], ⟨66, [(48, .v (.one (.i .i64))), (4, .v (.one (.ptr 4 0))), (46, .v (.one (.st 18 false))), (1, .v (.one (.ptr 1 0))), (16, .v (.one (.st 18 false))), (17, .v (.one (.i .i64))), (18, .v (.one (.i .i64))), (47, .v (.one (.i .i64)))], [(4, .cells [.i .u32, .i .u32, .i .i64, .i .i64, .i .u32, .i .u32, .i .u32, .b, .i .i64]), (1, .cells [.i .u64, .i .u64, .i .i64, .st 18 false])]⟩, [⟨none, [], ⟨66, [(2, .v (.one (.i .i64)))], []⟩⟩, ⟨some 2, [(1, 1)], ⟨66, [(1, .v (.one (.ptr 1 0))), (16, .v (.one (.st 18 false))), (17, .v (.one (.i .i64))), (18, .v (.one (.i .i64)))], [(1, .cells [.i .u64, .i .u64, .i .i64, .st 18 false])]⟩⟩], []⟩
def rProxyRight_step32_11 : (Int × ((List TGuarded) × ((List TGuarded) × (Int × (Int × (Int × (Int × (Int × (Int × (Int × (Int × (Int × (Int × (Bool × (Int × (Int × (Int × (Int × ((List TGuarded) × Unit))))))))))))))))))) → Tr ((Int × ((List TGuarded) × ((List TGuarded) × (Int × (Int × (Int × (Int × (Int × (Int × (Int × (Int × (Int × (Int × (Bool × (Int × (Int × (Int × (Int × ((List TGuarded) × Unit))))))))))))))))))) ⊕ ((Int × Unit) ⊕ ((List TGuarded) × (Int × (Int × (Int × (Int × (Int × ((List TGuarded) × Unit))))))))) :=
  fun (a0, a1, a2, a3, a4, a5, a6, a7, a8, a9, a10, a11, a12, a13, a14, a15, a16, a17, a18, _) =>
  .ite (decide (a0 < a5)) (
   .grd (decide ((0 : Int) ≤ a0)) (
   .opt (β := TGuarded) (a1[Int.toNat a0]?) (fun r0 =>
   .ite (decide (r0.from' = a6) && (decide (r0.to = a7) && (decide (r0.fromPort = a8) && (decide (r0.toPort = a9) && true)))) (
    .ret (Sum.inr (Sum.inl ((4 : Int), ())))) (
    .ite (decide (a14 < r0.at')) (
     .ret (Sum.inr (Sum.inl ((4 : Int), ())))) (
     .ret (Sum.inl (IntKind.wrap IntKind.i64 (a0 + (1 : Int)), (a1, (a2, (a3, (a4, (a5, (a6, (a7, (a8, (a9, (a10, (a11, (a12, (a13, (a14, (a15, (a16, (a17, (a18, ()))))))))))))))))))))))))) (
   .ret (Sum.inr (Sum.inr (a2, (a3, (a4, (a15, (a16, (a17, (a18, ()))))))))))
def rProxyRight_loop32_11 (x : (Int × ((List TGuarded) × ((List TGuarded) × (Int × (Int × (Int × (Int × (Int × (Int × (Int × (Int × (Int × (Int × (Bool × (Int × (Int × (Int × (Int × ((List TGuarded) × Unit)))))))))))))))))))) : Option ((Int × Unit) ⊕ ((List TGuarded) × (Int × (Int × (Int × (Int × (Int × ((List TGuarded) × Unit)))))))) := loopO 320011 (fun x => (rProxyRight_step32_11 x).eval) 18446744073709551616 x
def rProxyRight_L32_6 : LS := ⟨6, [(1, 1)], ⟨66, [(18, .v (.one (.i .i64))), (1, .v (.one (.ptr 1 0))), (16, .v (.one (.st 18 false))), (17, .v (.one (.i .i64)))], [(1, .cells [.i .u64, .i .u64, .i .i64, .st 18 false])]⟩, [⟨none, [], ⟨66, [(2, .v (.one (.i .i64)))], []⟩⟩, ⟨some 0, [], ⟨66, [], []⟩⟩], []⟩
def rProxyRight_step32_6 : (Int × ((List TGuarded) × (Int × (Int × (Int × (Int × ((List TGuarded) × Unit))))))) → Tr ((Int × ((List TGuarded) × (Int × (Int × (Int × (Int × ((List TGuarded) × Unit))))))) ⊕ ((Int × Unit) ⊕ Unit)) :=
  fun (a0, a1, a2, a3, a4, a5, a6, _) =>
  .ite (decide (a0 < a2)) (
   .grd (decide ((0 : Int) ≤ a0)) (
   .opt (β := TGuarded) (a1[Int.toNat a0]?) (fun r0 =>
   .opt (β := (Bool × Unit)) ((rRoadRight_fn (r0.from', (r0.to, (r0.fromPort, (r0.toPort, ())))))) (fun r1 =>
   .ite (!r1.1) (
    .ret (Sum.inr (Sum.inl ((4 : Int), ())))) (
    .opt (β := (Bool × Unit)) ((rBetween_fn (r0.at', ((0 : Int), ((1099511627776 : Int), ()))))) (fun r2 =>
    .ite (!r2.1) (
     .ret (Sum.inr (Sum.inl ((4 : Int), ())))) (
     .ite (!r0.open') (
      .ite (decide ((0 : Int) < r0.delta)) (
       .ret (Sum.inr (Sum.inl ((4 : Int), ())))) (
       .grd (decide ((0 : Int) ≤ (0 : Int) ∧ (0 : Int) ≤ a0 ∧ a0 ≤ (↑(List.length a6) : Int))) (
       .opt (β := ((Int × Unit) ⊕ ((List TGuarded) × (Int × (Int × (Int × (Int × (Int × ((List TGuarded) × Unit))))))))) ((rProxyRight_loop32_11 ((0 : Int), (List.drop (0 : Nat) (List.take (Int.toNat a0) a6), (a1, (a2, (a0, ((↑(List.length (List.drop (0 : Nat) (List.take (Int.toNat a0) a6))) : Int), (r0.from', (r0.to, (r0.fromPort, (r0.toPort, (r0.seq, (r0.cookie, (r0.delta, (r0.open', (r0.at', (a3, (a4, (a5, (a6, ()))))))))))))))))))))) (fun r3 =>
       .sum (β := (Int × Unit)) (γ := ((List TGuarded) × (Int × (Int × (Int × (Int × (Int × ((List TGuarded) × Unit)))))))) (r3) (fun r4 =>
        .ret (Sum.inr (Sum.inl (r4.1, ())))) (fun r4 =>
        .ret (Sum.inl (IntKind.wrap IntKind.i64 (r4.2.2.1 + (1 : Int)), (r4.1, (r4.2.1, (r4.2.2.2.1, (r4.2.2.2.2.1, (r4.2.2.2.2.2.1, (r4.2.2.2.2.2.2.1, ()))))))))))))) (
      .grd (decide ((0 : Int) ≤ (0 : Int) ∧ (0 : Int) ≤ a0 ∧ a0 ≤ (↑(List.length a6) : Int))) (
      .opt (β := ((Int × Unit) ⊕ ((List TGuarded) × (Int × (Int × (Int × (Int × (Int × ((List TGuarded) × Unit))))))))) ((rProxyRight_loop32_11 ((0 : Int), (List.drop (0 : Nat) (List.take (Int.toNat a0) a6), (a1, (a2, (a0, ((↑(List.length (List.drop (0 : Nat) (List.take (Int.toNat a0) a6))) : Int), (r0.from', (r0.to, (r0.fromPort, (r0.toPort, (r0.seq, (r0.cookie, (r0.delta, (r0.open', (r0.at', (a3, (a4, (a5, (a6, ()))))))))))))))))))))) (fun r3 =>
      .sum (β := (Int × Unit)) (γ := ((List TGuarded) × (Int × (Int × (Int × (Int × (Int × ((List TGuarded) × Unit)))))))) (r3) (fun r4 =>
       .ret (Sum.inr (Sum.inl (r4.1, ())))) (fun r4 =>
       .ret (Sum.inl (IntKind.wrap IntKind.i64 (r4.2.2.1 + (1 : Int)), (r4.1, (r4.2.1, (r4.2.2.2.1, (r4.2.2.2.2.1, (r4.2.2.2.2.2.1, (r4.2.2.2.2.2.2.1, ()))))))))))))))))))) (
   .ret (Sum.inr (Sum.inr ())))
def rProxyRight_loop32_6 (x : (Int × ((List TGuarded) × (Int × (Int × (Int × (Int × ((List TGuarded) × Unit)))))))) : Option ((Int × Unit) ⊕ Unit) := loopO 320006 (fun x => (rProxyRight_step32_6 x).eval) 18446744073709551616 x
def rProxyRight_ap : List VP1 := [.agg [.i .u64, .i .u64, .i .i64, .st 18 false]]
def rProxyRight_rp : SP := ⟨1, [(0, .v (.one (.i .i64)))], []⟩
def rProxyRight_tree : (Int × (Int × (Int × ((List TGuarded) × Unit)))) → Tr (Int × Unit) :=
  fun (a0, a1, a2, a3, _) =>
  .opt (β := (Bool × Unit)) ((rBetween_fn (a2, ((0 : Int), ((65535 : Int), ()))))) (fun r0 =>
  .ite (!r0.1) (
   .ret ((1 : Int), ())) (
   .ite (decide ((64 : Int) < (↑(List.length a3) : Int))) (
    .ret ((2 : Int), ())) (
    .opt (β := ((Int × Unit) ⊕ Unit)) ((rProxyRight_loop32_6 ((0 : Int), (a3, ((↑(List.length a3) : Int), (a0, (a1, (a2, (a3, ()))))))))) (fun r1 =>
    .sum (β := (Int × Unit)) (γ := Unit) (r1) (fun r2 =>
     .ret (r2.1, ())) (fun r2 =>
     .ret ((0 : Int), ()))))))
theorem rProxyRight_eq (x : (Int × (Int × (Int × ((List TGuarded) × Unit))))) : fnTr Try.prog cod [FS.pf rotl, FS.pf sipCheck, FS.pf sipBegin, FS.pf sipNumber, FS.pf sipMore, FS.pf sipEnd, FS.pf sipOf, FS.pf coPort, FS.pf coLong, FS.pf coSizes, FS.pf coIndex, FS.pf coMake, FS.pf coOpen, FS.pf sumFold, FS.pf sumAdd, FS.pf sumOf, clOpt, FS.pf tcWord, FS.pf tcLong, FS.pf tcWordAt, FS.pf tcLongAt, FS.pf tcWords, FS.pf tcOptions, FS.pf tcWrite, FS.pf tcMss, FS.pf tcMove, clGuard, GS.pf delGuard, FS.pf prTurned, FS.pf prPort, FS.pf prPlace, FS.pf prCheck, FS.pf prOld, FS.pf prRefused, GS.pf dfGuard, FS.pf prMss, mHas, mLeaves, mHeard, mAsk, mStranger, mFromClient, mFromServer, FS.pf prClient, FS.pf prServer, FS.pf kTalkOf, FS.pf kProxyLives, FS.pf kTurn, FS.pf kSameProxy, FS.pf kShuts, FS.pf kBlind, FS.pf kApart, FS.pf rRoadRight, FS.pf kOpens, FS.pf rBetween] [(32, rProxyRight_L32_11), (32, rProxyRight_L32_6)] 30 32 rProxyRight_ap rProxyRight_rp x = rProxyRight_tree x := by kernel_rfl
def rProxyRight_fn (x : (Int × (Int × (Int × ((List TGuarded) × Unit))))) : Option (Int × Unit) := (rProxyRight_tree x).eval
def rProxyRight : FS Try.prog := ⟨32, rProxyRight_ap, rProxyRight_rp, rProxyRight_fn, fun x r h => fnTr_sound (cod := cod) (Γ := [FS.pf rotl, FS.pf sipCheck, FS.pf sipBegin, FS.pf sipNumber, FS.pf sipMore, FS.pf sipEnd, FS.pf sipOf, FS.pf coPort, FS.pf coLong, FS.pf coSizes, FS.pf coIndex, FS.pf coMake, FS.pf coOpen, FS.pf sumFold, FS.pf sumAdd, FS.pf sumOf, clOpt, FS.pf tcWord, FS.pf tcLong, FS.pf tcWordAt, FS.pf tcLongAt, FS.pf tcWords, FS.pf tcOptions, FS.pf tcWrite, FS.pf tcMss, FS.pf tcMove, clGuard, GS.pf delGuard, FS.pf prTurned, FS.pf prPort, FS.pf prPlace, FS.pf prCheck, FS.pf prOld, FS.pf prRefused, GS.pf dfGuard, FS.pf prMss, mHas, mLeaves, mHeard, mAsk, mStranger, mFromClient, mFromServer, FS.pf prClient, FS.pf prServer, FS.pf kTalkOf, FS.pf kProxyLives, FS.pf kTurn, FS.pf kSameProxy, FS.pf kShuts, FS.pf kBlind, FS.pf kApart, FS.pf rRoadRight, FS.pf kOpens, FS.pf rBetween]) (Λs := [(32, rProxyRight_L32_11), (32, rProxyRight_L32_6)]) (n := 30) ((congrArg Tr.eval (rProxyRight_eq x)).trans h)⟩
def rWordAt_ap : List VP1 := [.one (.s), .one (.i .i64)]
def rWordAt_rp : SP := ⟨1, [(0, .v (.one (.i .i64)))], []⟩
def rWordAt_tree : ((List UInt8) × (Int × Unit)) → Tr (Int × Unit) :=
  fun (a0, a1, _) =>
  .grd (decide ((0 : Int) ≤ a1 ∧ a1 < (↑(List.length a0) : Int))) (
  .ite (decide (IntKind.wrap IntKind.i64 (a1 + (1 : Int)) < (↑(List.length a0) : Int))) (
   .grd (decide ((0 : Int) ≤ IntKind.wrap IntKind.i64 (a1 + (1 : Int)) ∧ IntKind.wrap IntKind.i64 (a1 + (1 : Int)) < (↑(List.length a0) : Int))) (
   .ret (IntKind.wrap IntKind.i64 (IntKind.wrap IntKind.i64 ((256 : Int) * IntKind.wrap IntKind.i64 (↑(UInt8.toNat (List.getD a0 (Int.toNat a1) (0 : UInt8))) : Int)) + IntKind.wrap IntKind.i64 (↑(UInt8.toNat (List.getD a0 (Int.toNat (IntKind.wrap IntKind.i64 (a1 + (1 : Int)))) (0 : UInt8))) : Int)), ()))) (
   .ret (IntKind.wrap IntKind.i64 ((256 : Int) * IntKind.wrap IntKind.i64 (↑(UInt8.toNat (List.getD a0 (Int.toNat a1) (0 : UInt8))) : Int)), ())))
theorem rWordAt_eq (x : ((List UInt8) × (Int × Unit))) : fnTr Try.prog cod [FS.pf rotl, FS.pf sipCheck, FS.pf sipBegin, FS.pf sipNumber, FS.pf sipMore, FS.pf sipEnd, FS.pf sipOf, FS.pf coPort, FS.pf coLong, FS.pf coSizes, FS.pf coIndex, FS.pf coMake, FS.pf coOpen, FS.pf sumFold, FS.pf sumAdd, FS.pf sumOf, clOpt, FS.pf tcWord, FS.pf tcLong, FS.pf tcWordAt, FS.pf tcLongAt, FS.pf tcWords, FS.pf tcOptions, FS.pf tcWrite, FS.pf tcMss, FS.pf tcMove, clGuard, GS.pf delGuard, FS.pf prTurned, FS.pf prPort, FS.pf prPlace, FS.pf prCheck, FS.pf prOld, FS.pf prRefused, GS.pf dfGuard, FS.pf prMss, mHas, mLeaves, mHeard, mAsk, mStranger, mFromClient, mFromServer, FS.pf prClient, FS.pf prServer, FS.pf kTalkOf, FS.pf kProxyLives, FS.pf kTurn, FS.pf kSameProxy, FS.pf kShuts, FS.pf kBlind, FS.pf kApart, FS.pf rRoadRight, FS.pf kOpens, FS.pf rBetween, FS.pf rProxyRight] [] 30 105 rWordAt_ap rWordAt_rp x = rWordAt_tree x := by kernel_rfl
def rWordAt_fn (x : ((List UInt8) × (Int × Unit))) : Option (Int × Unit) := (rWordAt_tree x).eval
def rWordAt : FS Try.prog := ⟨105, rWordAt_ap, rWordAt_rp, rWordAt_fn, fun x r h => fnTr_sound (cod := cod) (Γ := [FS.pf rotl, FS.pf sipCheck, FS.pf sipBegin, FS.pf sipNumber, FS.pf sipMore, FS.pf sipEnd, FS.pf sipOf, FS.pf coPort, FS.pf coLong, FS.pf coSizes, FS.pf coIndex, FS.pf coMake, FS.pf coOpen, FS.pf sumFold, FS.pf sumAdd, FS.pf sumOf, clOpt, FS.pf tcWord, FS.pf tcLong, FS.pf tcWordAt, FS.pf tcLongAt, FS.pf tcWords, FS.pf tcOptions, FS.pf tcWrite, FS.pf tcMss, FS.pf tcMove, clGuard, GS.pf delGuard, FS.pf prTurned, FS.pf prPort, FS.pf prPlace, FS.pf prCheck, FS.pf prOld, FS.pf prRefused, GS.pf dfGuard, FS.pf prMss, mHas, mLeaves, mHeard, mAsk, mStranger, mFromClient, mFromServer, FS.pf prClient, FS.pf prServer, FS.pf kTalkOf, FS.pf kProxyLives, FS.pf kTurn, FS.pf kSameProxy, FS.pf kShuts, FS.pf kBlind, FS.pf kApart, FS.pf rRoadRight, FS.pf kOpens, FS.pf rBetween, FS.pf rProxyRight]) (Λs := []) (n := 30) ((congrArg Tr.eval (rWordAt_eq x)).trans h)⟩
def rEndAround_ap : List VP1 := [.one (.i .i64), .one (.i .i64)]
def rEndAround_rp : SP := ⟨1, [(0, .v (.one (.i .i64)))], []⟩
def rEndAround_tree : (Int × (Int × Unit)) → Tr (Int × Unit) :=
  fun (a0, a1, _) =>
  .ite (decide ((65535 : Int) < IntKind.wrap IntKind.i64 (a0 + a1))) (
   .ret (IntKind.wrap IntKind.i64 (IntKind.wrap IntKind.i64 (a0 + a1) - (65535 : Int)), ())) (
   .ret (IntKind.wrap IntKind.i64 (a0 + a1), ()))
theorem rEndAround_eq (x : (Int × (Int × Unit))) : fnTr Try.prog cod [FS.pf rotl, FS.pf sipCheck, FS.pf sipBegin, FS.pf sipNumber, FS.pf sipMore, FS.pf sipEnd, FS.pf sipOf, FS.pf coPort, FS.pf coLong, FS.pf coSizes, FS.pf coIndex, FS.pf coMake, FS.pf coOpen, FS.pf sumFold, FS.pf sumAdd, FS.pf sumOf, clOpt, FS.pf tcWord, FS.pf tcLong, FS.pf tcWordAt, FS.pf tcLongAt, FS.pf tcWords, FS.pf tcOptions, FS.pf tcWrite, FS.pf tcMss, FS.pf tcMove, clGuard, GS.pf delGuard, FS.pf prTurned, FS.pf prPort, FS.pf prPlace, FS.pf prCheck, FS.pf prOld, FS.pf prRefused, GS.pf dfGuard, FS.pf prMss, mHas, mLeaves, mHeard, mAsk, mStranger, mFromClient, mFromServer, FS.pf prClient, FS.pf prServer, FS.pf kTalkOf, FS.pf kProxyLives, FS.pf kTurn, FS.pf kSameProxy, FS.pf kShuts, FS.pf kBlind, FS.pf kApart, FS.pf rRoadRight, FS.pf kOpens, FS.pf rBetween, FS.pf rProxyRight, FS.pf rWordAt] [] 30 104 rEndAround_ap rEndAround_rp x = rEndAround_tree x := by kernel_rfl
def rEndAround_fn (x : (Int × (Int × Unit))) : Option (Int × Unit) := (rEndAround_tree x).eval
def rEndAround : FS Try.prog := ⟨104, rEndAround_ap, rEndAround_rp, rEndAround_fn, fun x r h => fnTr_sound (cod := cod) (Γ := [FS.pf rotl, FS.pf sipCheck, FS.pf sipBegin, FS.pf sipNumber, FS.pf sipMore, FS.pf sipEnd, FS.pf sipOf, FS.pf coPort, FS.pf coLong, FS.pf coSizes, FS.pf coIndex, FS.pf coMake, FS.pf coOpen, FS.pf sumFold, FS.pf sumAdd, FS.pf sumOf, clOpt, FS.pf tcWord, FS.pf tcLong, FS.pf tcWordAt, FS.pf tcLongAt, FS.pf tcWords, FS.pf tcOptions, FS.pf tcWrite, FS.pf tcMss, FS.pf tcMove, clGuard, GS.pf delGuard, FS.pf prTurned, FS.pf prPort, FS.pf prPlace, FS.pf prCheck, FS.pf prOld, FS.pf prRefused, GS.pf dfGuard, FS.pf prMss, mHas, mLeaves, mHeard, mAsk, mStranger, mFromClient, mFromServer, FS.pf prClient, FS.pf prServer, FS.pf kTalkOf, FS.pf kProxyLives, FS.pf kTurn, FS.pf kSameProxy, FS.pf kShuts, FS.pf kBlind, FS.pf kApart, FS.pf rRoadRight, FS.pf kOpens, FS.pf rBetween, FS.pf rProxyRight, FS.pf rWordAt]) (Λs := []) (n := 30) ((congrArg Tr.eval (rEndAround_eq x)).trans h)⟩
def rWord_L64_3 : LS := ⟨3, [(8, 8)], ⟨24, [(11, .v (.one (.i .i64))), (3, .v (.one (.own 8))), (9, .v (.one (.st 0 false))), (10, .v (.one (.i .i64)))], [(8, .row 5 2 true true)]⟩, [⟨some 0, [(8, 8)], ⟨24, [(3, .v (.one (.own 8)))], [(8, .row 5 2 true true)]⟩⟩], []⟩
def rWord_step64_3 : (Int × ((List Int) × (Int × ((List UInt8) × Unit)))) → Tr ((Int × ((List Int) × (Int × ((List UInt8) × Unit)))) ⊕ ((List UInt8) × Unit)) :=
  fun (a0, a1, a2, a3, _) =>
  .ite (decide (a0 < a2)) (
   .grd (decide ((0 : Int) ≤ a0)) (
   .opt (β := Int) (a1[Int.toNat a0]?) (fun r0 =>
   .grd (decide ((0 : Int) ≤ a0 ∧ a0 < (↑(List.length a3) : Int))) (
   .opt (β := UInt8) (a3[Int.toNat a0]?) (fun r1 =>
   .grd (decide ((0 : Int) ≤ IntKind.wrap IntKind.u8 r0 ∧ IntKind.wrap IntKind.u8 r0 < (256 : Int))) (
   .grd (decide (List.length a3 = List.length (List.set a3 (Int.toNat a0) (UInt8.ofNat (Int.toNat (IntKind.wrap IntKind.u8 r0)))))) (
   .ret (Sum.inl (IntKind.wrap IntKind.i64 (a0 + (1 : Int)), (a1, (a2, (List.set a3 (Int.toNat a0) (UInt8.ofNat (Int.toNat (IntKind.wrap IntKind.u8 r0))), ())))))))))))) (
   .grd (decide (List.length a3 = List.length a3)) (
   .ret (Sum.inr (a3, ()))))
def rWord_loop64_3 (x : (Int × ((List Int) × (Int × ((List UInt8) × Unit))))) : Option ((List UInt8) × Unit) := loopO 640003 (fun x => (rWord_step64_3 x).eval) 18446744073709551616 x
def rWord_ap : List VP1 := [.one (.i .i64)]
def rWord_rp : SP := ⟨1, [(0, .v (.one (.s)))], []⟩
def rWord_tree : (Int × Unit) → Tr ((List UInt8) × Unit) :=
  fun (a0, _) =>
  .grd (true) (
  .grd (true) (
  .grd (decide ((0 : Int) ≤ (↑(List.length [IntKind.wrap IntKind.i64 (Int.tdiv a0 (256 : Int)), Int.tmod a0 (256 : Int)]) : Int) ∧ (↑(List.length [IntKind.wrap IntKind.i64 (Int.tdiv a0 (256 : Int)), Int.tmod a0 (256 : Int)]) : Int) ≤ (↑(List.length [IntKind.wrap IntKind.i64 (Int.tdiv a0 (256 : Int)), Int.tmod a0 (256 : Int)]) : Int) ∧ Int.toNat (↑(List.length [IntKind.wrap IntKind.i64 (Int.tdiv a0 (256 : Int)), Int.tmod a0 (256 : Int)]) : Int) * (1 : Nat) ≤ (140737488355328 : Nat) ∧ (↑(List.length [IntKind.wrap IntKind.i64 (Int.tdiv a0 (256 : Int)), Int.tmod a0 (256 : Int)]) : Int) ≤ (↑(9223372036854775807 : Nat) : Int))) (
  .grd (true) (
  .grd (decide (List.length (List.replicate (Int.toNat (↑(List.length [IntKind.wrap IntKind.i64 (Int.tdiv a0 (256 : Int)), Int.tmod a0 (256 : Int)]) : Int)) (UInt8.ofNat (0 : Nat))) = (2 : Nat))) (
  .opt (β := ((List UInt8) × Unit)) ((rWord_loop64_3 ((0 : Int), ([IntKind.wrap IntKind.i64 (Int.tdiv a0 (256 : Int)), Int.tmod a0 (256 : Int)], ((↑(List.length [IntKind.wrap IntKind.i64 (Int.tdiv a0 (256 : Int)), Int.tmod a0 (256 : Int)]) : Int), (List.replicate (Int.toNat (↑(List.length [IntKind.wrap IntKind.i64 (Int.tdiv a0 (256 : Int)), Int.tmod a0 (256 : Int)]) : Int)) (UInt8.ofNat (0 : Nat)), ())))))) (fun r0 =>
  .ret (r0.1, ())))))))
theorem rWord_eq (x : (Int × Unit)) : fnTr Try.prog cod [FS.pf rotl, FS.pf sipCheck, FS.pf sipBegin, FS.pf sipNumber, FS.pf sipMore, FS.pf sipEnd, FS.pf sipOf, FS.pf coPort, FS.pf coLong, FS.pf coSizes, FS.pf coIndex, FS.pf coMake, FS.pf coOpen, FS.pf sumFold, FS.pf sumAdd, FS.pf sumOf, clOpt, FS.pf tcWord, FS.pf tcLong, FS.pf tcWordAt, FS.pf tcLongAt, FS.pf tcWords, FS.pf tcOptions, FS.pf tcWrite, FS.pf tcMss, FS.pf tcMove, clGuard, GS.pf delGuard, FS.pf prTurned, FS.pf prPort, FS.pf prPlace, FS.pf prCheck, FS.pf prOld, FS.pf prRefused, GS.pf dfGuard, FS.pf prMss, mHas, mLeaves, mHeard, mAsk, mStranger, mFromClient, mFromServer, FS.pf prClient, FS.pf prServer, FS.pf kTalkOf, FS.pf kProxyLives, FS.pf kTurn, FS.pf kSameProxy, FS.pf kShuts, FS.pf kBlind, FS.pf kApart, FS.pf rRoadRight, FS.pf kOpens, FS.pf rBetween, FS.pf rProxyRight, FS.pf rWordAt, FS.pf rEndAround] [(64, rWord_L64_3)] 30 62 rWord_ap rWord_rp x = rWord_tree x := by kernel_rfl
def rWord_fn (x : (Int × Unit)) : Option ((List UInt8) × Unit) := (rWord_tree x).eval
def rWord : FS Try.prog := ⟨62, rWord_ap, rWord_rp, rWord_fn, fun x r h => fnTr_sound (cod := cod) (Γ := [FS.pf rotl, FS.pf sipCheck, FS.pf sipBegin, FS.pf sipNumber, FS.pf sipMore, FS.pf sipEnd, FS.pf sipOf, FS.pf coPort, FS.pf coLong, FS.pf coSizes, FS.pf coIndex, FS.pf coMake, FS.pf coOpen, FS.pf sumFold, FS.pf sumAdd, FS.pf sumOf, clOpt, FS.pf tcWord, FS.pf tcLong, FS.pf tcWordAt, FS.pf tcLongAt, FS.pf tcWords, FS.pf tcOptions, FS.pf tcWrite, FS.pf tcMss, FS.pf tcMove, clGuard, GS.pf delGuard, FS.pf prTurned, FS.pf prPort, FS.pf prPlace, FS.pf prCheck, FS.pf prOld, FS.pf prRefused, GS.pf dfGuard, FS.pf prMss, mHas, mLeaves, mHeard, mAsk, mStranger, mFromClient, mFromServer, FS.pf prClient, FS.pf prServer, FS.pf kTalkOf, FS.pf kProxyLives, FS.pf kTurn, FS.pf kSameProxy, FS.pf kShuts, FS.pf kBlind, FS.pf kApart, FS.pf rRoadRight, FS.pf kOpens, FS.pf rBetween, FS.pf rProxyRight, FS.pf rWordAt, FS.pf rEndAround]) (Λs := [(64, rWord_L64_3)]) (n := 30) ((congrArg Tr.eval (rWord_eq x)).trans h)⟩
def rLong_ap : List VP1 := [.one (.i .u32)]
def rLong_rp : SP := ⟨1, [(0, .v (.one (.s)))], []⟩
def rLong_tree : (Int × Unit) → Tr ((List UInt8) × Unit) :=
  fun (a0, _) =>
  .grd (true) (
  .opt (β := ((List UInt8) × Unit)) ((rWord_fn (IntKind.wrap IntKind.i64 (IntKind.wrap IntKind.u32 (Int.tdiv a0 (65536 : Int))), ()))) (fun r0 =>
  .grd (true) (
  .opt (β := ((List UInt8) × Unit)) ((rWord_fn (IntKind.wrap IntKind.i64 (Int.tmod a0 (65536 : Int)), ()))) (fun r1 =>
  .grd (decide (List.length r0.1 + List.length r1.1 ≤ (9223372036854775807 : Nat))) (
  .ret (r0.1 ++ r1.1, ()))))))
theorem rLong_eq (x : (Int × Unit)) : fnTr Try.prog cod [FS.pf rotl, FS.pf sipCheck, FS.pf sipBegin, FS.pf sipNumber, FS.pf sipMore, FS.pf sipEnd, FS.pf sipOf, FS.pf coPort, FS.pf coLong, FS.pf coSizes, FS.pf coIndex, FS.pf coMake, FS.pf coOpen, FS.pf sumFold, FS.pf sumAdd, FS.pf sumOf, clOpt, FS.pf tcWord, FS.pf tcLong, FS.pf tcWordAt, FS.pf tcLongAt, FS.pf tcWords, FS.pf tcOptions, FS.pf tcWrite, FS.pf tcMss, FS.pf tcMove, clGuard, GS.pf delGuard, FS.pf prTurned, FS.pf prPort, FS.pf prPlace, FS.pf prCheck, FS.pf prOld, FS.pf prRefused, GS.pf dfGuard, FS.pf prMss, mHas, mLeaves, mHeard, mAsk, mStranger, mFromClient, mFromServer, FS.pf prClient, FS.pf prServer, FS.pf kTalkOf, FS.pf kProxyLives, FS.pf kTurn, FS.pf kSameProxy, FS.pf kShuts, FS.pf kBlind, FS.pf kApart, FS.pf rRoadRight, FS.pf kOpens, FS.pf rBetween, FS.pf rProxyRight, FS.pf rWordAt, FS.pf rEndAround, FS.pf rWord] [] 30 63 rLong_ap rLong_rp x = rLong_tree x := by kernel_rfl
def rLong_fn (x : (Int × Unit)) : Option ((List UInt8) × Unit) := (rLong_tree x).eval
def rLong : FS Try.prog := ⟨63, rLong_ap, rLong_rp, rLong_fn, fun x r h => fnTr_sound (cod := cod) (Γ := [FS.pf rotl, FS.pf sipCheck, FS.pf sipBegin, FS.pf sipNumber, FS.pf sipMore, FS.pf sipEnd, FS.pf sipOf, FS.pf coPort, FS.pf coLong, FS.pf coSizes, FS.pf coIndex, FS.pf coMake, FS.pf coOpen, FS.pf sumFold, FS.pf sumAdd, FS.pf sumOf, clOpt, FS.pf tcWord, FS.pf tcLong, FS.pf tcWordAt, FS.pf tcLongAt, FS.pf tcWords, FS.pf tcOptions, FS.pf tcWrite, FS.pf tcMss, FS.pf tcMove, clGuard, GS.pf delGuard, FS.pf prTurned, FS.pf prPort, FS.pf prPlace, FS.pf prCheck, FS.pf prOld, FS.pf prRefused, GS.pf dfGuard, FS.pf prMss, mHas, mLeaves, mHeard, mAsk, mStranger, mFromClient, mFromServer, FS.pf prClient, FS.pf prServer, FS.pf kTalkOf, FS.pf kProxyLives, FS.pf kTurn, FS.pf kSameProxy, FS.pf kShuts, FS.pf kBlind, FS.pf kApart, FS.pf rRoadRight, FS.pf kOpens, FS.pf rBetween, FS.pf rProxyRight, FS.pf rWordAt, FS.pf rEndAround, FS.pf rWord]) (Λs := []) (n := 30) ((congrArg Tr.eval (rLong_eq x)).trans h)⟩
def rBytes_L64_3 : LS := ⟨3, [(8, 8)], ⟨24, [(11, .v (.one (.i .i64))), (3, .v (.one (.own 8))), (9, .v (.one (.st 0 false))), (10, .v (.one (.i .i64)))], [(8, .row 5 2 true true)]⟩, [⟨some 0, [(8, 8)], ⟨24, [(3, .v (.one (.own 8)))], [(8, .row 5 2 true true)]⟩⟩], []⟩
def rBytes_step64_3 : (Int × ((List Int) × (Int × ((List UInt8) × Unit)))) → Tr ((Int × ((List Int) × (Int × ((List UInt8) × Unit)))) ⊕ ((List UInt8) × Unit)) :=
  fun (a0, a1, a2, a3, _) =>
  .ite (decide (a0 < a2)) (
   .grd (decide ((0 : Int) ≤ a0)) (
   .opt (β := Int) (a1[Int.toNat a0]?) (fun r0 =>
   .grd (decide ((0 : Int) ≤ a0 ∧ a0 < (↑(List.length a3) : Int))) (
   .opt (β := UInt8) (a3[Int.toNat a0]?) (fun r1 =>
   .grd (decide ((0 : Int) ≤ IntKind.wrap IntKind.u8 r0 ∧ IntKind.wrap IntKind.u8 r0 < (256 : Int))) (
   .grd (decide (List.length a3 = List.length (List.set a3 (Int.toNat a0) (UInt8.ofNat (Int.toNat (IntKind.wrap IntKind.u8 r0)))))) (
   .ret (Sum.inl (IntKind.wrap IntKind.i64 (a0 + (1 : Int)), (a1, (a2, (List.set a3 (Int.toNat a0) (UInt8.ofNat (Int.toNat (IntKind.wrap IntKind.u8 r0))), ())))))))))))) (
   .grd (decide (List.length a3 = List.length a3)) (
   .ret (Sum.inr (a3, ()))))
def rBytes_loop64_3 (x : (Int × ((List Int) × (Int × ((List UInt8) × Unit))))) : Option ((List UInt8) × Unit) := loopO 640003 (fun x => (rBytes_step64_3 x).eval) 18446744073709551616 x
def rBytes_ap : List VP1 := [.one (.st 0 false)]
def rBytes_rp : SP := ⟨1, [(0, .v (.one (.s)))], []⟩
def rBytes_tree : ((List Int) × Unit) → Tr ((List UInt8) × Unit) :=
  fun (a0, _) =>
  .grd (decide ((0 : Int) ≤ (↑(List.length a0) : Int) ∧ (↑(List.length a0) : Int) ≤ (↑(List.length a0) : Int) ∧ Int.toNat (↑(List.length a0) : Int) * (1 : Nat) ≤ (140737488355328 : Nat) ∧ (↑(List.length a0) : Int) ≤ (↑(9223372036854775807 : Nat) : Int))) (
  .grd (true) (
  .grd (decide (List.length (List.replicate (Int.toNat (↑(List.length a0) : Int)) (UInt8.ofNat (0 : Nat))) = List.length (List.replicate (Int.toNat (↑(List.length a0) : Int)) (UInt8.ofNat (0 : Nat))))) (
  .opt (β := ((List UInt8) × Unit)) ((rBytes_loop64_3 ((0 : Int), (a0, ((↑(List.length a0) : Int), (List.replicate (Int.toNat (↑(List.length a0) : Int)) (UInt8.ofNat (0 : Nat)), ())))))) (fun r0 =>
  .ret (r0.1, ())))))
theorem rBytes_eq (x : ((List Int) × Unit)) : fnTr Try.prog cod [FS.pf rotl, FS.pf sipCheck, FS.pf sipBegin, FS.pf sipNumber, FS.pf sipMore, FS.pf sipEnd, FS.pf sipOf, FS.pf coPort, FS.pf coLong, FS.pf coSizes, FS.pf coIndex, FS.pf coMake, FS.pf coOpen, FS.pf sumFold, FS.pf sumAdd, FS.pf sumOf, clOpt, FS.pf tcWord, FS.pf tcLong, FS.pf tcWordAt, FS.pf tcLongAt, FS.pf tcWords, FS.pf tcOptions, FS.pf tcWrite, FS.pf tcMss, FS.pf tcMove, clGuard, GS.pf delGuard, FS.pf prTurned, FS.pf prPort, FS.pf prPlace, FS.pf prCheck, FS.pf prOld, FS.pf prRefused, GS.pf dfGuard, FS.pf prMss, mHas, mLeaves, mHeard, mAsk, mStranger, mFromClient, mFromServer, FS.pf prClient, FS.pf prServer, FS.pf kTalkOf, FS.pf kProxyLives, FS.pf kTurn, FS.pf kSameProxy, FS.pf kShuts, FS.pf kBlind, FS.pf kApart, FS.pf rRoadRight, FS.pf kOpens, FS.pf rBetween, FS.pf rProxyRight, FS.pf rWordAt, FS.pf rEndAround, FS.pf rWord, FS.pf rLong] [(64, rBytes_L64_3)] 30 64 rBytes_ap rBytes_rp x = rBytes_tree x := by kernel_rfl
def rBytes_fn (x : ((List Int) × Unit)) : Option ((List UInt8) × Unit) := (rBytes_tree x).eval
def rBytes : FS Try.prog := ⟨64, rBytes_ap, rBytes_rp, rBytes_fn, fun x r h => fnTr_sound (cod := cod) (Γ := [FS.pf rotl, FS.pf sipCheck, FS.pf sipBegin, FS.pf sipNumber, FS.pf sipMore, FS.pf sipEnd, FS.pf sipOf, FS.pf coPort, FS.pf coLong, FS.pf coSizes, FS.pf coIndex, FS.pf coMake, FS.pf coOpen, FS.pf sumFold, FS.pf sumAdd, FS.pf sumOf, clOpt, FS.pf tcWord, FS.pf tcLong, FS.pf tcWordAt, FS.pf tcLongAt, FS.pf tcWords, FS.pf tcOptions, FS.pf tcWrite, FS.pf tcMss, FS.pf tcMove, clGuard, GS.pf delGuard, FS.pf prTurned, FS.pf prPort, FS.pf prPlace, FS.pf prCheck, FS.pf prOld, FS.pf prRefused, GS.pf dfGuard, FS.pf prMss, mHas, mLeaves, mHeard, mAsk, mStranger, mFromClient, mFromServer, FS.pf prClient, FS.pf prServer, FS.pf kTalkOf, FS.pf kProxyLives, FS.pf kTurn, FS.pf kSameProxy, FS.pf kShuts, FS.pf kBlind, FS.pf kApart, FS.pf rRoadRight, FS.pf kOpens, FS.pf rBetween, FS.pf rProxyRight, FS.pf rWordAt, FS.pf rEndAround, FS.pf rWord, FS.pf rLong]) (Λs := [(64, rBytes_L64_3)]) (n := 30) ((congrArg Tr.eval (rBytes_eq x)).trans h)⟩
def rSumOf_L90_2 : LS := ⟨2, [], ⟨18, [(5, .v (.one (.i .i64))), (1, .v (.one (.s))), (0, .v (.one (.i .i64)))], []⟩, [⟨some 0, [], ⟨18, [(0, .v (.one (.i .i64)))], []⟩⟩], []⟩
def rSumOf_step90_2 : (Int × ((List UInt8) × (Int × Unit))) → Tr ((Int × ((List UInt8) × (Int × Unit))) ⊕ (Int × Unit)) :=
  fun (a0, a1, a2, _) =>
  .ite (decide (a0 < (↑(List.length a1) : Int))) (
   .opt (β := (Int × Unit)) ((rWordAt_fn (a1, (a0, ())))) (fun r0 =>
   .opt (β := (Int × Unit)) ((rEndAround_fn (a2, (r0.1, ())))) (fun r1 =>
   .ret (Sum.inl (IntKind.wrap IntKind.i64 (a0 + (2 : Int)), (a1, (r1.1, ()))))))) (
   .ret (Sum.inr (a2, ())))
def rSumOf_loop90_2 (x : (Int × ((List UInt8) × (Int × Unit)))) : Option (Int × Unit) := loopO 900002 (fun x => (rSumOf_step90_2 x).eval) 18446744073709551616 x
def rSumOf_ap : List VP1 := [.one (.i .i64), .one (.s)]
def rSumOf_rp : SP := ⟨1, [(0, .v (.one (.i .i64)))], []⟩
def rSumOf_tree : (Int × ((List UInt8) × Unit)) → Tr (Int × Unit) :=
  fun (a0, a1, _) =>
  .opt (β := (Int × Unit)) ((rSumOf_loop90_2 ((0 : Int), (a1, (a0, ()))))) (fun r0 =>
  .ret (r0.1, ()))
theorem rSumOf_eq (x : (Int × ((List UInt8) × Unit))) : fnTr Try.prog cod [FS.pf rotl, FS.pf sipCheck, FS.pf sipBegin, FS.pf sipNumber, FS.pf sipMore, FS.pf sipEnd, FS.pf sipOf, FS.pf coPort, FS.pf coLong, FS.pf coSizes, FS.pf coIndex, FS.pf coMake, FS.pf coOpen, FS.pf sumFold, FS.pf sumAdd, FS.pf sumOf, clOpt, FS.pf tcWord, FS.pf tcLong, FS.pf tcWordAt, FS.pf tcLongAt, FS.pf tcWords, FS.pf tcOptions, FS.pf tcWrite, FS.pf tcMss, FS.pf tcMove, clGuard, GS.pf delGuard, FS.pf prTurned, FS.pf prPort, FS.pf prPlace, FS.pf prCheck, FS.pf prOld, FS.pf prRefused, GS.pf dfGuard, FS.pf prMss, mHas, mLeaves, mHeard, mAsk, mStranger, mFromClient, mFromServer, FS.pf prClient, FS.pf prServer, FS.pf kTalkOf, FS.pf kProxyLives, FS.pf kTurn, FS.pf kSameProxy, FS.pf kShuts, FS.pf kBlind, FS.pf kApart, FS.pf rRoadRight, FS.pf kOpens, FS.pf rBetween, FS.pf rProxyRight, FS.pf rWordAt, FS.pf rEndAround, FS.pf rWord, FS.pf rLong, FS.pf rBytes] [(90, rSumOf_L90_2)] 30 90 rSumOf_ap rSumOf_rp x = rSumOf_tree x := by kernel_rfl
def rSumOf_fn (x : (Int × ((List UInt8) × Unit))) : Option (Int × Unit) := (rSumOf_tree x).eval
def rSumOf : FS Try.prog := ⟨90, rSumOf_ap, rSumOf_rp, rSumOf_fn, fun x r h => fnTr_sound (cod := cod) (Γ := [FS.pf rotl, FS.pf sipCheck, FS.pf sipBegin, FS.pf sipNumber, FS.pf sipMore, FS.pf sipEnd, FS.pf sipOf, FS.pf coPort, FS.pf coLong, FS.pf coSizes, FS.pf coIndex, FS.pf coMake, FS.pf coOpen, FS.pf sumFold, FS.pf sumAdd, FS.pf sumOf, clOpt, FS.pf tcWord, FS.pf tcLong, FS.pf tcWordAt, FS.pf tcLongAt, FS.pf tcWords, FS.pf tcOptions, FS.pf tcWrite, FS.pf tcMss, FS.pf tcMove, clGuard, GS.pf delGuard, FS.pf prTurned, FS.pf prPort, FS.pf prPlace, FS.pf prCheck, FS.pf prOld, FS.pf prRefused, GS.pf dfGuard, FS.pf prMss, mHas, mLeaves, mHeard, mAsk, mStranger, mFromClient, mFromServer, FS.pf prClient, FS.pf prServer, FS.pf kTalkOf, FS.pf kProxyLives, FS.pf kTurn, FS.pf kSameProxy, FS.pf kShuts, FS.pf kBlind, FS.pf kApart, FS.pf rRoadRight, FS.pf kOpens, FS.pf rBetween, FS.pf rProxyRight, FS.pf rWordAt, FS.pf rEndAround, FS.pf rWord, FS.pf rLong, FS.pf rBytes]) (Λs := [(90, rSumOf_L90_2)]) (n := 30) ((congrArg Tr.eval (rSumOf_eq x)).trans h)⟩
def rUnderText_ap : List VP1 := [.one (.i .u32), .one (.i .u32), .one (.i .i64), .one (.i .i64)]
def rUnderText_rp : SP := ⟨1, [(0, .v (.one (.s)))], []⟩
def rUnderText_tree : (Int × (Int × (Int × (Int × Unit)))) → Tr ((List UInt8) × Unit) :=
  fun (a0, a1, a2, a3, _) =>
  .opt (β := ((List UInt8) × Unit)) ((rLong_fn (a0, ()))) (fun r0 =>
  .opt (β := ((List UInt8) × Unit)) ((rLong_fn (a1, ()))) (fun r1 =>
  .grd (decide (List.length r0.1 + List.length r1.1 ≤ (9223372036854775807 : Nat))) (
  .grd (true) (
  .grd (true) (
  .opt (β := ((List UInt8) × Unit)) ((rWord_fn (Int.tmod (IntKind.wrap IntKind.i64 (Int.tmod a2 (256 : Int) + (256 : Int))) (256 : Int), ()))) (fun r2 =>
  .grd (decide (List.length (r0.1 ++ r1.1) + List.length r2.1 ≤ (9223372036854775807 : Nat))) (
  .grd (true) (
  .grd (true) (
  .opt (β := ((List UInt8) × Unit)) ((rWord_fn (Int.tmod (IntKind.wrap IntKind.i64 (Int.tmod a3 (65536 : Int) + (65536 : Int))) (65536 : Int), ()))) (fun r3 =>
  .grd (decide (List.length (r0.1 ++ r1.1 ++ r2.1) + List.length r3.1 ≤ (9223372036854775807 : Nat))) (
  .ret (r0.1 ++ r1.1 ++ r2.1 ++ r3.1, ()))))))))))))
theorem rUnderText_eq (x : (Int × (Int × (Int × (Int × Unit))))) : fnTr Try.prog cod [FS.pf rotl, FS.pf sipCheck, FS.pf sipBegin, FS.pf sipNumber, FS.pf sipMore, FS.pf sipEnd, FS.pf sipOf, FS.pf coPort, FS.pf coLong, FS.pf coSizes, FS.pf coIndex, FS.pf coMake, FS.pf coOpen, FS.pf sumFold, FS.pf sumAdd, FS.pf sumOf, clOpt, FS.pf tcWord, FS.pf tcLong, FS.pf tcWordAt, FS.pf tcLongAt, FS.pf tcWords, FS.pf tcOptions, FS.pf tcWrite, FS.pf tcMss, FS.pf tcMove, clGuard, GS.pf delGuard, FS.pf prTurned, FS.pf prPort, FS.pf prPlace, FS.pf prCheck, FS.pf prOld, FS.pf prRefused, GS.pf dfGuard, FS.pf prMss, mHas, mLeaves, mHeard, mAsk, mStranger, mFromClient, mFromServer, FS.pf prClient, FS.pf prServer, FS.pf kTalkOf, FS.pf kProxyLives, FS.pf kTurn, FS.pf kSameProxy, FS.pf kShuts, FS.pf kBlind, FS.pf kApart, FS.pf rRoadRight, FS.pf kOpens, FS.pf rBetween, FS.pf rProxyRight, FS.pf rWordAt, FS.pf rEndAround, FS.pf rWord, FS.pf rLong, FS.pf rBytes, FS.pf rSumOf] [] 30 66 rUnderText_ap rUnderText_rp x = rUnderText_tree x := by kernel_rfl
def rUnderText_fn (x : (Int × (Int × (Int × (Int × Unit))))) : Option ((List UInt8) × Unit) := (rUnderText_tree x).eval
def rUnderText : FS Try.prog := ⟨66, rUnderText_ap, rUnderText_rp, rUnderText_fn, fun x r h => fnTr_sound (cod := cod) (Γ := [FS.pf rotl, FS.pf sipCheck, FS.pf sipBegin, FS.pf sipNumber, FS.pf sipMore, FS.pf sipEnd, FS.pf sipOf, FS.pf coPort, FS.pf coLong, FS.pf coSizes, FS.pf coIndex, FS.pf coMake, FS.pf coOpen, FS.pf sumFold, FS.pf sumAdd, FS.pf sumOf, clOpt, FS.pf tcWord, FS.pf tcLong, FS.pf tcWordAt, FS.pf tcLongAt, FS.pf tcWords, FS.pf tcOptions, FS.pf tcWrite, FS.pf tcMss, FS.pf tcMove, clGuard, GS.pf delGuard, FS.pf prTurned, FS.pf prPort, FS.pf prPlace, FS.pf prCheck, FS.pf prOld, FS.pf prRefused, GS.pf dfGuard, FS.pf prMss, mHas, mLeaves, mHeard, mAsk, mStranger, mFromClient, mFromServer, FS.pf prClient, FS.pf prServer, FS.pf kTalkOf, FS.pf kProxyLives, FS.pf kTurn, FS.pf kSameProxy, FS.pf kShuts, FS.pf kBlind, FS.pf kApart, FS.pf rRoadRight, FS.pf kOpens, FS.pf rBetween, FS.pf rProxyRight, FS.pf rWordAt, FS.pf rEndAround, FS.pf rWord, FS.pf rLong, FS.pf rBytes, FS.pf rSumOf]) (Λs := []) (n := 30) ((congrArg Tr.eval (rUnderText_eq x)).trans h)⟩
def rCheck_ap : List VP1 := [.one (.s)]
def rCheck_rp : SP := ⟨1, [(0, .v (.one (.i .i64)))], []⟩
def rCheck_tree : ((List UInt8) × Unit) → Tr (Int × Unit) :=
  fun (a0, _) =>
  .opt (β := (Int × Unit)) ((rSumOf_fn ((0 : Int), (a0, ())))) (fun r0 =>
  .ret (IntKind.wrap IntKind.i64 ((65535 : Int) - r0.1), ()))
theorem rCheck_eq (x : ((List UInt8) × Unit)) : fnTr Try.prog cod [FS.pf rotl, FS.pf sipCheck, FS.pf sipBegin, FS.pf sipNumber, FS.pf sipMore, FS.pf sipEnd, FS.pf sipOf, FS.pf coPort, FS.pf coLong, FS.pf coSizes, FS.pf coIndex, FS.pf coMake, FS.pf coOpen, FS.pf sumFold, FS.pf sumAdd, FS.pf sumOf, clOpt, FS.pf tcWord, FS.pf tcLong, FS.pf tcWordAt, FS.pf tcLongAt, FS.pf tcWords, FS.pf tcOptions, FS.pf tcWrite, FS.pf tcMss, FS.pf tcMove, clGuard, GS.pf delGuard, FS.pf prTurned, FS.pf prPort, FS.pf prPlace, FS.pf prCheck, FS.pf prOld, FS.pf prRefused, GS.pf dfGuard, FS.pf prMss, mHas, mLeaves, mHeard, mAsk, mStranger, mFromClient, mFromServer, FS.pf prClient, FS.pf prServer, FS.pf kTalkOf, FS.pf kProxyLives, FS.pf kTurn, FS.pf kSameProxy, FS.pf kShuts, FS.pf kBlind, FS.pf kApart, FS.pf rRoadRight, FS.pf kOpens, FS.pf rBetween, FS.pf rProxyRight, FS.pf rWordAt, FS.pf rEndAround, FS.pf rWord, FS.pf rLong, FS.pf rBytes, FS.pf rSumOf, FS.pf rUnderText] [] 30 65 rCheck_ap rCheck_rp x = rCheck_tree x := by kernel_rfl
def rCheck_fn (x : ((List UInt8) × Unit)) : Option (Int × Unit) := (rCheck_tree x).eval
def rCheck : FS Try.prog := ⟨65, rCheck_ap, rCheck_rp, rCheck_fn, fun x r h => fnTr_sound (cod := cod) (Γ := [FS.pf rotl, FS.pf sipCheck, FS.pf sipBegin, FS.pf sipNumber, FS.pf sipMore, FS.pf sipEnd, FS.pf sipOf, FS.pf coPort, FS.pf coLong, FS.pf coSizes, FS.pf coIndex, FS.pf coMake, FS.pf coOpen, FS.pf sumFold, FS.pf sumAdd, FS.pf sumOf, clOpt, FS.pf tcWord, FS.pf tcLong, FS.pf tcWordAt, FS.pf tcLongAt, FS.pf tcWords, FS.pf tcOptions, FS.pf tcWrite, FS.pf tcMss, FS.pf tcMove, clGuard, GS.pf delGuard, FS.pf prTurned, FS.pf prPort, FS.pf prPlace, FS.pf prCheck, FS.pf prOld, FS.pf prRefused, GS.pf dfGuard, FS.pf prMss, mHas, mLeaves, mHeard, mAsk, mStranger, mFromClient, mFromServer, FS.pf prClient, FS.pf prServer, FS.pf kTalkOf, FS.pf kProxyLives, FS.pf kTurn, FS.pf kSameProxy, FS.pf kShuts, FS.pf kBlind, FS.pf kApart, FS.pf rRoadRight, FS.pf kOpens, FS.pf rBetween, FS.pf rProxyRight, FS.pf rWordAt, FS.pf rEndAround, FS.pf rWord, FS.pf rLong, FS.pf rBytes, FS.pf rSumOf, FS.pf rUnderText]) (Λs := []) (n := 30) ((congrArg Tr.eval (rCheck_eq x)).trans h)⟩
def rOptionText_ap : List VP1 := [.agg [.i .i64, .s]]
def rOptionText_rp : SP := ⟨1, [(0, .tup [.one (.s), .one (.b)])], []⟩
def rOptionText_tree : (Int × ((List UInt8) × Unit)) → Tr ((List UInt8) × (Bool × Unit)) :=
  fun (a0, a1, _) =>
  .ite (decide (a0 = (1 : Int))) (
   .ite (decide (a1 = [])) (
    .opt (β := ((List UInt8) × Unit)) ((rBytes_fn ([(1 : Int)], ()))) (fun r0 =>
    .ret (r0.1, (true, ())))) (
    .opt (β := (Bool × Unit)) ((rBetween_fn (a0, ((2 : Int), ((255 : Int), ()))))) (fun r0 =>
    .ite (r0.1) (
     .ite (decide ((↑(List.length a1) : Int) ≤ (38 : Int))) (
      .opt (β := ((List UInt8) × Unit)) ((rBytes_fn ([a0, IntKind.wrap IntKind.i64 ((↑(List.length a1) : Int) + (2 : Int))], ()))) (fun r1 =>
      .grd (decide (List.length r1.1 + List.length a1 ≤ (9223372036854775807 : Nat))) (
      .ret (r1.1 ++ a1, (true, ()))))) (
      .ret ([], (false, ())))) (
     .ret ([], (false, ())))))) (
   .opt (β := (Bool × Unit)) ((rBetween_fn (a0, ((2 : Int), ((255 : Int), ()))))) (fun r0 =>
   .ite (r0.1) (
    .ite (decide ((↑(List.length a1) : Int) ≤ (38 : Int))) (
     .opt (β := ((List UInt8) × Unit)) ((rBytes_fn ([a0, IntKind.wrap IntKind.i64 ((↑(List.length a1) : Int) + (2 : Int))], ()))) (fun r1 =>
     .grd (decide (List.length r1.1 + List.length a1 ≤ (9223372036854775807 : Nat))) (
     .ret (r1.1 ++ a1, (true, ()))))) (
     .ret ([], (false, ())))) (
    .ret ([], (false, ())))))
theorem rOptionText_eq (x : (Int × ((List UInt8) × Unit))) : fnTr Try.prog cod [FS.pf rotl, FS.pf sipCheck, FS.pf sipBegin, FS.pf sipNumber, FS.pf sipMore, FS.pf sipEnd, FS.pf sipOf, FS.pf coPort, FS.pf coLong, FS.pf coSizes, FS.pf coIndex, FS.pf coMake, FS.pf coOpen, FS.pf sumFold, FS.pf sumAdd, FS.pf sumOf, clOpt, FS.pf tcWord, FS.pf tcLong, FS.pf tcWordAt, FS.pf tcLongAt, FS.pf tcWords, FS.pf tcOptions, FS.pf tcWrite, FS.pf tcMss, FS.pf tcMove, clGuard, GS.pf delGuard, FS.pf prTurned, FS.pf prPort, FS.pf prPlace, FS.pf prCheck, FS.pf prOld, FS.pf prRefused, GS.pf dfGuard, FS.pf prMss, mHas, mLeaves, mHeard, mAsk, mStranger, mFromClient, mFromServer, FS.pf prClient, FS.pf prServer, FS.pf kTalkOf, FS.pf kProxyLives, FS.pf kTurn, FS.pf kSameProxy, FS.pf kShuts, FS.pf kBlind, FS.pf kApart, FS.pf rRoadRight, FS.pf kOpens, FS.pf rBetween, FS.pf rProxyRight, FS.pf rWordAt, FS.pf rEndAround, FS.pf rWord, FS.pf rLong, FS.pf rBytes, FS.pf rSumOf, FS.pf rUnderText, FS.pf rCheck] [] 30 59 rOptionText_ap rOptionText_rp x = rOptionText_tree x := by kernel_rfl
def rOptionText_fn (x : (Int × ((List UInt8) × Unit))) : Option ((List UInt8) × (Bool × Unit)) := (rOptionText_tree x).eval
def rOptionText : FS Try.prog := ⟨59, rOptionText_ap, rOptionText_rp, rOptionText_fn, fun x r h => fnTr_sound (cod := cod) (Γ := [FS.pf rotl, FS.pf sipCheck, FS.pf sipBegin, FS.pf sipNumber, FS.pf sipMore, FS.pf sipEnd, FS.pf sipOf, FS.pf coPort, FS.pf coLong, FS.pf coSizes, FS.pf coIndex, FS.pf coMake, FS.pf coOpen, FS.pf sumFold, FS.pf sumAdd, FS.pf sumOf, clOpt, FS.pf tcWord, FS.pf tcLong, FS.pf tcWordAt, FS.pf tcLongAt, FS.pf tcWords, FS.pf tcOptions, FS.pf tcWrite, FS.pf tcMss, FS.pf tcMove, clGuard, GS.pf delGuard, FS.pf prTurned, FS.pf prPort, FS.pf prPlace, FS.pf prCheck, FS.pf prOld, FS.pf prRefused, GS.pf dfGuard, FS.pf prMss, mHas, mLeaves, mHeard, mAsk, mStranger, mFromClient, mFromServer, FS.pf prClient, FS.pf prServer, FS.pf kTalkOf, FS.pf kProxyLives, FS.pf kTurn, FS.pf kSameProxy, FS.pf kShuts, FS.pf kBlind, FS.pf kApart, FS.pf rRoadRight, FS.pf kOpens, FS.pf rBetween, FS.pf rProxyRight, FS.pf rWordAt, FS.pf rEndAround, FS.pf rWord, FS.pf rLong, FS.pf rBytes, FS.pf rSumOf, FS.pf rUnderText, FS.pf rCheck]) (Λs := []) (n := 30) ((congrArg Tr.eval (rOptionText_eq x)).trans h)⟩
def rSegmentText_L89_2 : LS := ⟨2, [], ⟨19, [(8, .v (.one (.i .i64))), (0, .v (.one (.st 4 false))), (1, .v (.one (.clo 61 []))), (7, .v (.one (.i .i64)))], []⟩, [⟨none, [], ⟨19, [(4, .v (.one (.i .i64)))], []⟩⟩, ⟨some 0, [], ⟨19, [], []⟩⟩], []⟩
def rSegmentText_step89_2 : (Int × ((List TOption) × (Int × Unit))) → Tr ((Int × ((List TOption) × (Int × Unit))) ⊕ ((Int × Unit) ⊕ Unit)) :=
  fun (a0, a1, a2, _) =>
  .ite (decide (a0 < a2)) (
   .grd (decide ((0 : Int) ≤ a0)) (
   .opt (β := TOption) (a1[Int.toNat a0]?) (fun r0 =>
   .opt (β := ((List UInt8) × (Bool × Unit))) ((rOptionText_fn (r0.kind, (r0.data, ())))) (fun r1 =>
   .ite (!r1.2.1) (
    .ret (Sum.inr (Sum.inl (a0, ())))) (
    .ret (Sum.inl (IntKind.wrap IntKind.i64 (a0 + (1 : Int)), (a1, (a2, ()))))))))) (
   .ret (Sum.inr (Sum.inr ())))
def rSegmentText_loop89_2 (x : (Int × ((List TOption) × (Int × Unit)))) : Option ((Int × Unit) ⊕ Unit) := loopO 890002 (fun x => (rSegmentText_step89_2 x).eval) 18446744073709551616 x
def rSegmentText_L31_5 : LS := ⟨5, [(3, 3)], ⟨139, [(46, .v (.one (.i .i64))), (8, .v (.one (.s))), (44, .v (.one (.st 4 false))), (2, .v (.one (.i .u32))), (1, .v (.one (.i .u32))), (3, .v (.one (.ptr 3 0))), (45, .v (.one (.i .i64)))], [(3, .cells [.i .i64, .i .i64, .i .u32, .i .u32, .i .i64, .i .i64, .i .i64, .st 4 false, .s])]⟩, [⟨none, [], ⟨139, [(6, .v (.one (.s))), (7, .v (.one (.i .i64)))], []⟩⟩, ⟨some 0, [(3, 3)], ⟨139, [(2, .v (.one (.i .u32))), (1, .v (.one (.i .u32))), (3, .v (.one (.ptr 3 0))), (8, .v (.one (.s)))], [(3, .cells [.i .i64, .i .i64, .i .u32, .i .u32, .i .i64, .i .i64, .i .i64, .st 4 false, .s])]⟩⟩], []⟩
def rSegmentText_step31_5 : (Int × ((List UInt8) × ((List TOption) × (Int × (Int × (Int × (Int × (Int × (Int × (Int × (Int × (Int × (Int × ((List TOption) × ((List UInt8) × Unit))))))))))))))) → Tr ((Int × ((List UInt8) × ((List TOption) × (Int × (Int × (Int × (Int × (Int × (Int × (Int × (Int × (Int × (Int × ((List TOption) × ((List UInt8) × Unit))))))))))))))) ⊕ (((List UInt8) × (Int × Unit)) ⊕ (Int × (Int × ((List UInt8) × (Int × (Int × (Int × (Int × (Int × (Int × (Int × ((List TOption) × ((List UInt8) × Unit)))))))))))))) :=
  fun (a0, a1, a2, a3, a4, a5, a6, a7, a8, a9, a10, a11, a12, a13, a14, _) =>
  .ite (decide (a0 < a5)) (
   .grd (decide ((0 : Int) ≤ a0)) (
   .opt (β := TOption) (a2[Int.toNat a0]?) (fun r0 =>
   .opt (β := ((List UInt8) × (Bool × Unit))) ((rOptionText_fn (r0.kind, (r0.data, ())))) (fun r1 =>
   .ite (!r1.2.1) (
    .ret (Sum.inr (Sum.inl ([], ((4 : Int), ()))))) (
    .ite (decide ((↑(List.length a1) : Int) ≤ (40 : Int))) (
     .grd (decide (List.length a1 + List.length r1.1 ≤ (9223372036854775807 : Nat))) (
     .ret (Sum.inl (IntKind.wrap IntKind.i64 (a0 + (1 : Int)), (a1 ++ r1.1, (a2, (a3, (a4, (a5, (a6, (a7, (a8, (a9, (a10, (a11, (a12, (a13, (a14, ())))))))))))))))))) (
     .ret (Sum.inl (IntKind.wrap IntKind.i64 (a0 + (1 : Int)), (a1, (a2, (a3, (a4, (a5, (a6, (a7, (a8, (a9, (a10, (a11, (a12, (a13, (a14, ())))))))))))))))))))))) (
   .ret (Sum.inr (Sum.inr (a3, (a4, (a1, (a6, (a7, (a8, (a9, (a10, (a11, (a12, (a13, (a14, ())))))))))))))))
def rSegmentText_loop31_5 (x : (Int × ((List UInt8) × ((List TOption) × (Int × (Int × (Int × (Int × (Int × (Int × (Int × (Int × (Int × (Int × ((List TOption) × ((List UInt8) × Unit)))))))))))))))) : Option (((List UInt8) × (Int × Unit)) ⊕ (Int × (Int × ((List UInt8) × (Int × (Int × (Int × (Int × (Int × (Int × (Int × ((List TOption) × ((List UInt8) × Unit))))))))))))) := loopO 310005 (fun x => (rSegmentText_step31_5 x).eval) 18446744073709551616 x
def rSegmentText_ap : List VP1 := [.agg [.i .i64, .i .i64, .i .u32, .i .u32, .i .i64, .i .i64, .i .i64, .st 4 false, .s], .one (.i .u32), .one (.i .u32)]
def rSegmentText_rp : SP := ⟨1, [(0, .tup [.one (.s), .one (.i .i64)])], []⟩
def rSegmentText_tree : (Int × (Int × (Int × (Int × (Int × (Int × (Int × ((List TOption) × ((List UInt8) × (Int × (Int × Unit))))))))))) → Tr ((List UInt8) × (Int × Unit)) :=
  fun (a0, a1, a2, a3, a4, a5, a6, a7, a8, a9, a10, _) =>
  .opt (β := (Bool × Unit)) ((rBetween_fn (a0, ((0 : Int), ((65535 : Int), ()))))) (fun r0 =>
  .ite (!r0.1) (
   .ret ([], ((1 : Int), ()))) (
   .opt (β := (Bool × Unit)) ((rBetween_fn (a1, ((0 : Int), ((65535 : Int), ()))))) (fun r1 =>
   .ite (!r1.1) (
    .ret ([], ((1 : Int), ()))) (
    .opt (β := (Bool × Unit)) ((rBetween_fn (a5, ((0 : Int), ((65535 : Int), ()))))) (fun r2 =>
    .ite (!r2.1) (
     .ret ([], ((1 : Int), ()))) (
     .opt (β := (Bool × Unit)) ((rBetween_fn (a6, ((0 : Int), ((65535 : Int), ()))))) (fun r3 =>
     .ite (!r3.1) (
      .ret ([], ((1 : Int), ()))) (
      .opt (β := (Bool × Unit)) ((rBetween_fn (a4, ((0 : Int), ((255 : Int), ()))))) (fun r4 =>
      .ite (!r4.1) (
       .ret ([], ((1 : Int), ()))) (
       .opt (β := (((List UInt8) × (Int × Unit)) ⊕ (Int × (Int × ((List UInt8) × (Int × (Int × (Int × (Int × (Int × (Int × (Int × ((List TOption) × ((List UInt8) × Unit)))))))))))))) ((rSegmentText_loop31_5 ((0 : Int), ([], (a7, (a10, (a9, ((↑(List.length a7) : Int), (a0, (a1, (a2, (a3, (a4, (a5, (a6, (a7, (a8, ()))))))))))))))))) (fun r5 =>
       .sum (β := ((List UInt8) × (Int × Unit))) (γ := (Int × (Int × ((List UInt8) × (Int × (Int × (Int × (Int × (Int × (Int × (Int × ((List TOption) × ((List UInt8) × Unit))))))))))))) (r5) (fun r6 =>
        .ret (r6.1, (r6.2.1, ()))) (fun r6 =>
        .opt (β := ((Int × Unit) ⊕ Unit)) ((rSegmentText_loop89_2 ((0 : Int), (r6.2.2.2.2.2.2.2.2.2.2.1, ((↑(List.length r6.2.2.2.2.2.2.2.2.2.2.1) : Int), ()))))) (fun r7 =>
        .sum (β := (Int × Unit)) (γ := Unit) (r7) (fun r8 =>
         .ite (decide ((0 : Int) ≤ r8.1)) (
          .ret ([], ((4 : Int), ()))) (
          .ite (decide ((40 : Int) < (↑(List.length r6.2.2.1) : Int))) (
           .ret ([], ((2 : Int), ()))) (
           .ite (decide ((65455 : Int) < (↑(List.length r6.2.2.2.2.2.2.2.2.2.2.2.1) : Int))) (
            .ret ([], ((2 : Int), ()))) (
            .grd (decide (List.length r6.2.2.1 + List.length [(0 : UInt8), (0 : UInt8), (0 : UInt8)] ≤ (9223372036854775807 : Nat))) (
            .grd (true) (
            .grd (decide ((0 : Int) ≤ (0 : Int) ∧ (0 : Int) ≤ IntKind.wrap IntKind.i64 (IntKind.wrap IntKind.i64 (Int.tdiv (IntKind.wrap IntKind.i64 ((↑(List.length r6.2.2.1) : Int) + (3 : Int))) (4 : Int)) * (4 : Int)) ∧ IntKind.wrap IntKind.i64 (IntKind.wrap IntKind.i64 (Int.tdiv (IntKind.wrap IntKind.i64 ((↑(List.length r6.2.2.1) : Int) + (3 : Int))) (4 : Int)) * (4 : Int)) ≤ (↑(List.length (r6.2.2.1 ++ [(0 : UInt8), (0 : UInt8), (0 : UInt8)])) : Int))) (
            .opt (β := ((List UInt8) × Unit)) ((rWord_fn (r6.2.2.2.1, ()))) (fun r9 =>
            .opt (β := ((List UInt8) × Unit)) ((rWord_fn (r6.2.2.2.2.1, ()))) (fun r10 =>
            .grd (decide (List.length r9.1 + List.length r10.1 ≤ (9223372036854775807 : Nat))) (
            .opt (β := ((List UInt8) × Unit)) ((rLong_fn (r6.2.2.2.2.2.1, ()))) (fun r11 =>
            .grd (decide (List.length (r9.1 ++ r10.1) + List.length r11.1 ≤ (9223372036854775807 : Nat))) (
            .opt (β := ((List UInt8) × Unit)) ((rLong_fn (r6.2.2.2.2.2.2.1, ()))) (fun r12 =>
            .grd (decide (List.length (r9.1 ++ r10.1 ++ r11.1) + List.length r12.1 ≤ (9223372036854775807 : Nat))) (
            .opt (β := ((List UInt8) × Unit)) ((rBytes_fn ([IntKind.wrap IntKind.i64 ((4 : Int) * IntKind.wrap IntKind.i64 ((↑(List.length (List.drop (0 : Nat) (List.take (Int.toNat (IntKind.wrap IntKind.i64 (IntKind.wrap IntKind.i64 (Int.tdiv (IntKind.wrap IntKind.i64 ((↑(List.length r6.2.2.1) : Int) + (3 : Int))) (4 : Int)) * (4 : Int)))) (r6.2.2.1 ++ [(0 : UInt8), (0 : UInt8), (0 : UInt8)])))) : Int) + (20 : Int))), r6.2.2.2.2.2.2.2.1], ()))) (fun r13 =>
            .grd (decide (List.length (r9.1 ++ r10.1 ++ r11.1 ++ r12.1) + List.length r13.1 ≤ (9223372036854775807 : Nat))) (
            .opt (β := ((List UInt8) × Unit)) ((rWord_fn (r6.2.2.2.2.2.2.2.2.1, ()))) (fun r14 =>
            .grd (decide (List.length (r9.1 ++ r10.1 ++ r11.1 ++ r12.1 ++ r13.1) + List.length r14.1 ≤ (9223372036854775807 : Nat))) (
            .opt (β := ((List UInt8) × Unit)) ((rWord_fn ((0 : Int), ()))) (fun r15 =>
            .grd (decide (List.length (r9.1 ++ r10.1 ++ r11.1 ++ r12.1 ++ r13.1 ++ r14.1) + List.length r15.1 ≤ (9223372036854775807 : Nat))) (
            .opt (β := ((List UInt8) × Unit)) ((rWord_fn (r6.2.2.2.2.2.2.2.2.2.1, ()))) (fun r16 =>
            .grd (decide (List.length (r9.1 ++ r10.1 ++ r11.1 ++ r12.1 ++ r13.1 ++ r14.1 ++ r15.1) + List.length r16.1 ≤ (9223372036854775807 : Nat))) (
            .grd (decide (List.length (r9.1 ++ r10.1 ++ r11.1 ++ r12.1 ++ r13.1 ++ r14.1 ++ r15.1 ++ r16.1) + List.length (List.drop (0 : Nat) (List.take (Int.toNat (IntKind.wrap IntKind.i64 (IntKind.wrap IntKind.i64 (Int.tdiv (IntKind.wrap IntKind.i64 ((↑(List.length r6.2.2.1) : Int) + (3 : Int))) (4 : Int)) * (4 : Int)))) (r6.2.2.1 ++ [(0 : UInt8), (0 : UInt8), (0 : UInt8)]))) ≤ (9223372036854775807 : Nat))) (
            .grd (decide (List.length (r9.1 ++ r10.1 ++ r11.1 ++ r12.1 ++ r13.1 ++ r14.1 ++ r15.1 ++ r16.1 ++ List.drop (0 : Nat) (List.take (Int.toNat (IntKind.wrap IntKind.i64 (IntKind.wrap IntKind.i64 (Int.tdiv (IntKind.wrap IntKind.i64 ((↑(List.length r6.2.2.1) : Int) + (3 : Int))) (4 : Int)) * (4 : Int)))) (r6.2.2.1 ++ [(0 : UInt8), (0 : UInt8), (0 : UInt8)]))) + List.length r6.2.2.2.2.2.2.2.2.2.2.2.1 ≤ (9223372036854775807 : Nat))) (
            .grd (decide ((0 : Int) ≤ (0 : Int) ∧ (0 : Int) ≤ (16 : Int) ∧ (16 : Int) ≤ (↑(List.length (r9.1 ++ r10.1 ++ r11.1 ++ r12.1 ++ r13.1 ++ r14.1 ++ r15.1 ++ r16.1 ++ List.drop (0 : Nat) (List.take (Int.toNat (IntKind.wrap IntKind.i64 (IntKind.wrap IntKind.i64 (Int.tdiv (IntKind.wrap IntKind.i64 ((↑(List.length r6.2.2.1) : Int) + (3 : Int))) (4 : Int)) * (4 : Int)))) (r6.2.2.1 ++ [(0 : UInt8), (0 : UInt8), (0 : UInt8)])) ++ r6.2.2.2.2.2.2.2.2.2.2.2.1)) : Int))) (
            .opt (β := ((List UInt8) × Unit)) ((rUnderText_fn (r6.2.1, (r6.1, ((6 : Int), ((↑(List.length (r9.1 ++ r10.1 ++ r11.1 ++ r12.1 ++ r13.1 ++ r14.1 ++ r15.1 ++ r16.1 ++ List.drop (0 : Nat) (List.take (Int.toNat (IntKind.wrap IntKind.i64 (IntKind.wrap IntKind.i64 (Int.tdiv (IntKind.wrap IntKind.i64 ((↑(List.length r6.2.2.1) : Int) + (3 : Int))) (4 : Int)) * (4 : Int)))) (r6.2.2.1 ++ [(0 : UInt8), (0 : UInt8), (0 : UInt8)])) ++ r6.2.2.2.2.2.2.2.2.2.2.2.1)) : Int), ())))))) (fun r17 =>
            .grd (decide (List.length r17.1 + List.length (r9.1 ++ r10.1 ++ r11.1 ++ r12.1 ++ r13.1 ++ r14.1 ++ r15.1 ++ r16.1 ++ List.drop (0 : Nat) (List.take (Int.toNat (IntKind.wrap IntKind.i64 (IntKind.wrap IntKind.i64 (Int.tdiv (IntKind.wrap IntKind.i64 ((↑(List.length r6.2.2.1) : Int) + (3 : Int))) (4 : Int)) * (4 : Int)))) (r6.2.2.1 ++ [(0 : UInt8), (0 : UInt8), (0 : UInt8)])) ++ r6.2.2.2.2.2.2.2.2.2.2.2.1) ≤ (9223372036854775807 : Nat))) (
            .opt (β := (Int × Unit)) ((rCheck_fn (r17.1 ++ (r9.1 ++ r10.1 ++ r11.1 ++ r12.1 ++ r13.1 ++ r14.1 ++ r15.1 ++ r16.1 ++ List.drop (0 : Nat) (List.take (Int.toNat (IntKind.wrap IntKind.i64 (IntKind.wrap IntKind.i64 (Int.tdiv (IntKind.wrap IntKind.i64 ((↑(List.length r6.2.2.1) : Int) + (3 : Int))) (4 : Int)) * (4 : Int)))) (r6.2.2.1 ++ [(0 : UInt8), (0 : UInt8), (0 : UInt8)])) ++ r6.2.2.2.2.2.2.2.2.2.2.2.1), ()))) (fun r18 =>
            .opt (β := ((List UInt8) × Unit)) ((rWord_fn (r18.1, ()))) (fun r19 =>
            .grd (decide (List.length (List.drop (0 : Nat) (List.take (16 : Nat) (r9.1 ++ r10.1 ++ r11.1 ++ r12.1 ++ r13.1 ++ r14.1 ++ r15.1 ++ r16.1 ++ List.drop (0 : Nat) (List.take (Int.toNat (IntKind.wrap IntKind.i64 (IntKind.wrap IntKind.i64 (Int.tdiv (IntKind.wrap IntKind.i64 ((↑(List.length r6.2.2.1) : Int) + (3 : Int))) (4 : Int)) * (4 : Int)))) (r6.2.2.1 ++ [(0 : UInt8), (0 : UInt8), (0 : UInt8)])) ++ r6.2.2.2.2.2.2.2.2.2.2.2.1))) + List.length r19.1 ≤ (9223372036854775807 : Nat))) (
            .grd (decide ((0 : Int) ≤ (18 : Int) ∧ (18 : Int) ≤ (↑(List.length (r9.1 ++ r10.1 ++ r11.1 ++ r12.1 ++ r13.1 ++ r14.1 ++ r15.1 ++ r16.1 ++ List.drop (0 : Nat) (List.take (Int.toNat (IntKind.wrap IntKind.i64 (IntKind.wrap IntKind.i64 (Int.tdiv (IntKind.wrap IntKind.i64 ((↑(List.length r6.2.2.1) : Int) + (3 : Int))) (4 : Int)) * (4 : Int)))) (r6.2.2.1 ++ [(0 : UInt8), (0 : UInt8), (0 : UInt8)])) ++ r6.2.2.2.2.2.2.2.2.2.2.2.1)) : Int) ∧ (↑(List.length (r9.1 ++ r10.1 ++ r11.1 ++ r12.1 ++ r13.1 ++ r14.1 ++ r15.1 ++ r16.1 ++ List.drop (0 : Nat) (List.take (Int.toNat (IntKind.wrap IntKind.i64 (IntKind.wrap IntKind.i64 (Int.tdiv (IntKind.wrap IntKind.i64 ((↑(List.length r6.2.2.1) : Int) + (3 : Int))) (4 : Int)) * (4 : Int)))) (r6.2.2.1 ++ [(0 : UInt8), (0 : UInt8), (0 : UInt8)])) ++ r6.2.2.2.2.2.2.2.2.2.2.2.1)) : Int) ≤ (↑(List.length (r9.1 ++ r10.1 ++ r11.1 ++ r12.1 ++ r13.1 ++ r14.1 ++ r15.1 ++ r16.1 ++ List.drop (0 : Nat) (List.take (Int.toNat (IntKind.wrap IntKind.i64 (IntKind.wrap IntKind.i64 (Int.tdiv (IntKind.wrap IntKind.i64 ((↑(List.length r6.2.2.1) : Int) + (3 : Int))) (4 : Int)) * (4 : Int)))) (r6.2.2.1 ++ [(0 : UInt8), (0 : UInt8), (0 : UInt8)])) ++ r6.2.2.2.2.2.2.2.2.2.2.2.1)) : Int))) (
            .grd (decide (List.length (List.drop (0 : Nat) (List.take (16 : Nat) (r9.1 ++ r10.1 ++ r11.1 ++ r12.1 ++ r13.1 ++ r14.1 ++ r15.1 ++ r16.1 ++ List.drop (0 : Nat) (List.take (Int.toNat (IntKind.wrap IntKind.i64 (IntKind.wrap IntKind.i64 (Int.tdiv (IntKind.wrap IntKind.i64 ((↑(List.length r6.2.2.1) : Int) + (3 : Int))) (4 : Int)) * (4 : Int)))) (r6.2.2.1 ++ [(0 : UInt8), (0 : UInt8), (0 : UInt8)])) ++ r6.2.2.2.2.2.2.2.2.2.2.2.1)) ++ r19.1) + List.length (List.drop (18 : Nat) (List.take (Int.toNat (↑(List.length (r9.1 ++ r10.1 ++ r11.1 ++ r12.1 ++ r13.1 ++ r14.1 ++ r15.1 ++ r16.1 ++ List.drop (0 : Nat) (List.take (Int.toNat (IntKind.wrap IntKind.i64 (IntKind.wrap IntKind.i64 (Int.tdiv (IntKind.wrap IntKind.i64 ((↑(List.length r6.2.2.1) : Int) + (3 : Int))) (4 : Int)) * (4 : Int)))) (r6.2.2.1 ++ [(0 : UInt8), (0 : UInt8), (0 : UInt8)])) ++ r6.2.2.2.2.2.2.2.2.2.2.2.1)) : Int)) (r9.1 ++ r10.1 ++ r11.1 ++ r12.1 ++ r13.1 ++ r14.1 ++ r15.1 ++ r16.1 ++ List.drop (0 : Nat) (List.take (Int.toNat (IntKind.wrap IntKind.i64 (IntKind.wrap IntKind.i64 (Int.tdiv (IntKind.wrap IntKind.i64 ((↑(List.length r6.2.2.1) : Int) + (3 : Int))) (4 : Int)) * (4 : Int)))) (r6.2.2.1 ++ [(0 : UInt8), (0 : UInt8), (0 : UInt8)])) ++ r6.2.2.2.2.2.2.2.2.2.2.2.1))) ≤ (9223372036854775807 : Nat))) (
            .ret (List.drop (0 : Nat) (List.take (16 : Nat) (r9.1 ++ r10.1 ++ r11.1 ++ r12.1 ++ r13.1 ++ r14.1 ++ r15.1 ++ r16.1 ++ List.drop (0 : Nat) (List.take (Int.toNat (IntKind.wrap IntKind.i64 (IntKind.wrap IntKind.i64 (Int.tdiv (IntKind.wrap IntKind.i64 ((↑(List.length r6.2.2.1) : Int) + (3 : Int))) (4 : Int)) * (4 : Int)))) (r6.2.2.1 ++ [(0 : UInt8), (0 : UInt8), (0 : UInt8)])) ++ r6.2.2.2.2.2.2.2.2.2.2.2.1)) ++ r19.1 ++ List.drop (18 : Nat) (List.take (Int.toNat (↑(List.length (r9.1 ++ r10.1 ++ r11.1 ++ r12.1 ++ r13.1 ++ r14.1 ++ r15.1 ++ r16.1 ++ List.drop (0 : Nat) (List.take (Int.toNat (IntKind.wrap IntKind.i64 (IntKind.wrap IntKind.i64 (Int.tdiv (IntKind.wrap IntKind.i64 ((↑(List.length r6.2.2.1) : Int) + (3 : Int))) (4 : Int)) * (4 : Int)))) (r6.2.2.1 ++ [(0 : UInt8), (0 : UInt8), (0 : UInt8)])) ++ r6.2.2.2.2.2.2.2.2.2.2.2.1)) : Int)) (r9.1 ++ r10.1 ++ r11.1 ++ r12.1 ++ r13.1 ++ r14.1 ++ r15.1 ++ r16.1 ++ List.drop (0 : Nat) (List.take (Int.toNat (IntKind.wrap IntKind.i64 (IntKind.wrap IntKind.i64 (Int.tdiv (IntKind.wrap IntKind.i64 ((↑(List.length r6.2.2.1) : Int) + (3 : Int))) (4 : Int)) * (4 : Int)))) (r6.2.2.1 ++ [(0 : UInt8), (0 : UInt8), (0 : UInt8)])) ++ r6.2.2.2.2.2.2.2.2.2.2.2.1)), ((0 : Int), ())))))))))))))))))))))))))))))))))) (fun r8 =>
         .ite (false) (
          .ret ([], ((4 : Int), ()))) (
          .ite (decide ((40 : Int) < (↑(List.length r6.2.2.1) : Int))) (
           .ret ([], ((2 : Int), ()))) (
           .ite (decide ((65455 : Int) < (↑(List.length r6.2.2.2.2.2.2.2.2.2.2.2.1) : Int))) (
            .ret ([], ((2 : Int), ()))) (
            .grd (decide (List.length r6.2.2.1 + List.length [(0 : UInt8), (0 : UInt8), (0 : UInt8)] ≤ (9223372036854775807 : Nat))) (
            .grd (true) (
            .grd (decide ((0 : Int) ≤ (0 : Int) ∧ (0 : Int) ≤ IntKind.wrap IntKind.i64 (IntKind.wrap IntKind.i64 (Int.tdiv (IntKind.wrap IntKind.i64 ((↑(List.length r6.2.2.1) : Int) + (3 : Int))) (4 : Int)) * (4 : Int)) ∧ IntKind.wrap IntKind.i64 (IntKind.wrap IntKind.i64 (Int.tdiv (IntKind.wrap IntKind.i64 ((↑(List.length r6.2.2.1) : Int) + (3 : Int))) (4 : Int)) * (4 : Int)) ≤ (↑(List.length (r6.2.2.1 ++ [(0 : UInt8), (0 : UInt8), (0 : UInt8)])) : Int))) (
            .opt (β := ((List UInt8) × Unit)) ((rWord_fn (r6.2.2.2.1, ()))) (fun r9 =>
            .opt (β := ((List UInt8) × Unit)) ((rWord_fn (r6.2.2.2.2.1, ()))) (fun r10 =>
            .grd (decide (List.length r9.1 + List.length r10.1 ≤ (9223372036854775807 : Nat))) (
            .opt (β := ((List UInt8) × Unit)) ((rLong_fn (r6.2.2.2.2.2.1, ()))) (fun r11 =>
            .grd (decide (List.length (r9.1 ++ r10.1) + List.length r11.1 ≤ (9223372036854775807 : Nat))) (
            .opt (β := ((List UInt8) × Unit)) ((rLong_fn (r6.2.2.2.2.2.2.1, ()))) (fun r12 =>
            .grd (decide (List.length (r9.1 ++ r10.1 ++ r11.1) + List.length r12.1 ≤ (9223372036854775807 : Nat))) (
            .opt (β := ((List UInt8) × Unit)) ((rBytes_fn ([IntKind.wrap IntKind.i64 ((4 : Int) * IntKind.wrap IntKind.i64 ((↑(List.length (List.drop (0 : Nat) (List.take (Int.toNat (IntKind.wrap IntKind.i64 (IntKind.wrap IntKind.i64 (Int.tdiv (IntKind.wrap IntKind.i64 ((↑(List.length r6.2.2.1) : Int) + (3 : Int))) (4 : Int)) * (4 : Int)))) (r6.2.2.1 ++ [(0 : UInt8), (0 : UInt8), (0 : UInt8)])))) : Int) + (20 : Int))), r6.2.2.2.2.2.2.2.1], ()))) (fun r13 =>
            .grd (decide (List.length (r9.1 ++ r10.1 ++ r11.1 ++ r12.1) + List.length r13.1 ≤ (9223372036854775807 : Nat))) (
            .opt (β := ((List UInt8) × Unit)) ((rWord_fn (r6.2.2.2.2.2.2.2.2.1, ()))) (fun r14 =>
            .grd (decide (List.length (r9.1 ++ r10.1 ++ r11.1 ++ r12.1 ++ r13.1) + List.length r14.1 ≤ (9223372036854775807 : Nat))) (
            .opt (β := ((List UInt8) × Unit)) ((rWord_fn ((0 : Int), ()))) (fun r15 =>
            .grd (decide (List.length (r9.1 ++ r10.1 ++ r11.1 ++ r12.1 ++ r13.1 ++ r14.1) + List.length r15.1 ≤ (9223372036854775807 : Nat))) (
            .opt (β := ((List UInt8) × Unit)) ((rWord_fn (r6.2.2.2.2.2.2.2.2.2.1, ()))) (fun r16 =>
            .grd (decide (List.length (r9.1 ++ r10.1 ++ r11.1 ++ r12.1 ++ r13.1 ++ r14.1 ++ r15.1) + List.length r16.1 ≤ (9223372036854775807 : Nat))) (
            .grd (decide (List.length (r9.1 ++ r10.1 ++ r11.1 ++ r12.1 ++ r13.1 ++ r14.1 ++ r15.1 ++ r16.1) + List.length (List.drop (0 : Nat) (List.take (Int.toNat (IntKind.wrap IntKind.i64 (IntKind.wrap IntKind.i64 (Int.tdiv (IntKind.wrap IntKind.i64 ((↑(List.length r6.2.2.1) : Int) + (3 : Int))) (4 : Int)) * (4 : Int)))) (r6.2.2.1 ++ [(0 : UInt8), (0 : UInt8), (0 : UInt8)]))) ≤ (9223372036854775807 : Nat))) (
            .grd (decide (List.length (r9.1 ++ r10.1 ++ r11.1 ++ r12.1 ++ r13.1 ++ r14.1 ++ r15.1 ++ r16.1 ++ List.drop (0 : Nat) (List.take (Int.toNat (IntKind.wrap IntKind.i64 (IntKind.wrap IntKind.i64 (Int.tdiv (IntKind.wrap IntKind.i64 ((↑(List.length r6.2.2.1) : Int) + (3 : Int))) (4 : Int)) * (4 : Int)))) (r6.2.2.1 ++ [(0 : UInt8), (0 : UInt8), (0 : UInt8)]))) + List.length r6.2.2.2.2.2.2.2.2.2.2.2.1 ≤ (9223372036854775807 : Nat))) (
            .grd (decide ((0 : Int) ≤ (0 : Int) ∧ (0 : Int) ≤ (16 : Int) ∧ (16 : Int) ≤ (↑(List.length (r9.1 ++ r10.1 ++ r11.1 ++ r12.1 ++ r13.1 ++ r14.1 ++ r15.1 ++ r16.1 ++ List.drop (0 : Nat) (List.take (Int.toNat (IntKind.wrap IntKind.i64 (IntKind.wrap IntKind.i64 (Int.tdiv (IntKind.wrap IntKind.i64 ((↑(List.length r6.2.2.1) : Int) + (3 : Int))) (4 : Int)) * (4 : Int)))) (r6.2.2.1 ++ [(0 : UInt8), (0 : UInt8), (0 : UInt8)])) ++ r6.2.2.2.2.2.2.2.2.2.2.2.1)) : Int))) (
            .opt (β := ((List UInt8) × Unit)) ((rUnderText_fn (r6.2.1, (r6.1, ((6 : Int), ((↑(List.length (r9.1 ++ r10.1 ++ r11.1 ++ r12.1 ++ r13.1 ++ r14.1 ++ r15.1 ++ r16.1 ++ List.drop (0 : Nat) (List.take (Int.toNat (IntKind.wrap IntKind.i64 (IntKind.wrap IntKind.i64 (Int.tdiv (IntKind.wrap IntKind.i64 ((↑(List.length r6.2.2.1) : Int) + (3 : Int))) (4 : Int)) * (4 : Int)))) (r6.2.2.1 ++ [(0 : UInt8), (0 : UInt8), (0 : UInt8)])) ++ r6.2.2.2.2.2.2.2.2.2.2.2.1)) : Int), ())))))) (fun r17 =>
            .grd (decide (List.length r17.1 + List.length (r9.1 ++ r10.1 ++ r11.1 ++ r12.1 ++ r13.1 ++ r14.1 ++ r15.1 ++ r16.1 ++ List.drop (0 : Nat) (List.take (Int.toNat (IntKind.wrap IntKind.i64 (IntKind.wrap IntKind.i64 (Int.tdiv (IntKind.wrap IntKind.i64 ((↑(List.length r6.2.2.1) : Int) + (3 : Int))) (4 : Int)) * (4 : Int)))) (r6.2.2.1 ++ [(0 : UInt8), (0 : UInt8), (0 : UInt8)])) ++ r6.2.2.2.2.2.2.2.2.2.2.2.1) ≤ (9223372036854775807 : Nat))) (
            .opt (β := (Int × Unit)) ((rCheck_fn (r17.1 ++ (r9.1 ++ r10.1 ++ r11.1 ++ r12.1 ++ r13.1 ++ r14.1 ++ r15.1 ++ r16.1 ++ List.drop (0 : Nat) (List.take (Int.toNat (IntKind.wrap IntKind.i64 (IntKind.wrap IntKind.i64 (Int.tdiv (IntKind.wrap IntKind.i64 ((↑(List.length r6.2.2.1) : Int) + (3 : Int))) (4 : Int)) * (4 : Int)))) (r6.2.2.1 ++ [(0 : UInt8), (0 : UInt8), (0 : UInt8)])) ++ r6.2.2.2.2.2.2.2.2.2.2.2.1), ()))) (fun r18 =>
            .opt (β := ((List UInt8) × Unit)) ((rWord_fn (r18.1, ()))) (fun r19 =>
            .grd (decide (List.length (List.drop (0 : Nat) (List.take (16 : Nat) (r9.1 ++ r10.1 ++ r11.1 ++ r12.1 ++ r13.1 ++ r14.1 ++ r15.1 ++ r16.1 ++ List.drop (0 : Nat) (List.take (Int.toNat (IntKind.wrap IntKind.i64 (IntKind.wrap IntKind.i64 (Int.tdiv (IntKind.wrap IntKind.i64 ((↑(List.length r6.2.2.1) : Int) + (3 : Int))) (4 : Int)) * (4 : Int)))) (r6.2.2.1 ++ [(0 : UInt8), (0 : UInt8), (0 : UInt8)])) ++ r6.2.2.2.2.2.2.2.2.2.2.2.1))) + List.length r19.1 ≤ (9223372036854775807 : Nat))) (
            .grd (decide ((0 : Int) ≤ (18 : Int) ∧ (18 : Int) ≤ (↑(List.length (r9.1 ++ r10.1 ++ r11.1 ++ r12.1 ++ r13.1 ++ r14.1 ++ r15.1 ++ r16.1 ++ List.drop (0 : Nat) (List.take (Int.toNat (IntKind.wrap IntKind.i64 (IntKind.wrap IntKind.i64 (Int.tdiv (IntKind.wrap IntKind.i64 ((↑(List.length r6.2.2.1) : Int) + (3 : Int))) (4 : Int)) * (4 : Int)))) (r6.2.2.1 ++ [(0 : UInt8), (0 : UInt8), (0 : UInt8)])) ++ r6.2.2.2.2.2.2.2.2.2.2.2.1)) : Int) ∧ (↑(List.length (r9.1 ++ r10.1 ++ r11.1 ++ r12.1 ++ r13.1 ++ r14.1 ++ r15.1 ++ r16.1 ++ List.drop (0 : Nat) (List.take (Int.toNat (IntKind.wrap IntKind.i64 (IntKind.wrap IntKind.i64 (Int.tdiv (IntKind.wrap IntKind.i64 ((↑(List.length r6.2.2.1) : Int) + (3 : Int))) (4 : Int)) * (4 : Int)))) (r6.2.2.1 ++ [(0 : UInt8), (0 : UInt8), (0 : UInt8)])) ++ r6.2.2.2.2.2.2.2.2.2.2.2.1)) : Int) ≤ (↑(List.length (r9.1 ++ r10.1 ++ r11.1 ++ r12.1 ++ r13.1 ++ r14.1 ++ r15.1 ++ r16.1 ++ List.drop (0 : Nat) (List.take (Int.toNat (IntKind.wrap IntKind.i64 (IntKind.wrap IntKind.i64 (Int.tdiv (IntKind.wrap IntKind.i64 ((↑(List.length r6.2.2.1) : Int) + (3 : Int))) (4 : Int)) * (4 : Int)))) (r6.2.2.1 ++ [(0 : UInt8), (0 : UInt8), (0 : UInt8)])) ++ r6.2.2.2.2.2.2.2.2.2.2.2.1)) : Int))) (
            .grd (decide (List.length (List.drop (0 : Nat) (List.take (16 : Nat) (r9.1 ++ r10.1 ++ r11.1 ++ r12.1 ++ r13.1 ++ r14.1 ++ r15.1 ++ r16.1 ++ List.drop (0 : Nat) (List.take (Int.toNat (IntKind.wrap IntKind.i64 (IntKind.wrap IntKind.i64 (Int.tdiv (IntKind.wrap IntKind.i64 ((↑(List.length r6.2.2.1) : Int) + (3 : Int))) (4 : Int)) * (4 : Int)))) (r6.2.2.1 ++ [(0 : UInt8), (0 : UInt8), (0 : UInt8)])) ++ r6.2.2.2.2.2.2.2.2.2.2.2.1)) ++ r19.1) + List.length (List.drop (18 : Nat) (List.take (Int.toNat (↑(List.length (r9.1 ++ r10.1 ++ r11.1 ++ r12.1 ++ r13.1 ++ r14.1 ++ r15.1 ++ r16.1 ++ List.drop (0 : Nat) (List.take (Int.toNat (IntKind.wrap IntKind.i64 (IntKind.wrap IntKind.i64 (Int.tdiv (IntKind.wrap IntKind.i64 ((↑(List.length r6.2.2.1) : Int) + (3 : Int))) (4 : Int)) * (4 : Int)))) (r6.2.2.1 ++ [(0 : UInt8), (0 : UInt8), (0 : UInt8)])) ++ r6.2.2.2.2.2.2.2.2.2.2.2.1)) : Int)) (r9.1 ++ r10.1 ++ r11.1 ++ r12.1 ++ r13.1 ++ r14.1 ++ r15.1 ++ r16.1 ++ List.drop (0 : Nat) (List.take (Int.toNat (IntKind.wrap IntKind.i64 (IntKind.wrap IntKind.i64 (Int.tdiv (IntKind.wrap IntKind.i64 ((↑(List.length r6.2.2.1) : Int) + (3 : Int))) (4 : Int)) * (4 : Int)))) (r6.2.2.1 ++ [(0 : UInt8), (0 : UInt8), (0 : UInt8)])) ++ r6.2.2.2.2.2.2.2.2.2.2.2.1))) ≤ (9223372036854775807 : Nat))) (
            .ret (List.drop (0 : Nat) (List.take (16 : Nat) (r9.1 ++ r10.1 ++ r11.1 ++ r12.1 ++ r13.1 ++ r14.1 ++ r15.1 ++ r16.1 ++ List.drop (0 : Nat) (List.take (Int.toNat (IntKind.wrap IntKind.i64 (IntKind.wrap IntKind.i64 (Int.tdiv (IntKind.wrap IntKind.i64 ((↑(List.length r6.2.2.1) : Int) + (3 : Int))) (4 : Int)) * (4 : Int)))) (r6.2.2.1 ++ [(0 : UInt8), (0 : UInt8), (0 : UInt8)])) ++ r6.2.2.2.2.2.2.2.2.2.2.2.1)) ++ r19.1 ++ List.drop (18 : Nat) (List.take (Int.toNat (↑(List.length (r9.1 ++ r10.1 ++ r11.1 ++ r12.1 ++ r13.1 ++ r14.1 ++ r15.1 ++ r16.1 ++ List.drop (0 : Nat) (List.take (Int.toNat (IntKind.wrap IntKind.i64 (IntKind.wrap IntKind.i64 (Int.tdiv (IntKind.wrap IntKind.i64 ((↑(List.length r6.2.2.1) : Int) + (3 : Int))) (4 : Int)) * (4 : Int)))) (r6.2.2.1 ++ [(0 : UInt8), (0 : UInt8), (0 : UInt8)])) ++ r6.2.2.2.2.2.2.2.2.2.2.2.1)) : Int)) (r9.1 ++ r10.1 ++ r11.1 ++ r12.1 ++ r13.1 ++ r14.1 ++ r15.1 ++ r16.1 ++ List.drop (0 : Nat) (List.take (Int.toNat (IntKind.wrap IntKind.i64 (IntKind.wrap IntKind.i64 (Int.tdiv (IntKind.wrap IntKind.i64 ((↑(List.length r6.2.2.1) : Int) + (3 : Int))) (4 : Int)) * (4 : Int)))) (r6.2.2.1 ++ [(0 : UInt8), (0 : UInt8), (0 : UInt8)])) ++ r6.2.2.2.2.2.2.2.2.2.2.2.1)), ((0 : Int), ())))))))))))))))))))))))))))))))))))))))))))))))
theorem rSegmentText_eq (x : (Int × (Int × (Int × (Int × (Int × (Int × (Int × ((List TOption) × ((List UInt8) × (Int × (Int × Unit)))))))))))) : fnTr Try.prog cod [FS.pf rotl, FS.pf sipCheck, FS.pf sipBegin, FS.pf sipNumber, FS.pf sipMore, FS.pf sipEnd, FS.pf sipOf, FS.pf coPort, FS.pf coLong, FS.pf coSizes, FS.pf coIndex, FS.pf coMake, FS.pf coOpen, FS.pf sumFold, FS.pf sumAdd, FS.pf sumOf, clOpt, FS.pf tcWord, FS.pf tcLong, FS.pf tcWordAt, FS.pf tcLongAt, FS.pf tcWords, FS.pf tcOptions, FS.pf tcWrite, FS.pf tcMss, FS.pf tcMove, clGuard, GS.pf delGuard, FS.pf prTurned, FS.pf prPort, FS.pf prPlace, FS.pf prCheck, FS.pf prOld, FS.pf prRefused, GS.pf dfGuard, FS.pf prMss, mHas, mLeaves, mHeard, mAsk, mStranger, mFromClient, mFromServer, FS.pf prClient, FS.pf prServer, FS.pf kTalkOf, FS.pf kProxyLives, FS.pf kTurn, FS.pf kSameProxy, FS.pf kShuts, FS.pf kBlind, FS.pf kApart, FS.pf rRoadRight, FS.pf kOpens, FS.pf rBetween, FS.pf rProxyRight, FS.pf rWordAt, FS.pf rEndAround, FS.pf rWord, FS.pf rLong, FS.pf rBytes, FS.pf rSumOf, FS.pf rUnderText, FS.pf rCheck, FS.pf rOptionText] [(89, rSegmentText_L89_2), (31, rSegmentText_L31_5)] 30 31 rSegmentText_ap rSegmentText_rp x = rSegmentText_tree x := by kernel_rfl
def rSegmentText_fn (x : (Int × (Int × (Int × (Int × (Int × (Int × (Int × ((List TOption) × ((List UInt8) × (Int × (Int × Unit)))))))))))) : Option ((List UInt8) × (Int × Unit)) := (rSegmentText_tree x).eval
def rSegmentText : FS Try.prog := ⟨31, rSegmentText_ap, rSegmentText_rp, rSegmentText_fn, fun x r h => fnTr_sound (cod := cod) (Γ := [FS.pf rotl, FS.pf sipCheck, FS.pf sipBegin, FS.pf sipNumber, FS.pf sipMore, FS.pf sipEnd, FS.pf sipOf, FS.pf coPort, FS.pf coLong, FS.pf coSizes, FS.pf coIndex, FS.pf coMake, FS.pf coOpen, FS.pf sumFold, FS.pf sumAdd, FS.pf sumOf, clOpt, FS.pf tcWord, FS.pf tcLong, FS.pf tcWordAt, FS.pf tcLongAt, FS.pf tcWords, FS.pf tcOptions, FS.pf tcWrite, FS.pf tcMss, FS.pf tcMove, clGuard, GS.pf delGuard, FS.pf prTurned, FS.pf prPort, FS.pf prPlace, FS.pf prCheck, FS.pf prOld, FS.pf prRefused, GS.pf dfGuard, FS.pf prMss, mHas, mLeaves, mHeard, mAsk, mStranger, mFromClient, mFromServer, FS.pf prClient, FS.pf prServer, FS.pf kTalkOf, FS.pf kProxyLives, FS.pf kTurn, FS.pf kSameProxy, FS.pf kShuts, FS.pf kBlind, FS.pf kApart, FS.pf rRoadRight, FS.pf kOpens, FS.pf rBetween, FS.pf rProxyRight, FS.pf rWordAt, FS.pf rEndAround, FS.pf rWord, FS.pf rLong, FS.pf rBytes, FS.pf rSumOf, FS.pf rUnderText, FS.pf rCheck, FS.pf rOptionText]) (Λs := [(89, rSegmentText_L89_2), (31, rSegmentText_L31_5)]) (n := 30) ((congrArg Tr.eval (rSegmentText_eq x)).trans h)⟩
theorem clSeg_h1 (xs : List (τ 23)) : (bodyTr Go.Proofs.Try.prog cod 30 [.one (.nn (.st 23 xs))]).eval = (cloneRes 55 23 88 xs).eval := by kernel_rfl
theorem clSeg_h2 : (bodyTr Go.Proofs.Try.prog cod 30 [.one .nil]).eval = some (.one .nil, []) := by kernel_rfl
def clSeg : PF Go.Proofs.Try.prog := clonePF Go.Proofs.Try.prog cod 30 55 23 88 clSeg_h1 clSeg_h2
def kBounds_L10_7 : LS := ⟨7, [(57000, 57000), (5, 5), (11, 11)], ⟨107, [(60, .v (.one (.i .i64))), (58, .v (.one (.own 57000))), (5, .v (.one (.ptr 5 0))), (11, .v (.one (.ptr 11 0))), (13, .v (.one (.st 23 true))), (12, .v (.one (.st 23 true))), (59, .v (.one (.i .i64)))], [(57000, .row 55 23 true false), (5, .cells [.i .u64, .i .u64, .i .i64, .st 18 false]), (11, .cells [.i .u64, .i .u64, .i .i64, .st 18 true])]⟩, [⟨none, [], ⟨107, [(10, .v (.one (.b)))], []⟩⟩, ⟨some 0, [(5, 5), (11, 11)], ⟨107, [(5, .v (.one (.ptr 5 0))), (11, .v (.one (.ptr 11 0))), (13, .v (.one (.st 23 true))), (12, .v (.one (.st 23 true)))], [(5, .cells [.i .u64, .i .u64, .i .i64, .st 18 false]), (11, .cells [.i .u64, .i .u64, .i .i64, .st 18 true])]⟩⟩], []⟩
def kBounds_step10_7 : (Int × ((List TSegment) × ((List TSegment) × (Int × ((List TSegment) × (Int × (Int × (Int × ((List TGuarded) × (Int × (Int × (Int × ((List TGuarded) × Unit))))))))))))) → Tr ((Int × ((List TSegment) × ((List TSegment) × (Int × ((List TSegment) × (Int × (Int × (Int × ((List TGuarded) × (Int × (Int × (Int × ((List TGuarded) × Unit))))))))))))) ⊕ ((Bool × Unit) ⊕ ((List TSegment) × ((List TSegment) × (Int × (Int × (Int × ((List TGuarded) × (Int × (Int × (Int × ((List TGuarded) × Unit)))))))))))) :=
  fun (a0, a1, a2, a3, a4, a5, a6, a7, a8, a9, a10, a11, a12, _) =>
  .ite (decide (a0 < a3)) (
   .grd (decide ((0 : Int) ≤ a0 ∧ a0 < (↑(List.length a4) : Int))) (
   .opt (β := TSegment) (a4[Int.toNat a0]?) (fun r0 =>
   .opt (β := ((List UInt8) × (Int × Unit))) ((rSegmentText_fn (r0.from', (r0.to, (r0.seq, (r0.ack, (r0.flags, (r0.window, (r0.urgent, (r0.options, (r0.data, ((1 : Int), ((2 : Int), ()))))))))))))) (fun r1 =>
   .ite (!decide (r1.2.1 = (0 : Int))) (
    .ret (Sum.inr (Sum.inl (false, ())))) (
    .grd (decide (List.length a4 = List.length a4)) (
    .ret (Sum.inl (IntKind.wrap IntKind.i64 (a0 + (1 : Int)), (a1, (a2, (a3, (a4, (a5, (a6, (a7, (a8, (a9, (a10, (a11, (a12, ())))))))))))))))))))) (
   .ret (Sum.inr (Sum.inr (a1, (a2, (a5, (a6, (a7, (a8, (a9, (a10, (a11, (a12, ())))))))))))))
def kBounds_loop10_7 (x : (Int × ((List TSegment) × ((List TSegment) × (Int × ((List TSegment) × (Int × (Int × (Int × ((List TGuarded) × (Int × (Int × (Int × ((List TGuarded) × Unit)))))))))))))) : Option ((Bool × Unit) ⊕ ((List TSegment) × ((List TSegment) × (Int × (Int × (Int × ((List TGuarded) × (Int × (Int × (Int × ((List TGuarded) × Unit))))))))))) := loopO 100007 (fun x => (kBounds_step10_7 x).eval) 18446744073709551616 x
def kBounds_ap : List VP1 := [.agg [.i .u64, .i .u64, .i .i64, .st 18 false], .agg [.i .u32, .i .u32, .i .i64, .i .i64], .agg [.i .i64, .i .i64, .i .u32, .i .u32, .i .i64, .i .i64, .i .i64, .st 4 false, .s], .one (.i .i64), .one (.b)]
def kBounds_rp : SP := ⟨1, [(0, .v (.one (.b)))], []⟩
def kBounds_tree : (Int × (Int × (Int × ((List TGuarded) × (Int × (Int × (Int × (Int × (Int × (Int × (Int × (Int × (Int × (Int × (Int × ((List TOption) × ((List UInt8) × (Int × (Bool × Unit))))))))))))))))))) → Tr (Bool × Unit) :=
  fun (a0, a1, a2, a3, a4, a5, a6, a7, a8, a9, a10, a11, a12, a13, a14, a15, a16, a17, a18, _) =>
  .opt (β := (Int × (Int × (Int × ((List TGuarded) × ((List TSegment) × ((List TSegment) × (Int × Unit)))))))) ((prClient_fn (a0, (a1, (a2, (a3, (a4, (a5, (a6, (a7, (a8, (a9, (a10, (a11, (a12, (a13, (a14, (a15, (a16, (a17, ())))))))))))))))))))) (fun r0 =>
  .ite (a18) (
   .opt (β := (Int × (Int × (Int × ((List TGuarded) × ((List TSegment) × ((List TSegment) × (Int × Unit)))))))) ((prServer_fn (a0, (a1, (a2, (a3, (a4, (a5, (a6, (a7, (a8, (a9, (a10, (a11, (a12, (a13, (a14, (a15, (a16, (a17, ())))))))))))))))))))) (fun r1 =>
   .opt (β := (Bool × Unit)) ((kProxyLives_fn ())) (fun r2 =>
   .ite (!r2.1) (
    .opt (β := (Bool × Unit)) ((kProxyLives_fn ())) (fun r3 =>
    .ite (r3.1) (
     .ret (decide (IntKind.wrap IntKind.i64 ((↑(List.length r1.2.2.2.2.1) : Int) + (↑(List.length r1.2.2.2.2.2.1) : Int)) = (0 : Int)), ())) (
     .ret (false, ())))) (
    .ite (!decide (r1.2.2.2.2.2.2.1 = (0 : Int))) (
     .opt (β := (Bool × Unit)) ((kProxyLives_fn ())) (fun r3 =>
     .ite (r3.1) (
      .ret (decide (IntKind.wrap IntKind.i64 ((↑(List.length r1.2.2.2.2.1) : Int) + (↑(List.length r1.2.2.2.2.2.1) : Int)) = (0 : Int)), ())) (
      .ret (false, ())))) (
     .grd (decide (((0 : Nat) + List.length r1.2.2.2.2.1) * (88 : Nat) ≤ (140737488355328 : Nat) ∧ (0 : Nat) + List.length r1.2.2.2.2.1 ≤ (9223372036854775807 : Nat))) (
     .grd (decide ((List.length r1.2.2.2.2.1 + List.length r1.2.2.2.2.2.1) * (88 : Nat) ≤ (140737488355328 : Nat) ∧ List.length r1.2.2.2.2.1 + List.length r1.2.2.2.2.2.1 ≤ (9223372036854775807 : Nat))) (
     .grd (decide (List.length (r1.2.2.2.2.1 ++ r1.2.2.2.2.2.1) = List.length (r1.2.2.2.2.1 ++ r1.2.2.2.2.2.1))) (
     .opt (β := ((Bool × Unit) ⊕ ((List TSegment) × ((List TSegment) × (Int × (Int × (Int × ((List TGuarded) × (Int × (Int × (Int × ((List TGuarded) × Unit)))))))))))) ((kBounds_loop10_7 ((0 : Int), (r1.2.2.2.2.2.1, (r1.2.2.2.2.1, ((↑(List.length (r1.2.2.2.2.1 ++ r1.2.2.2.2.2.1)) : Int), (r1.2.2.2.2.1 ++ r1.2.2.2.2.2.1, (a0, (a1, (a2, (a3, (r1.1, (r1.2.1, (r1.2.2.1, (r1.2.2.2.1, ()))))))))))))))) (fun r3 =>
     .sum (β := (Bool × Unit)) (γ := ((List TSegment) × ((List TSegment) × (Int × (Int × (Int × ((List TGuarded) × (Int × (Int × (Int × ((List TGuarded) × Unit))))))))))) (r3) (fun r4 =>
      .ret (r4.1, ())) (fun r4 =>
      .opt (β := (Int × Unit)) ((rProxyRight_fn (r4.2.2.2.2.2.2.1, (r4.2.2.2.2.2.2.2.1, (r4.2.2.2.2.2.2.2.2.1, (r4.2.2.2.2.2.2.2.2.2.1, ())))))) (fun r5 =>
      .ite (decide (r5.1 = (0 : Int))) (
       .ite (decide (IntKind.wrap IntKind.i64 ((↑(List.length r4.2.1) : Int) + (↑(List.length r4.1) : Int)) ≤ (1 : Int))) (
        .ite (decide ((↑(List.length r4.2.2.2.2.2.2.2.2.2.1) : Int) ≤ IntKind.wrap IntKind.i64 ((↑(List.length r4.2.2.2.2.2.1) : Int) + (1 : Int)))) (
         .ite (decide (r4.2.2.2.2.2.2.1 = r4.2.2.1) && (decide (r4.2.2.2.2.2.2.2.1 = r4.2.2.2.1) && true)) (
          .ret (decide (r4.2.2.2.2.2.2.2.2.1 = r4.2.2.2.2.1), ())) (
          .ret (false, ()))) (
         .ret (false, ()))) (
        .ret (false, ()))) (
       .ret (false, ()))))))))))))) (
   .opt (β := (Bool × Unit)) ((kProxyLives_fn ())) (fun r1 =>
   .ite (!r1.1) (
    .opt (β := (Bool × Unit)) ((kProxyLives_fn ())) (fun r2 =>
    .ite (r2.1) (
     .ret (decide (IntKind.wrap IntKind.i64 ((↑(List.length r0.2.2.2.2.1) : Int) + (↑(List.length r0.2.2.2.2.2.1) : Int)) = (0 : Int)), ())) (
     .ret (false, ())))) (
    .ite (!decide (r0.2.2.2.2.2.2.1 = (0 : Int))) (
     .opt (β := (Bool × Unit)) ((kProxyLives_fn ())) (fun r2 =>
     .ite (r2.1) (
      .ret (decide (IntKind.wrap IntKind.i64 ((↑(List.length r0.2.2.2.2.1) : Int) + (↑(List.length r0.2.2.2.2.2.1) : Int)) = (0 : Int)), ())) (
      .ret (false, ())))) (
     .grd (decide (((0 : Nat) + List.length r0.2.2.2.2.1) * (88 : Nat) ≤ (140737488355328 : Nat) ∧ (0 : Nat) + List.length r0.2.2.2.2.1 ≤ (9223372036854775807 : Nat))) (
     .grd (decide ((List.length r0.2.2.2.2.1 + List.length r0.2.2.2.2.2.1) * (88 : Nat) ≤ (140737488355328 : Nat) ∧ List.length r0.2.2.2.2.1 + List.length r0.2.2.2.2.2.1 ≤ (9223372036854775807 : Nat))) (
     .grd (decide (List.length (r0.2.2.2.2.1 ++ r0.2.2.2.2.2.1) = List.length (r0.2.2.2.2.1 ++ r0.2.2.2.2.2.1))) (
     .opt (β := ((Bool × Unit) ⊕ ((List TSegment) × ((List TSegment) × (Int × (Int × (Int × ((List TGuarded) × (Int × (Int × (Int × ((List TGuarded) × Unit)))))))))))) ((kBounds_loop10_7 ((0 : Int), (r0.2.2.2.2.2.1, (r0.2.2.2.2.1, ((↑(List.length (r0.2.2.2.2.1 ++ r0.2.2.2.2.2.1)) : Int), (r0.2.2.2.2.1 ++ r0.2.2.2.2.2.1, (a0, (a1, (a2, (a3, (r0.1, (r0.2.1, (r0.2.2.1, (r0.2.2.2.1, ()))))))))))))))) (fun r2 =>
     .sum (β := (Bool × Unit)) (γ := ((List TSegment) × ((List TSegment) × (Int × (Int × (Int × ((List TGuarded) × (Int × (Int × (Int × ((List TGuarded) × Unit))))))))))) (r2) (fun r3 =>
      .ret (r3.1, ())) (fun r3 =>
      .opt (β := (Int × Unit)) ((rProxyRight_fn (r3.2.2.2.2.2.2.1, (r3.2.2.2.2.2.2.2.1, (r3.2.2.2.2.2.2.2.2.1, (r3.2.2.2.2.2.2.2.2.2.1, ())))))) (fun r4 =>
      .ite (decide (r4.1 = (0 : Int))) (
       .ite (decide (IntKind.wrap IntKind.i64 ((↑(List.length r3.2.1) : Int) + (↑(List.length r3.1) : Int)) ≤ (1 : Int))) (
        .ite (decide ((↑(List.length r3.2.2.2.2.2.2.2.2.2.1) : Int) ≤ IntKind.wrap IntKind.i64 ((↑(List.length r3.2.2.2.2.2.1) : Int) + (1 : Int)))) (
         .ite (decide (r3.2.2.2.2.2.2.1 = r3.2.2.1) && (decide (r3.2.2.2.2.2.2.2.1 = r3.2.2.2.1) && true)) (
          .ret (decide (r3.2.2.2.2.2.2.2.2.1 = r3.2.2.2.2.1), ())) (
          .ret (false, ()))) (
         .ret (false, ()))) (
        .ret (false, ()))) (
       .ret (false, ())))))))))))))
theorem kBounds_eq (x : (Int × (Int × (Int × ((List TGuarded) × (Int × (Int × (Int × (Int × (Int × (Int × (Int × (Int × (Int × (Int × (Int × ((List TOption) × ((List UInt8) × (Int × (Bool × Unit)))))))))))))))))))) : fnTr Try.prog cod [FS.pf rotl, FS.pf sipCheck, FS.pf sipBegin, FS.pf sipNumber, FS.pf sipMore, FS.pf sipEnd, FS.pf sipOf, FS.pf coPort, FS.pf coLong, FS.pf coSizes, FS.pf coIndex, FS.pf coMake, FS.pf coOpen, FS.pf sumFold, FS.pf sumAdd, FS.pf sumOf, clOpt, FS.pf tcWord, FS.pf tcLong, FS.pf tcWordAt, FS.pf tcLongAt, FS.pf tcWords, FS.pf tcOptions, FS.pf tcWrite, FS.pf tcMss, FS.pf tcMove, clGuard, GS.pf delGuard, FS.pf prTurned, FS.pf prPort, FS.pf prPlace, FS.pf prCheck, FS.pf prOld, FS.pf prRefused, GS.pf dfGuard, FS.pf prMss, mHas, mLeaves, mHeard, mAsk, mStranger, mFromClient, mFromServer, FS.pf prClient, FS.pf prServer, FS.pf kTalkOf, FS.pf kProxyLives, FS.pf kTurn, FS.pf kSameProxy, FS.pf kShuts, FS.pf kBlind, FS.pf kApart, FS.pf rRoadRight, FS.pf kOpens, FS.pf rBetween, FS.pf rProxyRight, FS.pf rWordAt, FS.pf rEndAround, FS.pf rWord, FS.pf rLong, FS.pf rBytes, FS.pf rSumOf, FS.pf rUnderText, FS.pf rCheck, FS.pf rOptionText, FS.pf rSegmentText, clSeg] [(10, kBounds_L10_7)] 30 10 kBounds_ap kBounds_rp x = kBounds_tree x := by kernel_rfl
def kBounds_fn (x : (Int × (Int × (Int × ((List TGuarded) × (Int × (Int × (Int × (Int × (Int × (Int × (Int × (Int × (Int × (Int × (Int × ((List TOption) × ((List UInt8) × (Int × (Bool × Unit)))))))))))))))))))) : Option (Bool × Unit) := (kBounds_tree x).eval
def kBounds : FS Try.prog := ⟨10, kBounds_ap, kBounds_rp, kBounds_fn, fun x r h => fnTr_sound (cod := cod) (Γ := [FS.pf rotl, FS.pf sipCheck, FS.pf sipBegin, FS.pf sipNumber, FS.pf sipMore, FS.pf sipEnd, FS.pf sipOf, FS.pf coPort, FS.pf coLong, FS.pf coSizes, FS.pf coIndex, FS.pf coMake, FS.pf coOpen, FS.pf sumFold, FS.pf sumAdd, FS.pf sumOf, clOpt, FS.pf tcWord, FS.pf tcLong, FS.pf tcWordAt, FS.pf tcLongAt, FS.pf tcWords, FS.pf tcOptions, FS.pf tcWrite, FS.pf tcMss, FS.pf tcMove, clGuard, GS.pf delGuard, FS.pf prTurned, FS.pf prPort, FS.pf prPlace, FS.pf prCheck, FS.pf prOld, FS.pf prRefused, GS.pf dfGuard, FS.pf prMss, mHas, mLeaves, mHeard, mAsk, mStranger, mFromClient, mFromServer, FS.pf prClient, FS.pf prServer, FS.pf kTalkOf, FS.pf kProxyLives, FS.pf kTurn, FS.pf kSameProxy, FS.pf kShuts, FS.pf kBlind, FS.pf kApart, FS.pf rRoadRight, FS.pf kOpens, FS.pf rBetween, FS.pf rProxyRight, FS.pf rWordAt, FS.pf rEndAround, FS.pf rWord, FS.pf rLong, FS.pf rBytes, FS.pf rSumOf, FS.pf rUnderText, FS.pf rCheck, FS.pf rOptionText, FS.pf rSegmentText, clSeg]) (Λs := [(10, kBounds_L10_7)]) (n := 30) ((congrArg Tr.eval (kBounds_eq x)).trans h)⟩
end Go.Proofs.Ytcdcdmfecglemaa.X
