/- Functions of the program, as trees (printed by a program of mine: tool/XTool, xg.py), each with the proof that the machine comes to what its tree says. Conditions: none. -/
import Derived.Test.YtcdcdmfecglemaaCod
import Derived.KernelRfl
import Derived.Test.YtcdcdmfecglemaaGProxy
namespace Go.Proofs.Ytcdcdmfecglemaa.X
open Go Go.RowKit Go.Proofs.Ytcdcdmfecglemaa.Abs
set_option maxRecDepth 100000
set_option linter.unusedVariables false
def kTalkOf_L50_2 : LS := ⟨2, [(1000200, 1000200)], ⟨19, [(8, .v (.one (.i .i64))), (0, .v (.one (.st 18 false))), (1, .v (.one (.clp 51 [(1000200, 0)]))), (7, .v (.one (.i .i64)))], [(1000200, .cells [.i .u32, .i .u32, .i .i64, .i .i64])]⟩, [⟨none, [(1000200, 1000200)], ⟨19, [(4, .v (.one (.i .i64)))], [(1000200, .cells [.i .u32, .i .u32, .i .i64, .i .i64])]⟩⟩, ⟨some 0, [(1000200, 1000200)], ⟨19, [], [(1000200, .cells [.i .u32, .i .u32, .i .i64, .i .i64])]⟩⟩], []⟩
def kTalkOf_step50_2 : (Int × ((List TGuarded) × (Int × (Int × (Int × (Int × (Int × Unit))))))) → Tr ((Int × ((List TGuarded) × (Int × (Int × (Int × (Int × (Int × Unit))))))) ⊕ ((Int × (Int × (Int × (Int × (Int × Unit))))) ⊕ (Int × (Int × (Int × (Int × Unit)))))) :=
  fun (a0, a1, a2, a3, a4, a5, a6, _) =>
  .ite (decide (a0 < a2)) (
   .grd (decide ((0 : Int) ≤ a0)) (
   .opt (β := TGuarded) (a1[Int.toNat a0]?) (fun r0 =>
   .ite (decide (r0.from' = a3) && (decide (r0.to = a4) && (decide (r0.fromPort = a5) && (decide (r0.toPort = a6) && true)))) (
    .ret (Sum.inr (Sum.inl (a0, (a3, (a4, (a5, (a6, ())))))))) (
    .ret (Sum.inl (IntKind.wrap IntKind.i64 (a0 + (1 : Int)), (a1, (a2, (a3, (a4, (a5, (a6, ())))))))))))) (
   .ret (Sum.inr (Sum.inr (a3, (a4, (a5, (a6, ())))))))
def kTalkOf_loop50_2 (x : (Int × ((List TGuarded) × (Int × (Int × (Int × (Int × (Int × Unit)))))))) : Option ((Int × (Int × (Int × (Int × (Int × Unit))))) ⊕ (Int × (Int × (Int × (Int × Unit))))) := loopO 500002 (fun x => (kTalkOf_step50_2 x).eval) 18446744073709551616 x
def kTalkOf_ap : List VP1 := [.agg [.i .u64, .i .u64, .i .i64, .st 18 false], .agg [.i .u32, .i .u32, .i .i64, .i .i64]]
def kTalkOf_rp : SP := ⟨1, [(0, .tup [.agg [.i .u32, .i .u32, .i .i64, .i .i64, .i .u32, .i .u32, .i .u32, .b, .i .i64], .one (.b)])], []⟩
def kTalkOf_tree : (Int × (Int × (Int × ((List TGuarded) × (Int × (Int × (Int × (Int × Unit)))))))) → Tr (Int × (Int × (Int × (Int × (Int × (Int × (Int × (Bool × (Int × (Bool × Unit)))))))))) :=
  fun (a0, a1, a2, a3, a4, a5, a6, a7, _) =>
  .opt (β := ((Int × (Int × (Int × (Int × (Int × Unit))))) ⊕ (Int × (Int × (Int × (Int × Unit)))))) ((kTalkOf_loop50_2 ((0 : Int), (a3, ((↑(List.length a3) : Int), (a4, (a5, (a6, (a7, ()))))))))) (fun r0 =>
  .sum (β := (Int × (Int × (Int × (Int × (Int × Unit)))))) (γ := (Int × (Int × (Int × (Int × Unit))))) (r0) (fun r1 =>
   .ite (decide (r1.1 < (0 : Int))) (
    .ret ((0 : Int), ((0 : Int), ((0 : Int), ((0 : Int), ((0 : Int), ((0 : Int), ((0 : Int), (false, ((0 : Int), (false, ()))))))))))) (
    .grd (decide ((0 : Int) ≤ r1.1)) (
    .opt (β := TGuarded) (a3[Int.toNat r1.1]?) (fun r2 =>
    .ret (r2.from', (r2.to, (r2.fromPort, (r2.toPort, (r2.seq, (r2.cookie, (r2.delta, (r2.open', (r2.at', (true, ())))))))))))))) (fun r1 =>
   .ite (true) (
    .ret ((0 : Int), ((0 : Int), ((0 : Int), ((0 : Int), ((0 : Int), ((0 : Int), ((0 : Int), (false, ((0 : Int), (false, ()))))))))))) (
    .grd (false) (
    .opt (β := TGuarded) (a3[(0 : Nat)]?) (fun r2 =>
    .ret (r2.from', (r2.to, (r2.fromPort, (r2.toPort, (r2.seq, (r2.cookie, (r2.delta, (r2.open', (r2.at', (true, ())))))))))))))))
theorem kTalkOf_eq (x : (Int × (Int × (Int × ((List TGuarded) × (Int × (Int × (Int × (Int × Unit))))))))) : fnTr Try.prog cod [FS.pf rotl, FS.pf sipCheck, FS.pf sipBegin, FS.pf sipNumber, FS.pf sipMore, FS.pf sipEnd, FS.pf sipOf, FS.pf coPort, FS.pf coLong, FS.pf coSizes, FS.pf coIndex, FS.pf coMake, FS.pf coOpen, FS.pf sumFold, FS.pf sumAdd, FS.pf sumOf, clOpt, FS.pf tcWord, FS.pf tcLong, FS.pf tcWordAt, FS.pf tcLongAt, FS.pf tcWords, FS.pf tcOptions, FS.pf tcWrite, FS.pf tcMss, FS.pf tcMove, clGuard, GS.pf delGuard, FS.pf prTurned, FS.pf prPort, FS.pf prPlace, FS.pf prCheck, FS.pf prOld, FS.pf prRefused, GS.pf dfGuard, FS.pf prMss, mHas, mLeaves, mHeard, mAsk, mStranger, mFromClient, mFromServer, FS.pf prClient, FS.pf prServer] [(50, kTalkOf_L50_2)] 30 23 kTalkOf_ap kTalkOf_rp x = kTalkOf_tree x := by kernel_rfl
def kTalkOf_fn (x : (Int × (Int × (Int × ((List TGuarded) × (Int × (Int × (Int × (Int × Unit))))))))) : Option (Int × (Int × (Int × (Int × (Int × (Int × (Int × (Bool × (Int × (Bool × Unit)))))))))) := (kTalkOf_tree x).eval
def kTalkOf : FS Try.prog := ⟨23, kTalkOf_ap, kTalkOf_rp, kTalkOf_fn, fun x r h => fnTr_sound (cod := cod) (Γ := [FS.pf rotl, FS.pf sipCheck, FS.pf sipBegin, FS.pf sipNumber, FS.pf sipMore, FS.pf sipEnd, FS.pf sipOf, FS.pf coPort, FS.pf coLong, FS.pf coSizes, FS.pf coIndex, FS.pf coMake, FS.pf coOpen, FS.pf sumFold, FS.pf sumAdd, FS.pf sumOf, clOpt, FS.pf tcWord, FS.pf tcLong, FS.pf tcWordAt, FS.pf tcLongAt, FS.pf tcWords, FS.pf tcOptions, FS.pf tcWrite, FS.pf tcMss, FS.pf tcMove, clGuard, GS.pf delGuard, FS.pf prTurned, FS.pf prPort, FS.pf prPlace, FS.pf prCheck, FS.pf prOld, FS.pf prRefused, GS.pf dfGuard, FS.pf prMss, mHas, mLeaves, mHeard, mAsk, mStranger, mFromClient, mFromServer, FS.pf prClient, FS.pf prServer]) (Λs := [(50, kTalkOf_L50_2)]) (n := 30) ((congrArg Tr.eval (kTalkOf_eq x)).trans h)⟩
def kProxyLives_ap : List VP1 := []
def kProxyLives_rp : SP := ⟨1, [(0, .v (.one (.b)))], []⟩
def kProxyLives_tree : Unit → Tr (Bool × Unit) :=
  fun (_) =>
  .opt (β := (Int × (Int × (Int × ((List TGuarded) × ((List TSegment) × ((List TSegment) × (Int × Unit)))))))) ((prClient_fn ((0 : Int), ((0 : Int), ((1460 : Int), ([], ((1 : Int), ((2 : Int), ((3 : Int), ((4 : Int), ((3 : Int), ((4 : Int), ((7 : Int), ((0 : Int), ((2 : Int), ((0 : Int), ((0 : Int), ([], ([], ((0 : Int), ())))))))))))))))))))) (fun r0 =>
  .ite (decide (r0.2.2.2.2.2.2.1 = (0 : Int))) (
   .ite (decide ((↑(List.length r0.2.2.2.2.2.1) : Int) = (0 : Int))) (
    .ite (decide ((↑(List.length r0.2.2.2.2.1) : Int) = (1 : Int))) (
     .grd (true) (
     .opt (β := TSegment) (r0.2.2.2.2.1[(0 : Nat)]?) (fun r1 =>
     .ite (decide (r1.ack = (8 : Int))) (
      .grd (true) (
      .opt (β := TSegment) (r0.2.2.2.2.1[(0 : Nat)]?) (fun r2 =>
      .ret (decide (r2.flags = (18 : Int)), ())))) (
      .ret (false, ()))))) (
     .ret (false, ()))) (
    .ret (false, ()))) (
   .ret (false, ())))
theorem kProxyLives_eq (x : Unit) : fnTr Try.prog cod [FS.pf rotl, FS.pf sipCheck, FS.pf sipBegin, FS.pf sipNumber, FS.pf sipMore, FS.pf sipEnd, FS.pf sipOf, FS.pf coPort, FS.pf coLong, FS.pf coSizes, FS.pf coIndex, FS.pf coMake, FS.pf coOpen, FS.pf sumFold, FS.pf sumAdd, FS.pf sumOf, clOpt, FS.pf tcWord, FS.pf tcLong, FS.pf tcWordAt, FS.pf tcLongAt, FS.pf tcWords, FS.pf tcOptions, FS.pf tcWrite, FS.pf tcMss, FS.pf tcMove, clGuard, GS.pf delGuard, FS.pf prTurned, FS.pf prPort, FS.pf prPlace, FS.pf prCheck, FS.pf prOld, FS.pf prRefused, GS.pf dfGuard, FS.pf prMss, mHas, mLeaves, mHeard, mAsk, mStranger, mFromClient, mFromServer, FS.pf prClient, FS.pf prServer, FS.pf kTalkOf] [] 30 24 kProxyLives_ap kProxyLives_rp x = kProxyLives_tree x := by kernel_rfl
def kProxyLives_fn (x : Unit) : Option (Bool × Unit) := (kProxyLives_tree x).eval
def kProxyLives : FS Try.prog := ⟨24, kProxyLives_ap, kProxyLives_rp, kProxyLives_fn, fun x r h => fnTr_sound (cod := cod) (Γ := [FS.pf rotl, FS.pf sipCheck, FS.pf sipBegin, FS.pf sipNumber, FS.pf sipMore, FS.pf sipEnd, FS.pf sipOf, FS.pf coPort, FS.pf coLong, FS.pf coSizes, FS.pf coIndex, FS.pf coMake, FS.pf coOpen, FS.pf sumFold, FS.pf sumAdd, FS.pf sumOf, clOpt, FS.pf tcWord, FS.pf tcLong, FS.pf tcWordAt, FS.pf tcLongAt, FS.pf tcWords, FS.pf tcOptions, FS.pf tcWrite, FS.pf tcMss, FS.pf tcMove, clGuard, GS.pf delGuard, FS.pf prTurned, FS.pf prPort, FS.pf prPlace, FS.pf prCheck, FS.pf prOld, FS.pf prRefused, GS.pf dfGuard, FS.pf prMss, mHas, mLeaves, mHeard, mAsk, mStranger, mFromClient, mFromServer, FS.pf prClient, FS.pf prServer, FS.pf kTalkOf]) (Λs := []) (n := 30) ((congrArg Tr.eval (kProxyLives_eq x)).trans h)⟩
def kTurn_ap : List VP1 := [.agg [.i .u32, .i .u32, .i .i64, .i .i64]]
def kTurn_rp : SP := ⟨1, [(0, .v (.agg [.i .u32, .i .u32, .i .i64, .i .i64]))], []⟩
def kTurn_tree : (Int × (Int × (Int × (Int × Unit)))) → Tr (Int × (Int × (Int × (Int × Unit)))) :=
  fun (a0, a1, a2, a3, _) =>
  .ret (a1, (a0, (a3, (a2, ()))))
theorem kTurn_eq (x : (Int × (Int × (Int × (Int × Unit))))) : fnTr Try.prog cod [FS.pf rotl, FS.pf sipCheck, FS.pf sipBegin, FS.pf sipNumber, FS.pf sipMore, FS.pf sipEnd, FS.pf sipOf, FS.pf coPort, FS.pf coLong, FS.pf coSizes, FS.pf coIndex, FS.pf coMake, FS.pf coOpen, FS.pf sumFold, FS.pf sumAdd, FS.pf sumOf, clOpt, FS.pf tcWord, FS.pf tcLong, FS.pf tcWordAt, FS.pf tcLongAt, FS.pf tcWords, FS.pf tcOptions, FS.pf tcWrite, FS.pf tcMss, FS.pf tcMove, clGuard, GS.pf delGuard, FS.pf prTurned, FS.pf prPort, FS.pf prPlace, FS.pf prCheck, FS.pf prOld, FS.pf prRefused, GS.pf dfGuard, FS.pf prMss, mHas, mLeaves, mHeard, mAsk, mStranger, mFromClient, mFromServer, FS.pf prClient, FS.pf prServer, FS.pf kTalkOf, FS.pf kProxyLives] [] 30 13 kTurn_ap kTurn_rp x = kTurn_tree x := by kernel_rfl
def kTurn_fn (x : (Int × (Int × (Int × (Int × Unit))))) : Option (Int × (Int × (Int × (Int × Unit)))) := (kTurn_tree x).eval
def kTurn : FS Try.prog := ⟨13, kTurn_ap, kTurn_rp, kTurn_fn, fun x r h => fnTr_sound (cod := cod) (Γ := [FS.pf rotl, FS.pf sipCheck, FS.pf sipBegin, FS.pf sipNumber, FS.pf sipMore, FS.pf sipEnd, FS.pf sipOf, FS.pf coPort, FS.pf coLong, FS.pf coSizes, FS.pf coIndex, FS.pf coMake, FS.pf coOpen, FS.pf sumFold, FS.pf sumAdd, FS.pf sumOf, clOpt, FS.pf tcWord, FS.pf tcLong, FS.pf tcWordAt, FS.pf tcLongAt, FS.pf tcWords, FS.pf tcOptions, FS.pf tcWrite, FS.pf tcMss, FS.pf tcMove, clGuard, GS.pf delGuard, FS.pf prTurned, FS.pf prPort, FS.pf prPlace, FS.pf prCheck, FS.pf prOld, FS.pf prRefused, GS.pf dfGuard, FS.pf prMss, mHas, mLeaves, mHeard, mAsk, mStranger, mFromClient, mFromServer, FS.pf prClient, FS.pf prServer, FS.pf kTalkOf, FS.pf kProxyLives]) (Λs := []) (n := 30) ((congrArg Tr.eval (kTurn_eq x)).trans h)⟩
def kSameProxy_L67_4 : LS := ⟨4, [], ⟨26, [(13, .v (.one (.i .i64))), (1, .v (.one (.st 18 false))), (0, .v (.one (.st 18 false))), (12, .v (.one (.i .i64)))], []⟩, [⟨none, [], ⟨26, [(4, .v (.one (.b)))], []⟩⟩, ⟨some 0, [], ⟨26, [], []⟩⟩], []⟩
def kSameProxy_step67_4 : (Int × ((List TGuarded) × ((List TGuarded) × (Int × Unit)))) → Tr ((Int × ((List TGuarded) × ((List TGuarded) × (Int × Unit)))) ⊕ ((Bool × Unit) ⊕ Unit)) :=
  fun (a0, a1, a2, a3, _) =>
  .ite (decide (a0 < a3)) (
   .grd (decide ((0 : Int) ≤ a0)) (
   .opt (β := TGuarded) (a2[Int.toNat a0]?) (fun r0 =>
   .grd (decide ((0 : Int) ≤ a0)) (
   .opt (β := TGuarded) (a1[Int.toNat a0]?) (fun r1 =>
   .ite (!(decide (r0.from' = r1.from') && (decide (r0.to = r1.to) && (decide (r0.fromPort = r1.fromPort) && (decide (r0.toPort = r1.toPort) && true))) && (decide (r0.seq = r1.seq) && (decide (r0.cookie = r1.cookie) && (decide (r0.delta = r1.delta) && (r0.open' == r1.open' && (decide (r0.at' = r1.at') && true))))))) (
    .ret (Sum.inr (Sum.inl (false, ())))) (
    .ret (Sum.inl (IntKind.wrap IntKind.i64 (a0 + (1 : Int)), (a1, (a2, (a3, ()))))))))))) (
   .ret (Sum.inr (Sum.inr ())))
def kSameProxy_loop67_4 (x : (Int × ((List TGuarded) × ((List TGuarded) × (Int × Unit))))) : Option ((Bool × Unit) ⊕ Unit) := loopO 670004 (fun x => (kSameProxy_step67_4 x).eval) 18446744073709551616 x
def kSameProxy_ap : List VP1 := [.agg [.i .u64, .i .u64, .i .i64, .st 18 false], .agg [.i .u64, .i .u64, .i .i64, .st 18 false]]
def kSameProxy_rp : SP := ⟨1, [(0, .v (.one (.b)))], []⟩
def kSameProxy_tree : (Int × (Int × (Int × ((List TGuarded) × (Int × (Int × (Int × ((List TGuarded) × Unit)))))))) → Tr (Bool × Unit) :=
  fun (a0, a1, a2, a3, a4, a5, a6, a7, _) =>
  .ite (decide (a0 = a4) && (decide (a1 = a5) && true)) (
   .ite (decide (a2 = a6)) (
    .ite (!decide ((↑(List.length a3) : Int) = (↑(List.length a7) : Int))) (
     .ret (false, ())) (
     .opt (β := ((Bool × Unit) ⊕ Unit)) ((kSameProxy_loop67_4 ((0 : Int), (a7, (a3, ((↑(List.length a3) : Int), ())))))) (fun r0 =>
     .sum (β := (Bool × Unit)) (γ := Unit) (r0) (fun r1 =>
      .ret (r1.1, ())) (fun r1 =>
      .ret (true, ()))))) (
    .ret (false, ()))) (
   .ret (false, ()))
theorem kSameProxy_eq (x : (Int × (Int × (Int × ((List TGuarded) × (Int × (Int × (Int × ((List TGuarded) × Unit))))))))) : fnTr Try.prog cod [FS.pf rotl, FS.pf sipCheck, FS.pf sipBegin, FS.pf sipNumber, FS.pf sipMore, FS.pf sipEnd, FS.pf sipOf, FS.pf coPort, FS.pf coLong, FS.pf coSizes, FS.pf coIndex, FS.pf coMake, FS.pf coOpen, FS.pf sumFold, FS.pf sumAdd, FS.pf sumOf, clOpt, FS.pf tcWord, FS.pf tcLong, FS.pf tcWordAt, FS.pf tcLongAt, FS.pf tcWords, FS.pf tcOptions, FS.pf tcWrite, FS.pf tcMss, FS.pf tcMove, clGuard, GS.pf delGuard, FS.pf prTurned, FS.pf prPort, FS.pf prPlace, FS.pf prCheck, FS.pf prOld, FS.pf prRefused, GS.pf dfGuard, FS.pf prMss, mHas, mLeaves, mHeard, mAsk, mStranger, mFromClient, mFromServer, FS.pf prClient, FS.pf prServer, FS.pf kTalkOf, FS.pf kProxyLives, FS.pf kTurn] [(67, kSameProxy_L67_4)] 30 33 kSameProxy_ap kSameProxy_rp x = kSameProxy_tree x := by kernel_rfl
def kSameProxy_fn (x : (Int × (Int × (Int × ((List TGuarded) × (Int × (Int × (Int × ((List TGuarded) × Unit))))))))) : Option (Bool × Unit) := (kSameProxy_tree x).eval
def kSameProxy : FS Try.prog := ⟨33, kSameProxy_ap, kSameProxy_rp, kSameProxy_fn, fun x r h => fnTr_sound (cod := cod) (Γ := [FS.pf rotl, FS.pf sipCheck, FS.pf sipBegin, FS.pf sipNumber, FS.pf sipMore, FS.pf sipEnd, FS.pf sipOf, FS.pf coPort, FS.pf coLong, FS.pf coSizes, FS.pf coIndex, FS.pf coMake, FS.pf coOpen, FS.pf sumFold, FS.pf sumAdd, FS.pf sumOf, clOpt, FS.pf tcWord, FS.pf tcLong, FS.pf tcWordAt, FS.pf tcLongAt, FS.pf tcWords, FS.pf tcOptions, FS.pf tcWrite, FS.pf tcMss, FS.pf tcMove, clGuard, GS.pf delGuard, FS.pf prTurned, FS.pf prPort, FS.pf prPlace, FS.pf prCheck, FS.pf prOld, FS.pf prRefused, GS.pf dfGuard, FS.pf prMss, mHas, mLeaves, mHeard, mAsk, mStranger, mFromClient, mFromServer, FS.pf prClient, FS.pf prServer, FS.pf kTalkOf, FS.pf kProxyLives, FS.pf kTurn]) (Λs := [(67, kSameProxy_L67_4)]) (n := 30) ((congrArg Tr.eval (kSameProxy_eq x)).trans h)⟩
def kShuts_ap : List VP1 := [.agg [.i .u64, .i .u64, .i .i64, .st 18 false], .agg [.i .u32, .i .u32, .i .i64, .i .i64], .agg [.i .i64, .i .i64, .i .u32, .i .u32, .i .i64, .i .i64, .i .i64, .st 4 false, .s], .one (.i .i64)]
def kShuts_rp : SP := ⟨1, [(0, .v (.one (.b)))], []⟩
def kShuts_tree : (Int × (Int × (Int × ((List TGuarded) × (Int × (Int × (Int × (Int × (Int × (Int × (Int × (Int × (Int × (Int × (Int × ((List TOption) × ((List UInt8) × (Int × Unit)))))))))))))))))) → Tr (Bool × Unit) :=
  fun (a0, a1, a2, a3, a4, a5, a6, a7, a8, a9, a10, a11, a12, a13, a14, a15, a16, a17, _) =>
  .opt (β := (Int × (Int × (Int × ((List TGuarded) × ((List TSegment) × ((List TSegment) × (Int × Unit)))))))) ((prClient_fn (a0, (a1, (a2, (a3, (a4, (a5, (a6, (a7, (a8, (a9, (a10, (a11, (a12, (a13, (a14, (a15, (a16, (a17, ())))))))))))))))))))) (fun r0 =>
  .opt (β := (Int × (Int × (Int × (Int × (Int × (Int × (Int × (Bool × (Int × (Bool × Unit))))))))))) ((kTalkOf_fn (a0, (a1, (a2, (a3, (a4, (a5, (a6, (a7, ())))))))))) (fun r1 =>
  .opt (β := (Bool × Unit)) ((kProxyLives_fn ())) (fun r2 =>
  .ite (!r2.1) (
   .opt (β := (Bool × Unit)) ((kProxyLives_fn ())) (fun r3 =>
   .ret (r3.1, ()))) (
   .ite (!decide (r0.2.2.2.2.2.2.1 = (0 : Int))) (
    .opt (β := (Bool × Unit)) ((kProxyLives_fn ())) (fun r3 =>
    .ret (r3.1, ()))) (
    .ite (r1.2.2.2.2.2.2.2.2.2.1) (
     .opt (β := (Bool × Unit)) ((kProxyLives_fn ())) (fun r3 =>
     .ret (r3.1, ()))) (
     .grd (true) (
     .grd (true) (
     .opt (β := (Int × (Int × Unit))) ((coOpen_fn (a0, (a1, (a4, (a5, (a6, (a7, (IntKind.wrap IntKind.u32 (a10 - (1 : Int)), (IntKind.wrap IntKind.u32 (a11 - (1 : Int)), (Int.tmod (IntKind.wrap IntKind.i64 (Int.tdiv a17 (64 : Int))) (32 : Int), ()))))))))))) (fun r3 =>
     .opt (β := (Int × (Int × (Int × (Int × (Int × (Int × (Int × (Bool × (Int × (Bool × Unit))))))))))) ((kTalkOf_fn (r0.1, (r0.2.1, (r0.2.2.1, (r0.2.2.2.1, (a4, (a5, (a6, (a7, ())))))))))) (fun r4 =>
     .ite (decide (r3.2.1 = (0 : Int))) (
      .ite (r4.2.2.2.2.2.2.2.2.2.1 == decide (bits BinOp.and IntKind.i64 a12 (22 : Int) = (16 : Int))) (
       .ite (decide ((↑(List.length r0.2.2.2.2.2.1) : Int) = (1 : Int)) == decide (bits BinOp.and IntKind.i64 a12 (22 : Int) = (16 : Int))) (
        .ite (decide ((↑(List.length r0.2.2.2.2.2.1) : Int) ≤ (1 : Int))) (
         .ite (decide ((↑(List.length r0.2.2.2.2.1) : Int) ≤ (1 : Int))) (
          .ite (!decide (bits BinOp.and IntKind.i64 a12 (22 : Int) = (16 : Int))) (
           .ret (true, ())) (
           .ret (decide ((↑(List.length r0.2.2.2.2.1) : Int) = (0 : Int)), ()))) (
          .ret (false, ()))) (
         .ret (false, ()))) (
        .ret (false, ()))) (
       .ret (false, ()))) (
      .ite (r4.2.2.2.2.2.2.2.2.2.1 == false) (
       .ite (decide ((↑(List.length r0.2.2.2.2.2.1) : Int) = (1 : Int)) == false) (
        .ite (decide ((↑(List.length r0.2.2.2.2.2.1) : Int) ≤ (1 : Int))) (
         .ite (decide ((↑(List.length r0.2.2.2.2.1) : Int) ≤ (1 : Int))) (
          .ite (true) (
           .ret (true, ())) (
           .ret (decide ((↑(List.length r0.2.2.2.2.1) : Int) = (0 : Int)), ()))) (
          .ret (false, ()))) (
         .ret (false, ()))) (
        .ret (false, ()))) (
       .ret (false, ())))))))))))))
theorem kShuts_eq (x : (Int × (Int × (Int × ((List TGuarded) × (Int × (Int × (Int × (Int × (Int × (Int × (Int × (Int × (Int × (Int × (Int × ((List TOption) × ((List UInt8) × (Int × Unit))))))))))))))))))) : fnTr Try.prog cod [FS.pf rotl, FS.pf sipCheck, FS.pf sipBegin, FS.pf sipNumber, FS.pf sipMore, FS.pf sipEnd, FS.pf sipOf, FS.pf coPort, FS.pf coLong, FS.pf coSizes, FS.pf coIndex, FS.pf coMake, FS.pf coOpen, FS.pf sumFold, FS.pf sumAdd, FS.pf sumOf, clOpt, FS.pf tcWord, FS.pf tcLong, FS.pf tcWordAt, FS.pf tcLongAt, FS.pf tcWords, FS.pf tcOptions, FS.pf tcWrite, FS.pf tcMss, FS.pf tcMove, clGuard, GS.pf delGuard, FS.pf prTurned, FS.pf prPort, FS.pf prPlace, FS.pf prCheck, FS.pf prOld, FS.pf prRefused, GS.pf dfGuard, FS.pf prMss, mHas, mLeaves, mHeard, mAsk, mStranger, mFromClient, mFromServer, FS.pf prClient, FS.pf prServer, FS.pf kTalkOf, FS.pf kProxyLives, FS.pf kTurn, FS.pf kSameProxy] [] 30 7 kShuts_ap kShuts_rp x = kShuts_tree x := by kernel_rfl
def kShuts_fn (x : (Int × (Int × (Int × ((List TGuarded) × (Int × (Int × (Int × (Int × (Int × (Int × (Int × (Int × (Int × (Int × (Int × ((List TOption) × ((List UInt8) × (Int × Unit))))))))))))))))))) : Option (Bool × Unit) := (kShuts_tree x).eval
def kShuts : FS Try.prog := ⟨7, kShuts_ap, kShuts_rp, kShuts_fn, fun x r h => fnTr_sound (cod := cod) (Γ := [FS.pf rotl, FS.pf sipCheck, FS.pf sipBegin, FS.pf sipNumber, FS.pf sipMore, FS.pf sipEnd, FS.pf sipOf, FS.pf coPort, FS.pf coLong, FS.pf coSizes, FS.pf coIndex, FS.pf coMake, FS.pf coOpen, FS.pf sumFold, FS.pf sumAdd, FS.pf sumOf, clOpt, FS.pf tcWord, FS.pf tcLong, FS.pf tcWordAt, FS.pf tcLongAt, FS.pf tcWords, FS.pf tcOptions, FS.pf tcWrite, FS.pf tcMss, FS.pf tcMove, clGuard, GS.pf delGuard, FS.pf prTurned, FS.pf prPort, FS.pf prPlace, FS.pf prCheck, FS.pf prOld, FS.pf prRefused, GS.pf dfGuard, FS.pf prMss, mHas, mLeaves, mHeard, mAsk, mStranger, mFromClient, mFromServer, FS.pf prClient, FS.pf prServer, FS.pf kTalkOf, FS.pf kProxyLives, FS.pf kTurn, FS.pf kSameProxy]) (Λs := []) (n := 30) ((congrArg Tr.eval (kShuts_eq x)).trans h)⟩
def kBlind_L54_2 : LS := ⟨2, [(3, 3)], ⟨19, [(8, .v (.one (.i .i64))), (0, .v (.one (.st 18 false))), (3, .v (.one (.ptr 3 0))), (7, .v (.one (.i .i64)))], [(3, .cells [.i .u32, .i .u32, .i .i64, .i .i64, .i .u32, .i .u32, .i .u32, .b, .i .i64])]⟩, [⟨none, [], ⟨19, [(4, .v (.one (.i .i64)))], []⟩⟩, ⟨some 0, [], ⟨19, [], []⟩⟩], []⟩
def kBlind_step54_2 : (Int × ((List TGuarded) × (Int × (Int × (Int × (Int × (Int × (Int × (Int × (Int × (Bool × (Int × Unit)))))))))))) → Tr ((Int × ((List TGuarded) × (Int × (Int × (Int × (Int × (Int × (Int × (Int × (Int × (Bool × (Int × Unit)))))))))))) ⊕ ((Int × Unit) ⊕ Unit)) :=
  fun (a0, a1, a2, a3, a4, a5, a6, a7, a8, a9, a10, a11, _) =>
  .ite (decide (a0 < a2)) (
   .grd (decide ((0 : Int) ≤ a0)) (
   .opt (β := TGuarded) (a1[Int.toNat a0]?) (fun r0 =>
   .ite (decide (a3 = r0.from') && (decide (a4 = r0.to) && (decide (a5 = r0.fromPort) && (decide (a6 = r0.toPort) && true))) && (decide (a7 = r0.seq) && (decide (a8 = r0.cookie) && (decide (a9 = r0.delta) && (a10 == r0.open' && (decide (a11 = r0.at') && true)))))) (
    .ret (Sum.inr (Sum.inl (a0, ())))) (
    .ret (Sum.inl (IntKind.wrap IntKind.i64 (a0 + (1 : Int)), (a1, (a2, (a3, (a4, (a5, (a6, (a7, (a8, (a9, (a10, (a11, ()))))))))))))))))) (
   .ret (Sum.inr (Sum.inr ())))
def kBlind_loop54_2 (x : (Int × ((List TGuarded) × (Int × (Int × (Int × (Int × (Int × (Int × (Int × (Int × (Bool × (Int × Unit))))))))))))) : Option ((Int × Unit) ⊕ Unit) := loopO 540002 (fun x => (kBlind_step54_2 x).eval) 18446744073709551616 x
def kBlind_L8_16 : LS := ⟨16, [(4, 4), (9, 9)], ⟨90, [(73, .v (.one (.i .i64))), (4, .v (.one (.ptr 4 0))), (71, .v (.one (.st 18 false))), (9, .v (.one (.ptr 9 0))), (72, .v (.one (.i .i64)))], [(4, .cells [.i .u64, .i .u64, .i .i64, .st 18 false]), (9, .cells [.i .u64, .i .u64, .i .i64, .st 18 false])]⟩, [⟨none, [], ⟨90, [(8, .v (.one (.b)))], []⟩⟩, ⟨some 2, [(4, 4), (9, 9)], ⟨90, [(4, .v (.one (.ptr 4 0))), (9, .v (.one (.ptr 9 0)))], [(4, .cells [.i .u64, .i .u64, .i .i64, .st 18 false]), (9, .cells [.i .u64, .i .u64, .i .i64, .st 18 false])]⟩⟩], []⟩
def kBlind_step8_16 : (Int × ((List TGuarded) × (Int × (Int × (Int × (Int × ((List TGuarded) × (Int × (Int × (Int × ((List TGuarded) × Unit))))))))))) → Tr ((Int × ((List TGuarded) × (Int × (Int × (Int × (Int × ((List TGuarded) × (Int × (Int × (Int × ((List TGuarded) × Unit))))))))))) ⊕ ((Bool × Unit) ⊕ (Int × (Int × (Int × ((List TGuarded) × (Int × (Int × (Int × ((List TGuarded) × Unit)))))))))) :=
  fun (a0, a1, a2, a3, a4, a5, a6, a7, a8, a9, a10, _) =>
  .ite (decide (a0 < a2)) (
   .grd (decide ((0 : Int) ≤ a0)) (
   .opt (β := TGuarded) (a1[Int.toNat a0]?) (fun r0 =>
   .opt (β := ((Int × Unit) ⊕ Unit)) ((kBlind_loop54_2 ((0 : Int), (a6, ((↑(List.length a6) : Int), (r0.from', (r0.to, (r0.fromPort, (r0.toPort, (r0.seq, (r0.cookie, (r0.delta, (r0.open', (r0.at', ())))))))))))))) (fun r1 =>
   .sum (β := (Int × Unit)) (γ := Unit) (r1) (fun r2 =>
    .ite (!decide ((0 : Int) ≤ r2.1)) (
     .ret (Sum.inr (Sum.inl (false, ())))) (
     .ret (Sum.inl (IntKind.wrap IntKind.i64 (a0 + (1 : Int)), (a1, (a2, (a3, (a4, (a5, (a6, (a7, (a8, (a9, (a10, ())))))))))))))) (fun r2 =>
    .ite (true) (
     .ret (Sum.inr (Sum.inl (false, ())))) (
     .ret (Sum.inl (IntKind.wrap IntKind.i64 (a0 + (1 : Int)), (a1, (a2, (a3, (a4, (a5, (a6, (a7, (a8, (a9, (a10, ())))))))))))))))))) (
   .ret (Sum.inr (Sum.inr (a3, (a4, (a5, (a6, (a7, (a8, (a9, (a10, ())))))))))))
def kBlind_loop8_16 (x : (Int × ((List TGuarded) × (Int × (Int × (Int × (Int × ((List TGuarded) × (Int × (Int × (Int × ((List TGuarded) × Unit)))))))))))) : Option ((Bool × Unit) ⊕ (Int × (Int × (Int × ((List TGuarded) × (Int × (Int × (Int × ((List TGuarded) × Unit))))))))) := loopO 80016 (fun x => (kBlind_step8_16 x).eval) 18446744073709551616 x
def kBlind_L8_5 : LS := ⟨5, [(9, 9), (4, 4)], ⟨90, [(33, .v (.one (.i .i64))), (9, .v (.one (.ptr 9 0))), (3, .v (.one (.i .i64))), (2, .v (.one (.st 28 false))), (31, .v (.one (.st 26 false))), (4, .v (.one (.ptr 4 0))), (32, .v (.one (.i .i64)))], [(9, .cells [.i .u64, .i .u64, .i .i64, .st 18 false]), (4, .cells [.i .u64, .i .u64, .i .i64, .st 18 false])]⟩, [⟨none, [], ⟨90, [(8, .v (.one (.b)))], []⟩⟩, ⟨some 0, [(4, 4), (9, 9)], ⟨90, [(4, .v (.one (.ptr 4 0))), (9, .v (.one (.ptr 9 0)))], [(4, .cells [.i .u64, .i .u64, .i .i64, .st 18 false]), (9, .cells [.i .u64, .i .u64, .i .i64, .st 18 false])]⟩⟩], []⟩
def kBlind_step8_5 : (Int × (Int × ((List Int) × ((List TRoad) × (Int × (Int × (Int × (Int × ((List TGuarded) × (Int × (Int × (Int × ((List TGuarded) × Unit))))))))))))) → Tr ((Int × (Int × ((List Int) × ((List TRoad) × (Int × (Int × (Int × (Int × ((List TGuarded) × (Int × (Int × (Int × ((List TGuarded) × Unit))))))))))))) ⊕ ((Bool × Unit) ⊕ (Int × (Int × (Int × ((List TGuarded) × (Int × (Int × (Int × ((List TGuarded) × Unit)))))))))) :=
  fun (a0, a1, a2, a3, a4, a5, a6, a7, a8, a9, a10, a11, a12, _) =>
  .ite (decide (a0 < a4)) (
   .grd (decide ((0 : Int) ≤ a0)) (
   .opt (β := TRoad) (a3[Int.toNat a0]?) (fun r0 =>
   .opt (β := (Int × (Int × (Int × (Int × (Int × (Int × (Int × (Bool × (Int × (Bool × Unit))))))))))) ((kTalkOf_fn (a5, (a6, (a7, (a8, (r0.from', (r0.to, (r0.fromPort, (r0.toPort, ())))))))))) (fun r1 =>
   .ite (r1.2.2.2.2.2.2.2.2.2.1) (
    .ret (Sum.inl (IntKind.wrap IntKind.i64 (a0 + (1 : Int)), (a1, (a2, (a3, (a4, (a5, (a6, (a7, (a8, (a9, (a10, (a11, (a12, ()))))))))))))))) (
    .grd (decide ((0 : Int) ≤ a0)) (
    .opt (β := Int) (a2[Int.toNat a0]?) (fun r2 =>
    .opt (β := (Int × (Int × (Int × ((List TGuarded) × ((List TSegment) × ((List TSegment) × (Int × Unit)))))))) ((prClient_fn (a5, (a6, (a7, (a8, (r0.from', (r0.to, (r0.fromPort, (r0.toPort, (r0.fromPort, (r0.toPort, (r2, ((0 : Int), ((2 : Int), ((0 : Int), ((0 : Int), ([], ([], (a1, ())))))))))))))))))))) (fun r3 =>
    .ite (decide ((0 : Int) < (↑(List.length r3.2.2.2.2.2.1) : Int))) (
     .ret (Sum.inr (Sum.inl (false, ())))) (
     .ite (decide (r3.2.2.2.2.2.2.1 = (0 : Int))) (
      .ret (Sum.inl (IntKind.wrap IntKind.i64 (a0 + (1 : Int)), (a1, (a2, (a3, (a4, (r3.1, (r3.2.1, (r3.2.2.1, (r3.2.2.2.1, (a9, (a10, (a11, (a12, ()))))))))))))))) (
      .ret (Sum.inl (IntKind.wrap IntKind.i64 (a0 + (1 : Int)), (a1, (a2, (a3, (a4, (a5, (a6, (a7, (a8, (a9, (a10, (a11, (a12, ())))))))))))))))))))))))) (
   .ret (Sum.inr (Sum.inr (a9, (a10, (a11, (a12, (a5, (a6, (a7, (a8, ())))))))))))
def kBlind_loop8_5 (x : (Int × (Int × ((List Int) × ((List TRoad) × (Int × (Int × (Int × (Int × ((List TGuarded) × (Int × (Int × (Int × ((List TGuarded) × Unit)))))))))))))) : Option ((Bool × Unit) ⊕ (Int × (Int × (Int × ((List TGuarded) × (Int × (Int × (Int × ((List TGuarded) × Unit))))))))) := loopO 80005 (fun x => (kBlind_step8_5 x).eval) 18446744073709551616 x
def kBlind_ap : List VP1 := [.agg [.i .u64, .i .u64, .i .i64, .st 18 false], .one (.st 26 false), .one (.st 28 false), .one (.i .i64)]
def kBlind_rp : SP := ⟨1, [(0, .v (.one (.b)))], []⟩
def kBlind_tree : (Int × (Int × (Int × ((List TGuarded) × ((List TRoad) × ((List Int) × (Int × Unit))))))) → Tr (Bool × Unit) :=
  fun (a0, a1, a2, a3, a4, a5, a6, _) =>
  .opt (β := (Bool × Unit)) ((kProxyLives_fn ())) (fun r0 =>
  .ite (!r0.1) (
   .opt (β := (Bool × Unit)) ((kProxyLives_fn ())) (fun r1 =>
   .ret (r1.1, ()))) (
   .ite (decide ((↑(List.length a5) : Int) < (↑(List.length a4) : Int))) (
    .opt (β := (Bool × Unit)) ((kProxyLives_fn ())) (fun r1 =>
    .ret (r1.1, ()))) (
    .opt (β := ((Bool × Unit) ⊕ (Int × (Int × (Int × ((List TGuarded) × (Int × (Int × (Int × ((List TGuarded) × Unit)))))))))) ((kBlind_loop8_5 ((0 : Int), (a6, (a5, (a4, ((↑(List.length a4) : Int), (a0, (a1, (a2, (a3, (a0, (a1, (a2, (a3, ()))))))))))))))) (fun r1 =>
    .sum (β := (Bool × Unit)) (γ := (Int × (Int × (Int × ((List TGuarded) × (Int × (Int × (Int × ((List TGuarded) × Unit))))))))) (r1) (fun r2 =>
     .ret (r2.1, ())) (fun r2 =>
     .opt (β := ((Bool × Unit) ⊕ (Int × (Int × (Int × ((List TGuarded) × (Int × (Int × (Int × ((List TGuarded) × Unit)))))))))) ((kBlind_loop8_16 ((0 : Int), (r2.2.2.2.2.2.2.2.1, ((↑(List.length r2.2.2.2.2.2.2.2.1) : Int), (r2.1, (r2.2.1, (r2.2.2.1, (r2.2.2.2.1, (r2.2.2.2.2.1, (r2.2.2.2.2.2.1, (r2.2.2.2.2.2.2.1, (r2.2.2.2.2.2.2.2.1, ()))))))))))))) (fun r3 =>
     .sum (β := (Bool × Unit)) (γ := (Int × (Int × (Int × ((List TGuarded) × (Int × (Int × (Int × ((List TGuarded) × Unit))))))))) (r3) (fun r4 =>
      .ret (r4.1, ())) (fun r4 =>
      .ret (decide ((↑(List.length r4.2.2.2.2.2.2.2.1) : Int) ≤ (↑(List.length r4.2.2.2.1) : Int)), ()))))))))
theorem kBlind_eq (x : (Int × (Int × (Int × ((List TGuarded) × ((List TRoad) × ((List Int) × (Int × Unit)))))))) : fnTr Try.prog cod [FS.pf rotl, FS.pf sipCheck, FS.pf sipBegin, FS.pf sipNumber, FS.pf sipMore, FS.pf sipEnd, FS.pf sipOf, FS.pf coPort, FS.pf coLong, FS.pf coSizes, FS.pf coIndex, FS.pf coMake, FS.pf coOpen, FS.pf sumFold, FS.pf sumAdd, FS.pf sumOf, clOpt, FS.pf tcWord, FS.pf tcLong, FS.pf tcWordAt, FS.pf tcLongAt, FS.pf tcWords, FS.pf tcOptions, FS.pf tcWrite, FS.pf tcMss, FS.pf tcMove, clGuard, GS.pf delGuard, FS.pf prTurned, FS.pf prPort, FS.pf prPlace, FS.pf prCheck, FS.pf prOld, FS.pf prRefused, GS.pf dfGuard, FS.pf prMss, mHas, mLeaves, mHeard, mAsk, mStranger, mFromClient, mFromServer, FS.pf prClient, FS.pf prServer, FS.pf kTalkOf, FS.pf kProxyLives, FS.pf kTurn, FS.pf kSameProxy, FS.pf kShuts] [(54, kBlind_L54_2), (8, kBlind_L8_16), (8, kBlind_L8_5)] 30 8 kBlind_ap kBlind_rp x = kBlind_tree x := by kernel_rfl
def kBlind_fn (x : (Int × (Int × (Int × ((List TGuarded) × ((List TRoad) × ((List Int) × (Int × Unit)))))))) : Option (Bool × Unit) := (kBlind_tree x).eval
def kBlind : FS Try.prog := ⟨8, kBlind_ap, kBlind_rp, kBlind_fn, fun x r h => fnTr_sound (cod := cod) (Γ := [FS.pf rotl, FS.pf sipCheck, FS.pf sipBegin, FS.pf sipNumber, FS.pf sipMore, FS.pf sipEnd, FS.pf sipOf, FS.pf coPort, FS.pf coLong, FS.pf coSizes, FS.pf coIndex, FS.pf coMake, FS.pf coOpen, FS.pf sumFold, FS.pf sumAdd, FS.pf sumOf, clOpt, FS.pf tcWord, FS.pf tcLong, FS.pf tcWordAt, FS.pf tcLongAt, FS.pf tcWords, FS.pf tcOptions, FS.pf tcWrite, FS.pf tcMss, FS.pf tcMove, clGuard, GS.pf delGuard, FS.pf prTurned, FS.pf prPort, FS.pf prPlace, FS.pf prCheck, FS.pf prOld, FS.pf prRefused, GS.pf dfGuard, FS.pf prMss, mHas, mLeaves, mHeard, mAsk, mStranger, mFromClient, mFromServer, FS.pf prClient, FS.pf prServer, FS.pf kTalkOf, FS.pf kProxyLives, FS.pf kTurn, FS.pf kSameProxy, FS.pf kShuts]) (Λs := [(54, kBlind_L54_2), (8, kBlind_L8_16), (8, kBlind_L8_5)]) (n := 30) ((congrArg Tr.eval (kBlind_eq x)).trans h)⟩
def kApart_ap : List VP1 := [.agg [.i .u64, .i .u64, .i .i64, .st 18 false], .agg [.i .u32, .i .u32, .i .i64, .i .i64], .agg [.i .u32, .i .u32, .i .i64, .i .i64], .agg [.i .i64, .i .i64, .i .u32, .i .u32, .i .i64, .i .i64, .i .i64, .st 4 false, .s], .one (.i .i64), .one (.b)]
def kApart_rp : SP := ⟨1, [(0, .v (.one (.b)))], []⟩
def kApart_tree : (Int × (Int × (Int × ((List TGuarded) × (Int × (Int × (Int × (Int × (Int × (Int × (Int × (Int × (Int × (Int × (Int × (Int × (Int × (Int × (Int × ((List TOption) × ((List UInt8) × (Int × (Bool × Unit))))))))))))))))))))))) → Tr (Bool × Unit) :=
  fun (a0, a1, a2, a3, a4, a5, a6, a7, a8, a9, a10, a11, a12, a13, a14, a15, a16, a17, a18, a19, a20, a21, a22, _) =>
  .opt (β := (Int × (Int × (Int × (Int × (Int × (Int × (Int × (Bool × (Int × (Bool × Unit))))))))))) ((kTalkOf_fn (a0, (a1, (a2, (a3, (a8, (a9, (a10, (a11, ())))))))))) (fun r0 =>
  .opt (β := (Int × (Int × (Int × ((List TGuarded) × ((List TSegment) × ((List TSegment) × (Int × Unit)))))))) ((prClient_fn (a0, (a1, (a2, (a3, (a4, (a5, (a6, (a7, (a12, (a13, (a14, (a15, (a16, (a17, (a18, (a19, (a20, (a21, ())))))))))))))))))))) (fun r1 =>
  .ite (a22) (
   .opt (β := (Int × (Int × (Int × ((List TGuarded) × ((List TSegment) × ((List TSegment) × (Int × Unit)))))))) ((prServer_fn (a0, (a1, (a2, (a3, (a4, (a5, (a6, (a7, (a12, (a13, (a14, (a15, (a16, (a17, (a18, (a19, (a20, (a21, ())))))))))))))))))))) (fun r2 =>
   .opt (β := (Bool × Unit)) ((kProxyLives_fn ())) (fun r3 =>
   .ite (!r3.1) (
    .opt (β := (Bool × Unit)) ((kProxyLives_fn ())) (fun r4 =>
    .ite (r4.1) (
     .ite (decide (r2.2.2.2.2.2.2.1 = (0 : Int))) (
      .ret (true, ())) (
      .opt (β := (Bool × Unit)) ((kSameProxy_fn (r2.1, (r2.2.1, (r2.2.2.1, (r2.2.2.2.1, (a0, (a1, (a2, (a3, ())))))))))) (fun r5 =>
      .ret (r5.1, ())))) (
     .ret (false, ())))) (
    .ite (!decide (r2.2.2.2.2.2.2.1 = (0 : Int))) (
     .opt (β := (Bool × Unit)) ((kProxyLives_fn ())) (fun r4 =>
     .ite (r4.1) (
      .ite (decide (r2.2.2.2.2.2.2.1 = (0 : Int))) (
       .ret (true, ())) (
       .opt (β := (Bool × Unit)) ((kSameProxy_fn (r2.1, (r2.2.1, (r2.2.2.1, (r2.2.2.2.1, (a0, (a1, (a2, (a3, ())))))))))) (fun r5 =>
       .ret (r5.1, ())))) (
      .ret (false, ())))) (
     .ite (!r0.2.2.2.2.2.2.2.2.2.1) (
      .opt (β := (Bool × Unit)) ((kProxyLives_fn ())) (fun r4 =>
      .ite (r4.1) (
       .ite (decide (r2.2.2.2.2.2.2.1 = (0 : Int))) (
        .ret (true, ())) (
        .opt (β := (Bool × Unit)) ((kSameProxy_fn (r2.1, (r2.2.1, (r2.2.2.1, (r2.2.2.2.1, (a0, (a1, (a2, (a3, ())))))))))) (fun r5 =>
        .ret (r5.1, ())))) (
       .ret (false, ())))) (
      .ite (decide (a4 = a8) && (decide (a5 = a9) && (decide (a6 = a10) && (decide (a7 = a11) && true)))) (
       .opt (β := (Bool × Unit)) ((kProxyLives_fn ())) (fun r4 =>
       .ite (r4.1) (
        .ite (decide (r2.2.2.2.2.2.2.1 = (0 : Int))) (
         .ret (true, ())) (
         .opt (β := (Bool × Unit)) ((kSameProxy_fn (r2.1, (r2.2.1, (r2.2.2.1, (r2.2.2.2.1, (a0, (a1, (a2, (a3, ())))))))))) (fun r5 =>
         .ret (r5.1, ())))) (
        .ret (false, ())))) (
       .opt (β := (Int × (Int × (Int × (Int × Unit))))) ((kTurn_fn (a4, (a5, (a6, (a7, ())))))) (fun r4 =>
       .ite (decide (r4.1 = a8) && (decide (r4.2.1 = a9) && (decide (r4.2.2.1 = a10) && (decide (r4.2.2.2.1 = a11) && true)))) (
        .opt (β := (Bool × Unit)) ((kProxyLives_fn ())) (fun r5 =>
        .ite (r5.1) (
         .ite (decide (r2.2.2.2.2.2.2.1 = (0 : Int))) (
          .ret (true, ())) (
          .opt (β := (Bool × Unit)) ((kSameProxy_fn (r2.1, (r2.2.1, (r2.2.2.1, (r2.2.2.2.1, (a0, (a1, (a2, (a3, ())))))))))) (fun r6 =>
          .ret (r6.1, ())))) (
         .ret (false, ())))) (
        .ite (r0.2.2.2.2.2.2.2.1) (
         .opt (β := (Int × (Int × (Int × (Int × (Int × (Int × (Int × (Bool × (Int × (Bool × Unit))))))))))) ((kTalkOf_fn (r2.1, (r2.2.1, (r2.2.2.1, (r2.2.2.2.1, (a8, (a9, (a10, (a11, ())))))))))) (fun r5 =>
         .ite (r5.2.2.2.2.2.2.2.2.2.1 == decide (IntKind.wrap IntKind.i64 (a21 - r0.2.2.2.2.2.2.2.2.1) ≤ (3000 : Int))) (
          .ite (!r5.2.2.2.2.2.2.2.2.2.1) (
           .ret (true, ())) (
           .ret (decide (r5.1 = r0.1) && (decide (r5.2.1 = r0.2.1) && (decide (r5.2.2.1 = r0.2.2.1) && (decide (r5.2.2.2.1 = r0.2.2.2.1) && true))) && (decide (r5.2.2.2.2.1 = r0.2.2.2.2.1) && (decide (r5.2.2.2.2.2.1 = r0.2.2.2.2.2.1) && (decide (r5.2.2.2.2.2.2.1 = r0.2.2.2.2.2.2.1) && (r5.2.2.2.2.2.2.2.1 == r0.2.2.2.2.2.2.2.1 && (decide (r5.2.2.2.2.2.2.2.2.1 = r0.2.2.2.2.2.2.2.2.1) && true))))), ()))) (
          .ret (false, ())))) (
         .opt (β := (Int × (Int × (Int × (Int × (Int × (Int × (Int × (Bool × (Int × (Bool × Unit))))))))))) ((kTalkOf_fn (r2.1, (r2.2.1, (r2.2.2.1, (r2.2.2.2.1, (a8, (a9, (a10, (a11, ())))))))))) (fun r5 =>
         .ite (r5.2.2.2.2.2.2.2.2.2.1 == decide (IntKind.wrap IntKind.i64 (a21 - r0.2.2.2.2.2.2.2.2.1) ≤ (30 : Int))) (
          .ite (!r5.2.2.2.2.2.2.2.2.2.1) (
           .ret (true, ())) (
           .ret (decide (r5.1 = r0.1) && (decide (r5.2.1 = r0.2.1) && (decide (r5.2.2.1 = r0.2.2.1) && (decide (r5.2.2.2.1 = r0.2.2.2.1) && true))) && (decide (r5.2.2.2.2.1 = r0.2.2.2.2.1) && (decide (r5.2.2.2.2.2.1 = r0.2.2.2.2.2.1) && (decide (r5.2.2.2.2.2.2.1 = r0.2.2.2.2.2.2.1) && (r5.2.2.2.2.2.2.2.1 == r0.2.2.2.2.2.2.2.1 && (decide (r5.2.2.2.2.2.2.2.2.1 = r0.2.2.2.2.2.2.2.2.1) && true))))), ()))) (
          .ret (false, ()))))))))))))) (
   .opt (β := (Bool × Unit)) ((kProxyLives_fn ())) (fun r2 =>
   .ite (!r2.1) (
    .opt (β := (Bool × Unit)) ((kProxyLives_fn ())) (fun r3 =>
    .ite (r3.1) (
     .ite (decide (r1.2.2.2.2.2.2.1 = (0 : Int))) (
      .ret (true, ())) (
      .opt (β := (Bool × Unit)) ((kSameProxy_fn (r1.1, (r1.2.1, (r1.2.2.1, (r1.2.2.2.1, (a0, (a1, (a2, (a3, ())))))))))) (fun r4 =>
      .ret (r4.1, ())))) (
     .ret (false, ())))) (
    .ite (!decide (r1.2.2.2.2.2.2.1 = (0 : Int))) (
     .opt (β := (Bool × Unit)) ((kProxyLives_fn ())) (fun r3 =>
     .ite (r3.1) (
      .ite (decide (r1.2.2.2.2.2.2.1 = (0 : Int))) (
       .ret (true, ())) (
       .opt (β := (Bool × Unit)) ((kSameProxy_fn (r1.1, (r1.2.1, (r1.2.2.1, (r1.2.2.2.1, (a0, (a1, (a2, (a3, ())))))))))) (fun r4 =>
       .ret (r4.1, ())))) (
      .ret (false, ())))) (
     .ite (!r0.2.2.2.2.2.2.2.2.2.1) (
      .opt (β := (Bool × Unit)) ((kProxyLives_fn ())) (fun r3 =>
      .ite (r3.1) (
       .ite (decide (r1.2.2.2.2.2.2.1 = (0 : Int))) (
        .ret (true, ())) (
        .opt (β := (Bool × Unit)) ((kSameProxy_fn (r1.1, (r1.2.1, (r1.2.2.1, (r1.2.2.2.1, (a0, (a1, (a2, (a3, ())))))))))) (fun r4 =>
        .ret (r4.1, ())))) (
       .ret (false, ())))) (
      .ite (decide (a4 = a8) && (decide (a5 = a9) && (decide (a6 = a10) && (decide (a7 = a11) && true)))) (
       .opt (β := (Bool × Unit)) ((kProxyLives_fn ())) (fun r3 =>
       .ite (r3.1) (
        .ite (decide (r1.2.2.2.2.2.2.1 = (0 : Int))) (
         .ret (true, ())) (
         .opt (β := (Bool × Unit)) ((kSameProxy_fn (r1.1, (r1.2.1, (r1.2.2.1, (r1.2.2.2.1, (a0, (a1, (a2, (a3, ())))))))))) (fun r4 =>
         .ret (r4.1, ())))) (
        .ret (false, ())))) (
       .opt (β := (Int × (Int × (Int × (Int × Unit))))) ((kTurn_fn (a4, (a5, (a6, (a7, ())))))) (fun r3 =>
       .ite (decide (r3.1 = a8) && (decide (r3.2.1 = a9) && (decide (r3.2.2.1 = a10) && (decide (r3.2.2.2.1 = a11) && true)))) (
        .opt (β := (Bool × Unit)) ((kProxyLives_fn ())) (fun r4 =>
        .ite (r4.1) (
         .ite (decide (r1.2.2.2.2.2.2.1 = (0 : Int))) (
          .ret (true, ())) (
          .opt (β := (Bool × Unit)) ((kSameProxy_fn (r1.1, (r1.2.1, (r1.2.2.1, (r1.2.2.2.1, (a0, (a1, (a2, (a3, ())))))))))) (fun r5 =>
          .ret (r5.1, ())))) (
         .ret (false, ())))) (
        .ite (r0.2.2.2.2.2.2.2.1) (
         .opt (β := (Int × (Int × (Int × (Int × (Int × (Int × (Int × (Bool × (Int × (Bool × Unit))))))))))) ((kTalkOf_fn (r1.1, (r1.2.1, (r1.2.2.1, (r1.2.2.2.1, (a8, (a9, (a10, (a11, ())))))))))) (fun r4 =>
         .ite (r4.2.2.2.2.2.2.2.2.2.1 == decide (IntKind.wrap IntKind.i64 (a21 - r0.2.2.2.2.2.2.2.2.1) ≤ (3000 : Int))) (
          .ite (!r4.2.2.2.2.2.2.2.2.2.1) (
           .ret (true, ())) (
           .ret (decide (r4.1 = r0.1) && (decide (r4.2.1 = r0.2.1) && (decide (r4.2.2.1 = r0.2.2.1) && (decide (r4.2.2.2.1 = r0.2.2.2.1) && true))) && (decide (r4.2.2.2.2.1 = r0.2.2.2.2.1) && (decide (r4.2.2.2.2.2.1 = r0.2.2.2.2.2.1) && (decide (r4.2.2.2.2.2.2.1 = r0.2.2.2.2.2.2.1) && (r4.2.2.2.2.2.2.2.1 == r0.2.2.2.2.2.2.2.1 && (decide (r4.2.2.2.2.2.2.2.2.1 = r0.2.2.2.2.2.2.2.2.1) && true))))), ()))) (
          .ret (false, ())))) (
         .opt (β := (Int × (Int × (Int × (Int × (Int × (Int × (Int × (Bool × (Int × (Bool × Unit))))))))))) ((kTalkOf_fn (r1.1, (r1.2.1, (r1.2.2.1, (r1.2.2.2.1, (a8, (a9, (a10, (a11, ())))))))))) (fun r4 =>
         .ite (r4.2.2.2.2.2.2.2.2.2.1 == decide (IntKind.wrap IntKind.i64 (a21 - r0.2.2.2.2.2.2.2.2.1) ≤ (30 : Int))) (
          .ite (!r4.2.2.2.2.2.2.2.2.2.1) (
           .ret (true, ())) (
           .ret (decide (r4.1 = r0.1) && (decide (r4.2.1 = r0.2.1) && (decide (r4.2.2.1 = r0.2.2.1) && (decide (r4.2.2.2.1 = r0.2.2.2.1) && true))) && (decide (r4.2.2.2.2.1 = r0.2.2.2.2.1) && (decide (r4.2.2.2.2.2.1 = r0.2.2.2.2.2.1) && (decide (r4.2.2.2.2.2.2.1 = r0.2.2.2.2.2.2.1) && (r4.2.2.2.2.2.2.2.1 == r0.2.2.2.2.2.2.2.1 && (decide (r4.2.2.2.2.2.2.2.2.1 = r0.2.2.2.2.2.2.2.2.1) && true))))), ()))) (
          .ret (false, ()))))))))))))))
theorem kApart_eq (x : (Int × (Int × (Int × ((List TGuarded) × (Int × (Int × (Int × (Int × (Int × (Int × (Int × (Int × (Int × (Int × (Int × (Int × (Int × (Int × (Int × ((List TOption) × ((List UInt8) × (Int × (Bool × Unit)))))))))))))))))))))))) : fnTr Try.prog cod [FS.pf rotl, FS.pf sipCheck, FS.pf sipBegin, FS.pf sipNumber, FS.pf sipMore, FS.pf sipEnd, FS.pf sipOf, FS.pf coPort, FS.pf coLong, FS.pf coSizes, FS.pf coIndex, FS.pf coMake, FS.pf coOpen, FS.pf sumFold, FS.pf sumAdd, FS.pf sumOf, clOpt, FS.pf tcWord, FS.pf tcLong, FS.pf tcWordAt, FS.pf tcLongAt, FS.pf tcWords, FS.pf tcOptions, FS.pf tcWrite, FS.pf tcMss, FS.pf tcMove, clGuard, GS.pf delGuard, FS.pf prTurned, FS.pf prPort, FS.pf prPlace, FS.pf prCheck, FS.pf prOld, FS.pf prRefused, GS.pf dfGuard, FS.pf prMss, mHas, mLeaves, mHeard, mAsk, mStranger, mFromClient, mFromServer, FS.pf prClient, FS.pf prServer, FS.pf kTalkOf, FS.pf kProxyLives, FS.pf kTurn, FS.pf kSameProxy, FS.pf kShuts, FS.pf kBlind] [] 30 11 kApart_ap kApart_rp x = kApart_tree x := by kernel_rfl
def kApart_fn (x : (Int × (Int × (Int × ((List TGuarded) × (Int × (Int × (Int × (Int × (Int × (Int × (Int × (Int × (Int × (Int × (Int × (Int × (Int × (Int × (Int × ((List TOption) × ((List UInt8) × (Int × (Bool × Unit)))))))))))))))))))))))) : Option (Bool × Unit) := (kApart_tree x).eval
def kApart : FS Try.prog := ⟨11, kApart_ap, kApart_rp, kApart_fn, fun x r h => fnTr_sound (cod := cod) (Γ := [FS.pf rotl, FS.pf sipCheck, FS.pf sipBegin, FS.pf sipNumber, FS.pf sipMore, FS.pf sipEnd, FS.pf sipOf, FS.pf coPort, FS.pf coLong, FS.pf coSizes, FS.pf coIndex, FS.pf coMake, FS.pf coOpen, FS.pf sumFold, FS.pf sumAdd, FS.pf sumOf, clOpt, FS.pf tcWord, FS.pf tcLong, FS.pf tcWordAt, FS.pf tcLongAt, FS.pf tcWords, FS.pf tcOptions, FS.pf tcWrite, FS.pf tcMss, FS.pf tcMove, clGuard, GS.pf delGuard, FS.pf prTurned, FS.pf prPort, FS.pf prPlace, FS.pf prCheck, FS.pf prOld, FS.pf prRefused, GS.pf dfGuard, FS.pf prMss, mHas, mLeaves, mHeard, mAsk, mStranger, mFromClient, mFromServer, FS.pf prClient, FS.pf prServer, FS.pf kTalkOf, FS.pf kProxyLives, FS.pf kTurn, FS.pf kSameProxy, FS.pf kShuts, FS.pf kBlind]) (Λs := []) (n := 30) ((congrArg Tr.eval (kApart_eq x)).trans h)⟩
end Go.Proofs.Ytcdcdmfecglemaa.X
