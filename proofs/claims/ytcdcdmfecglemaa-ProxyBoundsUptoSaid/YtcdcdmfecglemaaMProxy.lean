/- Functions of the program, as trees (printed by a program of mine: tool/XTool, xg.py), each with the proof that the machine comes to what its tree says. Conditions: none. -/
import Derived.Test.YtcdcdmfecglemaaCod
import Derived.KernelRfl
import Derived.Test.YtcdcdmfecglemaaLProxy
namespace Go.Proofs.Ytcdcdmfecglemaa.X
open Go Go.RowKit Go.Proofs.Ytcdcdmfecglemaa.Abs
set_option maxRecDepth 100000
set_option linter.unusedVariables false
def rRoadRight_ap : List VP1 := [.agg [.i .u32, .i .u32, .i .i64, .i .i64]]
def rRoadRight_rp : SP := ⟨1, [(0, .v (.one (.b)))], []⟩
def rRoadRight_tree : (Int × (Int × (Int × (Int × Unit)))) → Tr (Bool × Unit) :=
  fun (a0, a1, a2, a3, _) =>
  .ite (decide ((0 : Int) ≤ a2)) (
   .ite (decide (a2 ≤ (65535 : Int))) (
    .ite (decide ((0 : Int) ≤ a3)) (
     .ret (decide (a3 ≤ (65535 : Int)), ())) (
     .ret (false, ()))) (
    .ret (false, ()))) (
   .ite (false) (
    .ite (decide ((0 : Int) ≤ a3)) (
     .ret (decide (a3 ≤ (65535 : Int)), ())) (
     .ret (false, ()))) (
    .ret (false, ())))
theorem rRoadRight_eq (x : (Int × (Int × (Int × (Int × Unit))))) : fnTr Try.prog cod [FS.pf rotl, FS.pf sipCheck, FS.pf sipBegin, FS.pf sipNumber, FS.pf sipMore, FS.pf sipEnd, FS.pf sipOf, FS.pf coPort, FS.pf coLong, FS.pf coSizes, FS.pf coIndex, FS.pf coMake, FS.pf coOpen, FS.pf sumFold, FS.pf sumAdd, FS.pf sumOf, clOpt, FS.pf tcWord, FS.pf tcLong, FS.pf tcWordAt, FS.pf tcLongAt, FS.pf tcWords, FS.pf tcOptions, FS.pf tcWrite, FS.pf tcMss, FS.pf tcMove, clGuard, GS.pf delGuard, FS.pf prTurned, FS.pf prPort, FS.pf prPlace, FS.pf prCheck, FS.pf prOld, FS.pf prRefused, GS.pf dfGuard, FS.pf prMss, mHas, mLeaves, mHeard, mAsk, mStranger, mFromClient, mFromServer, FS.pf prClient, FS.pf prServer, FS.pf kTalkOf, FS.pf kProxyLives, FS.pf kTurn, FS.pf kSameProxy, FS.pf kShuts, FS.pf kBlind, FS.pf kApart] [] 30 28 rRoadRight_ap rRoadRight_rp x = rRoadRight_tree x := by kernel_rfl
def rRoadRight_fn (x : (Int × (Int × (Int × (Int × Unit))))) : Option (Bool × Unit) := (rRoadRight_tree x).eval
def rRoadRight : FS Try.prog := ⟨28, rRoadRight_ap, rRoadRight_rp, rRoadRight_fn, fun x r h => fnTr_sound (cod := cod) (Γ := [FS.pf rotl, FS.pf sipCheck, FS.pf sipBegin, FS.pf sipNumber, FS.pf sipMore, FS.pf sipEnd, FS.pf sipOf, FS.pf coPort, FS.pf coLong, FS.pf coSizes, FS.pf coIndex, FS.pf coMake, FS.pf coOpen, FS.pf sumFold, FS.pf sumAdd, FS.pf sumOf, clOpt, FS.pf tcWord, FS.pf tcLong, FS.pf tcWordAt, FS.pf tcLongAt, FS.pf tcWords, FS.pf tcOptions, FS.pf tcWrite, FS.pf tcMss, FS.pf tcMove, clGuard, GS.pf delGuard, FS.pf prTurned, FS.pf prPort, FS.pf prPlace, FS.pf prCheck, FS.pf prOld, FS.pf prRefused, GS.pf dfGuard, FS.pf prMss, mHas, mLeaves, mHeard, mAsk, mStranger, mFromClient, mFromServer, FS.pf prClient, FS.pf prServer, FS.pf kTalkOf, FS.pf kProxyLives, FS.pf kTurn, FS.pf kSameProxy, FS.pf kShuts, FS.pf kBlind, FS.pf kApart]) (Λs := []) (n := 30) ((congrArg Tr.eval (rRoadRight_eq x)).trans h)⟩
def kOpens_ap : List VP1 := [.agg [.i .u64, .i .u64], .one (.i .i64), .agg [.i .u32, .i .u32, .i .i64, .i .i64], .one (.i .u32), .one (.i .u32), .one (.i .i64), .one (.s)]
def kOpens_rp : SP := ⟨1, [(0, .v (.one (.b)))], []⟩
def kOpens_tree : (Int × (Int × (Int × (Int × (Int × (Int × (Int × (Int × (Int × (Int × ((List UInt8) × Unit))))))))))) → Tr (Bool × Unit) :=
  fun (a0, a1, a2, a3, a4, a5, a6, a7, a8, a9, a10, _) =>
  .opt (β := (Bool × Unit)) ((kProxyLives_fn ())) (fun r0 =>
  .ite (!r0.1) (
   .opt (β := (Bool × Unit)) ((kProxyLives_fn ())) (fun r1 =>
   .ret (r1.1, ()))) (
   .opt (β := (Int × Unit)) ((prCheck_fn (a0, (a1, (a2, ([], ())))))) (fun r1 =>
   .ite (!decide (r1.1 = (0 : Int))) (
    .opt (β := (Bool × Unit)) ((kProxyLives_fn ())) (fun r2 =>
    .ret (r2.1, ()))) (
    .opt (β := (Bool × Unit)) ((rRoadRight_fn (a3, (a4, (a5, (a6, ())))))) (fun r2 =>
    .ite (!r2.1) (
     .opt (β := (Bool × Unit)) ((kProxyLives_fn ())) (fun r3 =>
     .ret (r3.1, ()))) (
     .ite (decide (a9 < (0 : Int))) (
      .opt (β := (Bool × Unit)) ((kProxyLives_fn ())) (fun r3 =>
      .ret (r3.1, ()))) (
      .ite (decide ((549755813888 : Int) < a9)) (
       .opt (β := (Bool × Unit)) ((kProxyLives_fn ())) (fun r3 =>
       .ret (r3.1, ()))) (
       .ite (decide ((1000 : Int) < (↑(List.length a10) : Int))) (
        .opt (β := (Bool × Unit)) ((kProxyLives_fn ())) (fun r3 =>
        .ret (r3.1, ()))) (
        .opt (β := (Int × (Int × (Int × (Int × Unit))))) ((kTurn_fn (a3, (a4, (a5, (a6, ())))))) (fun r3 =>
        .opt (β := (Int × (Int × (Int × ((List TGuarded) × ((List TSegment) × ((List TSegment) × (Int × Unit)))))))) ((prClient_fn (a0, (a1, (a2, ([], (a3, (a4, (a5, (a6, (a5, (a6, (a7, ((0 : Int), ((2 : Int), ((0 : Int), ((0 : Int), ([], ([], (a9, ())))))))))))))))))))) (fun r4 =>
        .ite (!decide (r4.2.2.2.2.2.2.1 = (0 : Int))) (
         .ret (false, ())) (
         .ite (!decide ((↑(List.length r4.2.2.2.2.1) : Int) = (1 : Int))) (
          .ret (false, ())) (
          .ite (!decide ((↑(List.length r4.2.2.2.2.2.1) : Int) = (0 : Int))) (
           .ret (false, ())) (
           .ite (!decide ((↑(List.length r4.2.2.2.1) : Int) = (0 : Int))) (
            .ret (false, ())) (
            .grd (true) (
            .opt (β := TSegment) (r4.2.2.2.2.1[(0 : Nat)]?) (fun r5 =>
            .opt (β := (Int × (Int × (Int × ((List TGuarded) × ((List TSegment) × ((List TSegment) × (Int × Unit)))))))) ((prClient_fn (r4.1, (r4.2.1, (r4.2.2.1, (r4.2.2.2.1, (a3, (a4, (a5, (a6, (a5, (a6, (IntKind.wrap IntKind.u32 (a7 + (1 : Int)), (IntKind.wrap IntKind.u32 (r5.seq + (1 : Int)), ((16 : Int), ((0 : Int), ((0 : Int), ([], ([], (a9, ())))))))))))))))))))) (fun r6 =>
            .ite (!decide (r6.2.2.2.2.2.2.1 = (0 : Int))) (
             .ret (false, ())) (
             .ite (!decide ((↑(List.length r6.2.2.2.2.1) : Int) = (0 : Int))) (
              .ret (false, ())) (
              .ite (!decide ((↑(List.length r6.2.2.2.2.2.1) : Int) = (1 : Int))) (
               .ret (false, ())) (
               .grd (true) (
               .opt (β := TSegment) (r6.2.2.2.2.2.1[(0 : Nat)]?) (fun r7 =>
               .ite (!decide (r7.flags = (2 : Int))) (
                .ret (false, ())) (
                .grd (true) (
                .opt (β := TSegment) (r6.2.2.2.2.2.1[(0 : Nat)]?) (fun r8 =>
                .ite (!decide (r8.seq = a7)) (
                 .ret (false, ())) (
                 .opt (β := (Int × (Int × (Int × ((List TGuarded) × ((List TSegment) × ((List TSegment) × (Int × Unit)))))))) ((prServer_fn (r6.1, (r6.2.1, (r6.2.2.1, (r6.2.2.2.1, (r3.1, (r3.2.1, (r3.2.2.1, (r3.2.2.2.1, (a6, (a5, (a8, (IntKind.wrap IntKind.u32 (a7 + (1 : Int)), ((18 : Int), ((0 : Int), ((0 : Int), ([], ([], (IntKind.wrap IntKind.i64 (a9 + (1 : Int)), ())))))))))))))))))))) (fun r9 =>
                 .ite (!decide (r9.2.2.2.2.2.2.1 = (0 : Int))) (
                  .ret (false, ())) (
                  .ite (!decide ((↑(List.length r9.2.2.2.2.1) : Int) = (0 : Int))) (
                   .ret (false, ())) (
                   .ite (!decide ((↑(List.length r9.2.2.2.2.2.1) : Int) = (1 : Int))) (
                    .ret (false, ())) (
                    .grd (true) (
                    .opt (β := TSegment) (r9.2.2.2.2.2.1[(0 : Nat)]?) (fun r10 =>
                    .ite (!decide (r10.flags = (16 : Int))) (
                     .ret (false, ())) (
                     .grd (true) (
                     .opt (β := TSegment) (r9.2.2.2.2.2.1[(0 : Nat)]?) (fun r11 =>
                     .ite (!decide (r11.ack = IntKind.wrap IntKind.u32 (a8 + (1 : Int)))) (
                      .ret (false, ())) (
                      .grd (true) (
                      .opt (β := TSegment) (r9.2.2.2.2.2.1[(0 : Nat)]?) (fun r12 =>
                      .ite (!decide (r12.seq = IntKind.wrap IntKind.u32 (a7 + (1 : Int)))) (
                       .ret (false, ())) (
                       .opt (β := (Int × (Int × (Int × ((List TGuarded) × ((List TSegment) × ((List TSegment) × (Int × Unit)))))))) ((prServer_fn (r9.1, (r9.2.1, (r9.2.2.1, (r9.2.2.2.1, (r3.1, (r3.2.1, (r3.2.2.1, (r3.2.2.2.1, (a6, (a5, (IntKind.wrap IntKind.u32 (a8 + (1 : Int)), (IntKind.wrap IntKind.u32 (a7 + (1 : Int)), ((16 : Int), ((0 : Int), ((0 : Int), ([], (a10, (IntKind.wrap IntKind.i64 (a9 + (2 : Int)), ())))))))))))))))))))) (fun r13 =>
                       .ite (!decide (r13.2.2.2.2.2.2.1 = (0 : Int))) (
                        .ret (false, ())) (
                        .ite (!decide ((↑(List.length r13.2.2.2.2.2.1) : Int) = (0 : Int))) (
                         .ret (false, ())) (
                         .ite (!decide ((↑(List.length r13.2.2.2.2.1) : Int) = (1 : Int))) (
                          .ret (false, ())) (
                          .grd (true) (
                          .opt (β := TSegment) (r13.2.2.2.2.1[(0 : Nat)]?) (fun r14 =>
                          .ite (!decide (r14.data = a10)) (
                           .ret (false, ())) (
                           .grd (true) (
                           .opt (β := TSegment) (r13.2.2.2.2.1[(0 : Nat)]?) (fun r15 =>
                           .ite (!decide (r15.seq = IntKind.wrap IntKind.u32 (r5.seq + (1 : Int)))) (
                            .ret (false, ())) (
                            .grd (true) (
                            .opt (β := TSegment) (r13.2.2.2.2.1[(0 : Nat)]?) (fun r16 =>
                            .ite (!decide (r16.ack = IntKind.wrap IntKind.u32 (a7 + (1 : Int)))) (
                             .ret (false, ())) (
                             .grd (true) (
                             .opt (β := TSegment) (r13.2.2.2.2.1[(0 : Nat)]?) (fun r17 =>
                             .opt (β := (Int × (Int × (Int × ((List TGuarded) × ((List TSegment) × ((List TSegment) × (Int × Unit)))))))) ((prClient_fn (r13.1, (r13.2.1, (r13.2.2.1, (r13.2.2.2.1, (a3, (a4, (a5, (a6, (a5, (a6, (IntKind.wrap IntKind.u32 (a7 + (1 : Int)), (IntKind.wrap IntKind.u32 (r17.seq + IntKind.wrap IntKind.u32 (↑(List.length a10) : Int)), ((16 : Int), ((0 : Int), ((0 : Int), ([], (a10, (IntKind.wrap IntKind.i64 (a9 + (3 : Int)), ())))))))))))))))))))) (fun r18 =>
                             .ite (decide (r18.2.2.2.2.2.2.1 = (0 : Int))) (
                              .ite (decide ((↑(List.length r18.2.2.2.2.1) : Int) = (0 : Int))) (
                               .ite (decide ((↑(List.length r18.2.2.2.2.2.1) : Int) = (1 : Int))) (
                                .grd (true) (
                                .opt (β := TSegment) (r18.2.2.2.2.2.1[(0 : Nat)]?) (fun r19 =>
                                .ite (decide (r19.data = a10)) (
                                 .grd (true) (
                                 .opt (β := TSegment) (r18.2.2.2.2.2.1[(0 : Nat)]?) (fun r20 =>
                                 .ite (decide (r20.seq = IntKind.wrap IntKind.u32 (a7 + (1 : Int)))) (
                                  .grd (true) (
                                  .opt (β := TSegment) (r18.2.2.2.2.2.1[(0 : Nat)]?) (fun r21 =>
                                  .ret (decide (r21.ack = IntKind.wrap IntKind.u32 (IntKind.wrap IntKind.u32 (a8 + (1 : Int)) + IntKind.wrap IntKind.u32 (↑(List.length a10) : Int))), ())))) (
                                  .ret (false, ()))))) (
                                 .ret (false, ()))))) (
                                .ret (false, ()))) (
                               .ret (false, ()))) (
                              .ret (false, ()))))))))))))))))))))))))))))))))))))))))))))))))))))))))))
theorem kOpens_eq (x : (Int × (Int × (Int × (Int × (Int × (Int × (Int × (Int × (Int × (Int × ((List UInt8) × Unit)))))))))))) : fnTr Try.prog cod [FS.pf rotl, FS.pf sipCheck, FS.pf sipBegin, FS.pf sipNumber, FS.pf sipMore, FS.pf sipEnd, FS.pf sipOf, FS.pf coPort, FS.pf coLong, FS.pf coSizes, FS.pf coIndex, FS.pf coMake, FS.pf coOpen, FS.pf sumFold, FS.pf sumAdd, FS.pf sumOf, clOpt, FS.pf tcWord, FS.pf tcLong, FS.pf tcWordAt, FS.pf tcLongAt, FS.pf tcWords, FS.pf tcOptions, FS.pf tcWrite, FS.pf tcMss, FS.pf tcMove, clGuard, GS.pf delGuard, FS.pf prTurned, FS.pf prPort, FS.pf prPlace, FS.pf prCheck, FS.pf prOld, FS.pf prRefused, GS.pf dfGuard, FS.pf prMss, mHas, mLeaves, mHeard, mAsk, mStranger, mFromClient, mFromServer, FS.pf prClient, FS.pf prServer, FS.pf kTalkOf, FS.pf kProxyLives, FS.pf kTurn, FS.pf kSameProxy, FS.pf kShuts, FS.pf kBlind, FS.pf kApart, FS.pf rRoadRight] [] 30 9 kOpens_ap kOpens_rp x = kOpens_tree x := by kernel_rfl
def kOpens_fn (x : (Int × (Int × (Int × (Int × (Int × (Int × (Int × (Int × (Int × (Int × ((List UInt8) × Unit)))))))))))) : Option (Bool × Unit) := (kOpens_tree x).eval
def kOpens : FS Try.prog := ⟨9, kOpens_ap, kOpens_rp, kOpens_fn, fun x r h => fnTr_sound (cod := cod) (Γ := [FS.pf rotl, FS.pf sipCheck, FS.pf sipBegin, FS.pf sipNumber, FS.pf sipMore, FS.pf sipEnd, FS.pf sipOf, FS.pf coPort, FS.pf coLong, FS.pf coSizes, FS.pf coIndex, FS.pf coMake, FS.pf coOpen, FS.pf sumFold, FS.pf sumAdd, FS.pf sumOf, clOpt, FS.pf tcWord, FS.pf tcLong, FS.pf tcWordAt, FS.pf tcLongAt, FS.pf tcWords, FS.pf tcOptions, FS.pf tcWrite, FS.pf tcMss, FS.pf tcMove, clGuard, GS.pf delGuard, FS.pf prTurned, FS.pf prPort, FS.pf prPlace, FS.pf prCheck, FS.pf prOld, FS.pf prRefused, GS.pf dfGuard, FS.pf prMss, mHas, mLeaves, mHeard, mAsk, mStranger, mFromClient, mFromServer, FS.pf prClient, FS.pf prServer, FS.pf kTalkOf, FS.pf kProxyLives, FS.pf kTurn, FS.pf kSameProxy, FS.pf kShuts, FS.pf kBlind, FS.pf kApart, FS.pf rRoadRight]) (Λs := []) (n := 30) ((congrArg Tr.eval (kOpens_eq x)).trans h)⟩
end Go.Proofs.Ytcdcdmfecglemaa.X
