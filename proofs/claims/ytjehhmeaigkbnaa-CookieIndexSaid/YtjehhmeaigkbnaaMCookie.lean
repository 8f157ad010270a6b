/- Functions of the program, as trees (printed by a program of mine: tool/XTool, xg.py), each with the proof that the machine comes to what its tree says. Conditions: none. -/
import Derived.Test.YtjehhmeaigkbnaaCod
import Derived.KernelRfl
import Derived.Test.YtjehhmeaigkbnaaGSip
import Derived.Test.YtjehhmeaigkbnaaGCookie
namespace Go.Proofs.Ytjehhmeaigkbnaa.X
open Go Go.RowKit Go.Proofs.Ytjehhmeaigkbnaa.Abs
set_option maxRecDepth 100000
set_option linter.unusedVariables false
def cookieLives_ap : List VP1 := []
def cookieLives_rp : SP := ⟨1, [(0, .v (.one (.b)))], []⟩
def cookieLives_tree : Unit → Tr (Bool × Unit) :=
  fun (_) =>
  .opt (β := (Int × (Int × Unit))) ((coMake_fn ((5 : Int), ((6 : Int), ((1 : Int), ((2 : Int), ((3 : Int), ((4 : Int), ((7 : Int), ((8 : Int), ((6 : Int), ()))))))))))) (fun r0 =>
  .opt (β := (Int × (Int × Unit))) ((coOpen_fn ((5 : Int), ((6 : Int), ((1 : Int), ((2 : Int), ((3 : Int), ((4 : Int), ((7 : Int), (r0.1, ((9 : Int), ()))))))))))) (fun r1 =>
  .ite (decide (r0.2.1 = (0 : Int))) (
   .ite (decide (r1.2.1 = (0 : Int))) (
    .ite (decide (r1.1 = (1460 : Int))) (
     .grd (true) (
     .ret (decide (Int.fdiv r0.1 ((2 : Int) ^ (24 : Nat)) = (70 : Int)), ()))) (
     .ret (false, ()))) (
    .ret (false, ()))) (
   .ret (false, ()))))
theorem cookieLives_eq (x : Unit) : fnTr Try.prog cod [FS.pf rotl, FS.pf sipCheck, FS.pf sipBegin, FS.pf sipNumber, FS.pf sipMore, FS.pf sipEnd, FS.pf sipOf, FS.pf coPort, FS.pf coLong, FS.pf coSizes, FS.pf coIndex, FS.pf coMake, FS.pf coOpen] [] 30 29 cookieLives_ap cookieLives_rp x = cookieLives_tree x := by kernel_rfl
def cookieLives_fn (x : Unit) : Option (Bool × Unit) := (cookieLives_tree x).eval
def cookieLives : FS Try.prog := ⟨29, cookieLives_ap, cookieLives_rp, cookieLives_fn, fun x r h => fnTr_sound (cod := cod) (Γ := [FS.pf rotl, FS.pf sipCheck, FS.pf sipBegin, FS.pf sipNumber, FS.pf sipMore, FS.pf sipEnd, FS.pf sipOf, FS.pf coPort, FS.pf coLong, FS.pf coSizes, FS.pf coIndex, FS.pf coMake, FS.pf coOpen]) (Λs := []) (n := 30) ((congrArg Tr.eval (cookieLives_eq x)).trans h)⟩
def cookieIndex_L10_5 : LS := ⟨5, [(3, 3)], ⟨52, [(5, .v (.one (.i .i64))), (3, .v (.one (.ptr 3 0))), (0, .v (.one (.i .i64))), (4, .v (.one (.i .i64)))], [(3, .cells [.i .i64, .i .i64, .i .i64, .i .i64, .i .i64, .i .i64, .i .i64, .i .i64])]⟩, [⟨none, [], ⟨52, [(2, .v (.one (.b)))], []⟩⟩, ⟨some 0, [(3, 3)], ⟨52, [(0, .v (.one (.i .i64))), (3, .v (.one (.ptr 3 0))), (4, .v (.one (.i .i64)))], [(3, .cells [.i .i64, .i .i64, .i .i64, .i .i64, .i .i64, .i .i64, .i .i64, .i .i64])]⟩⟩], []⟩
def cookieIndex_step10_5 : (Int × (Int × (Int × (Int × (Int × (Int × (Int × (Int × (Int × (Int × (Int × Unit))))))))))) → Tr ((Int × (Int × (Int × (Int × (Int × (Int × (Int × (Int × (Int × (Int × (Int × Unit))))))))))) ⊕ ((Bool × Unit) ⊕ (Int × (Int × (Int × (Int × (Int × (Int × (Int × (Int × (Int × (Int × Unit)))))))))))) :=
  fun (a0, a1, a2, a3, a4, a5, a6, a7, a8, a9, a10, _) =>
  .ite (decide (a0 < (8 : Int))) (
   .ite (decide (a0 = (↑(0 : Nat) : Int))) (
    .ite (decide (IntKind.wrap IntKind.i64 (a0 - (1 : Int)) = (↑(0 : Nat) : Int))) (
     .ite (decide (a3 ≤ a3)) (
      .ret (Sum.inr (Sum.inl (false, ())))) (
      .ret (Sum.inl (IntKind.wrap IntKind.i64 (a0 + (1 : Int)), (a1, (a2, (a3, (a4, (a5, (a6, (a7, (a8, (a9, (a10, ())))))))))))))) (
     .ite (decide (IntKind.wrap IntKind.i64 (a0 - (1 : Int)) = (↑((0 : Nat) + (1 : Nat)) : Int))) (
      .ite (decide (a3 ≤ a4)) (
       .ret (Sum.inr (Sum.inl (false, ())))) (
       .ret (Sum.inl (IntKind.wrap IntKind.i64 (a0 + (1 : Int)), (a1, (a2, (a3, (a4, (a5, (a6, (a7, (a8, (a9, (a10, ())))))))))))))) (
      .ite (decide (IntKind.wrap IntKind.i64 (a0 - (1 : Int)) = (↑((0 : Nat) + (1 : Nat) + (1 : Nat)) : Int))) (
       .ite (decide (a3 ≤ a5)) (
        .ret (Sum.inr (Sum.inl (false, ())))) (
        .ret (Sum.inl (IntKind.wrap IntKind.i64 (a0 + (1 : Int)), (a1, (a2, (a3, (a4, (a5, (a6, (a7, (a8, (a9, (a10, ())))))))))))))) (
       .ite (decide (IntKind.wrap IntKind.i64 (a0 - (1 : Int)) = (↑((0 : Nat) + (1 : Nat) + (1 : Nat) + (1 : Nat)) : Int))) (
        .ite (decide (a3 ≤ a6)) (
         .ret (Sum.inr (Sum.inl (false, ())))) (
         .ret (Sum.inl (IntKind.wrap IntKind.i64 (a0 + (1 : Int)), (a1, (a2, (a3, (a4, (a5, (a6, (a7, (a8, (a9, (a10, ())))))))))))))) (
        .ite (decide (IntKind.wrap IntKind.i64 (a0 - (1 : Int)) = (↑((0 : Nat) + (1 : Nat) + (1 : Nat) + (1 : Nat) + (1 : Nat)) : Int))) (
         .ite (decide (a3 ≤ a7)) (
          .ret (Sum.inr (Sum.inl (false, ())))) (
          .ret (Sum.inl (IntKind.wrap IntKind.i64 (a0 + (1 : Int)), (a1, (a2, (a3, (a4, (a5, (a6, (a7, (a8, (a9, (a10, ())))))))))))))) (
         .ite (decide (IntKind.wrap IntKind.i64 (a0 - (1 : Int)) = (↑((0 : Nat) + (1 : Nat) + (1 : Nat) + (1 : Nat) + (1 : Nat) + (1 : Nat)) : Int))) (
          .ite (decide (a3 ≤ a8)) (
           .ret (Sum.inr (Sum.inl (false, ())))) (
           .ret (Sum.inl (IntKind.wrap IntKind.i64 (a0 + (1 : Int)), (a1, (a2, (a3, (a4, (a5, (a6, (a7, (a8, (a9, (a10, ())))))))))))))) (
          .ite (decide (IntKind.wrap IntKind.i64 (a0 - (1 : Int)) = (↑((0 : Nat) + (1 : Nat) + (1 : Nat) + (1 : Nat) + (1 : Nat) + (1 : Nat) + (1 : Nat)) : Int))) (
           .ite (decide (a3 ≤ a9)) (
            .ret (Sum.inr (Sum.inl (false, ())))) (
            .ret (Sum.inl (IntKind.wrap IntKind.i64 (a0 + (1 : Int)), (a1, (a2, (a3, (a4, (a5, (a6, (a7, (a8, (a9, (a10, ())))))))))))))) (
           .ite (decide (IntKind.wrap IntKind.i64 (a0 - (1 : Int)) = (↑((0 : Nat) + (1 : Nat) + (1 : Nat) + (1 : Nat) + (1 : Nat) + (1 : Nat) + (1 : Nat) + (1 : Nat)) : Int))) (
            .ite (decide (a3 ≤ a10)) (
             .ret (Sum.inr (Sum.inl (false, ())))) (
             .ret (Sum.inl (IntKind.wrap IntKind.i64 (a0 + (1 : Int)), (a1, (a2, (a3, (a4, (a5, (a6, (a7, (a8, (a9, (a10, ())))))))))))))) (
            .fail 40))))))))) (
    .ite (decide (a0 = (↑((0 : Nat) + (1 : Nat)) : Int))) (
     .ite (decide (IntKind.wrap IntKind.i64 (a0 - (1 : Int)) = (↑(0 : Nat) : Int))) (
      .ite (decide (a4 ≤ a3)) (
       .ret (Sum.inr (Sum.inl (false, ())))) (
       .ret (Sum.inl (IntKind.wrap IntKind.i64 (a0 + (1 : Int)), (a1, (a2, (a3, (a4, (a5, (a6, (a7, (a8, (a9, (a10, ())))))))))))))) (
      .ite (decide (IntKind.wrap IntKind.i64 (a0 - (1 : Int)) = (↑((0 : Nat) + (1 : Nat)) : Int))) (
       .ite (decide (a4 ≤ a4)) (
        .ret (Sum.inr (Sum.inl (false, ())))) (
        .ret (Sum.inl (IntKind.wrap IntKind.i64 (a0 + (1 : Int)), (a1, (a2, (a3, (a4, (a5, (a6, (a7, (a8, (a9, (a10, ())))))))))))))) (
       .ite (decide (IntKind.wrap IntKind.i64 (a0 - (1 : Int)) = (↑((0 : Nat) + (1 : Nat) + (1 : Nat)) : Int))) (
        .ite (decide (a4 ≤ a5)) (
         .ret (Sum.inr (Sum.inl (false, ())))) (
         .ret (Sum.inl (IntKind.wrap IntKind.i64 (a0 + (1 : Int)), (a1, (a2, (a3, (a4, (a5, (a6, (a7, (a8, (a9, (a10, ())))))))))))))) (
        .ite (decide (IntKind.wrap IntKind.i64 (a0 - (1 : Int)) = (↑((0 : Nat) + (1 : Nat) + (1 : Nat) + (1 : Nat)) : Int))) (
         .ite (decide (a4 ≤ a6)) (
          .ret (Sum.inr (Sum.inl (false, ())))) (
          .ret (Sum.inl (IntKind.wrap IntKind.i64 (a0 + (1 : Int)), (a1, (a2, (a3, (a4, (a5, (a6, (a7, (a8, (a9, (a10, ())))))))))))))) (
         .ite (decide (IntKind.wrap IntKind.i64 (a0 - (1 : Int)) = (↑((0 : Nat) + (1 : Nat) + (1 : Nat) + (1 : Nat) + (1 : Nat)) : Int))) (
          .ite (decide (a4 ≤ a7)) (
           .ret (Sum.inr (Sum.inl (false, ())))) (
           .ret (Sum.inl (IntKind.wrap IntKind.i64 (a0 + (1 : Int)), (a1, (a2, (a3, (a4, (a5, (a6, (a7, (a8, (a9, (a10, ())))))))))))))) (
          .ite (decide (IntKind.wrap IntKind.i64 (a0 - (1 : Int)) = (↑((0 : Nat) + (1 : Nat) + (1 : Nat) + (1 : Nat) + (1 : Nat) + (1 : Nat)) : Int))) (
           .ite (decide (a4 ≤ a8)) (
            .ret (Sum.inr (Sum.inl (false, ())))) (
            .ret (Sum.inl (IntKind.wrap IntKind.i64 (a0 + (1 : Int)), (a1, (a2, (a3, (a4, (a5, (a6, (a7, (a8, (a9, (a10, ())))))))))))))) (
           .ite (decide (IntKind.wrap IntKind.i64 (a0 - (1 : Int)) = (↑((0 : Nat) + (1 : Nat) + (1 : Nat) + (1 : Nat) + (1 : Nat) + (1 : Nat) + (1 : Nat)) : Int))) (
            .ite (decide (a4 ≤ a9)) (
             .ret (Sum.inr (Sum.inl (false, ())))) (
             .ret (Sum.inl (IntKind.wrap IntKind.i64 (a0 + (1 : Int)), (a1, (a2, (a3, (a4, (a5, (a6, (a7, (a8, (a9, (a10, ())))))))))))))) (
            .ite (decide (IntKind.wrap IntKind.i64 (a0 - (1 : Int)) = (↑((0 : Nat) + (1 : Nat) + (1 : Nat) + (1 : Nat) + (1 : Nat) + (1 : Nat) + (1 : Nat) + (1 : Nat)) : Int))) (
             .ite (decide (a4 ≤ a10)) (
              .ret (Sum.inr (Sum.inl (false, ())))) (
              .ret (Sum.inl (IntKind.wrap IntKind.i64 (a0 + (1 : Int)), (a1, (a2, (a3, (a4, (a5, (a6, (a7, (a8, (a9, (a10, ())))))))))))))) (
             .fail 40))))))))) (
     .ite (decide (a0 = (↑((0 : Nat) + (1 : Nat) + (1 : Nat)) : Int))) (
      .ite (decide (IntKind.wrap IntKind.i64 (a0 - (1 : Int)) = (↑(0 : Nat) : Int))) (
       .ite (decide (a5 ≤ a3)) (
        .ret (Sum.inr (Sum.inl (false, ())))) (
        .ret (Sum.inl (IntKind.wrap IntKind.i64 (a0 + (1 : Int)), (a1, (a2, (a3, (a4, (a5, (a6, (a7, (a8, (a9, (a10, ())))))))))))))) (
       .ite (decide (IntKind.wrap IntKind.i64 (a0 - (1 : Int)) = (↑((0 : Nat) + (1 : Nat)) : Int))) (
        .ite (decide (a5 ≤ a4)) (
         .ret (Sum.inr (Sum.inl (false, ())))) (
         .ret (Sum.inl (IntKind.wrap IntKind.i64 (a0 + (1 : Int)), (a1, (a2, (a3, (a4, (a5, (a6, (a7, (a8, (a9, (a10, ())))))))))))))) (
        .ite (decide (IntKind.wrap IntKind.i64 (a0 - (1 : Int)) = (↑((0 : Nat) + (1 : Nat) + (1 : Nat)) : Int))) (
         .ite (decide (a5 ≤ a5)) (
          .ret (Sum.inr (Sum.inl (false, ())))) (
          .ret (Sum.inl (IntKind.wrap IntKind.i64 (a0 + (1 : Int)), (a1, (a2, (a3, (a4, (a5, (a6, (a7, (a8, (a9, (a10, ())))))))))))))) (
         .ite (decide (IntKind.wrap IntKind.i64 (a0 - (1 : Int)) = (↑((0 : Nat) + (1 : Nat) + (1 : Nat) + (1 : Nat)) : Int))) (
          .ite (decide (a5 ≤ a6)) (
           .ret (Sum.inr (Sum.inl (false, ())))) (
           .ret (Sum.inl (IntKind.wrap IntKind.i64 (a0 + (1 : Int)), (a1, (a2, (a3, (a4, (a5, (a6, (a7, (a8, (a9, (a10, ())))))))))))))) (
          .ite (decide (IntKind.wrap IntKind.i64 (a0 - (1 : Int)) = (↑((0 : Nat) + (1 : Nat) + (1 : Nat) + (1 : Nat) + (1 : Nat)) : Int))) (
           .ite (decide (a5 ≤ a7)) (
            .ret (Sum.inr (Sum.inl (false, ())))) (
            .ret (Sum.inl (IntKind.wrap IntKind.i64 (a0 + (1 : Int)), (a1, (a2, (a3, (a4, (a5, (a6, (a7, (a8, (a9, (a10, ())))))))))))))) (
           .ite (decide (IntKind.wrap IntKind.i64 (a0 - (1 : Int)) = (↑((0 : Nat) + (1 : Nat) + (1 : Nat) + (1 : Nat) + (1 : Nat) + (1 : Nat)) : Int))) (
            .ite (decide (a5 ≤ a8)) (
             .ret (Sum.inr (Sum.inl (false, ())))) (
             .ret (Sum.inl (IntKind.wrap IntKind.i64 (a0 + (1 : Int)), (a1, (a2, (a3, (a4, (a5, (a6, (a7, (a8, (a9, (a10, ())))))))))))))) (
            .ite (decide (IntKind.wrap IntKind.i64 (a0 - (1 : Int)) = (↑((0 : Nat) + (1 : Nat) + (1 : Nat) + (1 : Nat) + (1 : Nat) + (1 : Nat) + (1 : Nat)) : Int))) (
             .ite (decide (a5 ≤ a9)) (
              .ret (Sum.inr (Sum.inl (false, ())))) (
              .ret (Sum.inl (IntKind.wrap IntKind.i64 (a0 + (1 : Int)), (a1, (a2, (a3, (a4, (a5, (a6, (a7, (a8, (a9, (a10, ())))))))))))))) (
             .ite (decide (IntKind.wrap IntKind.i64 (a0 - (1 : Int)) = (↑((0 : Nat) + (1 : Nat) + (1 : Nat) + (1 : Nat) + (1 : Nat) + (1 : Nat) + (1 : Nat) + (1 : Nat)) : Int))) (
              .ite (decide (a5 ≤ a10)) (
               .ret (Sum.inr (Sum.inl (false, ())))) (
               .ret (Sum.inl (IntKind.wrap IntKind.i64 (a0 + (1 : Int)), (a1, (a2, (a3, (a4, (a5, (a6, (a7, (a8, (a9, (a10, ())))))))))))))) (
              .fail 40))))))))) (
      .ite (decide (a0 = (↑((0 : Nat) + (1 : Nat) + (1 : Nat) + (1 : Nat)) : Int))) (
       .ite (decide (IntKind.wrap IntKind.i64 (a0 - (1 : Int)) = (↑(0 : Nat) : Int))) (
        .ite (decide (a6 ≤ a3)) (
         .ret (Sum.inr (Sum.inl (false, ())))) (
         .ret (Sum.inl (IntKind.wrap IntKind.i64 (a0 + (1 : Int)), (a1, (a2, (a3, (a4, (a5, (a6, (a7, (a8, (a9, (a10, ())))))))))))))) (
        .ite (decide (IntKind.wrap IntKind.i64 (a0 - (1 : Int)) = (↑((0 : Nat) + (1 : Nat)) : Int))) (
         .ite (decide (a6 ≤ a4)) (
          .ret (Sum.inr (Sum.inl (false, ())))) (
          .ret (Sum.inl (IntKind.wrap IntKind.i64 (a0 + (1 : Int)), (a1, (a2, (a3, (a4, (a5, (a6, (a7, (a8, (a9, (a10, ())))))))))))))) (
         .ite (decide (IntKind.wrap IntKind.i64 (a0 - (1 : Int)) = (↑((0 : Nat) + (1 : Nat) + (1 : Nat)) : Int))) (
          .ite (decide (a6 ≤ a5)) (
           .ret (Sum.inr (Sum.inl (false, ())))) (
           .ret (Sum.inl (IntKind.wrap IntKind.i64 (a0 + (1 : Int)), (a1, (a2, (a3, (a4, (a5, (a6, (a7, (a8, (a9, (a10, ())))))))))))))) (
          .ite (decide (IntKind.wrap IntKind.i64 (a0 - (1 : Int)) = (↑((0 : Nat) + (1 : Nat) + (1 : Nat) + (1 : Nat)) : Int))) (
           .ite (decide (a6 ≤ a6)) (
            .ret (Sum.inr (Sum.inl (false, ())))) (
            .ret (Sum.inl (IntKind.wrap IntKind.i64 (a0 + (1 : Int)), (a1, (a2, (a3, (a4, (a5, (a6, (a7, (a8, (a9, (a10, ())))))))))))))) (
           .ite (decide (IntKind.wrap IntKind.i64 (a0 - (1 : Int)) = (↑((0 : Nat) + (1 : Nat) + (1 : Nat) + (1 : Nat) + (1 : Nat)) : Int))) (
            .ite (decide (a6 ≤ a7)) (
             .ret (Sum.inr (Sum.inl (false, ())))) (
             .ret (Sum.inl (IntKind.wrap IntKind.i64 (a0 + (1 : Int)), (a1, (a2, (a3, (a4, (a5, (a6, (a7, (a8, (a9, (a10, ())))))))))))))) (
            .ite (decide (IntKind.wrap IntKind.i64 (a0 - (1 : Int)) = (↑((0 : Nat) + (1 : Nat) + (1 : Nat) + (1 : Nat) + (1 : Nat) + (1 : Nat)) : Int))) (
             .ite (decide (a6 ≤ a8)) (
              .ret (Sum.inr (Sum.inl (false, ())))) (
              .ret (Sum.inl (IntKind.wrap IntKind.i64 (a0 + (1 : Int)), (a1, (a2, (a3, (a4, (a5, (a6, (a7, (a8, (a9, (a10, ())))))))))))))) (
             .ite (decide (IntKind.wrap IntKind.i64 (a0 - (1 : Int)) = (↑((0 : Nat) + (1 : Nat) + (1 : Nat) + (1 : Nat) + (1 : Nat) + (1 : Nat) + (1 : Nat)) : Int))) (
              .ite (decide (a6 ≤ a9)) (
               .ret (Sum.inr (Sum.inl (false, ())))) (
               .ret (Sum.inl (IntKind.wrap IntKind.i64 (a0 + (1 : Int)), (a1, (a2, (a3, (a4, (a5, (a6, (a7, (a8, (a9, (a10, ())))))))))))))) (
              .ite (decide (IntKind.wrap IntKind.i64 (a0 - (1 : Int)) = (↑((0 : Nat) + (1 : Nat) + (1 : Nat) + (1 : Nat) + (1 : Nat) + (1 : Nat) + (1 : Nat) + (1 : Nat)) : Int))) (
               .ite (decide (a6 ≤ a10)) (
                .ret (Sum.inr (Sum.inl (false, ())))) (
                .ret (Sum.inl (IntKind.wrap IntKind.i64 (a0 + (1 : Int)), (a1, (a2, (a3, (a4, (a5, (a6, (a7, (a8, (a9, (a10, ())))))))))))))) (
               .fail 40))))))))) (
       .ite (decide (a0 = (↑((0 : Nat) + (1 : Nat) + (1 : Nat) + (1 : Nat) + (1 : Nat)) : Int))) (
        .ite (decide (IntKind.wrap IntKind.i64 (a0 - (1 : Int)) = (↑(0 : Nat) : Int))) (
         .ite (decide (a7 ≤ a3)) (
          .ret (Sum.inr (Sum.inl (false, ())))) (
          .ret (Sum.inl (IntKind.wrap IntKind.i64 (a0 + (1 : Int)), (a1, (a2, (a3, (a4, (a5, (a6, (a7, (a8, (a9, (a10, ())))))))))))))) (
         .ite (decide (IntKind.wrap IntKind.i64 (a0 - (1 : Int)) = (↑((0 : Nat) + (1 : Nat)) : Int))) (
          .ite (decide (a7 ≤ a4)) (
           .ret (Sum.inr (Sum.inl (false, ())))) (
           .ret (Sum.inl (IntKind.wrap IntKind.i64 (a0 + (1 : Int)), (a1, (a2, (a3, (a4, (a5, (a6, (a7, (a8, (a9, (a10, ())))))))))))))) (
          .ite (decide (IntKind.wrap IntKind.i64 (a0 - (1 : Int)) = (↑((0 : Nat) + (1 : Nat) + (1 : Nat)) : Int))) (
           .ite (decide (a7 ≤ a5)) (
            .ret (Sum.inr (Sum.inl (false, ())))) (
            .ret (Sum.inl (IntKind.wrap IntKind.i64 (a0 + (1 : Int)), (a1, (a2, (a3, (a4, (a5, (a6, (a7, (a8, (a9, (a10, ())))))))))))))) (
           .ite (decide (IntKind.wrap IntKind.i64 (a0 - (1 : Int)) = (↑((0 : Nat) + (1 : Nat) + (1 : Nat) + (1 : Nat)) : Int))) (
            .ite (decide (a7 ≤ a6)) (
             .ret (Sum.inr (Sum.inl (false, ())))) (
             .ret (Sum.inl (IntKind.wrap IntKind.i64 (a0 + (1 : Int)), (a1, (a2, (a3, (a4, (a5, (a6, (a7, (a8, (a9, (a10, ())))))))))))))) (
            .ite (decide (IntKind.wrap IntKind.i64 (a0 - (1 : Int)) = (↑((0 : Nat) + (1 : Nat) + (1 : Nat) + (1 : Nat) + (1 : Nat)) : Int))) (
             .ite (decide (a7 ≤ a7)) (
              .ret (Sum.inr (Sum.inl (false, ())))) (
              .ret (Sum.inl (IntKind.wrap IntKind.i64 (a0 + (1 : Int)), (a1, (a2, (a3, (a4, (a5, (a6, (a7, (a8, (a9, (a10, ())))))))))))))) (
             .ite (decide (IntKind.wrap IntKind.i64 (a0 - (1 : Int)) = (↑((0 : Nat) + (1 : Nat) + (1 : Nat) + (1 : Nat) + (1 : Nat) + (1 : Nat)) : Int))) (
              .ite (decide (a7 ≤ a8)) (
               .ret (Sum.inr (Sum.inl (false, ())))) (
               .ret (Sum.inl (IntKind.wrap IntKind.i64 (a0 + (1 : Int)), (a1, (a2, (a3, (a4, (a5, (a6, (a7, (a8, (a9, (a10, ())))))))))))))) (
              .ite (decide (IntKind.wrap IntKind.i64 (a0 - (1 : Int)) = (↑((0 : Nat) + (1 : Nat) + (1 : Nat) + (1 : Nat) + (1 : Nat) + (1 : Nat) + (1 : Nat)) : Int))) (
               .ite (decide (a7 ≤ a9)) (
                .ret (Sum.inr (Sum.inl (false, ())))) (
                .ret (Sum.inl (IntKind.wrap IntKind.i64 (a0 + (1 : Int)), (a1, (a2, (a3, (a4, (a5, (a6, (a7, (a8, (a9, (a10, ())))))))))))))) (
               .ite (decide (IntKind.wrap IntKind.i64 (a0 - (1 : Int)) = (↑((0 : Nat) + (1 : Nat) + (1 : Nat) + (1 : Nat) + (1 : Nat) + (1 : Nat) + (1 : Nat) + (1 : Nat)) : Int))) (
                .ite (decide (a7 ≤ a10)) (
                 .ret (Sum.inr (Sum.inl (false, ())))) (
                 .ret (Sum.inl (IntKind.wrap IntKind.i64 (a0 + (1 : Int)), (a1, (a2, (a3, (a4, (a5, (a6, (a7, (a8, (a9, (a10, ())))))))))))))) (
                .fail 40))))))))) (
        .ite (decide (a0 = (↑((0 : Nat) + (1 : Nat) + (1 : Nat) + (1 : Nat) + (1 : Nat) + (1 : Nat)) : Int))) (
         .ite (decide (IntKind.wrap IntKind.i64 (a0 - (1 : Int)) = (↑(0 : Nat) : Int))) (
          .ite (decide (a8 ≤ a3)) (
           .ret (Sum.inr (Sum.inl (false, ())))) (
           .ret (Sum.inl (IntKind.wrap IntKind.i64 (a0 + (1 : Int)), (a1, (a2, (a3, (a4, (a5, (a6, (a7, (a8, (a9, (a10, ())))))))))))))) (
          .ite (decide (IntKind.wrap IntKind.i64 (a0 - (1 : Int)) = (↑((0 : Nat) + (1 : Nat)) : Int))) (
           .ite (decide (a8 ≤ a4)) (
            .ret (Sum.inr (Sum.inl (false, ())))) (
            .ret (Sum.inl (IntKind.wrap IntKind.i64 (a0 + (1 : Int)), (a1, (a2, (a3, (a4, (a5, (a6, (a7, (a8, (a9, (a10, ())))))))))))))) (
           .ite (decide (IntKind.wrap IntKind.i64 (a0 - (1 : Int)) = (↑((0 : Nat) + (1 : Nat) + (1 : Nat)) : Int))) (
            .ite (decide (a8 ≤ a5)) (
             .ret (Sum.inr (Sum.inl (false, ())))) (
             .ret (Sum.inl (IntKind.wrap IntKind.i64 (a0 + (1 : Int)), (a1, (a2, (a3, (a4, (a5, (a6, (a7, (a8, (a9, (a10, ())))))))))))))) (
            .ite (decide (IntKind.wrap IntKind.i64 (a0 - (1 : Int)) = (↑((0 : Nat) + (1 : Nat) + (1 : Nat) + (1 : Nat)) : Int))) (
             .ite (decide (a8 ≤ a6)) (
              .ret (Sum.inr (Sum.inl (false, ())))) (
              .ret (Sum.inl (IntKind.wrap IntKind.i64 (a0 + (1 : Int)), (a1, (a2, (a3, (a4, (a5, (a6, (a7, (a8, (a9, (a10, ())))))))))))))) (
             .ite (decide (IntKind.wrap IntKind.i64 (a0 - (1 : Int)) = (↑((0 : Nat) + (1 : Nat) + (1 : Nat) + (1 : Nat) + (1 : Nat)) : Int))) (
              .ite (decide (a8 ≤ a7)) (
               .ret (Sum.inr (Sum.inl (false, ())))) (
               .ret (Sum.inl (IntKind.wrap IntKind.i64 (a0 + (1 : Int)), (a1, (a2, (a3, (a4, (a5, (a6, (a7, (a8, (a9, (a10, ())))))))))))))) (
              .ite (decide (IntKind.wrap IntKind.i64 (a0 - (1 : Int)) = (↑((0 : Nat) + (1 : Nat) + (1 : Nat) + (1 : Nat) + (1 : Nat) + (1 : Nat)) : Int))) (
               .ite (decide (a8 ≤ a8)) (
                .ret (Sum.inr (Sum.inl (false, ())))) (
                .ret (Sum.inl (IntKind.wrap IntKind.i64 (a0 + (1 : Int)), (a1, (a2, (a3, (a4, (a5, (a6, (a7, (a8, (a9, (a10, ())))))))))))))) (
               .ite (decide (IntKind.wrap IntKind.i64 (a0 - (1 : Int)) = (↑((0 : Nat) + (1 : Nat) + (1 : Nat) + (1 : Nat) + (1 : Nat) + (1 : Nat) + (1 : Nat)) : Int))) (
                .ite (decide (a8 ≤ a9)) (
                 .ret (Sum.inr (Sum.inl (false, ())))) (
                 .ret (Sum.inl (IntKind.wrap IntKind.i64 (a0 + (1 : Int)), (a1, (a2, (a3, (a4, (a5, (a6, (a7, (a8, (a9, (a10, ())))))))))))))) (
                .ite (decide (IntKind.wrap IntKind.i64 (a0 - (1 : Int)) = (↑((0 : Nat) + (1 : Nat) + (1 : Nat) + (1 : Nat) + (1 : Nat) + (1 : Nat) + (1 : Nat) + (1 : Nat)) : Int))) (
                 .ite (decide (a8 ≤ a10)) (
                  .ret (Sum.inr (Sum.inl (false, ())))) (
                  .ret (Sum.inl (IntKind.wrap IntKind.i64 (a0 + (1 : Int)), (a1, (a2, (a3, (a4, (a5, (a6, (a7, (a8, (a9, (a10, ())))))))))))))) (
                 .fail 40))))))))) (
         .ite (decide (a0 = (↑((0 : Nat) + (1 : Nat) + (1 : Nat) + (1 : Nat) + (1 : Nat) + (1 : Nat) + (1 : Nat)) : Int))) (
          .ite (decide (IntKind.wrap IntKind.i64 (a0 - (1 : Int)) = (↑(0 : Nat) : Int))) (
           .ite (decide (a9 ≤ a3)) (
            .ret (Sum.inr (Sum.inl (false, ())))) (
            .ret (Sum.inl (IntKind.wrap IntKind.i64 (a0 + (1 : Int)), (a1, (a2, (a3, (a4, (a5, (a6, (a7, (a8, (a9, (a10, ())))))))))))))) (
           .ite (decide (IntKind.wrap IntKind.i64 (a0 - (1 : Int)) = (↑((0 : Nat) + (1 : Nat)) : Int))) (
            .ite (decide (a9 ≤ a4)) (
             .ret (Sum.inr (Sum.inl (false, ())))) (
             .ret (Sum.inl (IntKind.wrap IntKind.i64 (a0 + (1 : Int)), (a1, (a2, (a3, (a4, (a5, (a6, (a7, (a8, (a9, (a10, ())))))))))))))) (
            .ite (decide (IntKind.wrap IntKind.i64 (a0 - (1 : Int)) = (↑((0 : Nat) + (1 : Nat) + (1 : Nat)) : Int))) (
             .ite (decide (a9 ≤ a5)) (
              .ret (Sum.inr (Sum.inl (false, ())))) (
              .ret (Sum.inl (IntKind.wrap IntKind.i64 (a0 + (1 : Int)), (a1, (a2, (a3, (a4, (a5, (a6, (a7, (a8, (a9, (a10, ())))))))))))))) (
             .ite (decide (IntKind.wrap IntKind.i64 (a0 - (1 : Int)) = (↑((0 : Nat) + (1 : Nat) + (1 : Nat) + (1 : Nat)) : Int))) (
              .ite (decide (a9 ≤ a6)) (
               .ret (Sum.inr (Sum.inl (false, ())))) (
               .ret (Sum.inl (IntKind.wrap IntKind.i64 (a0 + (1 : Int)), (a1, (a2, (a3, (a4, (a5, (a6, (a7, (a8, (a9, (a10, ())))))))))))))) (
              .ite (decide (IntKind.wrap IntKind.i64 (a0 - (1 : Int)) = (↑((0 : Nat) + (1 : Nat) + (1 : Nat) + (1 : Nat) + (1 : Nat)) : Int))) (
               .ite (decide (a9 ≤ a7)) (
                .ret (Sum.inr (Sum.inl (false, ())))) (
                .ret (Sum.inl (IntKind.wrap IntKind.i64 (a0 + (1 : Int)), (a1, (a2, (a3, (a4, (a5, (a6, (a7, (a8, (a9, (a10, ())))))))))))))) (
               .ite (decide (IntKind.wrap IntKind.i64 (a0 - (1 : Int)) = (↑((0 : Nat) + (1 : Nat) + (1 : Nat) + (1 : Nat) + (1 : Nat) + (1 : Nat)) : Int))) (
                .ite (decide (a9 ≤ a8)) (
                 .ret (Sum.inr (Sum.inl (false, ())))) (
                 .ret (Sum.inl (IntKind.wrap IntKind.i64 (a0 + (1 : Int)), (a1, (a2, (a3, (a4, (a5, (a6, (a7, (a8, (a9, (a10, ())))))))))))))) (
                .ite (decide (IntKind.wrap IntKind.i64 (a0 - (1 : Int)) = (↑((0 : Nat) + (1 : Nat) + (1 : Nat) + (1 : Nat) + (1 : Nat) + (1 : Nat) + (1 : Nat)) : Int))) (
                 .ite (decide (a9 ≤ a9)) (
                  .ret (Sum.inr (Sum.inl (false, ())))) (
                  .ret (Sum.inl (IntKind.wrap IntKind.i64 (a0 + (1 : Int)), (a1, (a2, (a3, (a4, (a5, (a6, (a7, (a8, (a9, (a10, ())))))))))))))) (
                 .ite (decide (IntKind.wrap IntKind.i64 (a0 - (1 : Int)) = (↑((0 : Nat) + (1 : Nat) + (1 : Nat) + (1 : Nat) + (1 : Nat) + (1 : Nat) + (1 : Nat) + (1 : Nat)) : Int))) (
                  .ite (decide (a9 ≤ a10)) (
                   .ret (Sum.inr (Sum.inl (false, ())))) (
                   .ret (Sum.inl (IntKind.wrap IntKind.i64 (a0 + (1 : Int)), (a1, (a2, (a3, (a4, (a5, (a6, (a7, (a8, (a9, (a10, ())))))))))))))) (
                  .fail 40))))))))) (
          .ite (decide (a0 = (↑((0 : Nat) + (1 : Nat) + (1 : Nat) + (1 : Nat) + (1 : Nat) + (1 : Nat) + (1 : Nat) + (1 : Nat)) : Int))) (
           .ite (decide (IntKind.wrap IntKind.i64 (a0 - (1 : Int)) = (↑(0 : Nat) : Int))) (
            .ite (decide (a10 ≤ a3)) (
             .ret (Sum.inr (Sum.inl (false, ())))) (
             .ret (Sum.inl (IntKind.wrap IntKind.i64 (a0 + (1 : Int)), (a1, (a2, (a3, (a4, (a5, (a6, (a7, (a8, (a9, (a10, ())))))))))))))) (
            .ite (decide (IntKind.wrap IntKind.i64 (a0 - (1 : Int)) = (↑((0 : Nat) + (1 : Nat)) : Int))) (
             .ite (decide (a10 ≤ a4)) (
              .ret (Sum.inr (Sum.inl (false, ())))) (
              .ret (Sum.inl (IntKind.wrap IntKind.i64 (a0 + (1 : Int)), (a1, (a2, (a3, (a4, (a5, (a6, (a7, (a8, (a9, (a10, ())))))))))))))) (
             .ite (decide (IntKind.wrap IntKind.i64 (a0 - (1 : Int)) = (↑((0 : Nat) + (1 : Nat) + (1 : Nat)) : Int))) (
              .ite (decide (a10 ≤ a5)) (
               .ret (Sum.inr (Sum.inl (false, ())))) (
               .ret (Sum.inl (IntKind.wrap IntKind.i64 (a0 + (1 : Int)), (a1, (a2, (a3, (a4, (a5, (a6, (a7, (a8, (a9, (a10, ())))))))))))))) (
              .ite (decide (IntKind.wrap IntKind.i64 (a0 - (1 : Int)) = (↑((0 : Nat) + (1 : Nat) + (1 : Nat) + (1 : Nat)) : Int))) (
               .ite (decide (a10 ≤ a6)) (
                .ret (Sum.inr (Sum.inl (false, ())))) (
                .ret (Sum.inl (IntKind.wrap IntKind.i64 (a0 + (1 : Int)), (a1, (a2, (a3, (a4, (a5, (a6, (a7, (a8, (a9, (a10, ())))))))))))))) (
               .ite (decide (IntKind.wrap IntKind.i64 (a0 - (1 : Int)) = (↑((0 : Nat) + (1 : Nat) + (1 : Nat) + (1 : Nat) + (1 : Nat)) : Int))) (
                .ite (decide (a10 ≤ a7)) (
                 .ret (Sum.inr (Sum.inl (false, ())))) (
                 .ret (Sum.inl (IntKind.wrap IntKind.i64 (a0 + (1 : Int)), (a1, (a2, (a3, (a4, (a5, (a6, (a7, (a8, (a9, (a10, ())))))))))))))) (
                .ite (decide (IntKind.wrap IntKind.i64 (a0 - (1 : Int)) = (↑((0 : Nat) + (1 : Nat) + (1 : Nat) + (1 : Nat) + (1 : Nat) + (1 : Nat)) : Int))) (
                 .ite (decide (a10 ≤ a8)) (
                  .ret (Sum.inr (Sum.inl (false, ())))) (
                  .ret (Sum.inl (IntKind.wrap IntKind.i64 (a0 + (1 : Int)), (a1, (a2, (a3, (a4, (a5, (a6, (a7, (a8, (a9, (a10, ())))))))))))))) (
                 .ite (decide (IntKind.wrap IntKind.i64 (a0 - (1 : Int)) = (↑((0 : Nat) + (1 : Nat) + (1 : Nat) + (1 : Nat) + (1 : Nat) + (1 : Nat) + (1 : Nat)) : Int))) (
                  .ite (decide (a10 ≤ a9)) (
                   .ret (Sum.inr (Sum.inl (false, ())))) (
                   .ret (Sum.inl (IntKind.wrap IntKind.i64 (a0 + (1 : Int)), (a1, (a2, (a3, (a4, (a5, (a6, (a7, (a8, (a9, (a10, ())))))))))))))) (
                  .ite (decide (IntKind.wrap IntKind.i64 (a0 - (1 : Int)) = (↑((0 : Nat) + (1 : Nat) + (1 : Nat) + (1 : Nat) + (1 : Nat) + (1 : Nat) + (1 : Nat) + (1 : Nat)) : Int))) (
                   .ite (decide (a10 ≤ a10)) (
                    .ret (Sum.inr (Sum.inl (false, ())))) (
                    .ret (Sum.inl (IntKind.wrap IntKind.i64 (a0 + (1 : Int)), (a1, (a2, (a3, (a4, (a5, (a6, (a7, (a8, (a9, (a10, ())))))))))))))) (
                   .fail 40))))))))) (
           .fail 40))))))))) (
   .ret (Sum.inr (Sum.inr (a1, (a2, (a3, (a4, (a5, (a6, (a7, (a8, (a9, (a10, ())))))))))))))
def cookieIndex_loop10_5 (x : (Int × (Int × (Int × (Int × (Int × (Int × (Int × (Int × (Int × (Int × (Int × Unit)))))))))))) : Option ((Bool × Unit) ⊕ (Int × (Int × (Int × (Int × (Int × (Int × (Int × (Int × (Int × (Int × Unit))))))))))) := loopO 100005 (fun x => (cookieIndex_step10_5 x).eval) 18446744073709551616 x
def cookieIndex_ap : List VP1 := [.one (.i .i64)]
def cookieIndex_rp : SP := ⟨1, [(0, .v (.one (.b)))], []⟩
def cookieIndex_tree : (Int × Unit) → Tr (Bool × Unit) :=
  fun (a0, _) =>
  .opt (β := (Int × (Int × (Int × (Int × (Int × (Int × (Int × (Int × Unit))))))))) ((coSizes_fn ())) (fun r0 =>
  .opt (β := (Int × Unit)) ((coIndex_fn (a0, ()))) (fun r1 =>
  .opt (β := (Bool × Unit)) ((cookieLives_fn ())) (fun r2 =>
  .ite (!r2.1) (
   .ret (false, ())) (
   .ite (decide (r1.1 < (0 : Int))) (
    .ret (false, ())) (
    .ite (decide ((7 : Int) < r1.1)) (
     .ret (false, ())) (
     .opt (β := ((Bool × Unit) ⊕ (Int × (Int × (Int × (Int × (Int × (Int × (Int × (Int × (Int × (Int × Unit)))))))))))) ((cookieIndex_loop10_5 ((1 : Int), (a0, (r1.1, (r0.1, (r0.2.1, (r0.2.2.1, (r0.2.2.2.1, (r0.2.2.2.2.1, (r0.2.2.2.2.2.1, (r0.2.2.2.2.2.2.1, (r0.2.2.2.2.2.2.2.1, ()))))))))))))) (fun r3 =>
     .sum (β := (Bool × Unit)) (γ := (Int × (Int × (Int × (Int × (Int × (Int × (Int × (Int × (Int × (Int × Unit))))))))))) (r3) (fun r4 =>
      .ret (r4.1, ())) (fun r4 =>
      .ite (decide (r4.2.1 = (↑(0 : Nat) : Int))) (
       .ite (decide (r4.2.2.1 ≤ r4.1)) (
        .ite (decide (r4.2.1 = (7 : Int))) (
         .ret (true, ())) (
         .ite (decide (IntKind.wrap IntKind.i64 (r4.2.1 + (1 : Int)) = (↑(0 : Nat) : Int))) (
          .ret (decide (r4.1 < r4.2.2.1), ())) (
          .ite (decide (IntKind.wrap IntKind.i64 (r4.2.1 + (1 : Int)) = (↑((0 : Nat) + (1 : Nat)) : Int))) (
           .ret (decide (r4.1 < r4.2.2.2.1), ())) (
           .ite (decide (IntKind.wrap IntKind.i64 (r4.2.1 + (1 : Int)) = (↑((0 : Nat) + (1 : Nat) + (1 : Nat)) : Int))) (
            .ret (decide (r4.1 < r4.2.2.2.2.1), ())) (
            .ite (decide (IntKind.wrap IntKind.i64 (r4.2.1 + (1 : Int)) = (↑((0 : Nat) + (1 : Nat) + (1 : Nat) + (1 : Nat)) : Int))) (
             .ret (decide (r4.1 < r4.2.2.2.2.2.1), ())) (
             .ite (decide (IntKind.wrap IntKind.i64 (r4.2.1 + (1 : Int)) = (↑((0 : Nat) + (1 : Nat) + (1 : Nat) + (1 : Nat) + (1 : Nat)) : Int))) (
              .ret (decide (r4.1 < r4.2.2.2.2.2.2.1), ())) (
              .ite (decide (IntKind.wrap IntKind.i64 (r4.2.1 + (1 : Int)) = (↑((0 : Nat) + (1 : Nat) + (1 : Nat) + (1 : Nat) + (1 : Nat) + (1 : Nat)) : Int))) (
               .ret (decide (r4.1 < r4.2.2.2.2.2.2.2.1), ())) (
               .ite (decide (IntKind.wrap IntKind.i64 (r4.2.1 + (1 : Int)) = (↑((0 : Nat) + (1 : Nat) + (1 : Nat) + (1 : Nat) + (1 : Nat) + (1 : Nat) + (1 : Nat)) : Int))) (
                .ret (decide (r4.1 < r4.2.2.2.2.2.2.2.2.1), ())) (
                .ite (decide (IntKind.wrap IntKind.i64 (r4.2.1 + (1 : Int)) = (↑((0 : Nat) + (1 : Nat) + (1 : Nat) + (1 : Nat) + (1 : Nat) + (1 : Nat) + (1 : Nat) + (1 : Nat)) : Int))) (
                 .ret (decide (r4.1 < r4.2.2.2.2.2.2.2.2.2.1), ())) (
                 .fail 40)))))))))) (
        .ite (decide (r4.2.1 = (0 : Int))) (
         .ite (decide (r4.2.1 = (7 : Int))) (
          .ret (true, ())) (
          .ite (decide (IntKind.wrap IntKind.i64 (r4.2.1 + (1 : Int)) = (↑(0 : Nat) : Int))) (
           .ret (decide (r4.1 < r4.2.2.1), ())) (
           .ite (decide (IntKind.wrap IntKind.i64 (r4.2.1 + (1 : Int)) = (↑((0 : Nat) + (1 : Nat)) : Int))) (
            .ret (decide (r4.1 < r4.2.2.2.1), ())) (
            .ite (decide (IntKind.wrap IntKind.i64 (r4.2.1 + (1 : Int)) = (↑((0 : Nat) + (1 : Nat) + (1 : Nat)) : Int))) (
             .ret (decide (r4.1 < r4.2.2.2.2.1), ())) (
             .ite (decide (IntKind.wrap IntKind.i64 (r4.2.1 + (1 : Int)) = (↑((0 : Nat) + (1 : Nat) + (1 : Nat) + (1 : Nat)) : Int))) (
              .ret (decide (r4.1 < r4.2.2.2.2.2.1), ())) (
              .ite (decide (IntKind.wrap IntKind.i64 (r4.2.1 + (1 : Int)) = (↑((0 : Nat) + (1 : Nat) + (1 : Nat) + (1 : Nat) + (1 : Nat)) : Int))) (
               .ret (decide (r4.1 < r4.2.2.2.2.2.2.1), ())) (
               .ite (decide (IntKind.wrap IntKind.i64 (r4.2.1 + (1 : Int)) = (↑((0 : Nat) + (1 : Nat) + (1 : Nat) + (1 : Nat) + (1 : Nat) + (1 : Nat)) : Int))) (
                .ret (decide (r4.1 < r4.2.2.2.2.2.2.2.1), ())) (
                .ite (decide (IntKind.wrap IntKind.i64 (r4.2.1 + (1 : Int)) = (↑((0 : Nat) + (1 : Nat) + (1 : Nat) + (1 : Nat) + (1 : Nat) + (1 : Nat) + (1 : Nat)) : Int))) (
                 .ret (decide (r4.1 < r4.2.2.2.2.2.2.2.2.1), ())) (
                 .ite (decide (IntKind.wrap IntKind.i64 (r4.2.1 + (1 : Int)) = (↑((0 : Nat) + (1 : Nat) + (1 : Nat) + (1 : Nat) + (1 : Nat) + (1 : Nat) + (1 : Nat) + (1 : Nat)) : Int))) (
                  .ret (decide (r4.1 < r4.2.2.2.2.2.2.2.2.2.1), ())) (
                  .fail 40)))))))))) (
         .ret (false, ())))) (
       .ite (decide (r4.2.1 = (↑((0 : Nat) + (1 : Nat)) : Int))) (
        .ite (decide (r4.2.2.2.1 ≤ r4.1)) (
         .ite (decide (r4.2.1 = (7 : Int))) (
          .ret (true, ())) (
          .ite (decide (IntKind.wrap IntKind.i64 (r4.2.1 + (1 : Int)) = (↑(0 : Nat) : Int))) (
           .ret (decide (r4.1 < r4.2.2.1), ())) (
           .ite (decide (IntKind.wrap IntKind.i64 (r4.2.1 + (1 : Int)) = (↑((0 : Nat) + (1 : Nat)) : Int))) (
            .ret (decide (r4.1 < r4.2.2.2.1), ())) (
            .ite (decide (IntKind.wrap IntKind.i64 (r4.2.1 + (1 : Int)) = (↑((0 : Nat) + (1 : Nat) + (1 : Nat)) : Int))) (
             .ret (decide (r4.1 < r4.2.2.2.2.1), ())) (
             .ite (decide (IntKind.wrap IntKind.i64 (r4.2.1 + (1 : Int)) = (↑((0 : Nat) + (1 : Nat) + (1 : Nat) + (1 : Nat)) : Int))) (
              .ret (decide (r4.1 < r4.2.2.2.2.2.1), ())) (
              .ite (decide (IntKind.wrap IntKind.i64 (r4.2.1 + (1 : Int)) = (↑((0 : Nat) + (1 : Nat) + (1 : Nat) + (1 : Nat) + (1 : Nat)) : Int))) (
               .ret (decide (r4.1 < r4.2.2.2.2.2.2.1), ())) (
               .ite (decide (IntKind.wrap IntKind.i64 (r4.2.1 + (1 : Int)) = (↑((0 : Nat) + (1 : Nat) + (1 : Nat) + (1 : Nat) + (1 : Nat) + (1 : Nat)) : Int))) (
                .ret (decide (r4.1 < r4.2.2.2.2.2.2.2.1), ())) (
                .ite (decide (IntKind.wrap IntKind.i64 (r4.2.1 + (1 : Int)) = (↑((0 : Nat) + (1 : Nat) + (1 : Nat) + (1 : Nat) + (1 : Nat) + (1 : Nat) + (1 : Nat)) : Int))) (
                 .ret (decide (r4.1 < r4.2.2.2.2.2.2.2.2.1), ())) (
                 .ite (decide (IntKind.wrap IntKind.i64 (r4.2.1 + (1 : Int)) = (↑((0 : Nat) + (1 : Nat) + (1 : Nat) + (1 : Nat) + (1 : Nat) + (1 : Nat) + (1 : Nat) + (1 : Nat)) : Int))) (
                  .ret (decide (r4.1 < r4.2.2.2.2.2.2.2.2.2.1), ())) (
                  .fail 40)))))))))) (
         .ite (decide (r4.2.1 = (0 : Int))) (
          .ite (decide (r4.2.1 = (7 : Int))) (
           .ret (true, ())) (
           .ite (decide (IntKind.wrap IntKind.i64 (r4.2.1 + (1 : Int)) = (↑(0 : Nat) : Int))) (
            .ret (decide (r4.1 < r4.2.2.1), ())) (
            .ite (decide (IntKind.wrap IntKind.i64 (r4.2.1 + (1 : Int)) = (↑((0 : Nat) + (1 : Nat)) : Int))) (
             .ret (decide (r4.1 < r4.2.2.2.1), ())) (
             .ite (decide (IntKind.wrap IntKind.i64 (r4.2.1 + (1 : Int)) = (↑((0 : Nat) + (1 : Nat) + (1 : Nat)) : Int))) (
              .ret (decide (r4.1 < r4.2.2.2.2.1), ())) (
              .ite (decide (IntKind.wrap IntKind.i64 (r4.2.1 + (1 : Int)) = (↑((0 : Nat) + (1 : Nat) + (1 : Nat) + (1 : Nat)) : Int))) (
               .ret (decide (r4.1 < r4.2.2.2.2.2.1), ())) (
               .ite (decide (IntKind.wrap IntKind.i64 (r4.2.1 + (1 : Int)) = (↑((0 : Nat) + (1 : Nat) + (1 : Nat) + (1 : Nat) + (1 : Nat)) : Int))) (
                .ret (decide (r4.1 < r4.2.2.2.2.2.2.1), ())) (
                .ite (decide (IntKind.wrap IntKind.i64 (r4.2.1 + (1 : Int)) = (↑((0 : Nat) + (1 : Nat) + (1 : Nat) + (1 : Nat) + (1 : Nat) + (1 : Nat)) : Int))) (
                 .ret (decide (r4.1 < r4.2.2.2.2.2.2.2.1), ())) (
                 .ite (decide (IntKind.wrap IntKind.i64 (r4.2.1 + (1 : Int)) = (↑((0 : Nat) + (1 : Nat) + (1 : Nat) + (1 : Nat) + (1 : Nat) + (1 : Nat) + (1 : Nat)) : Int))) (
                  .ret (decide (r4.1 < r4.2.2.2.2.2.2.2.2.1), ())) (
                  .ite (decide (IntKind.wrap IntKind.i64 (r4.2.1 + (1 : Int)) = (↑((0 : Nat) + (1 : Nat) + (1 : Nat) + (1 : Nat) + (1 : Nat) + (1 : Nat) + (1 : Nat) + (1 : Nat)) : Int))) (
                   .ret (decide (r4.1 < r4.2.2.2.2.2.2.2.2.2.1), ())) (
                   .fail 40)))))))))) (
          .ret (false, ())))) (
        .ite (decide (r4.2.1 = (↑((0 : Nat) + (1 : Nat) + (1 : Nat)) : Int))) (
         .ite (decide (r4.2.2.2.2.1 ≤ r4.1)) (
          .ite (decide (r4.2.1 = (7 : Int))) (
           .ret (true, ())) (
           .ite (decide (IntKind.wrap IntKind.i64 (r4.2.1 + (1 : Int)) = (↑(0 : Nat) : Int))) (
            .ret (decide (r4.1 < r4.2.2.1), ())) (
            .ite (decide (IntKind.wrap IntKind.i64 (r4.2.1 + (1 : Int)) = (↑((0 : Nat) + (1 : Nat)) : Int))) (
             .ret (decide (r4.1 < r4.2.2.2.1), ())) (
             .ite (decide (IntKind.wrap IntKind.i64 (r4.2.1 + (1 : Int)) = (↑((0 : Nat) + (1 : Nat) + (1 : Nat)) : Int))) (
              .ret (decide (r4.1 < r4.2.2.2.2.1), ())) (
              .ite (decide (IntKind.wrap IntKind.i64 (r4.2.1 + (1 : Int)) = (↑((0 : Nat) + (1 : Nat) + (1 : Nat) + (1 : Nat)) : Int))) (
               .ret (decide (r4.1 < r4.2.2.2.2.2.1), ())) (
               .ite (decide (IntKind.wrap IntKind.i64 (r4.2.1 + (1 : Int)) = (↑((0 : Nat) + (1 : Nat) + (1 : Nat) + (1 : Nat) + (1 : Nat)) : Int))) (
                .ret (decide (r4.1 < r4.2.2.2.2.2.2.1), ())) (
                .ite (decide (IntKind.wrap IntKind.i64 (r4.2.1 + (1 : Int)) = (↑((0 : Nat) + (1 : Nat) + (1 : Nat) + (1 : Nat) + (1 : Nat) + (1 : Nat)) : Int))) (
                 .ret (decide (r4.1 < r4.2.2.2.2.2.2.2.1), ())) (
                 .ite (decide (IntKind.wrap IntKind.i64 (r4.2.1 + (1 : Int)) = (↑((0 : Nat) + (1 : Nat) + (1 : Nat) + (1 : Nat) + (1 : Nat) + (1 : Nat) + (1 : Nat)) : Int))) (
                  .ret (decide (r4.1 < r4.2.2.2.2.2.2.2.2.1), ())) (
                  .ite (decide (IntKind.wrap IntKind.i64 (r4.2.1 + (1 : Int)) = (↑((0 : Nat) + (1 : Nat) + (1 : Nat) + (1 : Nat) + (1 : Nat) + (1 : Nat) + (1 : Nat) + (1 : Nat)) : Int))) (
                   .ret (decide (r4.1 < r4.2.2.2.2.2.2.2.2.2.1), ())) (
                   .fail 40)))))))))) (
          .ite (decide (r4.2.1 = (0 : Int))) (
           .ite (decide (r4.2.1 = (7 : Int))) (
            .ret (true, ())) (
            .ite (decide (IntKind.wrap IntKind.i64 (r4.2.1 + (1 : Int)) = (↑(0 : Nat) : Int))) (
             .ret (decide (r4.1 < r4.2.2.1), ())) (
             .ite (decide (IntKind.wrap IntKind.i64 (r4.2.1 + (1 : Int)) = (↑((0 : Nat) + (1 : Nat)) : Int))) (
              .ret (decide (r4.1 < r4.2.2.2.1), ())) (
              .ite (decide (IntKind.wrap IntKind.i64 (r4.2.1 + (1 : Int)) = (↑((0 : Nat) + (1 : Nat) + (1 : Nat)) : Int))) (
               .ret (decide (r4.1 < r4.2.2.2.2.1), ())) (
               .ite (decide (IntKind.wrap IntKind.i64 (r4.2.1 + (1 : Int)) = (↑((0 : Nat) + (1 : Nat) + (1 : Nat) + (1 : Nat)) : Int))) (
                .ret (decide (r4.1 < r4.2.2.2.2.2.1), ())) (
                .ite (decide (IntKind.wrap IntKind.i64 (r4.2.1 + (1 : Int)) = (↑((0 : Nat) + (1 : Nat) + (1 : Nat) + (1 : Nat) + (1 : Nat)) : Int))) (
                 .ret (decide (r4.1 < r4.2.2.2.2.2.2.1), ())) (
                 .ite (decide (IntKind.wrap IntKind.i64 (r4.2.1 + (1 : Int)) = (↑((0 : Nat) + (1 : Nat) + (1 : Nat) + (1 : Nat) + (1 : Nat) + (1 : Nat)) : Int))) (
                  .ret (decide (r4.1 < r4.2.2.2.2.2.2.2.1), ())) (
                  .ite (decide (IntKind.wrap IntKind.i64 (r4.2.1 + (1 : Int)) = (↑((0 : Nat) + (1 : Nat) + (1 : Nat) + (1 : Nat) + (1 : Nat) + (1 : Nat) + (1 : Nat)) : Int))) (
                   .ret (decide (r4.1 < r4.2.2.2.2.2.2.2.2.1), ())) (
                   .ite (decide (IntKind.wrap IntKind.i64 (r4.2.1 + (1 : Int)) = (↑((0 : Nat) + (1 : Nat) + (1 : Nat) + (1 : Nat) + (1 : Nat) + (1 : Nat) + (1 : Nat) + (1 : Nat)) : Int))) (
                    .ret (decide (r4.1 < r4.2.2.2.2.2.2.2.2.2.1), ())) (
                    .fail 40)))))))))) (
           .ret (false, ())))) (
         .ite (decide (r4.2.1 = (↑((0 : Nat) + (1 : Nat) + (1 : Nat) + (1 : Nat)) : Int))) (
          .ite (decide (r4.2.2.2.2.2.1 ≤ r4.1)) (
           .ite (decide (r4.2.1 = (7 : Int))) (
            .ret (true, ())) (
            .ite (decide (IntKind.wrap IntKind.i64 (r4.2.1 + (1 : Int)) = (↑(0 : Nat) : Int))) (
             .ret (decide (r4.1 < r4.2.2.1), ())) (
             .ite (decide (IntKind.wrap IntKind.i64 (r4.2.1 + (1 : Int)) = (↑((0 : Nat) + (1 : Nat)) : Int))) (
              .ret (decide (r4.1 < r4.2.2.2.1), ())) (
              .ite (decide (IntKind.wrap IntKind.i64 (r4.2.1 + (1 : Int)) = (↑((0 : Nat) + (1 : Nat) + (1 : Nat)) : Int))) (
               .ret (decide (r4.1 < r4.2.2.2.2.1), ())) (
               .ite (decide (IntKind.wrap IntKind.i64 (r4.2.1 + (1 : Int)) = (↑((0 : Nat) + (1 : Nat) + (1 : Nat) + (1 : Nat)) : Int))) (
                .ret (decide (r4.1 < r4.2.2.2.2.2.1), ())) (
                .ite (decide (IntKind.wrap IntKind.i64 (r4.2.1 + (1 : Int)) = (↑((0 : Nat) + (1 : Nat) + (1 : Nat) + (1 : Nat) + (1 : Nat)) : Int))) (
                 .ret (decide (r4.1 < r4.2.2.2.2.2.2.1), ())) (
                 .ite (decide (IntKind.wrap IntKind.i64 (r4.2.1 + (1 : Int)) = (↑((0 : Nat) + (1 : Nat) + (1 : Nat) + (1 : Nat) + (1 : Nat) + (1 : Nat)) : Int))) (
                  .ret (decide (r4.1 < r4.2.2.2.2.2.2.2.1), ())) (
                  .ite (decide (IntKind.wrap IntKind.i64 (r4.2.1 + (1 : Int)) = (↑((0 : Nat) + (1 : Nat) + (1 : Nat) + (1 : Nat) + (1 : Nat) + (1 : Nat) + (1 : Nat)) : Int))) (
                   .ret (decide (r4.1 < r4.2.2.2.2.2.2.2.2.1), ())) (
                   .ite (decide (IntKind.wrap IntKind.i64 (r4.2.1 + (1 : Int)) = (↑((0 : Nat) + (1 : Nat) + (1 : Nat) + (1 : Nat) + (1 : Nat) + (1 : Nat) + (1 : Nat) + (1 : Nat)) : Int))) (
                    .ret (decide (r4.1 < r4.2.2.2.2.2.2.2.2.2.1), ())) (
                    .fail 40)))))))))) (
           .ite (decide (r4.2.1 = (0 : Int))) (
            .ite (decide (r4.2.1 = (7 : Int))) (
             .ret (true, ())) (
             .ite (decide (IntKind.wrap IntKind.i64 (r4.2.1 + (1 : Int)) = (↑(0 : Nat) : Int))) (
              .ret (decide (r4.1 < r4.2.2.1), ())) (
              .ite (decide (IntKind.wrap IntKind.i64 (r4.2.1 + (1 : Int)) = (↑((0 : Nat) + (1 : Nat)) : Int))) (
               .ret (decide (r4.1 < r4.2.2.2.1), ())) (
               .ite (decide (IntKind.wrap IntKind.i64 (r4.2.1 + (1 : Int)) = (↑((0 : Nat) + (1 : Nat) + (1 : Nat)) : Int))) (
                .ret (decide (r4.1 < r4.2.2.2.2.1), ())) (
                .ite (decide (IntKind.wrap IntKind.i64 (r4.2.1 + (1 : Int)) = (↑((0 : Nat) + (1 : Nat) + (1 : Nat) + (1 : Nat)) : Int))) (
                 .ret (decide (r4.1 < r4.2.2.2.2.2.1), ())) (
                 .ite (decide (IntKind.wrap IntKind.i64 (r4.2.1 + (1 : Int)) = (↑((0 : Nat) + (1 : Nat) + (1 : Nat) + (1 : Nat) + (1 : Nat)) : Int))) (
                  .ret (decide (r4.1 < r4.2.2.2.2.2.2.1), ())) (
                  .ite (decide (IntKind.wrap IntKind.i64 (r4.2.1 + (1 : Int)) = (↑((0 : Nat) + (1 : Nat) + (1 : Nat) + (1 : Nat) + (1 : Nat) + (1 : Nat)) : Int))) (
                   .ret (decide (r4.1 < r4.2.2.2.2.2.2.2.1), ())) (
                   .ite (decide (IntKind.wrap IntKind.i64 (r4.2.1 + (1 : Int)) = (↑((0 : Nat) + (1 : Nat) + (1 : Nat) + (1 : Nat) + (1 : Nat) + (1 : Nat) + (1 : Nat)) : Int))) (
                    .ret (decide (r4.1 < r4.2.2.2.2.2.2.2.2.1), ())) (
                    .ite (decide (IntKind.wrap IntKind.i64 (r4.2.1 + (1 : Int)) = (↑((0 : Nat) + (1 : Nat) + (1 : Nat) + (1 : Nat) + (1 : Nat) + (1 : Nat) + (1 : Nat) + (1 : Nat)) : Int))) (
                     .ret (decide (r4.1 < r4.2.2.2.2.2.2.2.2.2.1), ())) (
                     .fail 40)))))))))) (
            .ret (false, ())))) (
          .ite (decide (r4.2.1 = (↑((0 : Nat) + (1 : Nat) + (1 : Nat) + (1 : Nat) + (1 : Nat)) : Int))) (
           .ite (decide (r4.2.2.2.2.2.2.1 ≤ r4.1)) (
            .ite (decide (r4.2.1 = (7 : Int))) (
             .ret (true, ())) (
             .ite (decide (IntKind.wrap IntKind.i64 (r4.2.1 + (1 : Int)) = (↑(0 : Nat) : Int))) (
              .ret (decide (r4.1 < r4.2.2.1), ())) (
              .ite (decide (IntKind.wrap IntKind.i64 (r4.2.1 + (1 : Int)) = (↑((0 : Nat) + (1 : Nat)) : Int))) (
               .ret (decide (r4.1 < r4.2.2.2.1), ())) (
               .ite (decide (IntKind.wrap IntKind.i64 (r4.2.1 + (1 : Int)) = (↑((0 : Nat) + (1 : Nat) + (1 : Nat)) : Int))) (
                .ret (decide (r4.1 < r4.2.2.2.2.1), ())) (
                .ite (decide (IntKind.wrap IntKind.i64 (r4.2.1 + (1 : Int)) = (↑((0 : Nat) + (1 : Nat) + (1 : Nat) + (1 : Nat)) : Int))) (
                 .ret (decide (r4.1 < r4.2.2.2.2.2.1), ())) (
                 .ite (decide (IntKind.wrap IntKind.i64 (r4.2.1 + (1 : Int)) = (↑((0 : Nat) + (1 : Nat) + (1 : Nat) + (1 : Nat) + (1 : Nat)) : Int))) (
                  .ret (decide (r4.1 < r4.2.2.2.2.2.2.1), ())) (
                  .ite (decide (IntKind.wrap IntKind.i64 (r4.2.1 + (1 : Int)) = (↑((0 : Nat) + (1 : Nat) + (1 : Nat) + (1 : Nat) + (1 : Nat) + (1 : Nat)) : Int))) (
                   .ret (decide (r4.1 < r4.2.2.2.2.2.2.2.1), ())) (
                   .ite (decide (IntKind.wrap IntKind.i64 (r4.2.1 + (1 : Int)) = (↑((0 : Nat) + (1 : Nat) + (1 : Nat) + (1 : Nat) + (1 : Nat) + (1 : Nat) + (1 : Nat)) : Int))) (
                    .ret (decide (r4.1 < r4.2.2.2.2.2.2.2.2.1), ())) (
                    .ite (decide (IntKind.wrap IntKind.i64 (r4.2.1 + (1 : Int)) = (↑((0 : Nat) + (1 : Nat) + (1 : Nat) + (1 : Nat) + (1 : Nat) + (1 : Nat) + (1 : Nat) + (1 : Nat)) : Int))) (
                     .ret (decide (r4.1 < r4.2.2.2.2.2.2.2.2.2.1), ())) (
                     .fail 40)))))))))) (
            .ite (decide (r4.2.1 = (0 : Int))) (
             .ite (decide (r4.2.1 = (7 : Int))) (
              .ret (true, ())) (
              .ite (decide (IntKind.wrap IntKind.i64 (r4.2.1 + (1 : Int)) = (↑(0 : Nat) : Int))) (
               .ret (decide (r4.1 < r4.2.2.1), ())) (
               .ite (decide (IntKind.wrap IntKind.i64 (r4.2.1 + (1 : Int)) = (↑((0 : Nat) + (1 : Nat)) : Int))) (
                .ret (decide (r4.1 < r4.2.2.2.1), ())) (
                .ite (decide (IntKind.wrap IntKind.i64 (r4.2.1 + (1 : Int)) = (↑((0 : Nat) + (1 : Nat) + (1 : Nat)) : Int))) (
                 .ret (decide (r4.1 < r4.2.2.2.2.1), ())) (
                 .ite (decide (IntKind.wrap IntKind.i64 (r4.2.1 + (1 : Int)) = (↑((0 : Nat) + (1 : Nat) + (1 : Nat) + (1 : Nat)) : Int))) (
                  .ret (decide (r4.1 < r4.2.2.2.2.2.1), ())) (
                  .ite (decide (IntKind.wrap IntKind.i64 (r4.2.1 + (1 : Int)) = (↑((0 : Nat) + (1 : Nat) + (1 : Nat) + (1 : Nat) + (1 : Nat)) : Int))) (
                   .ret (decide (r4.1 < r4.2.2.2.2.2.2.1), ())) (
                   .ite (decide (IntKind.wrap IntKind.i64 (r4.2.1 + (1 : Int)) = (↑((0 : Nat) + (1 : Nat) + (1 : Nat) + (1 : Nat) + (1 : Nat) + (1 : Nat)) : Int))) (
                    .ret (decide (r4.1 < r4.2.2.2.2.2.2.2.1), ())) (
                    .ite (decide (IntKind.wrap IntKind.i64 (r4.2.1 + (1 : Int)) = (↑((0 : Nat) + (1 : Nat) + (1 : Nat) + (1 : Nat) + (1 : Nat) + (1 : Nat) + (1 : Nat)) : Int))) (
                     .ret (decide (r4.1 < r4.2.2.2.2.2.2.2.2.1), ())) (
                     .ite (decide (IntKind.wrap IntKind.i64 (r4.2.1 + (1 : Int)) = (↑((0 : Nat) + (1 : Nat) + (1 : Nat) + (1 : Nat) + (1 : Nat) + (1 : Nat) + (1 : Nat) + (1 : Nat)) : Int))) (
                      .ret (decide (r4.1 < r4.2.2.2.2.2.2.2.2.2.1), ())) (
                      .fail 40)))))))))) (
             .ret (false, ())))) (
           .ite (decide (r4.2.1 = (↑((0 : Nat) + (1 : Nat) + (1 : Nat) + (1 : Nat) + (1 : Nat) + (1 : Nat)) : Int))) (
            .ite (decide (r4.2.2.2.2.2.2.2.1 ≤ r4.1)) (
             .ite (decide (r4.2.1 = (7 : Int))) (
              .ret (true, ())) (
              .ite (decide (IntKind.wrap IntKind.i64 (r4.2.1 + (1 : Int)) = (↑(0 : Nat) : Int))) (
               .ret (decide (r4.1 < r4.2.2.1), ())) (
               .ite (decide (IntKind.wrap IntKind.i64 (r4.2.1 + (1 : Int)) = (↑((0 : Nat) + (1 : Nat)) : Int))) (
                .ret (decide (r4.1 < r4.2.2.2.1), ())) (
                .ite (decide (IntKind.wrap IntKind.i64 (r4.2.1 + (1 : Int)) = (↑((0 : Nat) + (1 : Nat) + (1 : Nat)) : Int))) (
                 .ret (decide (r4.1 < r4.2.2.2.2.1), ())) (
                 .ite (decide (IntKind.wrap IntKind.i64 (r4.2.1 + (1 : Int)) = (↑((0 : Nat) + (1 : Nat) + (1 : Nat) + (1 : Nat)) : Int))) (
                  .ret (decide (r4.1 < r4.2.2.2.2.2.1), ())) (
                  .ite (decide (IntKind.wrap IntKind.i64 (r4.2.1 + (1 : Int)) = (↑((0 : Nat) + (1 : Nat) + (1 : Nat) + (1 : Nat) + (1 : Nat)) : Int))) (
                   .ret (decide (r4.1 < r4.2.2.2.2.2.2.1), ())) (
                   .ite (decide (IntKind.wrap IntKind.i64 (r4.2.1 + (1 : Int)) = (↑((0 : Nat) + (1 : Nat) + (1 : Nat) + (1 : Nat) + (1 : Nat) + (1 : Nat)) : Int))) (
                    .ret (decide (r4.1 < r4.2.2.2.2.2.2.2.1), ())) (
                    .ite (decide (IntKind.wrap IntKind.i64 (r4.2.1 + (1 : Int)) = (↑((0 : Nat) + (1 : Nat) + (1 : Nat) + (1 : Nat) + (1 : Nat) + (1 : Nat) + (1 : Nat)) : Int))) (
                     .ret (decide (r4.1 < r4.2.2.2.2.2.2.2.2.1), ())) (
                     .ite (decide (IntKind.wrap IntKind.i64 (r4.2.1 + (1 : Int)) = (↑((0 : Nat) + (1 : Nat) + (1 : Nat) + (1 : Nat) + (1 : Nat) + (1 : Nat) + (1 : Nat) + (1 : Nat)) : Int))) (
                      .ret (decide (r4.1 < r4.2.2.2.2.2.2.2.2.2.1), ())) (
                      .fail 40)))))))))) (
             .ite (decide (r4.2.1 = (0 : Int))) (
              .ite (decide (r4.2.1 = (7 : Int))) (
               .ret (true, ())) (
               .ite (decide (IntKind.wrap IntKind.i64 (r4.2.1 + (1 : Int)) = (↑(0 : Nat) : Int))) (
                .ret (decide (r4.1 < r4.2.2.1), ())) (
                .ite (decide (IntKind.wrap IntKind.i64 (r4.2.1 + (1 : Int)) = (↑((0 : Nat) + (1 : Nat)) : Int))) (
                 .ret (decide (r4.1 < r4.2.2.2.1), ())) (
                 .ite (decide (IntKind.wrap IntKind.i64 (r4.2.1 + (1 : Int)) = (↑((0 : Nat) + (1 : Nat) + (1 : Nat)) : Int))) (
                  .ret (decide (r4.1 < r4.2.2.2.2.1), ())) (
                  .ite (decide (IntKind.wrap IntKind.i64 (r4.2.1 + (1 : Int)) = (↑((0 : Nat) + (1 : Nat) + (1 : Nat) + (1 : Nat)) : Int))) (
                   .ret (decide (r4.1 < r4.2.2.2.2.2.1), ())) (
                   .ite (decide (IntKind.wrap IntKind.i64 (r4.2.1 + (1 : Int)) = (↑((0 : Nat) + (1 : Nat) + (1 : Nat) + (1 : Nat) + (1 : Nat)) : Int))) (
                    .ret (decide (r4.1 < r4.2.2.2.2.2.2.1), ())) (
                    .ite (decide (IntKind.wrap IntKind.i64 (r4.2.1 + (1 : Int)) = (↑((0 : Nat) + (1 : Nat) + (1 : Nat) + (1 : Nat) + (1 : Nat) + (1 : Nat)) : Int))) (
                     .ret (decide (r4.1 < r4.2.2.2.2.2.2.2.1), ())) (
                     .ite (decide (IntKind.wrap IntKind.i64 (r4.2.1 + (1 : Int)) = (↑((0 : Nat) + (1 : Nat) + (1 : Nat) + (1 : Nat) + (1 : Nat) + (1 : Nat) + (1 : Nat)) : Int))) (
                      .ret (decide (r4.1 < r4.2.2.2.2.2.2.2.2.1), ())) (
                      .ite (decide (IntKind.wrap IntKind.i64 (r4.2.1 + (1 : Int)) = (↑((0 : Nat) + (1 : Nat) + (1 : Nat) + (1 : Nat) + (1 : Nat) + (1 : Nat) + (1 : Nat) + (1 : Nat)) : Int))) (
                       .ret (decide (r4.1 < r4.2.2.2.2.2.2.2.2.2.1), ())) (
                       .fail 40)))))))))) (
              .ret (false, ())))) (
            .ite (decide (r4.2.1 = (↑((0 : Nat) + (1 : Nat) + (1 : Nat) + (1 : Nat) + (1 : Nat) + (1 : Nat) + (1 : Nat)) : Int))) (
             .ite (decide (r4.2.2.2.2.2.2.2.2.1 ≤ r4.1)) (
              .ite (decide (r4.2.1 = (7 : Int))) (
               .ret (true, ())) (
               .ite (decide (IntKind.wrap IntKind.i64 (r4.2.1 + (1 : Int)) = (↑(0 : Nat) : Int))) (
                .ret (decide (r4.1 < r4.2.2.1), ())) (
                .ite (decide (IntKind.wrap IntKind.i64 (r4.2.1 + (1 : Int)) = (↑((0 : Nat) + (1 : Nat)) : Int))) (
                 .ret (decide (r4.1 < r4.2.2.2.1), ())) (
                 .ite (decide (IntKind.wrap IntKind.i64 (r4.2.1 + (1 : Int)) = (↑((0 : Nat) + (1 : Nat) + (1 : Nat)) : Int))) (
                  .ret (decide (r4.1 < r4.2.2.2.2.1), ())) (
                  .ite (decide (IntKind.wrap IntKind.i64 (r4.2.1 + (1 : Int)) = (↑((0 : Nat) + (1 : Nat) + (1 : Nat) + (1 : Nat)) : Int))) (
                   .ret (decide (r4.1 < r4.2.2.2.2.2.1), ())) (
                   .ite (decide (IntKind.wrap IntKind.i64 (r4.2.1 + (1 : Int)) = (↑((0 : Nat) + (1 : Nat) + (1 : Nat) + (1 : Nat) + (1 : Nat)) : Int))) (
                    .ret (decide (r4.1 < r4.2.2.2.2.2.2.1), ())) (
                    .ite (decide (IntKind.wrap IntKind.i64 (r4.2.1 + (1 : Int)) = (↑((0 : Nat) + (1 : Nat) + (1 : Nat) + (1 : Nat) + (1 : Nat) + (1 : Nat)) : Int))) (
                     .ret (decide (r4.1 < r4.2.2.2.2.2.2.2.1), ())) (
                     .ite (decide (IntKind.wrap IntKind.i64 (r4.2.1 + (1 : Int)) = (↑((0 : Nat) + (1 : Nat) + (1 : Nat) + (1 : Nat) + (1 : Nat) + (1 : Nat) + (1 : Nat)) : Int))) (
                      .ret (decide (r4.1 < r4.2.2.2.2.2.2.2.2.1), ())) (
                      .ite (decide (IntKind.wrap IntKind.i64 (r4.2.1 + (1 : Int)) = (↑((0 : Nat) + (1 : Nat) + (1 : Nat) + (1 : Nat) + (1 : Nat) + (1 : Nat) + (1 : Nat) + (1 : Nat)) : Int))) (
                       .ret (decide (r4.1 < r4.2.2.2.2.2.2.2.2.2.1), ())) (
                       .fail 40)))))))))) (
              .ite (decide (r4.2.1 = (0 : Int))) (
               .ite (decide (r4.2.1 = (7 : Int))) (
                .ret (true, ())) (
                .ite (decide (IntKind.wrap IntKind.i64 (r4.2.1 + (1 : Int)) = (↑(0 : Nat) : Int))) (
                 .ret (decide (r4.1 < r4.2.2.1), ())) (
                 .ite (decide (IntKind.wrap IntKind.i64 (r4.2.1 + (1 : Int)) = (↑((0 : Nat) + (1 : Nat)) : Int))) (
                  .ret (decide (r4.1 < r4.2.2.2.1), ())) (
                  .ite (decide (IntKind.wrap IntKind.i64 (r4.2.1 + (1 : Int)) = (↑((0 : Nat) + (1 : Nat) + (1 : Nat)) : Int))) (
                   .ret (decide (r4.1 < r4.2.2.2.2.1), ())) (
                   .ite (decide (IntKind.wrap IntKind.i64 (r4.2.1 + (1 : Int)) = (↑((0 : Nat) + (1 : Nat) + (1 : Nat) + (1 : Nat)) : Int))) (
                    .ret (decide (r4.1 < r4.2.2.2.2.2.1), ())) (
                    .ite (decide (IntKind.wrap IntKind.i64 (r4.2.1 + (1 : Int)) = (↑((0 : Nat) + (1 : Nat) + (1 : Nat) + (1 : Nat) + (1 : Nat)) : Int))) (
                     .ret (decide (r4.1 < r4.2.2.2.2.2.2.1), ())) (
                     .ite (decide (IntKind.wrap IntKind.i64 (r4.2.1 + (1 : Int)) = (↑((0 : Nat) + (1 : Nat) + (1 : Nat) + (1 : Nat) + (1 : Nat) + (1 : Nat)) : Int))) (
                      .ret (decide (r4.1 < r4.2.2.2.2.2.2.2.1), ())) (
                      .ite (decide (IntKind.wrap IntKind.i64 (r4.2.1 + (1 : Int)) = (↑((0 : Nat) + (1 : Nat) + (1 : Nat) + (1 : Nat) + (1 : Nat) + (1 : Nat) + (1 : Nat)) : Int))) (
                       .ret (decide (r4.1 < r4.2.2.2.2.2.2.2.2.1), ())) (
                       .ite (decide (IntKind.wrap IntKind.i64 (r4.2.1 + (1 : Int)) = (↑((0 : Nat) + (1 : Nat) + (1 : Nat) + (1 : Nat) + (1 : Nat) + (1 : Nat) + (1 : Nat) + (1 : Nat)) : Int))) (
                        .ret (decide (r4.1 < r4.2.2.2.2.2.2.2.2.2.1), ())) (
                        .fail 40)))))))))) (
               .ret (false, ())))) (
             .ite (decide (r4.2.1 = (↑((0 : Nat) + (1 : Nat) + (1 : Nat) + (1 : Nat) + (1 : Nat) + (1 : Nat) + (1 : Nat) + (1 : Nat)) : Int))) (
              .ite (decide (r4.2.2.2.2.2.2.2.2.2.1 ≤ r4.1)) (
               .ite (decide (r4.2.1 = (7 : Int))) (
                .ret (true, ())) (
                .ite (decide (IntKind.wrap IntKind.i64 (r4.2.1 + (1 : Int)) = (↑(0 : Nat) : Int))) (
                 .ret (decide (r4.1 < r4.2.2.1), ())) (
                 .ite (decide (IntKind.wrap IntKind.i64 (r4.2.1 + (1 : Int)) = (↑((0 : Nat) + (1 : Nat)) : Int))) (
                  .ret (decide (r4.1 < r4.2.2.2.1), ())) (
                  .ite (decide (IntKind.wrap IntKind.i64 (r4.2.1 + (1 : Int)) = (↑((0 : Nat) + (1 : Nat) + (1 : Nat)) : Int))) (
                   .ret (decide (r4.1 < r4.2.2.2.2.1), ())) (
                   .ite (decide (IntKind.wrap IntKind.i64 (r4.2.1 + (1 : Int)) = (↑((0 : Nat) + (1 : Nat) + (1 : Nat) + (1 : Nat)) : Int))) (
                    .ret (decide (r4.1 < r4.2.2.2.2.2.1), ())) (
                    .ite (decide (IntKind.wrap IntKind.i64 (r4.2.1 + (1 : Int)) = (↑((0 : Nat) + (1 : Nat) + (1 : Nat) + (1 : Nat) + (1 : Nat)) : Int))) (
                     .ret (decide (r4.1 < r4.2.2.2.2.2.2.1), ())) (
                     .ite (decide (IntKind.wrap IntKind.i64 (r4.2.1 + (1 : Int)) = (↑((0 : Nat) + (1 : Nat) + (1 : Nat) + (1 : Nat) + (1 : Nat) + (1 : Nat)) : Int))) (
                      .ret (decide (r4.1 < r4.2.2.2.2.2.2.2.1), ())) (
                      .ite (decide (IntKind.wrap IntKind.i64 (r4.2.1 + (1 : Int)) = (↑((0 : Nat) + (1 : Nat) + (1 : Nat) + (1 : Nat) + (1 : Nat) + (1 : Nat) + (1 : Nat)) : Int))) (
                       .ret (decide (r4.1 < r4.2.2.2.2.2.2.2.2.1), ())) (
                       .ite (decide (IntKind.wrap IntKind.i64 (r4.2.1 + (1 : Int)) = (↑((0 : Nat) + (1 : Nat) + (1 : Nat) + (1 : Nat) + (1 : Nat) + (1 : Nat) + (1 : Nat) + (1 : Nat)) : Int))) (
                        .ret (decide (r4.1 < r4.2.2.2.2.2.2.2.2.2.1), ())) (
                        .fail 40)))))))))) (
               .ite (decide (r4.2.1 = (0 : Int))) (
                .ite (decide (r4.2.1 = (7 : Int))) (
                 .ret (true, ())) (
                 .ite (decide (IntKind.wrap IntKind.i64 (r4.2.1 + (1 : Int)) = (↑(0 : Nat) : Int))) (
                  .ret (decide (r4.1 < r4.2.2.1), ())) (
                  .ite (decide (IntKind.wrap IntKind.i64 (r4.2.1 + (1 : Int)) = (↑((0 : Nat) + (1 : Nat)) : Int))) (
                   .ret (decide (r4.1 < r4.2.2.2.1), ())) (
                   .ite (decide (IntKind.wrap IntKind.i64 (r4.2.1 + (1 : Int)) = (↑((0 : Nat) + (1 : Nat) + (1 : Nat)) : Int))) (
                    .ret (decide (r4.1 < r4.2.2.2.2.1), ())) (
                    .ite (decide (IntKind.wrap IntKind.i64 (r4.2.1 + (1 : Int)) = (↑((0 : Nat) + (1 : Nat) + (1 : Nat) + (1 : Nat)) : Int))) (
                     .ret (decide (r4.1 < r4.2.2.2.2.2.1), ())) (
                     .ite (decide (IntKind.wrap IntKind.i64 (r4.2.1 + (1 : Int)) = (↑((0 : Nat) + (1 : Nat) + (1 : Nat) + (1 : Nat) + (1 : Nat)) : Int))) (
                      .ret (decide (r4.1 < r4.2.2.2.2.2.2.1), ())) (
                      .ite (decide (IntKind.wrap IntKind.i64 (r4.2.1 + (1 : Int)) = (↑((0 : Nat) + (1 : Nat) + (1 : Nat) + (1 : Nat) + (1 : Nat) + (1 : Nat)) : Int))) (
                       .ret (decide (r4.1 < r4.2.2.2.2.2.2.2.1), ())) (
                       .ite (decide (IntKind.wrap IntKind.i64 (r4.2.1 + (1 : Int)) = (↑((0 : Nat) + (1 : Nat) + (1 : Nat) + (1 : Nat) + (1 : Nat) + (1 : Nat) + (1 : Nat)) : Int))) (
                        .ret (decide (r4.1 < r4.2.2.2.2.2.2.2.2.1), ())) (
                        .ite (decide (IntKind.wrap IntKind.i64 (r4.2.1 + (1 : Int)) = (↑((0 : Nat) + (1 : Nat) + (1 : Nat) + (1 : Nat) + (1 : Nat) + (1 : Nat) + (1 : Nat) + (1 : Nat)) : Int))) (
                         .ret (decide (r4.1 < r4.2.2.2.2.2.2.2.2.2.1), ())) (
                         .fail 40)))))))))) (
                .ret (false, ())))) (
              .fail 40))))))))))))))))
theorem cookieIndex_eq (x : (Int × Unit)) : fnTr Try.prog cod [FS.pf rotl, FS.pf sipCheck, FS.pf sipBegin, FS.pf sipNumber, FS.pf sipMore, FS.pf sipEnd, FS.pf sipOf, FS.pf coPort, FS.pf coLong, FS.pf coSizes, FS.pf coIndex, FS.pf coMake, FS.pf coOpen, FS.pf cookieLives] [(10, cookieIndex_L10_5)] 30 10 cookieIndex_ap cookieIndex_rp x = cookieIndex_tree x := by kernel_rfl
def cookieIndex_fn (x : (Int × Unit)) : Option (Bool × Unit) := (cookieIndex_tree x).eval
def cookieIndex : FS Try.prog := ⟨10, cookieIndex_ap, cookieIndex_rp, cookieIndex_fn, fun x r h => fnTr_sound (cod := cod) (Γ := [FS.pf rotl, FS.pf sipCheck, FS.pf sipBegin, FS.pf sipNumber, FS.pf sipMore, FS.pf sipEnd, FS.pf sipOf, FS.pf coPort, FS.pf coLong, FS.pf coSizes, FS.pf coIndex, FS.pf coMake, FS.pf coOpen, FS.pf cookieLives]) (Λs := [(10, cookieIndex_L10_5)]) (n := 30) ((congrArg Tr.eval (cookieIndex_eq x)).trans h)⟩
end Go.Proofs.Ytjehhmeaigkbnaa.X
