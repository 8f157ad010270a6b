/- Functions of the program, as trees (printed by a program of mine: tool/XTool, xg.py), each with the proof that the machine comes to what its tree says. Conditions: none. -/
import Derived.Test.YtjehhmeaigkbnaaCod
import Derived.KernelRfl
import Derived.Test.YtjehhmeaigkbnaaGSip
import Derived.Test.YtjehhmeaigkbnaaGCookie
namespace Go.Proofs.Ytjehhmeaigkbnaa.X
open Go Go.RowKit Go.Proofs.Ytjehhmeaigkbnaa.Abs
set_option maxRecDepth 100000
set_option linter.unusedVariables false
def cookieLives_ap : List VP1 := []
def cookieLives_rp : SP := ⟨1, [(0, .v (.one (.b)))], []⟩
def cookieLives_tree : Unit → Tr (Bool × Unit) :=
  fun (_) =>
  .opt (β := (Int × (Int × Unit))) ((coMake_fn ((5 : Int), ((6 : Int), ((1 : Int), ((2 : Int), ((3 : Int), ((4 : Int), ((7 : Int), ((8 : Int), ((6 : Int), ()))))))))))) (fun r0 =>
  .opt (β := (Int × (Int × Unit))) ((coOpen_fn ((5 : Int), ((6 : Int), ((1 : Int), ((2 : Int), ((3 : Int), ((4 : Int), ((7 : Int), (r0.1, ((9 : Int), ()))))))))))) (fun r1 =>
  .ite (decide (r0.2.1 = (0 : Int))) (
   .ite (decide (r1.2.1 = (0 : Int))) (
    .ite (decide (r1.1 = (1460 : Int))) (
     .grd (true) (
     .ret (decide (Int.fdiv r0.1 ((2 : Int) ^ (24 : Nat)) = (70 : Int)), ()))) (
     .ret (false, ()))) (
    .ret (false, ()))) (
   .ret (false, ()))))
theorem cookieLives_eq (x : Unit) : fnTr Try.prog cod [rotl, sipCheck, sipBegin, sipNumber, sipMore, sipEnd, sipOf, coPort, coLong, coSizes, coIndex, coMake, coOpen] [] 30 29 cookieLives_ap cookieLives_rp x = cookieLives_tree x := by kernel_rfl
def cookieLives_fn (x : Unit) : Option (Bool × Unit) := (cookieLives_tree x).eval
def cookieLives : FS Try.prog := ⟨29, cookieLives_ap, cookieLives_rp, cookieLives_fn, fun x r h => fnTr_sound (cod := cod) (Γ := [rotl, sipCheck, sipBegin, sipNumber, sipMore, sipEnd, sipOf, coPort, coLong, coSizes, coIndex, coMake, coOpen]) (Λs := []) (n := 30) ((congrArg Tr.eval (cookieLives_eq x)).trans h)⟩
def cookieBack_ap : List VP1 := [.agg [.i .u64, .i .u64], .agg [.i .u32, .i .u32, .i .i64, .i .i64], .one (.i .u32), .one (.i .i64), .one (.i .i64), .one (.i .i64)]
def cookieBack_rp : SP := ⟨1, [(0, .v (.one (.b)))], []⟩
def cookieBack_tree : (Int × (Int × (Int × (Int × (Int × (Int × (Int × (Int × (Int × (Int × Unit)))))))))) → Tr (Bool × Unit) :=
  fun (a0, a1, a2, a3, a4, a5, a6, a7, a8, a9, _) =>
  .opt (β := (Int × (Int × Unit))) ((coMake_fn (a0, (a1, (a2, (a3, (a4, (a5, (a6, (a7, (a8, ()))))))))))) (fun r0 =>
  .opt (β := (Int × (Int × Unit))) ((coOpen_fn (a0, (a1, (a2, (a3, (a4, (a5, (a6, (r0.1, (a9, ()))))))))))) (fun r1 =>
  .opt (β := (Bool × Unit)) ((cookieLives_fn ())) (fun r2 =>
  .ite (!r2.1) (
   .opt (β := (Bool × Unit)) ((cookieLives_fn ())) (fun r3 =>
   .ret (r3.1, ()))) (
   .ite (!decide (r0.2.1 = (0 : Int))) (
    .opt (β := (Bool × Unit)) ((cookieLives_fn ())) (fun r3 =>
    .ret (r3.1, ()))) (
    .ite (decide (a9 < (0 : Int))) (
     .opt (β := (Bool × Unit)) ((cookieLives_fn ())) (fun r3 =>
     .ret (r3.1, ()))) (
     .ite (decide ((31 : Int) < a9)) (
      .opt (β := (Bool × Unit)) ((cookieLives_fn ())) (fun r3 =>
      .ret (r3.1, ()))) (
      .ite (decide (a9 = a7)) (
       .ite (decide (r1.2.1 = (0 : Int))) (
        .opt (β := (Int × (Int × (Int × (Int × (Int × (Int × (Int × (Int × Unit))))))))) ((coSizes_fn ())) (fun r3 =>
        .grd (decide ((0 : Int) ≤ a8)) (
        .opt (β := Int) ([r3.1, r3.2.1, r3.2.2.1, r3.2.2.2.1, r3.2.2.2.2.1, r3.2.2.2.2.2.1, r3.2.2.2.2.2.2.1, r3.2.2.2.2.2.2.2.1][Int.toNat a8]?) (fun r4 =>
        .ret (decide (r1.1 = r4), ()))))) (
        .ret (false, ()))) (
       .grd (true) (
       .ite (decide (a9 = Int.tmod (IntKind.wrap IntKind.i64 (a7 + (1 : Int))) (32 : Int))) (
        .ite (decide (r1.2.1 = (0 : Int))) (
         .opt (β := (Int × (Int × (Int × (Int × (Int × (Int × (Int × (Int × Unit))))))))) ((coSizes_fn ())) (fun r3 =>
         .grd (decide ((0 : Int) ≤ a8)) (
         .opt (β := Int) ([r3.1, r3.2.1, r3.2.2.1, r3.2.2.2.1, r3.2.2.2.2.1, r3.2.2.2.2.2.1, r3.2.2.2.2.2.2.1, r3.2.2.2.2.2.2.2.1][Int.toNat a8]?) (fun r4 =>
         .ret (decide (r1.1 = r4), ()))))) (
         .ret (false, ()))) (
        .ite (decide (r1.2.1 = (9 : Int))) (
         .ret (decide (r1.1 = (0 : Int)), ())) (
         .ret (false, ()))))))))))))
theorem cookieBack_eq (x : (Int × (Int × (Int × (Int × (Int × (Int × (Int × (Int × (Int × (Int × Unit))))))))))) : fnTr Try.prog cod [rotl, sipCheck, sipBegin, sipNumber, sipMore, sipEnd, sipOf, coPort, coLong, coSizes, coIndex, coMake, coOpen, cookieLives] [] 30 8 cookieBack_ap cookieBack_rp x = cookieBack_tree x := by kernel_rfl
def cookieBack_fn (x : (Int × (Int × (Int × (Int × (Int × (Int × (Int × (Int × (Int × (Int × Unit))))))))))) : Option (Bool × Unit) := (cookieBack_tree x).eval
def cookieBack : FS Try.prog := ⟨8, cookieBack_ap, cookieBack_rp, cookieBack_fn, fun x r h => fnTr_sound (cod := cod) (Γ := [rotl, sipCheck, sipBegin, sipNumber, sipMore, sipEnd, sipOf, coPort, coLong, coSizes, coIndex, coMake, coOpen, cookieLives]) (Λs := []) (n := 30) ((congrArg Tr.eval (cookieBack_eq x)).trans h)⟩
def cookieOnly_L9_9 : LS := ⟨9, [(6, 6), (5, 5)], ⟨75, [(43, .v (.one (.i .i64))), (13, .v (.one (.i .i64))), (3, .v (.one (.i .u32))), (15, .v (.one (.i .i64))), (2, .v (.one (.i .u32))), (6, .v (.one (.ptr 6 0))), (5, .v (.one (.ptr 5 0))), (39, .v (.agg [.i .i64, .i .i64])), (12, .v (.one (.i .i64))), (40, .v (.one (.i .i64)))], [(6, .cells [.i .u32, .i .u32, .i .i64, .i .i64]), (5, .cells [.i .u64, .i .u64])]⟩, [⟨some 2, [(6, 6), (5, 5)], ⟨75, [(13, .v (.one (.i .i64))), (3, .v (.one (.i .u32))), (2, .v (.one (.i .u32))), (6, .v (.one (.ptr 6 0))), (5, .v (.one (.ptr 5 0))), (39, .v (.agg [.i .i64, .i .i64])), (12, .v (.one (.i .i64))), (40, .v (.one (.i .i64)))], [(6, .cells [.i .u32, .i .u32, .i .i64, .i .i64]), (5, .cells [.i .u64, .i .u64])]⟩⟩]⟩
def cookieOnly_step9_9 : (Int × (Int × (Int × (Int × (Int × (Int × (Int × (Int × (Int × (Int × (Int × (Int × (Int × (Int × (Int × Unit))))))))))))))) → Tr ((Int × (Int × (Int × (Int × (Int × (Int × (Int × (Int × (Int × (Int × (Int × (Int × (Int × (Int × (Int × Unit))))))))))))))) ⊕ (Int × (Int × (Int × (Int × (Int × (Int × (Int × (Int × (Int × (Int × (Int × (Int × (Int × Unit)))))))))))))) :=
  fun (a0, a1, a2, a3, a4, a5, a6, a7, a8, a9, a10, a11, a12, a13, a14, _) =>
  .ite (decide (a0 < (8 : Int))) (
   .opt (β := (Int × (Int × Unit))) ((coMake_fn (a13, (a14, (a9, (a10, (a11, (a12, (a4, (a3, (a0, ()))))))))))) (fun r0 =>
   .ite (decide (r0.2.1 = (0 : Int))) (
    .ite (decide (r0.1 = a2)) (
     .ret (Sum.inl (IntKind.wrap IntKind.i64 (a0 + (1 : Int)), (IntKind.wrap IntKind.i64 (a1 + (1 : Int)), (a2, (a3, (a4, (a5, (a6, (a7, (a8, (a9, (a10, (a11, (a12, (a13, (a14, ()))))))))))))))))) (
     .ret (Sum.inl (IntKind.wrap IntKind.i64 (a0 + (1 : Int)), (a1, (a2, (a3, (a4, (a5, (a6, (a7, (a8, (a9, (a10, (a11, (a12, (a13, (a14, ())))))))))))))))))) (
    .ret (Sum.inl (IntKind.wrap IntKind.i64 (a0 + (1 : Int)), (a1, (a2, (a3, (a4, (a5, (a6, (a7, (a8, (a9, (a10, (a11, (a12, (a13, (a14, ()))))))))))))))))))) (
   .ret (Sum.inr (a1, (a2, (a4, (a5, (a6, (a7, (a8, (a9, (a10, (a11, (a12, (a13, (a14, ())))))))))))))))
def cookieOnly_loop9_9 (x : (Int × (Int × (Int × (Int × (Int × (Int × (Int × (Int × (Int × (Int × (Int × (Int × (Int × (Int × (Int × Unit)))))))))))))))) : Option (Int × (Int × (Int × (Int × (Int × (Int × (Int × (Int × (Int × (Int × (Int × (Int × (Int × Unit))))))))))))) := loopO 90009 (fun x => (cookieOnly_step9_9 x).eval) 18446744073709551616 x
def cookieOnly_L9_6 : LS := ⟨6, [(6, 6), (5, 5)], ⟨75, [(13, .v (.one (.i .i64))), (3, .v (.one (.i .u32))), (2, .v (.one (.i .u32))), (6, .v (.one (.ptr 6 0))), (5, .v (.one (.ptr 5 0))), (40, .v (.one (.i .i64))), (39, .v (.agg [.i .i64, .i .i64])), (12, .v (.one (.i .i64)))], [(6, .cells [.i .u32, .i .u32, .i .i64, .i .i64]), (5, .cells [.i .u64, .i .u64])]⟩, [⟨some 0, [], ⟨75, [(13, .v (.one (.i .i64))), (12, .v (.one (.i .i64)))], []⟩⟩]⟩
def cookieOnly_step9_6 : (Int × (Int × (Int × (Int × (Int × (Int × (Int × (Int × (Int × (Int × (Int × (Int × (Int × Unit))))))))))))) → Tr ((Int × (Int × (Int × (Int × (Int × (Int × (Int × (Int × (Int × (Int × (Int × (Int × (Int × Unit))))))))))))) ⊕ (Int × (Int × Unit))) :=
  fun (a0, a1, a2, a3, a4, a5, a6, a7, a8, a9, a10, a11, a12, _) =>
  .ite (decide (a3 < (2 : Int))) (
   .grd (decide ((0 : Int) ≤ a3)) (
   .opt (β := Int) ([a4, a5][Int.toNat a3]?) (fun r0 =>
   .opt (β := (Int × (Int × (Int × (Int × (Int × (Int × (Int × (Int × (Int × (Int × (Int × (Int × (Int × Unit)))))))))))))) ((cookieOnly_loop9_9 ((0 : Int), (a0, (a1, (r0, (a2, (a4, (a5, (a6, (a3, (a7, (a8, (a9, (a10, (a11, (a12, ()))))))))))))))))) (fun r1 =>
   .ret (Sum.inl (r1.1, (r1.2.1, (r1.2.2.1, (IntKind.wrap IntKind.i64 (r1.2.2.2.2.2.2.1 + (1 : Int)), (r1.2.2.2.1, (r1.2.2.2.2.1, (r1.2.2.2.2.2.1, (r1.2.2.2.2.2.2.2.1, (r1.2.2.2.2.2.2.2.2.1, (r1.2.2.2.2.2.2.2.2.2.1, (r1.2.2.2.2.2.2.2.2.2.2.1, (r1.2.2.2.2.2.2.2.2.2.2.2.1, (r1.2.2.2.2.2.2.2.2.2.2.2.2.1, ())))))))))))))))))) (
   .ret (Sum.inr (a0, (a6, ()))))
def cookieOnly_loop9_6 (x : (Int × (Int × (Int × (Int × (Int × (Int × (Int × (Int × (Int × (Int × (Int × (Int × (Int × Unit)))))))))))))) : Option (Int × (Int × Unit)) := loopO 90006 (fun x => (cookieOnly_step9_6 x).eval) 18446744073709551616 x
def cookieOnly_ap : List VP1 := [.agg [.i .u64, .i .u64], .agg [.i .u32, .i .u32, .i .i64, .i .i64], .one (.i .u32), .one (.i .u32), .one (.i .i64)]
def cookieOnly_rp : SP := ⟨1, [(0, .v (.one (.b)))], []⟩
def cookieOnly_tree : (Int × (Int × (Int × (Int × (Int × (Int × (Int × (Int × (Int × Unit))))))))) → Tr (Bool × Unit) :=
  fun (a0, a1, a2, a3, a4, a5, a6, a7, a8, _) =>
  .opt (β := (Int × (Int × Unit))) ((coOpen_fn (a0, (a1, (a2, (a3, (a4, (a5, (a6, (a7, (a8, ()))))))))))) (fun r0 =>
  .opt (β := (Bool × Unit)) ((cookieLives_fn ())) (fun r1 =>
  .ite (!r1.1) (
   .opt (β := (Bool × Unit)) ((cookieLives_fn ())) (fun r2 =>
   .ret (r2.1, ()))) (
   .ite (decide (r0.2.1 = (1 : Int))) (
    .opt (β := (Bool × Unit)) ((cookieLives_fn ())) (fun r2 =>
    .ret (r2.1, ()))) (
    .grd (true) (
    .opt (β := (Int × (Int × Unit))) ((cookieOnly_loop9_6 ((0 : Int), (a7, (a6, ((0 : Int), (a8, (Int.tmod (IntKind.wrap IntKind.i64 (a8 + (31 : Int))) (32 : Int), (r0.2.1, (a2, (a3, (a4, (a5, (a0, (a1, ()))))))))))))))) (fun r2 =>
    .ite (decide (r2.2.1 = (0 : Int)) == decide (r2.1 = (1 : Int))) (
     .ret (decide (r2.1 ≤ (1 : Int)), ())) (
     .ret (false, ()))))))))
theorem cookieOnly_eq (x : (Int × (Int × (Int × (Int × (Int × (Int × (Int × (Int × (Int × Unit)))))))))) : fnTr Try.prog cod [rotl, sipCheck, sipBegin, sipNumber, sipMore, sipEnd, sipOf, coPort, coLong, coSizes, coIndex, coMake, coOpen, cookieLives, cookieBack] [(9, cookieOnly_L9_9), (9, cookieOnly_L9_6)] 30 9 cookieOnly_ap cookieOnly_rp x = cookieOnly_tree x := by kernel_rfl
def cookieOnly_fn (x : (Int × (Int × (Int × (Int × (Int × (Int × (Int × (Int × (Int × Unit)))))))))) : Option (Bool × Unit) := (cookieOnly_tree x).eval
def cookieOnly : FS Try.prog := ⟨9, cookieOnly_ap, cookieOnly_rp, cookieOnly_fn, fun x r h => fnTr_sound (cod := cod) (Γ := [rotl, sipCheck, sipBegin, sipNumber, sipMore, sipEnd, sipOf, coPort, coLong, coSizes, coIndex, coMake, coOpen, cookieLives, cookieBack]) (Λs := [(9, cookieOnly_L9_9), (9, cookieOnly_L9_6)]) (n := 30) ((congrArg Tr.eval (cookieOnly_eq x)).trans h)⟩
end Go.Proofs.Ytjehhmeaigkbnaa.X
