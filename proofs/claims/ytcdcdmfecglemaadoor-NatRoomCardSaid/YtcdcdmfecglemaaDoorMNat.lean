/- Functions of the program, as trees (printed by a program of mine: tool/XTool, xg.py), each with the proof that the machine comes to what its tree says. Conditions: none. -/
import Derived.Test.YtcdcdmfecglemaaDoorCod
import Derived.KernelRfl
import Derived.Test.YtcdcdmfecglemaaDoorLNat
namespace Go.Proofs.YtcdcdmfecglemaaDoor.X
open Go Go.RowKit Go.Proofs.YtcdcdmfecglemaaDoor.Abs
set_option maxRecDepth 100000
set_option linter.unusedVariables false
def natRoom_L4_14 : LS := ⟨14, [(7, 7)], ⟨94, [(53, .v (.one (.i .i64))), (7, .v (.one (.ptr 7 0))), (9, .v (.one (.i .i64))), (1, .v (.one (.i .i64))), (10, .v (.one (.i .i64))), (8, .v (.one (.i .i64))), (52, .v (.agg [.i .i64, .i .i64])), (2, .v (.one (.st 0 false))), (0, .v (.one (.i .i64))), (36, .v (.one (.i .i64))), (39, .v (.one (.i .i64)))], [(7, .cells [.i .i64, .i .i64, .i .u64, .i .i64, .i .u64, .st 17 true])]⟩, [⟨none, [], ⟨94, [(6, .v (.one (.b)))], []⟩⟩, ⟨some 4, [(7, 7)], ⟨94, [(7, .v (.one (.ptr 7 0))), (1, .v (.one (.i .i64))), (8, .v (.one (.i .i64))), (2, .v (.one (.st 0 false))), (0, .v (.one (.i .i64))), (36, .v (.one (.i .i64))), (39, .v (.one (.i .i64)))], [(7, .cells [.i .i64, .i .i64, .i .u64, .i .i64, .i .u64, .st 17 true])]⟩⟩], []⟩
def natRoom_step4_14 : (Int × (Int × (Int × (Int × (Int × (Int × (Int × ((List Int) × (Int × (Int × (Int × (Int × (Int × (Int × (Int × (Int × ((List TMap) × Unit))))))))))))))))) → Tr ((Int × (Int × (Int × (Int × (Int × (Int × (Int × ((List Int) × (Int × (Int × (Int × (Int × (Int × (Int × (Int × (Int × ((List TMap) × Unit))))))))))))))))) ⊕ ((Bool × Unit) ⊕ (Int × (Int × ((List Int) × (Int × (Int × (Int × (Int × (Int × (Int × (Int × (Int × ((List TMap) × Unit)))))))))))))) :=
  fun (a0, a1, a2, a3, a4, a5, a6, a7, a8, a9, a10, a11, a12, a13, a14, a15, a16, _) =>
  .ite (decide (a0 < (2 : Int))) (
   .grd (decide ((0 : Int) ≤ a0)) (
   .opt (β := Int) ([a5, a6][Int.toNat a0]?) (fun r0 =>
   .opt (β := (Int × (Int × (Int × (Int × (Int × ((List TMap) × (Int × (Int × Unit))))))))) ((natOut_fn (a11, (a12, (a13, (a14, (a15, (a16, (r0, (IntKind.wrap IntKind.u32 (IntKind.wrap IntKind.i64 (IntKind.wrap IntKind.i64 ((1000 : Int) * a4) + a1)), (a3, (a2, ())))))))))))) (fun r1 =>
   .ite (!decide (r1.2.2.2.2.2.2.2.1 = (0 : Int)) == decide (a1 < (64 : Int))) (
    .ret (Sum.inr (Sum.inl (false, ())))) (
    .ite (!decide (r1.2.2.2.2.2.2.2.1 = (0 : Int))) (
     .ite (!decide (r1.2.2.2.2.2.2.2.1 = (6 : Int))) (
      .ret (Sum.inr (Sum.inl (false, ())))) (
      .ret (Sum.inl (IntKind.wrap IntKind.i64 (a0 + (1 : Int)), (a1, (a2, (a3, (a4, (a5, (a6, (a7, (a8, (a9, (a10, (r1.1, (r1.2.1, (r1.2.2.1, (r1.2.2.2.1, (r1.2.2.2.2.1, (r1.2.2.2.2.2.1, ())))))))))))))))))))) (
     .ret (Sum.inl (IntKind.wrap IntKind.i64 (a0 + (1 : Int)), (a1, (a2, (a3, (a4, (a5, (a6, (a7, (a8, (a9, (a10, (r1.1, (r1.2.1, (r1.2.2.1, (r1.2.2.2.1, (r1.2.2.2.2.1, (r1.2.2.2.2.2.1, ())))))))))))))))))))))))) (
   .ret (Sum.inr (Sum.inr (a2, (a4, (a7, (a8, (a9, (a10, (a11, (a12, (a13, (a14, (a15, (a16, ())))))))))))))))
def natRoom_loop4_14 (x : (Int × (Int × (Int × (Int × (Int × (Int × (Int × ((List Int) × (Int × (Int × (Int × (Int × (Int × (Int × (Int × (Int × ((List TMap) × Unit)))))))))))))))))) : Option ((Bool × Unit) ⊕ (Int × (Int × ((List Int) × (Int × (Int × (Int × (Int × (Int × (Int × (Int × (Int × ((List TMap) × Unit))))))))))))) := loopO 40014 (fun x => (natRoom_step4_14 x).eval) 18446744073709551616 x
def natRoom_L4_8 : LS := ⟨8, [(7, 7)], ⟨94, [(7, .v (.one (.ptr 7 0))), (1, .v (.one (.i .i64))), (8, .v (.one (.i .i64))), (39, .v (.one (.i .i64))), (2, .v (.one (.st 0 false))), (0, .v (.one (.i .i64))), (36, .v (.one (.i .i64)))], [(7, .cells [.i .i64, .i .i64, .i .u64, .i .i64, .i .u64, .st 17 true])]⟩, [⟨none, [], ⟨94, [(6, .v (.one (.b)))], []⟩⟩, ⟨some 2, [(7, 7)], ⟨94, [(7, .v (.one (.ptr 7 0))), (2, .v (.one (.st 0 false))), (0, .v (.one (.i .i64))), (36, .v (.one (.i .i64))), (1, .v (.one (.i .i64)))], [(7, .cells [.i .i64, .i .i64, .i .u64, .i .i64, .i .u64, .st 17 true])]⟩⟩], []⟩
def natRoom_step4_8 : (Int × (Int × (Int × ((List Int) × (Int × (Int × (Int × (Int × (Int × (Int × (Int × ((List TMap) × Unit)))))))))))) → Tr ((Int × (Int × (Int × ((List Int) × (Int × (Int × (Int × (Int × (Int × (Int × (Int × ((List TMap) × Unit)))))))))))) ⊕ ((Bool × Unit) ⊕ ((List Int) × (Int × (Int × (Int × (Int × (Int × (Int × (Int × (Int × ((List TMap) × Unit)))))))))))) :=
  fun (a0, a1, a2, a3, a4, a5, a6, a7, a8, a9, a10, a11, _) =>
  .ite (decide (a2 < (65 : Int))) (
   .ite (decide (a2 < (↑(List.length a3) : Int))) (
    .grd (decide ((0 : Int) ≤ a2)) (
    .opt (β := Int) (a3[Int.toNat a2]?) (fun r0 =>
    .opt (β := ((Bool × Unit) ⊕ (Int × (Int × ((List Int) × (Int × (Int × (Int × (Int × (Int × (Int × (Int × (Int × ((List TMap) × Unit)))))))))))))) ((natRoom_loop4_14 ((0 : Int), (a2, (a0, (if false = true then if (if true = true then if (65535 : Int) < r0 then (65535 : Int) else r0 else if (65535 : Int) > r0 then (65535 : Int) else r0) < (0 : Int) then if true = true then if (65535 : Int) < r0 then (65535 : Int) else r0 else if (65535 : Int) > r0 then (65535 : Int) else r0 else (0 : Int) else if (if true = true then if (65535 : Int) < r0 then (65535 : Int) else r0 else if (65535 : Int) > r0 then (65535 : Int) else r0) > (0 : Int) then if true = true then if (65535 : Int) < r0 then (65535 : Int) else r0 else if (65535 : Int) > r0 then (65535 : Int) else r0 else (0 : Int), (a1, ((6 : Int), ((17 : Int), (a3, (a4, (a5, (a2, (a6, (a7, (a8, (a9, (a10, (a11, ()))))))))))))))))))) (fun r1 =>
    .sum (β := (Bool × Unit)) (γ := (Int × (Int × ((List Int) × (Int × (Int × (Int × (Int × (Int × (Int × (Int × (Int × ((List TMap) × Unit))))))))))))) (r1) (fun r2 =>
     .ret (Sum.inr (Sum.inl (r2.1, ())))) (fun r2 =>
     .ret (Sum.inl (r2.1, (r2.2.1, (IntKind.wrap IntKind.i64 (r2.2.2.2.2.2.1 + (1 : Int)), (r2.2.2.1, (r2.2.2.2.1, (r2.2.2.2.2.1, (r2.2.2.2.2.2.2.1, (r2.2.2.2.2.2.2.2.1, (r2.2.2.2.2.2.2.2.2.1, (r2.2.2.2.2.2.2.2.2.2.1, (r2.2.2.2.2.2.2.2.2.2.2.1, (r2.2.2.2.2.2.2.2.2.2.2.2.1, ())))))))))))))))))) (
    .opt (β := ((Bool × Unit) ⊕ (Int × (Int × ((List Int) × (Int × (Int × (Int × (Int × (Int × (Int × (Int × (Int × ((List TMap) × Unit)))))))))))))) ((natRoom_loop4_14 ((0 : Int), (a2, (a0, ((80 : Int), (a1, ((6 : Int), ((17 : Int), (a3, (a4, (a5, (a2, (a6, (a7, (a8, (a9, (a10, (a11, ()))))))))))))))))))) (fun r0 =>
    .sum (β := (Bool × Unit)) (γ := (Int × (Int × ((List Int) × (Int × (Int × (Int × (Int × (Int × (Int × (Int × (Int × ((List TMap) × Unit))))))))))))) (r0) (fun r1 =>
     .ret (Sum.inr (Sum.inl (r1.1, ())))) (fun r1 =>
     .ret (Sum.inl (r1.1, (r1.2.1, (IntKind.wrap IntKind.i64 (r1.2.2.2.2.2.1 + (1 : Int)), (r1.2.2.1, (r1.2.2.2.1, (r1.2.2.2.2.1, (r1.2.2.2.2.2.2.1, (r1.2.2.2.2.2.2.2.1, (r1.2.2.2.2.2.2.2.2.1, (r1.2.2.2.2.2.2.2.2.2.1, (r1.2.2.2.2.2.2.2.2.2.2.1, (r1.2.2.2.2.2.2.2.2.2.2.2.1, ()))))))))))))))))) (
   .ret (Sum.inr (Sum.inr (a3, (a4, (a5, (a0, (a6, (a7, (a8, (a9, (a10, (a11, ())))))))))))))
def natRoom_loop4_8 (x : (Int × (Int × (Int × ((List Int) × (Int × (Int × (Int × (Int × (Int × (Int × (Int × ((List TMap) × Unit))))))))))))) : Option ((Bool × Unit) ⊕ ((List Int) × (Int × (Int × (Int × (Int × (Int × (Int × (Int × (Int × ((List TMap) × Unit))))))))))) := loopO 40008 (fun x => (natRoom_step4_8 x).eval) 18446744073709551616 x
def natRoom_L4_5 : LS := ⟨5, [(7, 7)], ⟨94, [(7, .v (.one (.ptr 7 0))), (1, .v (.one (.i .i64))), (2, .v (.one (.st 0 false))), (36, .v (.one (.i .i64))), (0, .v (.one (.i .i64)))], [(7, .cells [.i .i64, .i .i64, .i .u64, .i .i64, .i .u64, .st 17 true])]⟩, [⟨none, [], ⟨94, [(6, .v (.one (.b)))], []⟩⟩, ⟨some 0, [(7, 7)], ⟨94, [(7, .v (.one (.ptr 7 0)))], [(7, .cells [.i .i64, .i .i64, .i .u64, .i .i64, .i .u64, .st 17 true])]⟩⟩], []⟩
def natRoom_step4_5 : (Int × ((List Int) × (Int × (Int × (Int × (Int × (Int × (Int × (Int × ((List TMap) × Unit)))))))))) → Tr ((Int × ((List Int) × (Int × (Int × (Int × (Int × (Int × (Int × (Int × ((List TMap) × Unit)))))))))) ⊕ ((Bool × Unit) ⊕ (Int × (Int × (Int × (Int × (Int × ((List TMap) × Unit)))))))) :=
  fun (a0, a1, a2, a3, a4, a5, a6, a7, a8, a9, _) =>
  .ite (decide (a2 < (2 : Int))) (
   .opt (β := ((Bool × Unit) ⊕ ((List Int) × (Int × (Int × (Int × (Int × (Int × (Int × (Int × (Int × ((List TMap) × Unit)))))))))))) ((natRoom_loop4_8 (a0, (a2, ((0 : Int), (a1, (a3, (a2, (a4, (a5, (a6, (a7, (a8, (a9, ())))))))))))))) (fun r0 =>
   .sum (β := (Bool × Unit)) (γ := ((List Int) × (Int × (Int × (Int × (Int × (Int × (Int × (Int × (Int × ((List TMap) × Unit))))))))))) (r0) (fun r1 =>
    .ret (Sum.inr (Sum.inl (r1.1, ())))) (fun r1 =>
    .ret (Sum.inl (IntKind.wrap IntKind.i64 (r1.2.2.2.1 + IntKind.wrap IntKind.i64 (r1.2.1 + (1 : Int))), (r1.1, (IntKind.wrap IntKind.i64 (r1.2.2.1 + (1 : Int)), (r1.2.1, (r1.2.2.2.2.1, (r1.2.2.2.2.2.1, (r1.2.2.2.2.2.2.1, (r1.2.2.2.2.2.2.2.1, (r1.2.2.2.2.2.2.2.2.1, (r1.2.2.2.2.2.2.2.2.2.1, ())))))))))))))) (
   .ret (Sum.inr (Sum.inr (a4, (a5, (a6, (a7, (a8, (a9, ())))))))))
def natRoom_loop4_5 (x : (Int × ((List Int) × (Int × (Int × (Int × (Int × (Int × (Int × (Int × ((List TMap) × Unit))))))))))) : Option ((Bool × Unit) ⊕ (Int × (Int × (Int × (Int × (Int × ((List TMap) × Unit))))))) := loopO 40005 (fun x => (natRoom_step4_5 x).eval) 18446744073709551616 x
def natRoom_ap : List VP1 := [.one (.i .i64), .one (.i .i64), .one (.st 0 false)]
def natRoom_rp : SP := ⟨1, [(0, .v (.one (.b)))], []⟩
def natRoom_tree : (Int × (Int × ((List Int) × Unit))) → Tr (Bool × Unit) :=
  fun (a0, a1, a2, _) =>
  .opt (β := (Bool × Unit)) ((natLives_fn ())) (fun r0 =>
  .ite (!r0.1) (
   .opt (β := (Bool × Unit)) ((natLives_fn ())) (fun r1 =>
   .ret (r1.1, ()))) (
   .opt (β := (Int × Unit)) ((natCheck_fn (a0, ((1024 : Int), ((0 : Int), ((4096 : Int), ((0 : Int), ([], ())))))))) (fun r1 =>
   .ite (!decide (r1.1 = (0 : Int))) (
    .opt (β := (Bool × Unit)) ((natLives_fn ())) (fun r2 =>
    .ret (r2.1, ()))) (
    .ite (decide (a1 < (0 : Int))) (
     .opt (β := (Bool × Unit)) ((natLives_fn ())) (fun r2 =>
     .ret (r2.1, ()))) (
     .ite (decide ((549755813888 : Int) < a1)) (
      .opt (β := (Bool × Unit)) ((natLives_fn ())) (fun r2 =>
      .ret (r2.1, ()))) (
      .opt (β := ((Bool × Unit) ⊕ (Int × (Int × (Int × (Int × (Int × ((List TMap) × Unit)))))))) ((natRoom_loop4_5 (a1, (a2, ((0 : Int), (a0, (a0, ((1024 : Int), ((0 : Int), ((4096 : Int), ((0 : Int), ([], ())))))))))))) (fun r2 =>
      .sum (β := (Bool × Unit)) (γ := (Int × (Int × (Int × (Int × (Int × ((List TMap) × Unit))))))) (r2) (fun r3 =>
       .ret (r3.1, ())) (fun r3 =>
       .opt (β := (Int × Unit)) ((natRight_fn (r3.1, (r3.2.1, (r3.2.2.1, (r3.2.2.2.1, (r3.2.2.2.2.1, (r3.2.2.2.2.2.1, ())))))))) (fun r4 =>
       .ret (decide (r4.1 = (0 : Int)), ()))))))))))
theorem natRoom_eq (x : (Int × (Int × ((List Int) × Unit)))) : fnTr Tryd.prog cod [tz64, FS.pf portsCheck, FS.pf portsLet, FS.pf portsEnd, clMap, GS.pf delMap, FS.pf eqMap, FS.pf natWithin, FS.pf natCheck, natPlace, GS.pf natExpire, FS.pf natOut, FS.pf natIn, FS.pf natLives, FS.pf eqMap2, FS.pf rBetween, FS.pf portsRight, FS.pf freePorts, FS.pf indexInt, FS.pf containsInt, FS.pf natTaken, FS.pf natRight, FS.pf idxMap, FS.pf containsMap, FS.pf natBack, FS.pf natApart] [(4, natRoom_L4_14), (4, natRoom_L4_8), (4, natRoom_L4_5)] 30 4 natRoom_ap natRoom_rp x = natRoom_tree x := by kernel_rfl
def natRoom_fn (x : (Int × (Int × ((List Int) × Unit)))) : Option (Bool × Unit) := (natRoom_tree x).eval
def natRoom : FS Tryd.prog := ⟨4, natRoom_ap, natRoom_rp, natRoom_fn, fun x r h => fnTr_sound (cod := cod) (Γ := [tz64, FS.pf portsCheck, FS.pf portsLet, FS.pf portsEnd, clMap, GS.pf delMap, FS.pf eqMap, FS.pf natWithin, FS.pf natCheck, natPlace, GS.pf natExpire, FS.pf natOut, FS.pf natIn, FS.pf natLives, FS.pf eqMap2, FS.pf rBetween, FS.pf portsRight, FS.pf freePorts, FS.pf indexInt, FS.pf containsInt, FS.pf natTaken, FS.pf natRight, FS.pf idxMap, FS.pf containsMap, FS.pf natBack, FS.pf natApart]) (Λs := [(4, natRoom_L4_14), (4, natRoom_L4_8), (4, natRoom_L4_5)]) (n := 30) ((congrArg Tr.eval (natRoom_eq x)).trans h)⟩
end Go.Proofs.YtcdcdmfecglemaaDoor.X
