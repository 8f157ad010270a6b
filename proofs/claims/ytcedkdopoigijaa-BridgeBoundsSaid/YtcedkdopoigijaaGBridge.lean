/- Functions of the program, as trees (printed by a program of mine: tool/XTool, xg.py), each with the proof that the machine comes to what its tree says. Conditions: none. -/
import Derived.Test.YtcedkdopoigijaaCod
import Derived.KernelRfl
import Derived.Test.YtcedkdopoigijaaGEth
namespace Go.Proofs.Ytcedkdopoigijaa.X
open Go Go.RowKit Go.Proofs.Ytcedkdopoigijaa.Abs
set_option maxRecDepth 100000
set_option linter.unusedVariables false
theorem clStation_h1 (xs : List (τ 15)) : (bodyTr Go.Proofs.Try.prog cod 66 [.one (.nn (.st 15 xs))]).eval = (cloneRes 98 15 24 xs).eval := by kernel_rfl
theorem clStation_h2 : (bodyTr Go.Proofs.Try.prog cod 66 [.one .nil]).eval = some (.one .nil, []) := by kernel_rfl
def clStation : PF Go.Proofs.Try.prog := clonePF Go.Proofs.Try.prog cod 66 98 15 24 clStation_h1 clStation_h2
def delStation_ap : SP := ⟨33, [(0, .v (.one (.own 1000100))), (1, .v (.one (.i .i64))), (2, .v (.one (.i .i64)))], [(1000100, .row 98 15 true true)]⟩
def delStation_rp : SP := ⟨1, [(0, .v (.one (.own 1000100)))], [(1000100, .row 98 15 true true)]⟩
def delStation_tree : (Int × (Int × ((List TStation) × Unit))) → Tr ((List TStation) × Unit) :=
  fun (a0, a1, a2, _) =>
  .grd (decide ((0 : Int) ≤ a0 ∧ a0 ≤ a1 ∧ a1 ≤ (↑(List.length a2) : Int) ∧ (↑(List.length a2) : Int) ≤ (↑(List.length a2) : Int))) (
  .ite (decide (a0 = a1)) (
   .grd (decide (List.length a2 = List.length a2)) (
   .ret (a2, ()))) (
   .grd (decide ((0 : Int) ≤ a0 ∧ a0 ≤ (↑(List.length a2) : Int))) (
   .grd (decide ((0 : Int) ≤ a1 ∧ a1 ≤ (↑(List.length a2) : Int) ∧ (↑(List.length a2) : Int) ≤ (↑(List.length a2) : Int))) (
   .grd (decide (Int.toNat a1 + Int.toNat ((↑(List.length a2) : Int) - a1) ≤ List.length a2)) (
   .grd (decide (Int.toNat a0 + List.length (List.take (Int.toNat ((↑(List.length a2) : Int) - a1)) (List.drop (Int.toNat a1) a2)) ≤ List.length a2)) (
   .grd (decide ((0 : Int) ≤ (↑(Int.toNat a0 + List.length (List.take (Int.toNat ((↑(List.length a2) : Int) - a1)) (List.drop (Int.toNat a1) a2))) : Int) ∧ (↑(Int.toNat a0 + List.length (List.take (Int.toNat ((↑(List.length a2) : Int) - a1)) (List.drop (Int.toNat a1) a2))) : Int) ≤ (↑(List.length a2) : Int) ∧ (↑(List.length a2) : Int) ≤ (↑(List.length (List.take (Int.toNat a0) a2 ++ List.take (Int.toNat ((↑(List.length a2) : Int) - a1)) (List.drop (Int.toNat a1) a2) ++ List.drop (Int.toNat a0 + List.length (List.take (Int.toNat ((↑(List.length a2) : Int) - a1)) (List.drop (Int.toNat a1) a2))) a2)) : Int))) (
   .grd (decide (Int.toNat (↑(Int.toNat a0 + List.length (List.take (Int.toNat ((↑(List.length a2) : Int) - a1)) (List.drop (Int.toNat a1) a2))) : Int) + Int.toNat ((↑(List.length a2) : Int) - (↑(Int.toNat a0 + List.length (List.take (Int.toNat ((↑(List.length a2) : Int) - a1)) (List.drop (Int.toNat a1) a2))) : Int)) ≤ List.length (List.take (Int.toNat a0) a2 ++ List.take (Int.toNat ((↑(List.length a2) : Int) - a1)) (List.drop (Int.toNat a1) a2) ++ List.drop (Int.toNat a0 + List.length (List.take (Int.toNat ((↑(List.length a2) : Int) - a1)) (List.drop (Int.toNat a1) a2))) a2))) (
   .grd (decide (Int.toNat a0 + List.length (List.take (Int.toNat ((↑(List.length a2) : Int) - a1)) (List.drop (Int.toNat a1) a2)) = List.length (List.take (Int.toNat a0 + List.length (List.take (Int.toNat ((↑(List.length a2) : Int) - a1)) (List.drop (Int.toNat a1) a2))) (List.take (Int.toNat (↑(Int.toNat a0 + List.length (List.take (Int.toNat ((↑(List.length a2) : Int) - a1)) (List.drop (Int.toNat a1) a2))) : Int)) (List.take (Int.toNat a0) a2 ++ List.take (Int.toNat ((↑(List.length a2) : Int) - a1)) (List.drop (Int.toNat a1) a2) ++ List.drop (Int.toNat a0 + List.length (List.take (Int.toNat ((↑(List.length a2) : Int) - a1)) (List.drop (Int.toNat a1) a2))) a2) ++ List.replicate (Int.toNat ((↑(List.length a2) : Int) - (↑(Int.toNat a0 + List.length (List.take (Int.toNat ((↑(List.length a2) : Int) - a1)) (List.drop (Int.toNat a1) a2))) : Int))) (TStation.mk (0 : Int) (0 : Int) (0 : Int) (0 : Int) (0 : Int) (0 : Int) (0 : Int) (0 : Int)) ++ List.drop (Int.toNat (↑(Int.toNat a0 + List.length (List.take (Int.toNat ((↑(List.length a2) : Int) - a1)) (List.drop (Int.toNat a1) a2))) : Int) + List.length (List.replicate (Int.toNat ((↑(List.length a2) : Int) - (↑(Int.toNat a0 + List.length (List.take (Int.toNat ((↑(List.length a2) : Int) - a1)) (List.drop (Int.toNat a1) a2))) : Int))) (TStation.mk (0 : Int) (0 : Int) (0 : Int) (0 : Int) (0 : Int) (0 : Int) (0 : Int) (0 : Int)))) (List.take (Int.toNat a0) a2 ++ List.take (Int.toNat ((↑(List.length a2) : Int) - a1)) (List.drop (Int.toNat a1) a2) ++ List.drop (Int.toNat a0 + List.length (List.take (Int.toNat ((↑(List.length a2) : Int) - a1)) (List.drop (Int.toNat a1) a2))) a2))))) (
   .ret (List.take (Int.toNat a0 + List.length (List.take (Int.toNat ((↑(List.length a2) : Int) - a1)) (List.drop (Int.toNat a1) a2))) (List.take (Int.toNat (↑(Int.toNat a0 + List.length (List.take (Int.toNat ((↑(List.length a2) : Int) - a1)) (List.drop (Int.toNat a1) a2))) : Int)) (List.take (Int.toNat a0) a2 ++ List.take (Int.toNat ((↑(List.length a2) : Int) - a1)) (List.drop (Int.toNat a1) a2) ++ List.drop (Int.toNat a0 + List.length (List.take (Int.toNat ((↑(List.length a2) : Int) - a1)) (List.drop (Int.toNat a1) a2))) a2) ++ List.replicate (Int.toNat ((↑(List.length a2) : Int) - (↑(Int.toNat a0 + List.length (List.take (Int.toNat ((↑(List.length a2) : Int) - a1)) (List.drop (Int.toNat a1) a2))) : Int))) (TStation.mk (0 : Int) (0 : Int) (0 : Int) (0 : Int) (0 : Int) (0 : Int) (0 : Int) (0 : Int)) ++ List.drop (Int.toNat (↑(Int.toNat a0 + List.length (List.take (Int.toNat ((↑(List.length a2) : Int) - a1)) (List.drop (Int.toNat a1) a2))) : Int) + List.length (List.replicate (Int.toNat ((↑(List.length a2) : Int) - (↑(Int.toNat a0 + List.length (List.take (Int.toNat ((↑(List.length a2) : Int) - a1)) (List.drop (Int.toNat a1) a2))) : Int))) (TStation.mk (0 : Int) (0 : Int) (0 : Int) (0 : Int) (0 : Int) (0 : Int) (0 : Int) (0 : Int)))) (List.take (Int.toNat a0) a2 ++ List.take (Int.toNat ((↑(List.length a2) : Int) - a1)) (List.drop (Int.toNat a1) a2) ++ List.drop (Int.toNat a0 + List.length (List.take (Int.toNat ((↑(List.length a2) : Int) - a1)) (List.drop (Int.toNat a1) a2))) a2)), ()))))))))))
theorem delStation_eq (x : (Int × (Int × ((List TStation) × Unit)))) : gsTr Try.prog cod [FS.pf ethMany, FS.pf ethWrite, FS.pf ethRead, clStation] [] 30 81 delStation_ap delStation_rp x = delStation_tree x := by kernel_rfl
def delStation_fn (x : (Int × (Int × ((List TStation) × Unit)))) : Option ((List TStation) × Unit) := (delStation_tree x).eval
def delStation : GS Try.prog := ⟨81, [1, 0, 0], delStation_ap, delStation_rp, delStation_fn, fun x r h ys m g he hg => gs_sound (cod := cod) (Γ := [FS.pf ethMany, FS.pf ethWrite, FS.pf ethRead, clStation]) (Λs := []) (n := 30) ((congrArg Tr.eval (delStation_eq x)).trans h) he hg⟩
def brCheck_L47_8 : LS := ⟨8, [(29, 29), (1, 1)], ⟨80, [(33, .v (.one (.i .i64))), (4, .v (.one (.mp 29))), (3, .v (.one (.i .i64))), (1, .v (.one (.ptr 1 0))), (31, .v (.one (.st 15 false))), (32, .v (.one (.i .i64)))], [(29, .map 29), (1, .cells [.i .i64, .i .i64, .st 15 false])]⟩, [⟨none, [], ⟨80, [(2, .v (.one (.i .i64)))], []⟩⟩, ⟨some 0, [], ⟨80, [], []⟩⟩], []⟩
def brCheck_step47_8 : (Int × (Int × ((List TStation) × (Int × ((List (TMac × Int)) × (Int × (Int × ((List TStation) × Unit)))))))) → Tr ((Int × (Int × ((List TStation) × (Int × ((List (TMac × Int)) × (Int × (Int × ((List TStation) × Unit)))))))) ⊕ ((Int × Unit) ⊕ Unit)) :=
  fun (a0, a1, a2, a3, a4, a5, a6, a7, _) =>
  .ite (decide (a0 < a3)) (
   .grd (decide ((0 : Int) ≤ a0)) (
   .opt (β := TStation) (a2[Int.toNat a0]?) (fun r0 =>
   .grd (decide ((0 : Int) ≤ (↑(Option.getD (mIdx (29 : Nat) (TMac.mk r0.m0 r0.m1 r0.m2 r0.m3 r0.m4 r0.m5) a4) (List.length a4)) : Int) ∧ Int.toNat (↑(Option.getD (mIdx (29 : Nat) (TMac.mk r0.m0 r0.m1 r0.m2 r0.m3 r0.m4 r0.m5) a4) (List.length a4)) : Int) < List.length (mPut (29 : Nat) (TMac.mk r0.m0 r0.m1 r0.m2 r0.m3 r0.m4 r0.m5) (Option.getD (mGet (29 : Nat) (TMac.mk r0.m0 r0.m1 r0.m2 r0.m3 r0.m4 r0.m5) a4) (0 : Int)) a4))) (
   .ite (decide (r0.port < (0 : Int))) (
    .ret (Sum.inr (Sum.inl ((4 : Int), ())))) (
    .ite (decide (a5 ≤ r0.port)) (
     .ret (Sum.inr (Sum.inl ((4 : Int), ())))) (
     .ite (decide (r0.at' < a1)) (
      .ret (Sum.inr (Sum.inl ((4 : Int), ())))) (
      .ite (decide ((1099511627776 : Int) < r0.at')) (
       .ret (Sum.inr (Sum.inl ((4 : Int), ())))) (
       .opt (β := (Bool × Unit)) ((ethMany_fn (r0.m0, (r0.m1, (r0.m2, (r0.m3, (r0.m4, (r0.m5, ())))))))) (fun r1 =>
       .ite (r1.1) (
        .ret (Sum.inr (Sum.inl ((4 : Int), ())))) (
        .ite (decide ((1 : Int) < Option.getD (mGet (29 : Nat) (TMac.mk r0.m0 r0.m1 r0.m2 r0.m3 r0.m4 r0.m5) (mSet (29 : Nat) (Int.toNat (↑(Option.getD (mIdx (29 : Nat) (TMac.mk r0.m0 r0.m1 r0.m2 r0.m3 r0.m4 r0.m5) a4) (List.length a4)) : Int)) (IntKind.wrap IntKind.i64 (Option.getD (mGet (29 : Nat) (TMac.mk r0.m0 r0.m1 r0.m2 r0.m3 r0.m4 r0.m5) a4) (0 : Int) + (1 : Int))) (mPut (29 : Nat) (TMac.mk r0.m0 r0.m1 r0.m2 r0.m3 r0.m4 r0.m5) (Option.getD (mGet (29 : Nat) (TMac.mk r0.m0 r0.m1 r0.m2 r0.m3 r0.m4 r0.m5) a4) (0 : Int)) a4))) (0 : Int))) (
         .ret (Sum.inr (Sum.inl ((4 : Int), ())))) (
         .ret (Sum.inl (IntKind.wrap IntKind.i64 (a0 + (1 : Int)), (r0.at', (a2, (a3, (mSet (29 : Nat) (Int.toNat (↑(Option.getD (mIdx (29 : Nat) (TMac.mk r0.m0 r0.m1 r0.m2 r0.m3 r0.m4 r0.m5) a4) (List.length a4)) : Int)) (IntKind.wrap IntKind.i64 (Option.getD (mGet (29 : Nat) (TMac.mk r0.m0 r0.m1 r0.m2 r0.m3 r0.m4 r0.m5) a4) (0 : Int) + (1 : Int))) (mPut (29 : Nat) (TMac.mk r0.m0 r0.m1 r0.m2 r0.m3 r0.m4 r0.m5) (Option.getD (mGet (29 : Nat) (TMac.mk r0.m0 r0.m1 r0.m2 r0.m3 r0.m4 r0.m5) a4) (0 : Int)) a4), (a5, (a6, (a7, ())))))))))))))))))))) (
   .ret (Sum.inr (Sum.inr ())))
def brCheck_loop47_8 (x : (Int × (Int × ((List TStation) × (Int × ((List (TMac × Int)) × (Int × (Int × ((List TStation) × Unit))))))))) : Option ((Int × Unit) ⊕ Unit) := loopO 470008 (fun x => (brCheck_step47_8 x).eval) 18446744073709551616 x
def brCheck_ap : List VP1 := [.agg [.i .i64, .i .i64, .st 15 false]]
def brCheck_rp : SP := ⟨1, [(0, .v (.one (.i .i64)))], []⟩
def brCheck_tree : (Int × (Int × ((List TStation) × Unit))) → Tr (Int × Unit) :=
  fun (a0, a1, a2, _) =>
  .ite (decide (a0 < (2 : Int))) (
   .ret ((1 : Int), ())) (
   .ite (decide ((16 : Int) < a0)) (
    .ret ((1 : Int), ())) (
    .ite (decide (a1 < (1 : Int))) (
     .ret ((1 : Int), ())) (
     .ite (decide ((1000000 : Int) < a1)) (
      .ret ((1 : Int), ())) (
      .ite (decide ((64 : Int) < (↑(List.length a2) : Int))) (
       .ret ((2 : Int), ())) (
       .opt (β := ((Int × Unit) ⊕ Unit)) ((brCheck_loop47_8 ((0 : Int), ((0 : Int), (a2, ((↑(List.length a2) : Int), ([], (a0, (a1, (a2, ())))))))))) (fun r0 =>
       .sum (β := (Int × Unit)) (γ := Unit) (r0) (fun r1 =>
        .ret (r1.1, ())) (fun r1 =>
        .ret ((0 : Int), ()))))))))
theorem brCheck_eq (x : (Int × (Int × ((List TStation) × Unit)))) : fnTr Try.prog cod [FS.pf ethMany, FS.pf ethWrite, FS.pf ethRead, clStation, GS.pf delStation] [(47, brCheck_L47_8)] 30 47 brCheck_ap brCheck_rp x = brCheck_tree x := by kernel_rfl
def brCheck_fn (x : (Int × (Int × ((List TStation) × Unit)))) : Option (Int × Unit) := (brCheck_tree x).eval
def brCheck : FS Try.prog := ⟨47, brCheck_ap, brCheck_rp, brCheck_fn, fun x r h => fnTr_sound (cod := cod) (Γ := [FS.pf ethMany, FS.pf ethWrite, FS.pf ethRead, clStation, GS.pf delStation]) (Λs := [(47, brCheck_L47_8)]) (n := 30) ((congrArg Tr.eval (brCheck_eq x)).trans h)⟩
def brLast_ap : List VP1 := [.agg [.i .i64, .i .i64, .st 15 false]]
def brLast_rp : SP := ⟨1, [(0, .v (.one (.i .i64)))], []⟩
def brLast_tree : (Int × (Int × ((List TStation) × Unit))) → Tr (Int × Unit) :=
  fun (a0, a1, a2, _) =>
  .ite (decide ((0 : Int) < (↑(List.length a2) : Int))) (
   .grd (decide ((0 : Int) ≤ IntKind.wrap IntKind.i64 ((↑(List.length a2) : Int) - (1 : Int)))) (
   .opt (β := TStation) (a2[Int.toNat (IntKind.wrap IntKind.i64 ((↑(List.length a2) : Int) - (1 : Int)))]?) (fun r0 =>
   .ret (r0.at', ())))) (
   .ret ((0 : Int), ()))
theorem brLast_eq (x : (Int × (Int × ((List TStation) × Unit)))) : fnTr Try.prog cod [FS.pf ethMany, FS.pf ethWrite, FS.pf ethRead, clStation, GS.pf delStation, FS.pf brCheck] [] 30 67 brLast_ap brLast_rp x = brLast_tree x := by kernel_rfl
def brLast_fn (x : (Int × (Int × ((List TStation) × Unit)))) : Option (Int × Unit) := (brLast_tree x).eval
def brLast : FS Try.prog := ⟨67, brLast_ap, brLast_rp, brLast_fn, fun x r h => fnTr_sound (cod := cod) (Γ := [FS.pf ethMany, FS.pf ethWrite, FS.pf ethRead, clStation, GS.pf delStation, FS.pf brCheck]) (Λs := []) (n := 30) ((congrArg Tr.eval (brLast_eq x)).trans h)⟩
def brFind_L69_2 : LS := ⟨2, [(3, 3), (4, 4)], ⟨33, [(13, .v (.one (.i .i64))), (3, .v (.one (.ptr 3 0))), (2, .v (.one (.i .i64))), (4, .v (.one (.ptr 4 0))), (11, .v (.one (.st 15 false))), (12, .v (.one (.i .i64)))], [(3, .cells [.i .i64, .i .i64, .st 15 false]), (4, .cells [.i .u8, .i .u8, .i .u8, .i .u8, .i .u8, .i .u8])]⟩, [⟨none, [], ⟨33, [(6, .v (.one (.i .i64))), (7, .v (.one (.b)))], []⟩⟩, ⟨some 0, [], ⟨33, [], []⟩⟩], []⟩
def brFind_step69_2 : (Int × (Int × ((List TStation) × (Int × (Int × (Int × ((List TStation) × (Int × (Int × (Int × (Int × (Int × (Int × Unit))))))))))))) → Tr ((Int × (Int × ((List TStation) × (Int × (Int × (Int × ((List TStation) × (Int × (Int × (Int × (Int × (Int × (Int × Unit))))))))))))) ⊕ ((Int × (Bool × Unit)) ⊕ Unit)) :=
  fun (a0, a1, a2, a3, a4, a5, a6, a7, a8, a9, a10, a11, a12, _) =>
  .ite (decide (a0 < a3)) (
   .grd (decide ((0 : Int) ≤ a0)) (
   .opt (β := TStation) (a2[Int.toNat a0]?) (fun r0 =>
   .ite (decide (r0.m0 = a7) && (decide (r0.m1 = a8) && (decide (r0.m2 = a9) && (decide (r0.m3 = a10) && (decide (r0.m4 = a11) && (decide (r0.m5 = a12) && true)))))) (
    .ite (decide (IntKind.wrap IntKind.i64 (a1 - r0.at') ≤ a5)) (
     .ret (Sum.inr (Sum.inl (r0.port, (true, ()))))) (
     .ret (Sum.inl (IntKind.wrap IntKind.i64 (a0 + (1 : Int)), (a1, (a2, (a3, (a4, (a5, (a6, (a7, (a8, (a9, (a10, (a11, (a12, ())))))))))))))))) (
    .ret (Sum.inl (IntKind.wrap IntKind.i64 (a0 + (1 : Int)), (a1, (a2, (a3, (a4, (a5, (a6, (a7, (a8, (a9, (a10, (a11, (a12, ())))))))))))))))))) (
   .ret (Sum.inr (Sum.inr ())))
def brFind_loop69_2 (x : (Int × (Int × ((List TStation) × (Int × (Int × (Int × ((List TStation) × (Int × (Int × (Int × (Int × (Int × (Int × Unit)))))))))))))) : Option ((Int × (Bool × Unit)) ⊕ Unit) := loopO 690002 (fun x => (brFind_step69_2 x).eval) 18446744073709551616 x
def brFind_ap : List VP1 := [.agg [.i .i64, .i .i64, .st 15 false], .agg [.i .u8, .i .u8, .i .u8, .i .u8, .i .u8, .i .u8], .one (.i .i64)]
def brFind_rp : SP := ⟨1, [(0, .tup [.one (.i .i64), .one (.b)])], []⟩
def brFind_tree : (Int × (Int × ((List TStation) × (Int × (Int × (Int × (Int × (Int × (Int × (Int × Unit)))))))))) → Tr (Int × (Bool × Unit)) :=
  fun (a0, a1, a2, a3, a4, a5, a6, a7, a8, a9, _) =>
  .opt (β := ((Int × (Bool × Unit)) ⊕ Unit)) ((brFind_loop69_2 ((0 : Int), (a9, (a2, ((↑(List.length a2) : Int), (a0, (a1, (a2, (a3, (a4, (a5, (a6, (a7, (a8, ()))))))))))))))) (fun r0 =>
  .sum (β := (Int × (Bool × Unit))) (γ := Unit) (r0) (fun r1 =>
   .ret (r1.1, (r1.2.1, ()))) (fun r1 =>
   .ret ((0 : Int), (false, ()))))
theorem brFind_eq (x : (Int × (Int × ((List TStation) × (Int × (Int × (Int × (Int × (Int × (Int × (Int × Unit))))))))))) : fnTr Try.prog cod [FS.pf ethMany, FS.pf ethWrite, FS.pf ethRead, clStation, GS.pf delStation, FS.pf brCheck, FS.pf brLast] [(69, brFind_L69_2)] 30 69 brFind_ap brFind_rp x = brFind_tree x := by kernel_rfl
def brFind_fn (x : (Int × (Int × ((List TStation) × (Int × (Int × (Int × (Int × (Int × (Int × (Int × Unit))))))))))) : Option (Int × (Bool × Unit)) := (brFind_tree x).eval
def brFind : FS Try.prog := ⟨69, brFind_ap, brFind_rp, brFind_fn, fun x r h => fnTr_sound (cod := cod) (Γ := [FS.pf ethMany, FS.pf ethWrite, FS.pf ethRead, clStation, GS.pf delStation, FS.pf brCheck, FS.pf brLast]) (Λs := [(69, brFind_L69_2)]) (n := 30) ((congrArg Tr.eval (brFind_eq x)).trans h)⟩
end Go.Proofs.Ytcedkdopoigijaa.X
