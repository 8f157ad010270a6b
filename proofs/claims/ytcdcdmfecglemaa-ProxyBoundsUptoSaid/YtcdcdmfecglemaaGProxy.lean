/- Functions of the program, as trees (printed by a program of mine: tool/XTool, xg.py), each with the proof that the machine comes to what its tree says. Conditions: none. -/
import Derived.Test.YtcdcdmfecglemaaCod
import Derived.KernelRfl
import Derived.Test.YtcdcdmfecglemaaGTcp
namespace Go.Proofs.Ytcdcdmfecglemaa.X
open Go Go.RowKit Go.Proofs.Ytcdcdmfecglemaa.Abs
set_option maxRecDepth 100000
set_option linter.unusedVariables false
theorem clGuard_h1 (xs : List (τ 18)) : (bodyTr Go.Proofs.Try.prog cod 44 [.one (.nn (.st 18 xs))]).eval = (cloneRes 60 18 48 xs).eval := by kernel_rfl
theorem clGuard_h2 : (bodyTr Go.Proofs.Try.prog cod 44 [.one .nil]).eval = some (.one .nil, []) := by kernel_rfl
def clGuard : PF Go.Proofs.Try.prog := clonePF Go.Proofs.Try.prog cod 44 60 18 48 clGuard_h1 clGuard_h2
def delGuard_ap : SP := ⟨33, [(0, .v (.one (.own 1000100))), (1, .v (.one (.i .i64))), (2, .v (.one (.i .i64)))], [(1000100, .row 60 18 true true)]⟩
def delGuard_rp : SP := ⟨1, [(0, .v (.one (.own 1000100)))], [(1000100, .row 60 18 true true)]⟩
def delGuard_tree : (Int × (Int × ((List TGuarded) × Unit))) → Tr ((List TGuarded) × Unit) :=
  fun (a0, a1, a2, _) =>
  .grd (decide ((0 : Int) ≤ a0 ∧ a0 ≤ a1 ∧ a1 ≤ (↑(List.length a2) : Int) ∧ (↑(List.length a2) : Int) ≤ (↑(List.length a2) : Int))) (
  .ite (decide (a0 = a1)) (
   .grd (decide (List.length a2 = List.length a2)) (
   .ret (a2, ()))) (
   .grd (decide ((0 : Int) ≤ a0 ∧ a0 ≤ (↑(List.length a2) : Int))) (
   .grd (decide ((0 : Int) ≤ a1 ∧ a1 ≤ (↑(List.length a2) : Int) ∧ (↑(List.length a2) : Int) ≤ (↑(List.length a2) : Int))) (
   .grd (decide (Int.toNat a1 + Int.toNat ((↑(List.length a2) : Int) - a1) ≤ List.length a2)) (
   .grd (decide (Int.toNat a0 + List.length (List.take (Int.toNat ((↑(List.length a2) : Int) - a1)) (List.drop (Int.toNat a1) a2)) ≤ List.length a2)) (
   .grd (decide ((0 : Int) ≤ (↑(Int.toNat a0 + List.length (List.take (Int.toNat ((↑(List.length a2) : Int) - a1)) (List.drop (Int.toNat a1) a2))) : Int) ∧ (↑(Int.toNat a0 + List.length (List.take (Int.toNat ((↑(List.length a2) : Int) - a1)) (List.drop (Int.toNat a1) a2))) : Int) ≤ (↑(List.length a2) : Int) ∧ (↑(List.length a2) : Int) ≤ (↑(List.length (List.take (Int.toNat a0) a2 ++ List.take (Int.toNat ((↑(List.length a2) : Int) - a1)) (List.drop (Int.toNat a1) a2) ++ List.drop (Int.toNat a0 + List.length (List.take (Int.toNat ((↑(List.length a2) : Int) - a1)) (List.drop (Int.toNat a1) a2))) a2)) : Int))) (
   .grd (decide (Int.toNat (↑(Int.toNat a0 + List.length (List.take (Int.toNat ((↑(List.length a2) : Int) - a1)) (List.drop (Int.toNat a1) a2))) : Int) + Int.toNat ((↑(List.length a2) : Int) - (↑(Int.toNat a0 + List.length (List.take (Int.toNat ((↑(List.length a2) : Int) - a1)) (List.drop (Int.toNat a1) a2))) : Int)) ≤ List.length (List.take (Int.toNat a0) a2 ++ List.take (Int.toNat ((↑(List.length a2) : Int) - a1)) (List.drop (Int.toNat a1) a2) ++ List.drop (Int.toNat a0 + List.length (List.take (Int.toNat ((↑(List.length a2) : Int) - a1)) (List.drop (Int.toNat a1) a2))) a2))) (
   .grd (decide (Int.toNat a0 + List.length (List.take (Int.toNat ((↑(List.length a2) : Int) - a1)) (List.drop (Int.toNat a1) a2)) = List.length (List.take (Int.toNat a0 + List.length (List.take (Int.toNat ((↑(List.length a2) : Int) - a1)) (List.drop (Int.toNat a1) a2))) (List.take (Int.toNat (↑(Int.toNat a0 + List.length (List.take (Int.toNat ((↑(List.length a2) : Int) - a1)) (List.drop (Int.toNat a1) a2))) : Int)) (List.take (Int.toNat a0) a2 ++ List.take (Int.toNat ((↑(List.length a2) : Int) - a1)) (List.drop (Int.toNat a1) a2) ++ List.drop (Int.toNat a0 + List.length (List.take (Int.toNat ((↑(List.length a2) : Int) - a1)) (List.drop (Int.toNat a1) a2))) a2) ++ List.replicate (Int.toNat ((↑(List.length a2) : Int) - (↑(Int.toNat a0 + List.length (List.take (Int.toNat ((↑(List.length a2) : Int) - a1)) (List.drop (Int.toNat a1) a2))) : Int))) (TGuarded.mk (0 : Int) (0 : Int) (0 : Int) (0 : Int) (0 : Int) (0 : Int) (0 : Int) false (0 : Int)) ++ List.drop (Int.toNat (↑(Int.toNat a0 + List.length (List.take (Int.toNat ((↑(List.length a2) : Int) - a1)) (List.drop (Int.toNat a1) a2))) : Int) + List.length (List.replicate (Int.toNat ((↑(List.length a2) : Int) - (↑(Int.toNat a0 + List.length (List.take (Int.toNat ((↑(List.length a2) : Int) - a1)) (List.drop (Int.toNat a1) a2))) : Int))) (TGuarded.mk (0 : Int) (0 : Int) (0 : Int) (0 : Int) (0 : Int) (0 : Int) (0 : Int) false (0 : Int)))) (List.take (Int.toNat a0) a2 ++ List.take (Int.toNat ((↑(List.length a2) : Int) - a1)) (List.drop (Int.toNat a1) a2) ++ List.drop (Int.toNat a0 + List.length (List.take (Int.toNat ((↑(List.length a2) : Int) - a1)) (List.drop (Int.toNat a1) a2))) a2))))) (
   .ret (List.take (Int.toNat a0 + List.length (List.take (Int.toNat ((↑(List.length a2) : Int) - a1)) (List.drop (Int.toNat a1) a2))) (List.take (Int.toNat (↑(Int.toNat a0 + List.length (List.take (Int.toNat ((↑(List.length a2) : Int) - a1)) (List.drop (Int.toNat a1) a2))) : Int)) (List.take (Int.toNat a0) a2 ++ List.take (Int.toNat ((↑(List.length a2) : Int) - a1)) (List.drop (Int.toNat a1) a2) ++ List.drop (Int.toNat a0 + List.length (List.take (Int.toNat ((↑(List.length a2) : Int) - a1)) (List.drop (Int.toNat a1) a2))) a2) ++ List.replicate (Int.toNat ((↑(List.length a2) : Int) - (↑(Int.toNat a0 + List.length (List.take (Int.toNat ((↑(List.length a2) : Int) - a1)) (List.drop (Int.toNat a1) a2))) : Int))) (TGuarded.mk (0 : Int) (0 : Int) (0 : Int) (0 : Int) (0 : Int) (0 : Int) (0 : Int) false (0 : Int)) ++ List.drop (Int.toNat (↑(Int.toNat a0 + List.length (List.take (Int.toNat ((↑(List.length a2) : Int) - a1)) (List.drop (Int.toNat a1) a2))) : Int) + List.length (List.replicate (Int.toNat ((↑(List.length a2) : Int) - (↑(Int.toNat a0 + List.length (List.take (Int.toNat ((↑(List.length a2) : Int) - a1)) (List.drop (Int.toNat a1) a2))) : Int))) (TGuarded.mk (0 : Int) (0 : Int) (0 : Int) (0 : Int) (0 : Int) (0 : Int) (0 : Int) false (0 : Int)))) (List.take (Int.toNat a0) a2 ++ List.take (Int.toNat ((↑(List.length a2) : Int) - a1)) (List.drop (Int.toNat a1) a2) ++ List.drop (Int.toNat a0 + List.length (List.take (Int.toNat ((↑(List.length a2) : Int) - a1)) (List.drop (Int.toNat a1) a2))) a2)), ()))))))))))
theorem delGuard_eq (x : (Int × (Int × ((List TGuarded) × Unit)))) : gsTr Try.prog cod [FS.pf rotl, FS.pf sipCheck, FS.pf sipBegin, FS.pf sipNumber, FS.pf sipMore, FS.pf sipEnd, FS.pf sipOf, FS.pf coPort, FS.pf coLong, FS.pf coSizes, FS.pf coIndex, FS.pf coMake, FS.pf coOpen, FS.pf sumFold, FS.pf sumAdd, FS.pf sumOf, clOpt, FS.pf tcWord, FS.pf tcLong, FS.pf tcWordAt, FS.pf tcLongAt, FS.pf tcWords, FS.pf tcOptions, FS.pf tcWrite, FS.pf tcMss, FS.pf tcMove, clGuard] [] 30 99 delGuard_ap delGuard_rp x = delGuard_tree x := by kernel_rfl
def delGuard_fn (x : (Int × (Int × ((List TGuarded) × Unit)))) : Option ((List TGuarded) × Unit) := (delGuard_tree x).eval
def delGuard : GS Try.prog := ⟨99, [1, 0, 0], delGuard_ap, delGuard_rp, delGuard_fn, fun x r h ys m g he hg => gs_sound (cod := cod) (Γ := [FS.pf rotl, FS.pf sipCheck, FS.pf sipBegin, FS.pf sipNumber, FS.pf sipMore, FS.pf sipEnd, FS.pf sipOf, FS.pf coPort, FS.pf coLong, FS.pf coSizes, FS.pf coIndex, FS.pf coMake, FS.pf coOpen, FS.pf sumFold, FS.pf sumAdd, FS.pf sumOf, clOpt, FS.pf tcWord, FS.pf tcLong, FS.pf tcWordAt, FS.pf tcLongAt, FS.pf tcWords, FS.pf tcOptions, FS.pf tcWrite, FS.pf tcMss, FS.pf tcMove, clGuard]) (Λs := []) (n := 30) ((congrArg Tr.eval (delGuard_eq x)).trans h) he hg⟩
def prTurned_ap : List VP1 := [.agg [.i .u32, .i .u32, .i .i64, .i .i64]]
def prTurned_rp : SP := ⟨1, [(0, .v (.agg [.i .u32, .i .u32, .i .i64, .i .i64]))], []⟩
def prTurned_tree : (Int × (Int × (Int × (Int × Unit)))) → Tr (Int × (Int × (Int × (Int × Unit)))) :=
  fun (a0, a1, a2, a3, _) =>
  .ret (a1, (a0, (a3, (a2, ()))))
theorem prTurned_eq (x : (Int × (Int × (Int × (Int × Unit))))) : fnTr Try.prog cod [FS.pf rotl, FS.pf sipCheck, FS.pf sipBegin, FS.pf sipNumber, FS.pf sipMore, FS.pf sipEnd, FS.pf sipOf, FS.pf coPort, FS.pf coLong, FS.pf coSizes, FS.pf coIndex, FS.pf coMake, FS.pf coOpen, FS.pf sumFold, FS.pf sumAdd, FS.pf sumOf, clOpt, FS.pf tcWord, FS.pf tcLong, FS.pf tcWordAt, FS.pf tcLongAt, FS.pf tcWords, FS.pf tcOptions, FS.pf tcWrite, FS.pf tcMss, FS.pf tcMove, clGuard, GS.pf delGuard] [] 30 57 prTurned_ap prTurned_rp x = prTurned_tree x := by kernel_rfl
def prTurned_fn (x : (Int × (Int × (Int × (Int × Unit))))) : Option (Int × (Int × (Int × (Int × Unit)))) := (prTurned_tree x).eval
def prTurned : FS Try.prog := ⟨57, prTurned_ap, prTurned_rp, prTurned_fn, fun x r h => fnTr_sound (cod := cod) (Γ := [FS.pf rotl, FS.pf sipCheck, FS.pf sipBegin, FS.pf sipNumber, FS.pf sipMore, FS.pf sipEnd, FS.pf sipOf, FS.pf coPort, FS.pf coLong, FS.pf coSizes, FS.pf coIndex, FS.pf coMake, FS.pf coOpen, FS.pf sumFold, FS.pf sumAdd, FS.pf sumOf, clOpt, FS.pf tcWord, FS.pf tcLong, FS.pf tcWordAt, FS.pf tcLongAt, FS.pf tcWords, FS.pf tcOptions, FS.pf tcWrite, FS.pf tcMss, FS.pf tcMove, clGuard, GS.pf delGuard]) (Λs := []) (n := 30) ((congrArg Tr.eval (prTurned_eq x)).trans h)⟩
def prPort_ap : List VP1 := [.one (.i .i64)]
def prPort_rp : SP := ⟨1, [(0, .v (.one (.b)))], []⟩
def prPort_tree : (Int × Unit) → Tr (Bool × Unit) :=
  fun (a0, _) =>
  .ite (decide ((0 : Int) ≤ a0)) (
   .ret (decide (a0 ≤ (65535 : Int)), ())) (
   .ret (false, ()))
theorem prPort_eq (x : (Int × Unit)) : fnTr Try.prog cod [FS.pf rotl, FS.pf sipCheck, FS.pf sipBegin, FS.pf sipNumber, FS.pf sipMore, FS.pf sipEnd, FS.pf sipOf, FS.pf coPort, FS.pf coLong, FS.pf coSizes, FS.pf coIndex, FS.pf coMake, FS.pf coOpen, FS.pf sumFold, FS.pf sumAdd, FS.pf sumOf, clOpt, FS.pf tcWord, FS.pf tcLong, FS.pf tcWordAt, FS.pf tcLongAt, FS.pf tcWords, FS.pf tcOptions, FS.pf tcWrite, FS.pf tcMss, FS.pf tcMove, clGuard, GS.pf delGuard, FS.pf prTurned] [] 30 55 prPort_ap prPort_rp x = prPort_tree x := by kernel_rfl
def prPort_fn (x : (Int × Unit)) : Option (Bool × Unit) := (prPort_tree x).eval
def prPort : FS Try.prog := ⟨55, prPort_ap, prPort_rp, prPort_fn, fun x r h => fnTr_sound (cod := cod) (Γ := [FS.pf rotl, FS.pf sipCheck, FS.pf sipBegin, FS.pf sipNumber, FS.pf sipMore, FS.pf sipEnd, FS.pf sipOf, FS.pf coPort, FS.pf coLong, FS.pf coSizes, FS.pf coIndex, FS.pf coMake, FS.pf coOpen, FS.pf sumFold, FS.pf sumAdd, FS.pf sumOf, clOpt, FS.pf tcWord, FS.pf tcLong, FS.pf tcWordAt, FS.pf tcLongAt, FS.pf tcWords, FS.pf tcOptions, FS.pf tcWrite, FS.pf tcMss, FS.pf tcMove, clGuard, GS.pf delGuard, FS.pf prTurned]) (Λs := []) (n := 30) ((congrArg Tr.eval (prPort_eq x)).trans h)⟩
def prPlace_L50_2 : LS := ⟨2, [(1000200, 1000200)], ⟨19, [(8, .v (.one (.i .i64))), (0, .v (.one (.st 18 false))), (1, .v (.one (.clp 77 [(1000200, 0)]))), (7, .v (.one (.i .i64)))], [(1000200, .cells [.i .u32, .i .u32, .i .i64, .i .i64])]⟩, [⟨none, [(1000200, 1000200)], ⟨19, [(4, .v (.one (.i .i64)))], [(1000200, .cells [.i .u32, .i .u32, .i .i64, .i .i64])]⟩⟩, ⟨some 0, [(1000200, 1000200)], ⟨19, [], [(1000200, .cells [.i .u32, .i .u32, .i .i64, .i .i64])]⟩⟩], []⟩
def prPlace_step50_2 : (Int × ((List TGuarded) × (Int × (Int × (Int × (Int × (Int × Unit))))))) → Tr ((Int × ((List TGuarded) × (Int × (Int × (Int × (Int × (Int × Unit))))))) ⊕ ((Int × (Int × (Int × (Int × (Int × Unit))))) ⊕ (Int × (Int × (Int × (Int × Unit)))))) :=
  fun (a0, a1, a2, a3, a4, a5, a6, _) =>
  .ite (decide (a0 < a2)) (
   .grd (decide ((0 : Int) ≤ a0)) (
   .opt (β := TGuarded) (a1[Int.toNat a0]?) (fun r0 =>
   .ite (decide (r0.from' = a3) && (decide (r0.to = a4) && (decide (r0.fromPort = a5) && (decide (r0.toPort = a6) && true)))) (
    .ret (Sum.inr (Sum.inl (a0, (a3, (a4, (a5, (a6, ())))))))) (
    .ret (Sum.inl (IntKind.wrap IntKind.i64 (a0 + (1 : Int)), (a1, (a2, (a3, (a4, (a5, (a6, ())))))))))))) (
   .ret (Sum.inr (Sum.inr (a3, (a4, (a5, (a6, ())))))))
def prPlace_loop50_2 (x : (Int × ((List TGuarded) × (Int × (Int × (Int × (Int × (Int × Unit)))))))) : Option ((Int × (Int × (Int × (Int × (Int × Unit))))) ⊕ (Int × (Int × (Int × (Int × Unit))))) := loopO 500002 (fun x => (prPlace_step50_2 x).eval) 18446744073709551616 x
def prPlace_ap : List VP1 := [.agg [.i .u64, .i .u64, .i .i64, .st 18 false], .agg [.i .u32, .i .u32, .i .i64, .i .i64]]
def prPlace_rp : SP := ⟨1, [(0, .v (.one (.i .i64)))], []⟩
def prPlace_tree : (Int × (Int × (Int × ((List TGuarded) × (Int × (Int × (Int × (Int × Unit)))))))) → Tr (Int × Unit) :=
  fun (a0, a1, a2, a3, a4, a5, a6, a7, _) =>
  .opt (β := ((Int × (Int × (Int × (Int × (Int × Unit))))) ⊕ (Int × (Int × (Int × (Int × Unit)))))) ((prPlace_loop50_2 ((0 : Int), (a3, ((↑(List.length a3) : Int), (a4, (a5, (a6, (a7, ()))))))))) (fun r0 =>
  .sum (β := (Int × (Int × (Int × (Int × (Int × Unit)))))) (γ := (Int × (Int × (Int × (Int × Unit))))) (r0) (fun r1 =>
   .ret (r1.1, ())) (fun r1 =>
   .ret ((-1 : Int), ())))
theorem prPlace_eq (x : (Int × (Int × (Int × ((List TGuarded) × (Int × (Int × (Int × (Int × Unit))))))))) : fnTr Try.prog cod [FS.pf rotl, FS.pf sipCheck, FS.pf sipBegin, FS.pf sipNumber, FS.pf sipMore, FS.pf sipEnd, FS.pf sipOf, FS.pf coPort, FS.pf coLong, FS.pf coSizes, FS.pf coIndex, FS.pf coMake, FS.pf coOpen, FS.pf sumFold, FS.pf sumAdd, FS.pf sumOf, clOpt, FS.pf tcWord, FS.pf tcLong, FS.pf tcWordAt, FS.pf tcLongAt, FS.pf tcWords, FS.pf tcOptions, FS.pf tcWrite, FS.pf tcMss, FS.pf tcMove, clGuard, GS.pf delGuard, FS.pf prTurned, FS.pf prPort] [(50, prPlace_L50_2)] 30 47 prPlace_ap prPlace_rp x = prPlace_tree x := by kernel_rfl
def prPlace_fn (x : (Int × (Int × (Int × ((List TGuarded) × (Int × (Int × (Int × (Int × Unit))))))))) : Option (Int × Unit) := (prPlace_tree x).eval
def prPlace : FS Try.prog := ⟨47, prPlace_ap, prPlace_rp, prPlace_fn, fun x r h => fnTr_sound (cod := cod) (Γ := [FS.pf rotl, FS.pf sipCheck, FS.pf sipBegin, FS.pf sipNumber, FS.pf sipMore, FS.pf sipEnd, FS.pf sipOf, FS.pf coPort, FS.pf coLong, FS.pf coSizes, FS.pf coIndex, FS.pf coMake, FS.pf coOpen, FS.pf sumFold, FS.pf sumAdd, FS.pf sumOf, clOpt, FS.pf tcWord, FS.pf tcLong, FS.pf tcWordAt, FS.pf tcLongAt, FS.pf tcWords, FS.pf tcOptions, FS.pf tcWrite, FS.pf tcMss, FS.pf tcMove, clGuard, GS.pf delGuard, FS.pf prTurned, FS.pf prPort]) (Λs := [(50, prPlace_L50_2)]) (n := 30) ((congrArg Tr.eval (prPlace_eq x)).trans h)⟩
def prCheck_L27_7 : LS := ⟨7, [(1, 1)], ⟨66, [(17, .v (.one (.i .i64))), (1, .v (.one (.ptr 1 0))), (3, .v (.one (.i .i64))), (15, .v (.one (.st 18 false))), (16, .v (.one (.i .i64)))], [(1, .cells [.i .u64, .i .u64, .i .i64, .st 18 false])]⟩, [⟨none, [], ⟨66, [(2, .v (.one (.i .i64)))], []⟩⟩, ⟨some 0, [], ⟨66, [], []⟩⟩], []⟩
def prCheck_step27_7 : (Int × (Int × ((List TGuarded) × (Int × (Int × (Int × (Int × ((List TGuarded) × Unit)))))))) → Tr ((Int × (Int × ((List TGuarded) × (Int × (Int × (Int × (Int × ((List TGuarded) × Unit)))))))) ⊕ ((Int × Unit) ⊕ Unit)) :=
  fun (a0, a1, a2, a3, a4, a5, a6, a7, _) =>
  .ite (decide (a0 < a3)) (
   .grd (decide ((0 : Int) ≤ a0)) (
   .opt (β := TGuarded) (a2[Int.toNat a0]?) (fun r0 =>
   .opt (β := (Bool × Unit)) ((prPort_fn (r0.fromPort, ()))) (fun r1 =>
   .ite (!r1.1) (
    .ret (Sum.inr (Sum.inl ((4 : Int), ())))) (
    .opt (β := (Bool × Unit)) ((prPort_fn (r0.toPort, ()))) (fun r2 =>
    .ite (!r2.1) (
     .ret (Sum.inr (Sum.inl ((4 : Int), ())))) (
     .ite (decide (r0.at' < a1)) (
      .ret (Sum.inr (Sum.inl ((4 : Int), ())))) (
      .ite (decide ((1099511627776 : Int) < r0.at')) (
       .ret (Sum.inr (Sum.inl ((4 : Int), ())))) (
       .ite (!r0.open') (
        .ite (!decide (r0.delta = (0 : Int))) (
         .ret (Sum.inr (Sum.inl ((4 : Int), ())))) (
         .opt (β := (Int × Unit)) ((prPlace_fn (a4, (a5, (a6, (a7, (r0.from', (r0.to, (r0.fromPort, (r0.toPort, ())))))))))) (fun r3 =>
         .ite (!decide (r3.1 = a0)) (
          .ret (Sum.inr (Sum.inl ((4 : Int), ())))) (
          .ret (Sum.inl (IntKind.wrap IntKind.i64 (a0 + (1 : Int)), (r0.at', (a2, (a3, (a4, (a5, (a6, (a7, ()))))))))))))) (
        .opt (β := (Int × Unit)) ((prPlace_fn (a4, (a5, (a6, (a7, (r0.from', (r0.to, (r0.fromPort, (r0.toPort, ())))))))))) (fun r3 =>
        .ite (!decide (r3.1 = a0)) (
         .ret (Sum.inr (Sum.inl ((4 : Int), ())))) (
         .ret (Sum.inl (IntKind.wrap IntKind.i64 (a0 + (1 : Int)), (r0.at', (a2, (a3, (a4, (a5, (a6, (a7, ()))))))))))))))))))))) (
   .ret (Sum.inr (Sum.inr ())))
def prCheck_loop27_7 (x : (Int × (Int × ((List TGuarded) × (Int × (Int × (Int × (Int × ((List TGuarded) × Unit))))))))) : Option ((Int × Unit) ⊕ Unit) := loopO 270007 (fun x => (prCheck_step27_7 x).eval) 18446744073709551616 x
def prCheck_ap : List VP1 := [.agg [.i .u64, .i .u64, .i .i64, .st 18 false]]
def prCheck_rp : SP := ⟨1, [(0, .v (.one (.i .i64)))], []⟩
def prCheck_tree : (Int × (Int × (Int × ((List TGuarded) × Unit)))) → Tr (Int × Unit) :=
  fun (a0, a1, a2, a3, _) =>
  .opt (β := (Bool × Unit)) ((prPort_fn (a2, ()))) (fun r0 =>
  .ite (!r0.1) (
   .ret ((1 : Int), ())) (
   .ite (decide ((64 : Int) < (↑(List.length a3) : Int))) (
    .ret ((2 : Int), ())) (
    .opt (β := ((Int × Unit) ⊕ Unit)) ((prCheck_loop27_7 ((0 : Int), ((0 : Int), (a3, ((↑(List.length a3) : Int), (a0, (a1, (a2, (a3, ())))))))))) (fun r1 =>
    .sum (β := (Int × Unit)) (γ := Unit) (r1) (fun r2 =>
     .ret (r2.1, ())) (fun r2 =>
     .ret ((0 : Int), ()))))))
theorem prCheck_eq (x : (Int × (Int × (Int × ((List TGuarded) × Unit))))) : fnTr Try.prog cod [FS.pf rotl, FS.pf sipCheck, FS.pf sipBegin, FS.pf sipNumber, FS.pf sipMore, FS.pf sipEnd, FS.pf sipOf, FS.pf coPort, FS.pf coLong, FS.pf coSizes, FS.pf coIndex, FS.pf coMake, FS.pf coOpen, FS.pf sumFold, FS.pf sumAdd, FS.pf sumOf, clOpt, FS.pf tcWord, FS.pf tcLong, FS.pf tcWordAt, FS.pf tcLongAt, FS.pf tcWords, FS.pf tcOptions, FS.pf tcWrite, FS.pf tcMss, FS.pf tcMove, clGuard, GS.pf delGuard, FS.pf prTurned, FS.pf prPort, FS.pf prPlace] [(27, prCheck_L27_7)] 30 27 prCheck_ap prCheck_rp x = prCheck_tree x := by kernel_rfl
def prCheck_fn (x : (Int × (Int × (Int × ((List TGuarded) × Unit))))) : Option (Int × Unit) := (prCheck_tree x).eval
def prCheck : FS Try.prog := ⟨27, prCheck_ap, prCheck_rp, prCheck_fn, fun x r h => fnTr_sound (cod := cod) (Γ := [FS.pf rotl, FS.pf sipCheck, FS.pf sipBegin, FS.pf sipNumber, FS.pf sipMore, FS.pf sipEnd, FS.pf sipOf, FS.pf coPort, FS.pf coLong, FS.pf coSizes, FS.pf coIndex, FS.pf coMake, FS.pf coOpen, FS.pf sumFold, FS.pf sumAdd, FS.pf sumOf, clOpt, FS.pf tcWord, FS.pf tcLong, FS.pf tcWordAt, FS.pf tcLongAt, FS.pf tcWords, FS.pf tcOptions, FS.pf tcWrite, FS.pf tcMss, FS.pf tcMove, clGuard, GS.pf delGuard, FS.pf prTurned, FS.pf prPort, FS.pf prPlace]) (Λs := [(27, prCheck_L27_7)]) (n := 30) ((congrArg Tr.eval (prCheck_eq x)).trans h)⟩
def prOld_ap : List VP1 := [.agg [.i .u32, .i .u32, .i .i64, .i .i64, .i .u32, .i .u32, .i .u32, .b, .i .i64], .one (.i .i64)]
def prOld_rp : SP := ⟨1, [(0, .v (.one (.b)))], []⟩
def prOld_tree : (Int × (Int × (Int × (Int × (Int × (Int × (Int × (Bool × (Int × (Int × Unit)))))))))) → Tr (Bool × Unit) :=
  fun (a0, a1, a2, a3, a4, a5, a6, a7, a8, a9, _) =>
  .ite (a7) (
   .ret (decide ((3000 : Int) < IntKind.wrap IntKind.i64 (a9 - a8)), ())) (
   .ret (decide ((30 : Int) < IntKind.wrap IntKind.i64 (a9 - a8)), ()))
theorem prOld_eq (x : (Int × (Int × (Int × (Int × (Int × (Int × (Int × (Bool × (Int × (Int × Unit))))))))))) : fnTr Try.prog cod [FS.pf rotl, FS.pf sipCheck, FS.pf sipBegin, FS.pf sipNumber, FS.pf sipMore, FS.pf sipEnd, FS.pf sipOf, FS.pf coPort, FS.pf coLong, FS.pf coSizes, FS.pf coIndex, FS.pf coMake, FS.pf coOpen, FS.pf sumFold, FS.pf sumAdd, FS.pf sumOf, clOpt, FS.pf tcWord, FS.pf tcLong, FS.pf tcWordAt, FS.pf tcLongAt, FS.pf tcWords, FS.pf tcOptions, FS.pf tcWrite, FS.pf tcMss, FS.pf tcMove, clGuard, GS.pf delGuard, FS.pf prTurned, FS.pf prPort, FS.pf prPlace, FS.pf prCheck] [] 30 76 prOld_ap prOld_rp x = prOld_tree x := by kernel_rfl
def prOld_fn (x : (Int × (Int × (Int × (Int × (Int × (Int × (Int × (Bool × (Int × (Int × Unit))))))))))) : Option (Bool × Unit) := (prOld_tree x).eval
def prOld : FS Try.prog := ⟨76, prOld_ap, prOld_rp, prOld_fn, fun x r h => fnTr_sound (cod := cod) (Γ := [FS.pf rotl, FS.pf sipCheck, FS.pf sipBegin, FS.pf sipNumber, FS.pf sipMore, FS.pf sipEnd, FS.pf sipOf, FS.pf coPort, FS.pf coLong, FS.pf coSizes, FS.pf coIndex, FS.pf coMake, FS.pf coOpen, FS.pf sumFold, FS.pf sumAdd, FS.pf sumOf, clOpt, FS.pf tcWord, FS.pf tcLong, FS.pf tcWordAt, FS.pf tcLongAt, FS.pf tcWords, FS.pf tcOptions, FS.pf tcWrite, FS.pf tcMss, FS.pf tcMove, clGuard, GS.pf delGuard, FS.pf prTurned, FS.pf prPort, FS.pf prPlace, FS.pf prCheck]) (Λs := []) (n := 30) ((congrArg Tr.eval (prOld_eq x)).trans h)⟩
def prRefused_ap : List VP1 := [.agg [.i .u64, .i .u64, .i .i64, .st 18 false], .agg [.i .u32, .i .u32, .i .i64, .i .i64], .agg [.i .i64, .i .i64, .i .u32, .i .u32, .i .i64, .i .i64, .i .i64, .st 4 false, .s], .one (.i .i64)]
def prRefused_rp : SP := ⟨1, [(0, .v (.one (.i .i64)))], []⟩
def prRefused_tree : (Int × (Int × (Int × ((List TGuarded) × (Int × (Int × (Int × (Int × (Int × (Int × (Int × (Int × (Int × (Int × (Int × ((List TOption) × ((List UInt8) × (Int × Unit)))))))))))))))))) → Tr (Int × Unit) :=
  fun (a0, a1, a2, a3, a4, a5, a6, a7, a8, a9, a10, a11, a12, a13, a14, a15, a16, a17, _) =>
  .opt (β := (Int × Unit)) ((prCheck_fn (a0, (a1, (a2, (a3, ())))))) (fun r0 =>
  .ite (!decide (r0.1 = (0 : Int))) (
   .ret (r0.1, ())) (
   .ite (decide ((0 : Int) < (↑(List.length a3) : Int))) (
    .grd (decide ((0 : Int) ≤ IntKind.wrap IntKind.i64 ((↑(List.length a3) : Int) - (1 : Int)))) (
    .opt (β := TGuarded) (a3[Int.toNat (IntKind.wrap IntKind.i64 ((↑(List.length a3) : Int) - (1 : Int)))]?) (fun r1 =>
    .opt (β := (Bool × Unit)) ((prPort_fn (a6, ()))) (fun r2 =>
    .ite (!r2.1) (
     .ret ((1 : Int), ())) (
     .opt (β := (Bool × Unit)) ((prPort_fn (a7, ()))) (fun r3 =>
     .ite (!r3.1) (
      .ret ((1 : Int), ())) (
      .ite (decide (a17 < r1.at')) (
       .ret ((1 : Int), ())) (
       .ite (decide ((1099511627776 : Int) < a17)) (
        .ret ((1 : Int), ())) (
        .ite (!decide (a8 = a6)) (
         .ret ((1 : Int), ())) (
         .ite (!decide (a9 = a7)) (
          .ret ((1 : Int), ())) (
          .opt (β := ((List UInt8) × (Int × Unit))) ((tcWrite_fn (a8, (a9, (a10, (a11, (a12, (a13, (a14, (a15, (a16, (a4, (a5, ()))))))))))))) (fun r4 =>
          .ret (r4.2.1, ()))))))))))))) (
    .opt (β := (Bool × Unit)) ((prPort_fn (a6, ()))) (fun r1 =>
    .ite (!r1.1) (
     .ret ((1 : Int), ())) (
     .opt (β := (Bool × Unit)) ((prPort_fn (a7, ()))) (fun r2 =>
     .ite (!r2.1) (
      .ret ((1 : Int), ())) (
      .ite (decide (a17 < (0 : Int))) (
       .ret ((1 : Int), ())) (
       .ite (decide ((1099511627776 : Int) < a17)) (
        .ret ((1 : Int), ())) (
        .ite (!decide (a8 = a6)) (
         .ret ((1 : Int), ())) (
         .ite (!decide (a9 = a7)) (
          .ret ((1 : Int), ())) (
          .opt (β := ((List UInt8) × (Int × Unit))) ((tcWrite_fn (a8, (a9, (a10, (a11, (a12, (a13, (a14, (a15, (a16, (a4, (a5, ()))))))))))))) (fun r3 =>
          .ret (r3.2.1, ())))))))))))))
theorem prRefused_eq (x : (Int × (Int × (Int × ((List TGuarded) × (Int × (Int × (Int × (Int × (Int × (Int × (Int × (Int × (Int × (Int × (Int × ((List TOption) × ((List UInt8) × (Int × Unit))))))))))))))))))) : fnTr Try.prog cod [FS.pf rotl, FS.pf sipCheck, FS.pf sipBegin, FS.pf sipNumber, FS.pf sipMore, FS.pf sipEnd, FS.pf sipOf, FS.pf coPort, FS.pf coLong, FS.pf coSizes, FS.pf coIndex, FS.pf coMake, FS.pf coOpen, FS.pf sumFold, FS.pf sumAdd, FS.pf sumOf, clOpt, FS.pf tcWord, FS.pf tcLong, FS.pf tcWordAt, FS.pf tcLongAt, FS.pf tcWords, FS.pf tcOptions, FS.pf tcWrite, FS.pf tcMss, FS.pf tcMove, clGuard, GS.pf delGuard, FS.pf prTurned, FS.pf prPort, FS.pf prPlace, FS.pf prCheck, FS.pf prOld] [] 30 45 prRefused_ap prRefused_rp x = prRefused_tree x := by kernel_rfl
def prRefused_fn (x : (Int × (Int × (Int × ((List TGuarded) × (Int × (Int × (Int × (Int × (Int × (Int × (Int × (Int × (Int × (Int × (Int × ((List TOption) × ((List UInt8) × (Int × Unit))))))))))))))))))) : Option (Int × Unit) := (prRefused_tree x).eval
def prRefused : FS Try.prog := ⟨45, prRefused_ap, prRefused_rp, prRefused_fn, fun x r h => fnTr_sound (cod := cod) (Γ := [FS.pf rotl, FS.pf sipCheck, FS.pf sipBegin, FS.pf sipNumber, FS.pf sipMore, FS.pf sipEnd, FS.pf sipOf, FS.pf coPort, FS.pf coLong, FS.pf coSizes, FS.pf coIndex, FS.pf coMake, FS.pf coOpen, FS.pf sumFold, FS.pf sumAdd, FS.pf sumOf, clOpt, FS.pf tcWord, FS.pf tcLong, FS.pf tcWordAt, FS.pf tcLongAt, FS.pf tcWords, FS.pf tcOptions, FS.pf tcWrite, FS.pf tcMss, FS.pf tcMove, clGuard, GS.pf delGuard, FS.pf prTurned, FS.pf prPort, FS.pf prPlace, FS.pf prCheck, FS.pf prOld]) (Λs := []) (n := 30) ((congrArg Tr.eval (prRefused_eq x)).trans h)⟩
def dfGuard_L74_5 : LS := ⟨5, [(1000100, 1000100), (1000200, 1000200)], ⟨42, [(6, .v (.one (.i .i64))), (5, .v (.one (.i .i64))), (0, .v (.one (.own 1000100))), (1, .v (.one (.clp 75 [(1000200, 0)])))], [(1000100, .row 60 18 true true), (1000200, .cells [.i .i64])]⟩, [⟨some 0, [(1000100, 1000100), (1000200, 1000200)], ⟨42, [(5, .v (.one (.i .i64))), (0, .v (.one (.own 1000100)))], [(1000100, .row 60 18 true true), (1000200, .cells [.i .i64])]⟩⟩], []⟩
def dfGuard_step74_5 : (Int × (Int × ((List TGuarded) × (Int × Unit)))) → Tr ((Int × (Int × ((List TGuarded) × (Int × Unit)))) ⊕ (Int × ((List TGuarded) × (Int × Unit)))) :=
  fun (a0, a1, a2, a3, _) =>
  .ite (decide (a0 < (↑(List.length a2) : Int))) (
   .grd (decide ((0 : Int) ≤ a0 ∧ a0 < (↑(List.length a2) : Int))) (
   .opt (β := TGuarded) (a2[Int.toNat a0]?) (fun r0 =>
   .opt (β := (Bool × Unit)) ((prOld_fn (r0.from', (r0.to, (r0.fromPort, (r0.toPort, (r0.seq, (r0.cookie, (r0.delta, (r0.open', (r0.at', (a3, ())))))))))))) (fun r1 =>
   .ite (!r1.1) (
    .grd (decide ((0 : Int) ≤ a1 ∧ a1 < (↑(List.length a2) : Int))) (
    .opt (β := TGuarded) (a2[Int.toNat a1]?) (fun r2 =>
    .grd (decide (List.length a2 = List.length (List.set a2 (Int.toNat a1) (TGuarded.mk r0.from' r0.to r0.fromPort r0.toPort r0.seq r0.cookie r0.delta r0.open' r0.at')))) (
    .ret (Sum.inl (IntKind.wrap IntKind.i64 (a0 + (1 : Int)), (IntKind.wrap IntKind.i64 (a1 + (1 : Int)), (List.set a2 (Int.toNat a1) (TGuarded.mk r0.from' r0.to r0.fromPort r0.toPort r0.seq r0.cookie r0.delta r0.open' r0.at'), (a3, ()))))))))) (
    .grd (decide (List.length a2 = List.length a2)) (
    .ret (Sum.inl (IntKind.wrap IntKind.i64 (a0 + (1 : Int)), (a1, (a2, (a3, ()))))))))))) (
   .grd (decide (List.length a2 = List.length a2)) (
   .ret (Sum.inr (a1, (a2, (a3, ()))))))
def dfGuard_loop74_5 (x : (Int × (Int × ((List TGuarded) × (Int × Unit))))) : Option (Int × ((List TGuarded) × (Int × Unit))) := loopO 740005 (fun x => (dfGuard_step74_5 x).eval) 18446744073709551616 x
def dfGuard_L50_2 : LS := ⟨2, [(1000200, 1000200)], ⟨19, [(8, .v (.one (.i .i64))), (0, .v (.one (.st 18 false))), (1, .v (.one (.clp 75 [(1000200, 0)]))), (7, .v (.one (.i .i64)))], [(1000200, .cells [.i .i64])]⟩, [⟨none, [(1000200, 1000200)], ⟨19, [(4, .v (.one (.i .i64)))], [(1000200, .cells [.i .i64])]⟩⟩, ⟨some 0, [(1000200, 1000200)], ⟨19, [], [(1000200, .cells [.i .i64])]⟩⟩], []⟩
def dfGuard_step50_2 : (Int × ((List TGuarded) × (Int × (Int × Unit)))) → Tr ((Int × ((List TGuarded) × (Int × (Int × Unit)))) ⊕ ((Int × (Int × Unit)) ⊕ (Int × Unit))) :=
  fun (a0, a1, a2, a3, _) =>
  .ite (decide (a0 < a2)) (
   .grd (decide ((0 : Int) ≤ a0)) (
   .opt (β := TGuarded) (a1[Int.toNat a0]?) (fun r0 =>
   .opt (β := (Bool × Unit)) ((prOld_fn (r0.from', (r0.to, (r0.fromPort, (r0.toPort, (r0.seq, (r0.cookie, (r0.delta, (r0.open', (r0.at', (a3, ())))))))))))) (fun r1 =>
   .ite (r1.1) (
    .ret (Sum.inr (Sum.inl (a0, (a3, ()))))) (
    .ret (Sum.inl (IntKind.wrap IntKind.i64 (a0 + (1 : Int)), (a1, (a2, (a3, ())))))))))) (
   .ret (Sum.inr (Sum.inr (a3, ()))))
def dfGuard_loop50_2 (x : (Int × ((List TGuarded) × (Int × (Int × Unit))))) : Option ((Int × (Int × Unit)) ⊕ (Int × Unit)) := loopO 500002 (fun x => (dfGuard_step50_2 x).eval) 18446744073709551616 x
def dfGuard_ap : SP := ⟨42, [(0, .v (.one (.own 1000100))), (1, .v (.one (.clp 75 [(1000200, 0)])))], [(1000200, .cells [.i .i64]), (1000100, .row 60 18 true true)]⟩
def dfGuard_rp : SP := ⟨1, [(0, .v (.one (.own 1000100)))], [(1000200, .cells [.i .i64]), (1000100, .row 60 18 true true)]⟩
def dfGuard_tree : (Int × ((List TGuarded) × Unit)) → Tr (Int × ((List TGuarded) × Unit)) :=
  fun (a0, a1, _) =>
  .opt (β := ((Int × (Int × Unit)) ⊕ (Int × Unit))) ((dfGuard_loop50_2 ((0 : Int), (a1, ((↑(List.length a1) : Int), (a0, ())))))) (fun r0 =>
  .sum (β := (Int × (Int × Unit))) (γ := (Int × Unit)) (r0) (fun r1 =>
   .ite (decide (r1.1 = (-1 : Int))) (
    .grd (decide (List.length a1 = List.length a1)) (
    .ret (r1.2.1, (a1, ())))) (
    .grd (decide (List.length a1 = List.length a1)) (
    .opt (β := (Int × ((List TGuarded) × (Int × Unit)))) ((dfGuard_loop74_5 (IntKind.wrap IntKind.i64 (r1.1 + (1 : Int)), (r1.1, (a1, (r1.2.1, ())))))) (fun r2 =>
    .grd (decide ((0 : Int) ≤ r2.1 ∧ r2.1 ≤ (↑(List.length r2.2.fst) : Int) ∧ (↑(List.length r2.2.fst) : Int) ≤ (↑(List.length r2.2.fst) : Int))) (
    .grd (decide (Int.toNat r2.1 + Int.toNat ((↑(List.length r2.2.fst) : Int) - r2.1) ≤ List.length r2.2.1)) (
    .grd (decide ((0 : Int) ≤ r2.1 ∧ r2.1 ≤ (↑(List.length r2.2.fst) : Int))) (
    .grd (decide (Int.toNat r2.1 = List.length (List.take (Int.toNat r2.1) (List.take (Int.toNat r2.1) r2.2.1 ++ List.replicate (Int.toNat ((↑(List.length r2.2.fst) : Int) - r2.1)) (TGuarded.mk (0 : Int) (0 : Int) (0 : Int) (0 : Int) (0 : Int) (0 : Int) (0 : Int) false (0 : Int)) ++ List.drop (Int.toNat r2.1 + List.length (List.replicate (Int.toNat ((↑(List.length r2.2.fst) : Int) - r2.1)) (TGuarded.mk (0 : Int) (0 : Int) (0 : Int) (0 : Int) (0 : Int) (0 : Int) (0 : Int) false (0 : Int)))) r2.2.1)))) (
    .ret (r2.2.2.1, (List.take (Int.toNat r2.1) (List.take (Int.toNat r2.1) r2.2.1 ++ List.replicate (Int.toNat ((↑(List.length r2.2.fst) : Int) - r2.1)) (TGuarded.mk (0 : Int) (0 : Int) (0 : Int) (0 : Int) (0 : Int) (0 : Int) (0 : Int) false (0 : Int)) ++ List.drop (Int.toNat r2.1 + List.length (List.replicate (Int.toNat ((↑(List.length r2.2.fst) : Int) - r2.1)) (TGuarded.mk (0 : Int) (0 : Int) (0 : Int) (0 : Int) (0 : Int) (0 : Int) (0 : Int) false (0 : Int)))) r2.2.1), ())))))))))) (fun r1 =>
   .ite (true) (
    .grd (decide (List.length a1 = List.length a1)) (
    .ret (r1.1, (a1, ())))) (
    .grd (decide (List.length a1 = List.length a1)) (
    .opt (β := (Int × ((List TGuarded) × (Int × Unit)))) ((dfGuard_loop74_5 ((0 : Int), ((-1 : Int), (a1, (r1.1, ())))))) (fun r2 =>
    .grd (decide ((0 : Int) ≤ r2.1 ∧ r2.1 ≤ (↑(List.length r2.2.fst) : Int) ∧ (↑(List.length r2.2.fst) : Int) ≤ (↑(List.length r2.2.fst) : Int))) (
    .grd (decide (Int.toNat r2.1 + Int.toNat ((↑(List.length r2.2.fst) : Int) - r2.1) ≤ List.length r2.2.1)) (
    .grd (decide ((0 : Int) ≤ r2.1 ∧ r2.1 ≤ (↑(List.length r2.2.fst) : Int))) (
    .grd (decide (Int.toNat r2.1 = List.length (List.take (Int.toNat r2.1) (List.take (Int.toNat r2.1) r2.2.1 ++ List.replicate (Int.toNat ((↑(List.length r2.2.fst) : Int) - r2.1)) (TGuarded.mk (0 : Int) (0 : Int) (0 : Int) (0 : Int) (0 : Int) (0 : Int) (0 : Int) false (0 : Int)) ++ List.drop (Int.toNat r2.1 + List.length (List.replicate (Int.toNat ((↑(List.length r2.2.fst) : Int) - r2.1)) (TGuarded.mk (0 : Int) (0 : Int) (0 : Int) (0 : Int) (0 : Int) (0 : Int) (0 : Int) false (0 : Int)))) r2.2.1)))) (
    .ret (r2.2.2.1, (List.take (Int.toNat r2.1) (List.take (Int.toNat r2.1) r2.2.1 ++ List.replicate (Int.toNat ((↑(List.length r2.2.fst) : Int) - r2.1)) (TGuarded.mk (0 : Int) (0 : Int) (0 : Int) (0 : Int) (0 : Int) (0 : Int) (0 : Int) false (0 : Int)) ++ List.drop (Int.toNat r2.1 + List.length (List.replicate (Int.toNat ((↑(List.length r2.2.fst) : Int) - r2.1)) (TGuarded.mk (0 : Int) (0 : Int) (0 : Int) (0 : Int) (0 : Int) (0 : Int) (0 : Int) false (0 : Int)))) r2.2.1), ())))))))))))
theorem dfGuard_eq (x : (Int × ((List TGuarded) × Unit))) : gsTr Try.prog cod [FS.pf rotl, FS.pf sipCheck, FS.pf sipBegin, FS.pf sipNumber, FS.pf sipMore, FS.pf sipEnd, FS.pf sipOf, FS.pf coPort, FS.pf coLong, FS.pf coSizes, FS.pf coIndex, FS.pf coMake, FS.pf coOpen, FS.pf sumFold, FS.pf sumAdd, FS.pf sumOf, clOpt, FS.pf tcWord, FS.pf tcLong, FS.pf tcWordAt, FS.pf tcLongAt, FS.pf tcWords, FS.pf tcOptions, FS.pf tcWrite, FS.pf tcMss, FS.pf tcMove, clGuard, GS.pf delGuard, FS.pf prTurned, FS.pf prPort, FS.pf prPlace, FS.pf prCheck, FS.pf prOld, FS.pf prRefused] [(74, dfGuard_L74_5), (50, dfGuard_L50_2)] 30 74 dfGuard_ap dfGuard_rp x = dfGuard_tree x := by kernel_rfl
def dfGuard_fn (x : (Int × ((List TGuarded) × Unit))) : Option (Int × ((List TGuarded) × Unit)) := (dfGuard_tree x).eval
def dfGuard : GS Try.prog := ⟨74, [1, 0], dfGuard_ap, dfGuard_rp, dfGuard_fn, fun x r h ys m g he hg => gs_sound (cod := cod) (Γ := [FS.pf rotl, FS.pf sipCheck, FS.pf sipBegin, FS.pf sipNumber, FS.pf sipMore, FS.pf sipEnd, FS.pf sipOf, FS.pf coPort, FS.pf coLong, FS.pf coSizes, FS.pf coIndex, FS.pf coMake, FS.pf coOpen, FS.pf sumFold, FS.pf sumAdd, FS.pf sumOf, clOpt, FS.pf tcWord, FS.pf tcLong, FS.pf tcWordAt, FS.pf tcLongAt, FS.pf tcWords, FS.pf tcOptions, FS.pf tcWrite, FS.pf tcMss, FS.pf tcMove, clGuard, GS.pf delGuard, FS.pf prTurned, FS.pf prPort, FS.pf prPlace, FS.pf prCheck, FS.pf prOld, FS.pf prRefused]) (Λs := [(74, dfGuard_L74_5), (50, dfGuard_L50_2)]) (n := 30) ((congrArg Tr.eval (dfGuard_eq x)).trans h) he hg⟩
def prMss_ap : List VP1 := [.one (.i .i64)]
def prMss_rp : SP := ⟨1, [(0, .v (.one (.st 4 true)))], []⟩
def prMss_tree : (Int × Unit) → Tr ((List TOption) × Unit) :=
  fun (a0, _) =>
  .grd (true) (
  .grd (decide ((0 : Int) ≤ IntKind.wrap IntKind.u8 (Int.fdiv a0 ((2 : Int) ^ (8 : Nat))) ∧ IntKind.wrap IntKind.u8 (Int.fdiv a0 ((2 : Int) ^ (8 : Nat))) < (256 : Int))) (
  .grd (decide ((0 : Int) ≤ IntKind.wrap IntKind.u8 a0 ∧ IntKind.wrap IntKind.u8 a0 < (256 : Int))) (
  .ret ([TOption.mk (2 : Int) [UInt8.ofNat (Int.toNat (IntKind.wrap IntKind.u8 (Int.fdiv a0 ((2 : Int) ^ (8 : Nat))))), UInt8.ofNat (Int.toNat (IntKind.wrap IntKind.u8 a0))]], ()))))
theorem prMss_eq (x : (Int × Unit)) : fnTr Try.prog cod [FS.pf rotl, FS.pf sipCheck, FS.pf sipBegin, FS.pf sipNumber, FS.pf sipMore, FS.pf sipEnd, FS.pf sipOf, FS.pf coPort, FS.pf coLong, FS.pf coSizes, FS.pf coIndex, FS.pf coMake, FS.pf coOpen, FS.pf sumFold, FS.pf sumAdd, FS.pf sumOf, clOpt, FS.pf tcWord, FS.pf tcLong, FS.pf tcWordAt, FS.pf tcLongAt, FS.pf tcWords, FS.pf tcOptions, FS.pf tcWrite, FS.pf tcMss, FS.pf tcMove, clGuard, GS.pf delGuard, FS.pf prTurned, FS.pf prPort, FS.pf prPlace, FS.pf prCheck, FS.pf prOld, FS.pf prRefused, GS.pf dfGuard] [] 30 85 prMss_ap prMss_rp x = prMss_tree x := by kernel_rfl
def prMss_fn (x : (Int × Unit)) : Option ((List TOption) × Unit) := (prMss_tree x).eval
def prMss : FS Try.prog := ⟨85, prMss_ap, prMss_rp, prMss_fn, fun x r h => fnTr_sound (cod := cod) (Γ := [FS.pf rotl, FS.pf sipCheck, FS.pf sipBegin, FS.pf sipNumber, FS.pf sipMore, FS.pf sipEnd, FS.pf sipOf, FS.pf coPort, FS.pf coLong, FS.pf coSizes, FS.pf coIndex, FS.pf coMake, FS.pf coOpen, FS.pf sumFold, FS.pf sumAdd, FS.pf sumOf, clOpt, FS.pf tcWord, FS.pf tcLong, FS.pf tcWordAt, FS.pf tcLongAt, FS.pf tcWords, FS.pf tcOptions, FS.pf tcWrite, FS.pf tcMss, FS.pf tcMove, clGuard, GS.pf delGuard, FS.pf prTurned, FS.pf prPort, FS.pf prPlace, FS.pf prCheck, FS.pf prOld, FS.pf prRefused, GS.pf dfGuard]) (Λs := []) (n := 30) ((congrArg Tr.eval (prMss_eq x)).trans h)⟩
def mHas : PF Go.Proofs.Try.prog := ⟨79, [1, 0, 0], fun _ _ => none, fun _ _ _ _ _ h _ => by cases h⟩
def mLeaves : PF Go.Proofs.Try.prog := ⟨80, [1, 0], fun _ _ => none, fun _ _ _ _ _ h _ => by cases h⟩
def mHeard : PF Go.Proofs.Try.prog := ⟨81, [1, 0, 0], fun _ _ => none, fun _ _ _ _ _ h _ => by cases h⟩
def mAsk : PF Go.Proofs.Try.prog := ⟨82, [1, 0, 0], fun _ _ => none, fun _ _ _ _ _ h _ => by cases h⟩
def mStranger : PF Go.Proofs.Try.prog := ⟨49, [1, 0, 0], fun _ _ => none, fun _ _ _ _ _ h _ => by cases h⟩
def mFromClient : PF Go.Proofs.Try.prog := ⟨48, [1, 0, 0], fun _ _ => none, fun _ _ _ _ _ h _ => by cases h⟩
def mFromServer : PF Go.Proofs.Try.prog := ⟨58, [1, 0, 0], fun _ _ => none, fun _ _ _ _ _ h _ => by cases h⟩
def prClient_ap : List VP1 := [.agg [.i .u64, .i .u64, .i .i64, .st 18 false], .agg [.i .u32, .i .u32, .i .i64, .i .i64], .agg [.i .i64, .i .i64, .i .u32, .i .u32, .i .i64, .i .i64, .i .i64, .st 4 false, .s], .one (.i .i64)]
def prClient_rp : SP := ⟨1, [(0, .tup [.agg [.i .u64, .i .u64, .i .i64, .st 18 true], .one (.st 23 true), .one (.st 23 true), .one (.i .i64)])], []⟩
def prClient_tree : (Int × (Int × (Int × ((List TGuarded) × (Int × (Int × (Int × (Int × (Int × (Int × (Int × (Int × (Int × (Int × (Int × ((List TOption) × ((List UInt8) × (Int × Unit)))))))))))))))))) → Tr (Int × (Int × (Int × ((List TGuarded) × ((List TSegment) × ((List TSegment) × (Int × Unit))))))) :=
  fun (a0, a1, a2, a3, a4, a5, a6, a7, a8, a9, a10, a11, a12, a13, a14, a15, a16, a17, _) =>
  .grd (decide (((0 : Nat) + List.length a3) * (48 : Nat) ≤ (140737488355328 : Nat) ∧ (0 : Nat) + List.length a3 ≤ (9223372036854775807 : Nat))) (
  .opt (β := (Int × Unit)) ((prRefused_fn (a0, (a1, (a2, (a3, (a4, (a5, (a6, (a7, (a8, (a9, (a10, (a11, (a12, (a13, (a14, (a15, (a16, (a17, ())))))))))))))))))))) (fun r0 =>
  .ite (!decide (r0.1 = (0 : Int))) (
   .ret (a0, (a1, (a2, (a3, ([], ([], (r0.1, ())))))))) (
   .grd (decide (((0 : Nat) + List.length a3) * (48 : Nat) ≤ (140737488355328 : Nat) ∧ (0 : Nat) + List.length a3 ≤ (9223372036854775807 : Nat))) (
   .grd (decide (List.length a3 = List.length a3)) (
   .opt (β := (Int × ((List TGuarded) × Unit))) ((dfGuard_fn (a17, (a3, ())))) (fun r1 =>
   .opt (β := (Int × Unit)) ((prPlace_fn (a0, (a1, (a2, (r1.2.1, (a4, (a5, (a6, (a7, ())))))))))) (fun r2 =>
   .ite (decide ((0 : Int) ≤ r2.1)) (
    .grd (decide ((0 : Int) ≤ r2.1 ∧ r2.1 < (↑(List.length r1.2.fst) : Int))) (
    .opt (β := TGuarded) (r1.2.1[Int.toNat r2.1]?) (fun r3 =>
    .opt (β := (Int × (Int × (Int × (Int × (Int × (Int × (Int × ((List TOption) × ((List UInt8) × Unit)))))))))) ((tcMove_fn (a8, (a9, (a10, (a11, (a12, (a13, (a14, (a15, (a16, ((0 : Int), (IntKind.wrap IntKind.u32 ((0 : Int) - r3.delta), ()))))))))))))) (fun r4 =>
    .ite (!decide (bits BinOp.and IntKind.i64 a12 (4 : Int) = (0 : Int))) (
     .grd (decide (List.length r1.2.fst = List.length r1.2.1)) (
     .opt (β := ((List TGuarded) × Unit)) ((delGuard_fn (r2.1, (IntKind.wrap IntKind.i64 (r2.1 + (1 : Int)), (r1.2.1, ()))))) (fun r5 =>
     .ite (r3.open') (
      .grd (decide (List.length [TSegment.mk r4.1 r4.2.1 r4.2.2.1 r4.2.2.2.1 r4.2.2.2.2.1 r4.2.2.2.2.2.1 r4.2.2.2.2.2.2.1 r4.2.2.2.2.2.2.2.1 r4.2.2.2.2.2.2.2.2.1] * (88 : Nat) ≤ (140737488355328 : Nat) ∧ List.length [TSegment.mk r4.1 r4.2.1 r4.2.2.1 r4.2.2.2.1 r4.2.2.2.2.1 r4.2.2.2.2.2.1 r4.2.2.2.2.2.2.1 r4.2.2.2.2.2.2.2.1 r4.2.2.2.2.2.2.2.2.1] ≤ (9223372036854775807 : Nat))) (
      .ret (a0, (a1, (a2, (r5.1, ([], ([TSegment.mk r4.1 r4.2.1 r4.2.2.1 r4.2.2.2.1 r4.2.2.2.2.1 r4.2.2.2.2.2.1 r4.2.2.2.2.2.2.1 r4.2.2.2.2.2.2.2.1 r4.2.2.2.2.2.2.2.2.1], ((0 : Int), ()))))))))) (
      .ret (a0, (a1, (a2, (r5.1, ([], ([], ((0 : Int), ()))))))))))) (
     .ite (!decide (bits BinOp.and IntKind.i64 a12 (2 : Int) = (0 : Int))) (
      .ret (a0, (a1, (a2, (r1.2.1, ([], ([], ((0 : Int), ())))))))) (
      .ite (r3.open') (
       .grd (decide (List.length r1.2.fst = List.length r1.2.1)) (
       .opt (β := ((List TGuarded) × Unit)) ((delGuard_fn (r2.1, (IntKind.wrap IntKind.i64 (r2.1 + (1 : Int)), (r1.2.1, ()))))) (fun r5 =>
       .grd (decide ((List.length r5.1 + List.length [TGuarded.mk r3.from' r3.to r3.fromPort r3.toPort r3.seq r3.cookie r3.delta r3.open' r1.1]) * (48 : Nat) ≤ (140737488355328 : Nat) ∧ List.length r5.1 + List.length [TGuarded.mk r3.from' r3.to r3.fromPort r3.toPort r3.seq r3.cookie r3.delta r3.open' r1.1] ≤ (9223372036854775807 : Nat))) (
       .grd (decide (List.length [TSegment.mk r4.1 r4.2.1 r4.2.2.1 r4.2.2.2.1 r4.2.2.2.2.1 r4.2.2.2.2.2.1 r4.2.2.2.2.2.2.1 r4.2.2.2.2.2.2.2.1 r4.2.2.2.2.2.2.2.2.1] * (88 : Nat) ≤ (140737488355328 : Nat) ∧ List.length [TSegment.mk r4.1 r4.2.1 r4.2.2.1 r4.2.2.2.1 r4.2.2.2.2.1 r4.2.2.2.2.2.1 r4.2.2.2.2.2.2.1 r4.2.2.2.2.2.2.2.1 r4.2.2.2.2.2.2.2.2.1] ≤ (9223372036854775807 : Nat))) (
       .ret (a0, (a1, (a2, (r5.1 ++ [TGuarded.mk r3.from' r3.to r3.fromPort r3.toPort r3.seq r3.cookie r3.delta r3.open' r1.1], ([], ([TSegment.mk r4.1 r4.2.1 r4.2.2.1 r4.2.2.2.1 r4.2.2.2.2.1 r4.2.2.2.2.2.1 r4.2.2.2.2.2.2.1 r4.2.2.2.2.2.2.2.1 r4.2.2.2.2.2.2.2.2.1], ((0 : Int), ())))))))))))) (
       .ite (!decide (bits BinOp.and IntKind.i64 a12 (16 : Int) = (0 : Int))) (
        .opt (β := ((List TOption) × Unit)) ((prMss_fn ((536 : Int), ()))) (fun r5 =>
        .grd (decide (List.length [TSegment.mk r3.fromPort r3.toPort r3.seq (0 : Int) (2 : Int) (65535 : Int) (0 : Int) r5.1 []] * (88 : Nat) ≤ (140737488355328 : Nat) ∧ List.length [TSegment.mk r3.fromPort r3.toPort r3.seq (0 : Int) (2 : Int) (65535 : Int) (0 : Int) r5.1 []] ≤ (9223372036854775807 : Nat))) (
        .ret (a0, (a1, (a2, (r1.2.1, ([], ([TSegment.mk r3.fromPort r3.toPort r3.seq (0 : Int) (2 : Int) (65535 : Int) (0 : Int) r5.1 []], ((0 : Int), ())))))))))) (
        .ret (a0, (a1, (a2, (r1.2.1, ([], ([], ((0 : Int), ()))))))))))))))) (
    .grd (true) (
    .grd (true) (
    .ite (decide (bits BinOp.and IntKind.i64 a12 (23 : Int) = (2 : Int))) (
     .opt (β := (Int × (Bool × Unit))) ((tcMss_fn (a8, (a9, (a10, (a11, (a12, (a13, (a14, (a15, (a16, ()))))))))))) (fun r3 =>
     .ite (!r3.2.1) (
      .opt (β := (Int × Unit)) ((coIndex_fn ((536 : Int), ()))) (fun r4 =>
      .opt (β := (Int × (Int × Unit))) ((coMake_fn (a0, (a1, (a4, (a5, (a6, (a7, (a10, (Int.tmod (IntKind.wrap IntKind.i64 (Int.tdiv r1.1 (64 : Int))) (32 : Int), (r4.1, ()))))))))))) (fun r5 =>
      .opt (β := ((List TOption) × Unit)) ((prMss_fn (a2, ()))) (fun r6 =>
      .grd (decide (List.length [TSegment.mk a9 a8 r5.1 (IntKind.wrap IntKind.u32 (a10 + (1 : Int))) (18 : Int) (65535 : Int) (0 : Int) r6.1 []] * (88 : Nat) ≤ (140737488355328 : Nat) ∧ List.length [TSegment.mk a9 a8 r5.1 (IntKind.wrap IntKind.u32 (a10 + (1 : Int))) (18 : Int) (65535 : Int) (0 : Int) r6.1 []] ≤ (9223372036854775807 : Nat))) (
      .ite (false) (
       .ret (a0, (a1, (a2, (a3, ([], ([], ((0 : Int), ())))))))) (
       .ret (a0, (a1, (a2, (r1.2.1, ([TSegment.mk a9 a8 r5.1 (IntKind.wrap IntKind.u32 (a10 + (1 : Int))) (18 : Int) (65535 : Int) (0 : Int) r6.1 []], ([], ((0 : Int), ()))))))))))))) (
      .opt (β := (Int × Unit)) ((coIndex_fn (r3.1, ()))) (fun r4 =>
      .opt (β := (Int × (Int × Unit))) ((coMake_fn (a0, (a1, (a4, (a5, (a6, (a7, (a10, (Int.tmod (IntKind.wrap IntKind.i64 (Int.tdiv r1.1 (64 : Int))) (32 : Int), (r4.1, ()))))))))))) (fun r5 =>
      .opt (β := ((List TOption) × Unit)) ((prMss_fn (a2, ()))) (fun r6 =>
      .grd (decide (List.length [TSegment.mk a9 a8 r5.1 (IntKind.wrap IntKind.u32 (a10 + (1 : Int))) (18 : Int) (65535 : Int) (0 : Int) r6.1 []] * (88 : Nat) ≤ (140737488355328 : Nat) ∧ List.length [TSegment.mk a9 a8 r5.1 (IntKind.wrap IntKind.u32 (a10 + (1 : Int))) (18 : Int) (65535 : Int) (0 : Int) r6.1 []] ≤ (9223372036854775807 : Nat))) (
      .ite (false) (
       .ret (a0, (a1, (a2, (a3, ([], ([], ((0 : Int), ())))))))) (
       .ret (a0, (a1, (a2, (r1.2.1, ([TSegment.mk a9 a8 r5.1 (IntKind.wrap IntKind.u32 (a10 + (1 : Int))) (18 : Int) (65535 : Int) (0 : Int) r6.1 []], ([], ((0 : Int), ()))))))))))))))) (
     .ite (decide (bits BinOp.and IntKind.i64 a12 (23 : Int) = (16 : Int))) (
      .opt (β := (Int × (Int × Unit))) ((coOpen_fn (a0, (a1, (a4, (a5, (a6, (a7, (IntKind.wrap IntKind.u32 (a10 - (1 : Int)), (IntKind.wrap IntKind.u32 (a11 - (1 : Int)), (Int.tmod (IntKind.wrap IntKind.i64 (Int.tdiv r1.1 (64 : Int))) (32 : Int), ()))))))))))) (fun r3 =>
      .ite (!decide (r3.2.1 = (0 : Int))) (
       .grd (decide (List.length [TSegment.mk a9 a8 a11 (0 : Int) (4 : Int) (0 : Int) (0 : Int) [] []] * (88 : Nat) ≤ (140737488355328 : Nat) ∧ List.length [TSegment.mk a9 a8 a11 (0 : Int) (4 : Int) (0 : Int) (0 : Int) [] []] ≤ (9223372036854775807 : Nat))) (
       .ite (false) (
        .ret (a0, (a1, (a2, (a3, ([], ([], ((0 : Int), ())))))))) (
        .ret (a0, (a1, (a2, (r1.2.1, ([TSegment.mk a9 a8 a11 (0 : Int) (4 : Int) (0 : Int) (0 : Int) [] []], ([], ((0 : Int), ())))))))))) (
       .ite (decide ((↑(List.length r1.2.fst) : Int) = (64 : Int))) (
        .ite (true) (
         .ret (a0, (a1, (a2, (a3, ([], ([], ((6 : Int), ())))))))) (
         .ret (a0, (a1, (a2, (r1.2.1, ([], ([], ((0 : Int), ()))))))))) (
        .grd (decide ((List.length r1.2.1 + List.length [TGuarded.mk a4 a5 a6 a7 (IntKind.wrap IntKind.u32 (a10 - (1 : Int))) (IntKind.wrap IntKind.u32 (a11 - (1 : Int))) (0 : Int) false r1.1]) * (48 : Nat) ≤ (140737488355328 : Nat) ∧ List.length r1.2.1 + List.length [TGuarded.mk a4 a5 a6 a7 (IntKind.wrap IntKind.u32 (a10 - (1 : Int))) (IntKind.wrap IntKind.u32 (a11 - (1 : Int))) (0 : Int) false r1.1] ≤ (9223372036854775807 : Nat))) (
        .opt (β := ((List TOption) × Unit)) ((prMss_fn (r3.1, ()))) (fun r4 =>
        .grd (decide (List.length [TSegment.mk a6 a7 (IntKind.wrap IntKind.u32 (a10 - (1 : Int))) (0 : Int) (2 : Int) (65535 : Int) (0 : Int) r4.1 []] * (88 : Nat) ≤ (140737488355328 : Nat) ∧ List.length [TSegment.mk a6 a7 (IntKind.wrap IntKind.u32 (a10 - (1 : Int))) (0 : Int) (2 : Int) (65535 : Int) (0 : Int) r4.1 []] ≤ (9223372036854775807 : Nat))) (
        .ite (false) (
         .ret (a0, (a1, (a2, (a3, ([], ([], ((0 : Int), ())))))))) (
         .ret (a0, (a1, (a2, (r1.2.1 ++ [TGuarded.mk a4 a5 a6 a7 (IntKind.wrap IntKind.u32 (a10 - (1 : Int))) (IntKind.wrap IntKind.u32 (a11 - (1 : Int))) (0 : Int) false r1.1], ([], ([TSegment.mk a6 a7 (IntKind.wrap IntKind.u32 (a10 - (1 : Int))) (0 : Int) (2 : Int) (65535 : Int) (0 : Int) r4.1 []], ((0 : Int), ()))))))))))))))) (
      .ite (decide (bits BinOp.and IntKind.i64 a12 (23 : Int) = (17 : Int))) (
       .opt (β := (Int × (Int × Unit))) ((coOpen_fn (a0, (a1, (a4, (a5, (a6, (a7, (IntKind.wrap IntKind.u32 (a10 - (1 : Int)), (IntKind.wrap IntKind.u32 (a11 - (1 : Int)), (Int.tmod (IntKind.wrap IntKind.i64 (Int.tdiv r1.1 (64 : Int))) (32 : Int), ()))))))))))) (fun r3 =>
       .ite (!decide (r3.2.1 = (0 : Int))) (
        .grd (decide (List.length [TSegment.mk a9 a8 a11 (0 : Int) (4 : Int) (0 : Int) (0 : Int) [] []] * (88 : Nat) ≤ (140737488355328 : Nat) ∧ List.length [TSegment.mk a9 a8 a11 (0 : Int) (4 : Int) (0 : Int) (0 : Int) [] []] ≤ (9223372036854775807 : Nat))) (
        .ite (false) (
         .ret (a0, (a1, (a2, (a3, ([], ([], ((0 : Int), ())))))))) (
         .ret (a0, (a1, (a2, (r1.2.1, ([TSegment.mk a9 a8 a11 (0 : Int) (4 : Int) (0 : Int) (0 : Int) [] []], ([], ((0 : Int), ())))))))))) (
        .ite (decide ((↑(List.length r1.2.fst) : Int) = (64 : Int))) (
         .ite (true) (
          .ret (a0, (a1, (a2, (a3, ([], ([], ((6 : Int), ())))))))) (
          .ret (a0, (a1, (a2, (r1.2.1, ([], ([], ((0 : Int), ()))))))))) (
         .grd (decide ((List.length r1.2.1 + List.length [TGuarded.mk a4 a5 a6 a7 (IntKind.wrap IntKind.u32 (a10 - (1 : Int))) (IntKind.wrap IntKind.u32 (a11 - (1 : Int))) (0 : Int) false r1.1]) * (48 : Nat) ≤ (140737488355328 : Nat) ∧ List.length r1.2.1 + List.length [TGuarded.mk a4 a5 a6 a7 (IntKind.wrap IntKind.u32 (a10 - (1 : Int))) (IntKind.wrap IntKind.u32 (a11 - (1 : Int))) (0 : Int) false r1.1] ≤ (9223372036854775807 : Nat))) (
         .opt (β := ((List TOption) × Unit)) ((prMss_fn (r3.1, ()))) (fun r4 =>
         .grd (decide (List.length [TSegment.mk a6 a7 (IntKind.wrap IntKind.u32 (a10 - (1 : Int))) (0 : Int) (2 : Int) (65535 : Int) (0 : Int) r4.1 []] * (88 : Nat) ≤ (140737488355328 : Nat) ∧ List.length [TSegment.mk a6 a7 (IntKind.wrap IntKind.u32 (a10 - (1 : Int))) (0 : Int) (2 : Int) (65535 : Int) (0 : Int) r4.1 []] ≤ (9223372036854775807 : Nat))) (
         .ite (false) (
          .ret (a0, (a1, (a2, (a3, ([], ([], ((0 : Int), ())))))))) (
          .ret (a0, (a1, (a2, (r1.2.1 ++ [TGuarded.mk a4 a5 a6 a7 (IntKind.wrap IntKind.u32 (a10 - (1 : Int))) (IntKind.wrap IntKind.u32 (a11 - (1 : Int))) (0 : Int) false r1.1], ([], ([TSegment.mk a6 a7 (IntKind.wrap IntKind.u32 (a10 - (1 : Int))) (0 : Int) (2 : Int) (65535 : Int) (0 : Int) r4.1 []], ((0 : Int), ()))))))))))))))) (
       .ite (false) (
        .ret (a0, (a1, (a2, (a3, ([], ([], ((0 : Int), ())))))))) (
        .ret (a0, (a1, (a2, (r1.2.1, ([], ([], ((0 : Int), ())))))))))))))))))))))
theorem prClient_eq (x : (Int × (Int × (Int × ((List TGuarded) × (Int × (Int × (Int × (Int × (Int × (Int × (Int × (Int × (Int × (Int × (Int × ((List TOption) × ((List UInt8) × (Int × Unit))))))))))))))))))) : fnTr Try.prog cod [FS.pf rotl, FS.pf sipCheck, FS.pf sipBegin, FS.pf sipNumber, FS.pf sipMore, FS.pf sipEnd, FS.pf sipOf, FS.pf coPort, FS.pf coLong, FS.pf coSizes, FS.pf coIndex, FS.pf coMake, FS.pf coOpen, FS.pf sumFold, FS.pf sumAdd, FS.pf sumOf, clOpt, FS.pf tcWord, FS.pf tcLong, FS.pf tcWordAt, FS.pf tcLongAt, FS.pf tcWords, FS.pf tcOptions, FS.pf tcWrite, FS.pf tcMss, FS.pf tcMove, clGuard, GS.pf delGuard, FS.pf prTurned, FS.pf prPort, FS.pf prPlace, FS.pf prCheck, FS.pf prOld, FS.pf prRefused, GS.pf dfGuard, FS.pf prMss, mHas, mLeaves, mHeard, mAsk, mStranger, mFromClient, mFromServer] [] 30 22 prClient_ap prClient_rp x = prClient_tree x := by kernel_rfl
def prClient_fn (x : (Int × (Int × (Int × ((List TGuarded) × (Int × (Int × (Int × (Int × (Int × (Int × (Int × (Int × (Int × (Int × (Int × ((List TOption) × ((List UInt8) × (Int × Unit))))))))))))))))))) : Option (Int × (Int × (Int × ((List TGuarded) × ((List TSegment) × ((List TSegment) × (Int × Unit))))))) := (prClient_tree x).eval
def prClient : FS Try.prog := ⟨22, prClient_ap, prClient_rp, prClient_fn, fun x r h => fnTr_sound (cod := cod) (Γ := [FS.pf rotl, FS.pf sipCheck, FS.pf sipBegin, FS.pf sipNumber, FS.pf sipMore, FS.pf sipEnd, FS.pf sipOf, FS.pf coPort, FS.pf coLong, FS.pf coSizes, FS.pf coIndex, FS.pf coMake, FS.pf coOpen, FS.pf sumFold, FS.pf sumAdd, FS.pf sumOf, clOpt, FS.pf tcWord, FS.pf tcLong, FS.pf tcWordAt, FS.pf tcLongAt, FS.pf tcWords, FS.pf tcOptions, FS.pf tcWrite, FS.pf tcMss, FS.pf tcMove, clGuard, GS.pf delGuard, FS.pf prTurned, FS.pf prPort, FS.pf prPlace, FS.pf prCheck, FS.pf prOld, FS.pf prRefused, GS.pf dfGuard, FS.pf prMss, mHas, mLeaves, mHeard, mAsk, mStranger, mFromClient, mFromServer]) (Λs := []) (n := 30) ((congrArg Tr.eval (prClient_eq x)).trans h)⟩
def prServer_ap : List VP1 := [.agg [.i .u64, .i .u64, .i .i64, .st 18 false], .agg [.i .u32, .i .u32, .i .i64, .i .i64], .agg [.i .i64, .i .i64, .i .u32, .i .u32, .i .i64, .i .i64, .i .i64, .st 4 false, .s], .one (.i .i64)]
def prServer_rp : SP := ⟨1, [(0, .tup [.agg [.i .u64, .i .u64, .i .i64, .st 18 true], .one (.st 23 true), .one (.st 23 true), .one (.i .i64)])], []⟩
def prServer_tree : (Int × (Int × (Int × ((List TGuarded) × (Int × (Int × (Int × (Int × (Int × (Int × (Int × (Int × (Int × (Int × (Int × ((List TOption) × ((List UInt8) × (Int × Unit)))))))))))))))))) → Tr (Int × (Int × (Int × ((List TGuarded) × ((List TSegment) × ((List TSegment) × (Int × Unit))))))) :=
  fun (a0, a1, a2, a3, a4, a5, a6, a7, a8, a9, a10, a11, a12, a13, a14, a15, a16, a17, _) =>
  .grd (decide (((0 : Nat) + List.length a3) * (48 : Nat) ≤ (140737488355328 : Nat) ∧ (0 : Nat) + List.length a3 ≤ (9223372036854775807 : Nat))) (
  .opt (β := (Int × Unit)) ((prRefused_fn (a0, (a1, (a2, (a3, (a4, (a5, (a6, (a7, (a8, (a9, (a10, (a11, (a12, (a13, (a14, (a15, (a16, (a17, ())))))))))))))))))))) (fun r0 =>
  .ite (!decide (r0.1 = (0 : Int))) (
   .ret (a0, (a1, (a2, (a3, ([], ([], (r0.1, ())))))))) (
   .grd (decide (((0 : Nat) + List.length a3) * (48 : Nat) ≤ (140737488355328 : Nat) ∧ (0 : Nat) + List.length a3 ≤ (9223372036854775807 : Nat))) (
   .grd (decide (List.length a3 = List.length a3)) (
   .opt (β := (Int × ((List TGuarded) × Unit))) ((dfGuard_fn (a17, (a3, ())))) (fun r1 =>
   .opt (β := (Int × (Int × (Int × (Int × Unit))))) ((prTurned_fn (a4, (a5, (a6, (a7, ())))))) (fun r2 =>
   .opt (β := (Int × Unit)) ((prPlace_fn (a0, (a1, (a2, (r1.2.1, (r2.1, (r2.2.1, (r2.2.2.1, (r2.2.2.2.1, ())))))))))) (fun r3 =>
   .ite (decide ((0 : Int) ≤ r3.1)) (
    .grd (decide ((0 : Int) ≤ r3.1 ∧ r3.1 < (↑(List.length r1.2.fst) : Int))) (
    .opt (β := TGuarded) (r1.2.1[Int.toNat r3.1]?) (fun r4 =>
    .opt (β := (Int × (Int × (Int × (Int × (Int × (Int × (Int × ((List TOption) × ((List UInt8) × Unit)))))))))) ((tcMove_fn (a8, (a9, (a10, (a11, (a12, (a13, (a14, (a15, (a16, (r4.delta, ((0 : Int), ()))))))))))))) (fun r5 =>
    .ite (!decide (bits BinOp.and IntKind.i64 a12 (4 : Int) = (0 : Int))) (
     .grd (decide (List.length r1.2.fst = List.length r1.2.1)) (
     .opt (β := ((List TGuarded) × Unit)) ((delGuard_fn (r3.1, (IntKind.wrap IntKind.i64 (r3.1 + (1 : Int)), (r1.2.1, ()))))) (fun r6 =>
     .ite (!r4.open') (
      .grd (decide (List.length [TSegment.mk a8 a9 (IntKind.wrap IntKind.u32 (r4.cookie + (1 : Int))) (0 : Int) (4 : Int) (0 : Int) (0 : Int) [] []] * (88 : Nat) ≤ (140737488355328 : Nat) ∧ List.length [TSegment.mk a8 a9 (IntKind.wrap IntKind.u32 (r4.cookie + (1 : Int))) (0 : Int) (4 : Int) (0 : Int) (0 : Int) [] []] ≤ (9223372036854775807 : Nat))) (
      .ret (a0, (a1, (a2, (r6.1, ([TSegment.mk a8 a9 (IntKind.wrap IntKind.u32 (r4.cookie + (1 : Int))) (0 : Int) (4 : Int) (0 : Int) (0 : Int) [] []], ([], ((0 : Int), ()))))))))) (
      .grd (decide (List.length [TSegment.mk r5.1 r5.2.1 r5.2.2.1 r5.2.2.2.1 r5.2.2.2.2.1 r5.2.2.2.2.2.1 r5.2.2.2.2.2.2.1 r5.2.2.2.2.2.2.2.1 r5.2.2.2.2.2.2.2.2.1] * (88 : Nat) ≤ (140737488355328 : Nat) ∧ List.length [TSegment.mk r5.1 r5.2.1 r5.2.2.1 r5.2.2.2.1 r5.2.2.2.2.1 r5.2.2.2.2.2.1 r5.2.2.2.2.2.2.1 r5.2.2.2.2.2.2.2.1 r5.2.2.2.2.2.2.2.2.1] ≤ (9223372036854775807 : Nat))) (
      .ret (a0, (a1, (a2, (r6.1, ([TSegment.mk r5.1 r5.2.1 r5.2.2.1 r5.2.2.2.1 r5.2.2.2.2.1 r5.2.2.2.2.2.1 r5.2.2.2.2.2.2.1 r5.2.2.2.2.2.2.2.1 r5.2.2.2.2.2.2.2.2.1], ([], ((0 : Int), ())))))))))))) (
     .ite (r4.open') (
      .ite (!!decide (bits BinOp.and IntKind.i64 a12 (2 : Int) = (0 : Int))) (
       .grd (decide (List.length r1.2.fst = List.length r1.2.1)) (
       .opt (β := ((List TGuarded) × Unit)) ((delGuard_fn (r3.1, (IntKind.wrap IntKind.i64 (r3.1 + (1 : Int)), (r1.2.1, ()))))) (fun r6 =>
       .grd (decide ((List.length r6.1 + List.length [TGuarded.mk r4.from' r4.to r4.fromPort r4.toPort r4.seq r4.cookie r4.delta r4.open' r1.1]) * (48 : Nat) ≤ (140737488355328 : Nat) ∧ List.length r6.1 + List.length [TGuarded.mk r4.from' r4.to r4.fromPort r4.toPort r4.seq r4.cookie r4.delta r4.open' r1.1] ≤ (9223372036854775807 : Nat))) (
       .grd (decide (List.length [TSegment.mk r5.1 r5.2.1 r5.2.2.1 r5.2.2.2.1 r5.2.2.2.2.1 r5.2.2.2.2.2.1 r5.2.2.2.2.2.2.1 r5.2.2.2.2.2.2.2.1 r5.2.2.2.2.2.2.2.2.1] * (88 : Nat) ≤ (140737488355328 : Nat) ∧ List.length [TSegment.mk r5.1 r5.2.1 r5.2.2.1 r5.2.2.2.1 r5.2.2.2.2.1 r5.2.2.2.2.2.1 r5.2.2.2.2.2.2.1 r5.2.2.2.2.2.2.2.1 r5.2.2.2.2.2.2.2.2.1] ≤ (9223372036854775807 : Nat))) (
       .ret (a0, (a1, (a2, (r6.1 ++ [TGuarded.mk r4.from' r4.to r4.fromPort r4.toPort r4.seq r4.cookie r4.delta r4.open' r1.1], ([TSegment.mk r5.1 r5.2.1 r5.2.2.1 r5.2.2.2.1 r5.2.2.2.2.1 r5.2.2.2.2.2.1 r5.2.2.2.2.2.2.1 r5.2.2.2.2.2.2.2.1 r5.2.2.2.2.2.2.2.2.1], ([], ((0 : Int), ())))))))))))) (
       .ite (!r4.open') (
        .ite (!decide (bits BinOp.and IntKind.i64 a12 (2 : Int) = (0 : Int))) (
         .ite (!decide (bits BinOp.and IntKind.i64 a12 (16 : Int) = (0 : Int))) (
          .ite (decide (a11 = IntKind.wrap IntKind.u32 (r4.seq + (1 : Int)))) (
           .grd (decide (List.length r1.2.fst = List.length r1.2.1)) (
           .opt (β := ((List TGuarded) × Unit)) ((delGuard_fn (r3.1, (IntKind.wrap IntKind.i64 (r3.1 + (1 : Int)), (r1.2.1, ()))))) (fun r6 =>
           .grd (decide ((List.length r6.1 + List.length [TGuarded.mk r4.from' r4.to r4.fromPort r4.toPort r4.seq r4.cookie (IntKind.wrap IntKind.u32 (r4.cookie - a10)) true r1.1]) * (48 : Nat) ≤ (140737488355328 : Nat) ∧ List.length r6.1 + List.length [TGuarded.mk r4.from' r4.to r4.fromPort r4.toPort r4.seq r4.cookie (IntKind.wrap IntKind.u32 (r4.cookie - a10)) true r1.1] ≤ (9223372036854775807 : Nat))) (
           .grd (decide (List.length [TSegment.mk a9 a8 a11 (IntKind.wrap IntKind.u32 (a10 + (1 : Int))) (16 : Int) (65535 : Int) (0 : Int) [] []] * (88 : Nat) ≤ (140737488355328 : Nat) ∧ List.length [TSegment.mk a9 a8 a11 (IntKind.wrap IntKind.u32 (a10 + (1 : Int))) (16 : Int) (65535 : Int) (0 : Int) [] []] ≤ (9223372036854775807 : Nat))) (
           .ret (a0, (a1, (a2, (r6.1 ++ [TGuarded.mk r4.from' r4.to r4.fromPort r4.toPort r4.seq r4.cookie (IntKind.wrap IntKind.u32 (r4.cookie - a10)) true r1.1], ([], ([TSegment.mk a9 a8 a11 (IntKind.wrap IntKind.u32 (a10 + (1 : Int))) (16 : Int) (65535 : Int) (0 : Int) [] []], ((0 : Int), ())))))))))))) (
           .ret (a0, (a1, (a2, (r1.2.1, ([], ([], ((0 : Int), ()))))))))) (
          .ret (a0, (a1, (a2, (r1.2.1, ([], ([], ((0 : Int), ()))))))))) (
         .ret (a0, (a1, (a2, (r1.2.1, ([], ([], ((0 : Int), ()))))))))) (
        .ret (a0, (a1, (a2, (r1.2.1, ([], ([], ((0 : Int), ())))))))))) (
      .ite (!r4.open') (
       .ite (!decide (bits BinOp.and IntKind.i64 a12 (2 : Int) = (0 : Int))) (
        .ite (!decide (bits BinOp.and IntKind.i64 a12 (16 : Int) = (0 : Int))) (
         .ite (decide (a11 = IntKind.wrap IntKind.u32 (r4.seq + (1 : Int)))) (
          .grd (decide (List.length r1.2.fst = List.length r1.2.1)) (
          .opt (β := ((List TGuarded) × Unit)) ((delGuard_fn (r3.1, (IntKind.wrap IntKind.i64 (r3.1 + (1 : Int)), (r1.2.1, ()))))) (fun r6 =>
          .grd (decide ((List.length r6.1 + List.length [TGuarded.mk r4.from' r4.to r4.fromPort r4.toPort r4.seq r4.cookie (IntKind.wrap IntKind.u32 (r4.cookie - a10)) true r1.1]) * (48 : Nat) ≤ (140737488355328 : Nat) ∧ List.length r6.1 + List.length [TGuarded.mk r4.from' r4.to r4.fromPort r4.toPort r4.seq r4.cookie (IntKind.wrap IntKind.u32 (r4.cookie - a10)) true r1.1] ≤ (9223372036854775807 : Nat))) (
          .grd (decide (List.length [TSegment.mk a9 a8 a11 (IntKind.wrap IntKind.u32 (a10 + (1 : Int))) (16 : Int) (65535 : Int) (0 : Int) [] []] * (88 : Nat) ≤ (140737488355328 : Nat) ∧ List.length [TSegment.mk a9 a8 a11 (IntKind.wrap IntKind.u32 (a10 + (1 : Int))) (16 : Int) (65535 : Int) (0 : Int) [] []] ≤ (9223372036854775807 : Nat))) (
          .ret (a0, (a1, (a2, (r6.1 ++ [TGuarded.mk r4.from' r4.to r4.fromPort r4.toPort r4.seq r4.cookie (IntKind.wrap IntKind.u32 (r4.cookie - a10)) true r1.1], ([], ([TSegment.mk a9 a8 a11 (IntKind.wrap IntKind.u32 (a10 + (1 : Int))) (16 : Int) (65535 : Int) (0 : Int) [] []], ((0 : Int), ())))))))))))) (
          .ret (a0, (a1, (a2, (r1.2.1, ([], ([], ((0 : Int), ()))))))))) (
         .ret (a0, (a1, (a2, (r1.2.1, ([], ([], ((0 : Int), ()))))))))) (
        .ret (a0, (a1, (a2, (r1.2.1, ([], ([], ((0 : Int), ()))))))))) (
       .ret (a0, (a1, (a2, (r1.2.1, ([], ([], ((0 : Int), ())))))))))))))) (
    .ret (a0, (a1, (a2, (r1.2.1, ([], ([], ((0 : Int), ()))))))))))))))))
theorem prServer_eq (x : (Int × (Int × (Int × ((List TGuarded) × (Int × (Int × (Int × (Int × (Int × (Int × (Int × (Int × (Int × (Int × (Int × ((List TOption) × ((List UInt8) × (Int × Unit))))))))))))))))))) : fnTr Try.prog cod [FS.pf rotl, FS.pf sipCheck, FS.pf sipBegin, FS.pf sipNumber, FS.pf sipMore, FS.pf sipEnd, FS.pf sipOf, FS.pf coPort, FS.pf coLong, FS.pf coSizes, FS.pf coIndex, FS.pf coMake, FS.pf coOpen, FS.pf sumFold, FS.pf sumAdd, FS.pf sumOf, clOpt, FS.pf tcWord, FS.pf tcLong, FS.pf tcWordAt, FS.pf tcLongAt, FS.pf tcWords, FS.pf tcOptions, FS.pf tcWrite, FS.pf tcMss, FS.pf tcMove, clGuard, GS.pf delGuard, FS.pf prTurned, FS.pf prPort, FS.pf prPlace, FS.pf prCheck, FS.pf prOld, FS.pf prRefused, GS.pf dfGuard, FS.pf prMss, mHas, mLeaves, mHeard, mAsk, mStranger, mFromClient, mFromServer, FS.pf prClient] [] 30 29 prServer_ap prServer_rp x = prServer_tree x := by kernel_rfl
def prServer_fn (x : (Int × (Int × (Int × ((List TGuarded) × (Int × (Int × (Int × (Int × (Int × (Int × (Int × (Int × (Int × (Int × (Int × ((List TOption) × ((List UInt8) × (Int × Unit))))))))))))))))))) : Option (Int × (Int × (Int × ((List TGuarded) × ((List TSegment) × ((List TSegment) × (Int × Unit))))))) := (prServer_tree x).eval
def prServer : FS Try.prog := ⟨29, prServer_ap, prServer_rp, prServer_fn, fun x r h => fnTr_sound (cod := cod) (Γ := [FS.pf rotl, FS.pf sipCheck, FS.pf sipBegin, FS.pf sipNumber, FS.pf sipMore, FS.pf sipEnd, FS.pf sipOf, FS.pf coPort, FS.pf coLong, FS.pf coSizes, FS.pf coIndex, FS.pf coMake, FS.pf coOpen, FS.pf sumFold, FS.pf sumAdd, FS.pf sumOf, clOpt, FS.pf tcWord, FS.pf tcLong, FS.pf tcWordAt, FS.pf tcLongAt, FS.pf tcWords, FS.pf tcOptions, FS.pf tcWrite, FS.pf tcMss, FS.pf tcMove, clGuard, GS.pf delGuard, FS.pf prTurned, FS.pf prPort, FS.pf prPlace, FS.pf prCheck, FS.pf prOld, FS.pf prRefused, GS.pf dfGuard, FS.pf prMss, mHas, mLeaves, mHeard, mAsk, mStranger, mFromClient, mFromServer, FS.pf prClient]) (Λs := []) (n := 30) ((congrArg Tr.eval (prServer_eq x)).trans h)⟩
end Go.Proofs.Ytcdcdmfecglemaa.X
