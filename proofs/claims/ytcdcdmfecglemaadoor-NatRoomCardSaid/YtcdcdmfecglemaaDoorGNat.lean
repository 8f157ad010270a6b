/- Functions of the program, as trees (printed by a program of mine: tool/XTool, xg.py), each with the proof that the machine comes to what its tree says. Conditions: none. -/
import Derived.Test.YtcdcdmfecglemaaDoorCod
import Derived.KernelRfl
import Derived.Test.YtcdcdmfecglemaaDoorGPorts
namespace Go.Proofs.YtcdcdmfecglemaaDoor.X
open Go Go.RowKit Go.Proofs.YtcdcdmfecglemaaDoor.Abs
set_option maxRecDepth 100000
set_option linter.unusedVariables false
theorem clMap_h1 (xs : List (τ 17)) : (bodyTr Go.Proofs.Tryd.prog cod 13 [.one (.nn (.st 17 xs))]).eval = (cloneRes 42 17 40 xs).eval := by kernel_rfl
theorem clMap_h2 : (bodyTr Go.Proofs.Tryd.prog cod 13 [.one .nil]).eval = some (.one .nil, []) := by kernel_rfl
def clMap : PF Go.Proofs.Tryd.prog := clonePF Go.Proofs.Tryd.prog cod 13 42 17 40 clMap_h1 clMap_h2
def delMap_ap : SP := ⟨33, [(0, .v (.one (.own 1000100))), (1, .v (.one (.i .i64))), (2, .v (.one (.i .i64)))], [(1000100, .row 42 17 true true)]⟩
def delMap_rp : SP := ⟨1, [(0, .v (.one (.own 1000100)))], [(1000100, .row 42 17 true true)]⟩
def delMap_tree : (Int × (Int × ((List TMap) × Unit))) → Tr ((List TMap) × Unit) :=
  fun (a0, a1, a2, _) =>
  .grd (decide ((0 : Int) ≤ a0 ∧ a0 ≤ a1 ∧ a1 ≤ (↑(List.length a2) : Int) ∧ (↑(List.length a2) : Int) ≤ (↑(List.length a2) : Int))) (
  .ite (decide (a0 = a1)) (
   .grd (decide (List.length a2 = List.length a2)) (
   .ret (a2, ()))) (
   .grd (decide ((0 : Int) ≤ a0 ∧ a0 ≤ (↑(List.length a2) : Int))) (
   .grd (decide ((0 : Int) ≤ a1 ∧ a1 ≤ (↑(List.length a2) : Int) ∧ (↑(List.length a2) : Int) ≤ (↑(List.length a2) : Int))) (
   .grd (decide (Int.toNat a1 + Int.toNat ((↑(List.length a2) : Int) - a1) ≤ List.length a2)) (
   .grd (decide (Int.toNat a0 + List.length (List.take (Int.toNat ((↑(List.length a2) : Int) - a1)) (List.drop (Int.toNat a1) a2)) ≤ List.length a2)) (
   .grd (decide ((0 : Int) ≤ (↑(Int.toNat a0 + List.length (List.take (Int.toNat ((↑(List.length a2) : Int) - a1)) (List.drop (Int.toNat a1) a2))) : Int) ∧ (↑(Int.toNat a0 + List.length (List.take (Int.toNat ((↑(List.length a2) : Int) - a1)) (List.drop (Int.toNat a1) a2))) : Int) ≤ (↑(List.length a2) : Int) ∧ (↑(List.length a2) : Int) ≤ (↑(List.length (List.take (Int.toNat a0) a2 ++ List.take (Int.toNat ((↑(List.length a2) : Int) - a1)) (List.drop (Int.toNat a1) a2) ++ List.drop (Int.toNat a0 + List.length (List.take (Int.toNat ((↑(List.length a2) : Int) - a1)) (List.drop (Int.toNat a1) a2))) a2)) : Int))) (
   .grd (decide (Int.toNat (↑(Int.toNat a0 + List.length (List.take (Int.toNat ((↑(List.length a2) : Int) - a1)) (List.drop (Int.toNat a1) a2))) : Int) + Int.toNat ((↑(List.length a2) : Int) - (↑(Int.toNat a0 + List.length (List.take (Int.toNat ((↑(List.length a2) : Int) - a1)) (List.drop (Int.toNat a1) a2))) : Int)) ≤ List.length (List.take (Int.toNat a0) a2 ++ List.take (Int.toNat ((↑(List.length a2) : Int) - a1)) (List.drop (Int.toNat a1) a2) ++ List.drop (Int.toNat a0 + List.length (List.take (Int.toNat ((↑(List.length a2) : Int) - a1)) (List.drop (Int.toNat a1) a2))) a2))) (
   .grd (decide (Int.toNat a0 + List.length (List.take (Int.toNat ((↑(List.length a2) : Int) - a1)) (List.drop (Int.toNat a1) a2)) = List.length (List.take (Int.toNat a0 + List.length (List.take (Int.toNat ((↑(List.length a2) : Int) - a1)) (List.drop (Int.toNat a1) a2))) (List.take (Int.toNat (↑(Int.toNat a0 + List.length (List.take (Int.toNat ((↑(List.length a2) : Int) - a1)) (List.drop (Int.toNat a1) a2))) : Int)) (List.take (Int.toNat a0) a2 ++ List.take (Int.toNat ((↑(List.length a2) : Int) - a1)) (List.drop (Int.toNat a1) a2) ++ List.drop (Int.toNat a0 + List.length (List.take (Int.toNat ((↑(List.length a2) : Int) - a1)) (List.drop (Int.toNat a1) a2))) a2) ++ List.replicate (Int.toNat ((↑(List.length a2) : Int) - (↑(Int.toNat a0 + List.length (List.take (Int.toNat ((↑(List.length a2) : Int) - a1)) (List.drop (Int.toNat a1) a2))) : Int))) (TMap.mk (0 : Int) (0 : Int) (0 : Int) (0 : Int) (0 : Int)) ++ List.drop (Int.toNat (↑(Int.toNat a0 + List.length (List.take (Int.toNat ((↑(List.length a2) : Int) - a1)) (List.drop (Int.toNat a1) a2))) : Int) + List.length (List.replicate (Int.toNat ((↑(List.length a2) : Int) - (↑(Int.toNat a0 + List.length (List.take (Int.toNat ((↑(List.length a2) : Int) - a1)) (List.drop (Int.toNat a1) a2))) : Int))) (TMap.mk (0 : Int) (0 : Int) (0 : Int) (0 : Int) (0 : Int)))) (List.take (Int.toNat a0) a2 ++ List.take (Int.toNat ((↑(List.length a2) : Int) - a1)) (List.drop (Int.toNat a1) a2) ++ List.drop (Int.toNat a0 + List.length (List.take (Int.toNat ((↑(List.length a2) : Int) - a1)) (List.drop (Int.toNat a1) a2))) a2))))) (
   .ret (List.take (Int.toNat a0 + List.length (List.take (Int.toNat ((↑(List.length a2) : Int) - a1)) (List.drop (Int.toNat a1) a2))) (List.take (Int.toNat (↑(Int.toNat a0 + List.length (List.take (Int.toNat ((↑(List.length a2) : Int) - a1)) (List.drop (Int.toNat a1) a2))) : Int)) (List.take (Int.toNat a0) a2 ++ List.take (Int.toNat ((↑(List.length a2) : Int) - a1)) (List.drop (Int.toNat a1) a2) ++ List.drop (Int.toNat a0 + List.length (List.take (Int.toNat ((↑(List.length a2) : Int) - a1)) (List.drop (Int.toNat a1) a2))) a2) ++ List.replicate (Int.toNat ((↑(List.length a2) : Int) - (↑(Int.toNat a0 + List.length (List.take (Int.toNat ((↑(List.length a2) : Int) - a1)) (List.drop (Int.toNat a1) a2))) : Int))) (TMap.mk (0 : Int) (0 : Int) (0 : Int) (0 : Int) (0 : Int)) ++ List.drop (Int.toNat (↑(Int.toNat a0 + List.length (List.take (Int.toNat ((↑(List.length a2) : Int) - a1)) (List.drop (Int.toNat a1) a2))) : Int) + List.length (List.replicate (Int.toNat ((↑(List.length a2) : Int) - (↑(Int.toNat a0 + List.length (List.take (Int.toNat ((↑(List.length a2) : Int) - a1)) (List.drop (Int.toNat a1) a2))) : Int))) (TMap.mk (0 : Int) (0 : Int) (0 : Int) (0 : Int) (0 : Int)))) (List.take (Int.toNat a0) a2 ++ List.take (Int.toNat ((↑(List.length a2) : Int) - a1)) (List.drop (Int.toNat a1) a2) ++ List.drop (Int.toNat a0 + List.length (List.take (Int.toNat ((↑(List.length a2) : Int) - a1)) (List.drop (Int.toNat a1) a2))) a2)), ()))))))))))
theorem delMap_eq (x : (Int × (Int × ((List TMap) × Unit)))) : gsTr Tryd.prog cod [tz64, FS.pf portsCheck, FS.pf portsLet, FS.pf portsEnd, clMap] [] 30 16 delMap_ap delMap_rp x = delMap_tree x := by kernel_rfl
def delMap_fn (x : (Int × (Int × ((List TMap) × Unit)))) : Option ((List TMap) × Unit) := (delMap_tree x).eval
def delMap : GS Tryd.prog := ⟨16, [1, 0, 0], delMap_ap, delMap_rp, delMap_fn, fun x r h ys m g he hg => gs_sound (cod := cod) (Γ := [tz64, FS.pf portsCheck, FS.pf portsLet, FS.pf portsEnd, clMap]) (Λs := []) (n := 30) ((congrArg Tr.eval (delMap_eq x)).trans h) he hg⟩
def eqMap_L24_4 : LS := ⟨4, [], ⟨26, [(13, .v (.one (.i .i64))), (1, .v (.one (.st 17 false))), (0, .v (.one (.st 17 false))), (12, .v (.one (.i .i64)))], []⟩, [⟨none, [], ⟨26, [(4, .v (.one (.b)))], []⟩⟩, ⟨some 0, [], ⟨26, [], []⟩⟩], []⟩
def eqMap_step24_4 : (Int × ((List TMap) × ((List TMap) × (Int × Unit)))) → Tr ((Int × ((List TMap) × ((List TMap) × (Int × Unit)))) ⊕ ((Bool × Unit) ⊕ Unit)) :=
  fun (a0, a1, a2, a3, _) =>
  .ite (decide (a0 < a3)) (
   .grd (decide ((0 : Int) ≤ a0)) (
   .opt (β := TMap) (a2[Int.toNat a0]?) (fun r0 =>
   .grd (decide ((0 : Int) ≤ a0)) (
   .opt (β := TMap) (a1[Int.toNat a0]?) (fun r1 =>
   .ite (!(decide (r0.proto = r1.proto) && (decide (r0.addr = r1.addr) && (decide (r0.port = r1.port) && (decide (r0.out = r1.out) && (decide (r0.at' = r1.at') && true)))))) (
    .ret (Sum.inr (Sum.inl (false, ())))) (
    .ret (Sum.inl (IntKind.wrap IntKind.i64 (a0 + (1 : Int)), (a1, (a2, (a3, ()))))))))))) (
   .ret (Sum.inr (Sum.inr ())))
def eqMap_loop24_4 (x : (Int × ((List TMap) × ((List TMap) × (Int × Unit))))) : Option ((Bool × Unit) ⊕ Unit) := loopO 240004 (fun x => (eqMap_step24_4 x).eval) 18446744073709551616 x
def eqMap_ap : List VP1 := [.one (.st 17 false), .one (.st 17 false)]
def eqMap_rp : SP := ⟨1, [(0, .v (.one (.b)))], []⟩
def eqMap_tree : ((List TMap) × ((List TMap) × Unit)) → Tr (Bool × Unit) :=
  fun (a0, a1, _) =>
  .ite (!decide ((↑(List.length a0) : Int) = (↑(List.length a1) : Int))) (
   .ret (false, ())) (
   .opt (β := ((Bool × Unit) ⊕ Unit)) ((eqMap_loop24_4 ((0 : Int), (a1, (a0, ((↑(List.length a0) : Int), ())))))) (fun r0 =>
   .sum (β := (Bool × Unit)) (γ := Unit) (r0) (fun r1 =>
    .ret (r1.1, ())) (fun r1 =>
    .ret (true, ()))))
theorem eqMap_eq (x : ((List TMap) × ((List TMap) × Unit))) : fnTr Tryd.prog cod [tz64, FS.pf portsCheck, FS.pf portsLet, FS.pf portsEnd, clMap, GS.pf delMap] [(24, eqMap_L24_4)] 30 24 eqMap_ap eqMap_rp x = eqMap_tree x := by kernel_rfl
def eqMap_fn (x : ((List TMap) × ((List TMap) × Unit))) : Option (Bool × Unit) := (eqMap_tree x).eval
def eqMap : FS Tryd.prog := ⟨24, eqMap_ap, eqMap_rp, eqMap_fn, fun x r h => fnTr_sound (cod := cod) (Γ := [tz64, FS.pf portsCheck, FS.pf portsLet, FS.pf portsEnd, clMap, GS.pf delMap]) (Λs := [(24, eqMap_L24_4)]) (n := 30) ((congrArg Tr.eval (eqMap_eq x)).trans h)⟩
def natWithin_L26_2 : LS := ⟨2, [(1000200, 1000200), (1000201, 1000201), (1000202, 1000202)], ⟨19, [(8, .v (.one (.i .i64))), (0, .v (.one (.st 17 false))), (1, .v (.one (.clp 27 [(1000200, 0), (1000201, 0), (1000202, 0)]))), (7, .v (.one (.i .i64)))], [(1000200, .cells [.i .i64]), (1000201, .cells [.i .u32]), (1000202, .cells [.i .i64])]⟩, [⟨none, [(1000200, 1000200), (1000201, 1000201), (1000202, 1000202)], ⟨19, [(4, .v (.one (.i .i64)))], [(1000200, .cells [.i .i64]), (1000201, .cells [.i .u32]), (1000202, .cells [.i .i64])]⟩⟩, ⟨some 0, [(1000200, 1000200), (1000201, 1000201), (1000202, 1000202)], ⟨19, [], [(1000200, .cells [.i .i64]), (1000201, .cells [.i .u32]), (1000202, .cells [.i .i64])]⟩⟩], []⟩
def natWithin_step26_2 : (Int × ((List TMap) × (Int × (Int × (Int × (Int × Unit)))))) → Tr ((Int × ((List TMap) × (Int × (Int × (Int × (Int × Unit)))))) ⊕ ((Int × (Int × (Int × (Int × Unit)))) ⊕ (Int × (Int × (Int × Unit))))) :=
  fun (a0, a1, a2, a3, a4, a5, _) =>
  .ite (decide (a0 < a2)) (
   .grd (decide ((0 : Int) ≤ a0)) (
   .opt (β := TMap) (a1[Int.toNat a0]?) (fun r0 =>
   .ite (decide (r0.proto = a3)) (
    .ite (decide (r0.addr = a4)) (
     .ite (decide (r0.port = a5)) (
      .ret (Sum.inr (Sum.inl (a0, (a3, (a4, (a5, ()))))))) (
      .ret (Sum.inl (IntKind.wrap IntKind.i64 (a0 + (1 : Int)), (a1, (a2, (a3, (a4, (a5, ()))))))))) (
     .ite (false) (
      .ret (Sum.inr (Sum.inl (a0, (a3, (a4, (a5, ()))))))) (
      .ret (Sum.inl (IntKind.wrap IntKind.i64 (a0 + (1 : Int)), (a1, (a2, (a3, (a4, (a5, ())))))))))) (
    .ite (false) (
     .ret (Sum.inr (Sum.inl (a0, (a3, (a4, (a5, ()))))))) (
     .ret (Sum.inl (IntKind.wrap IntKind.i64 (a0 + (1 : Int)), (a1, (a2, (a3, (a4, (a5, ())))))))))))) (
   .ret (Sum.inr (Sum.inr (a3, (a4, (a5, ()))))))
def natWithin_loop26_2 (x : (Int × ((List TMap) × (Int × (Int × (Int × (Int × Unit))))))) : Option ((Int × (Int × (Int × (Int × Unit)))) ⊕ (Int × (Int × (Int × Unit)))) := loopO 260002 (fun x => (natWithin_step26_2 x).eval) 18446744073709551616 x
def natWithin_ap : List VP1 := [.agg [.i .i64, .i .i64, .i .u64, .i .i64, .i .u64, .st 17 false], .one (.i .i64), .one (.i .u32), .one (.i .i64)]
def natWithin_rp : SP := ⟨1, [(0, .v (.one (.i .i64)))], []⟩
def natWithin_tree : (Int × (Int × (Int × (Int × (Int × ((List TMap) × (Int × (Int × (Int × Unit))))))))) → Tr (Int × Unit) :=
  fun (a0, a1, a2, a3, a4, a5, a6, a7, a8, _) =>
  .opt (β := ((Int × (Int × (Int × (Int × Unit)))) ⊕ (Int × (Int × (Int × Unit))))) ((natWithin_loop26_2 ((0 : Int), (a5, ((↑(List.length a5) : Int), (a6, (a7, (a8, ())))))))) (fun r0 =>
  .sum (β := (Int × (Int × (Int × (Int × Unit))))) (γ := (Int × (Int × (Int × Unit)))) (r0) (fun r1 =>
   .ret (r1.1, ())) (fun r1 =>
   .ret ((-1 : Int), ())))
theorem natWithin_eq (x : (Int × (Int × (Int × (Int × (Int × ((List TMap) × (Int × (Int × (Int × Unit)))))))))) : fnTr Tryd.prog cod [tz64, FS.pf portsCheck, FS.pf portsLet, FS.pf portsEnd, clMap, GS.pf delMap, FS.pf eqMap] [(26, natWithin_L26_2)] 30 15 natWithin_ap natWithin_rp x = natWithin_tree x := by kernel_rfl
def natWithin_fn (x : (Int × (Int × (Int × (Int × (Int × ((List TMap) × (Int × (Int × (Int × Unit)))))))))) : Option (Int × Unit) := (natWithin_tree x).eval
def natWithin : FS Tryd.prog := ⟨15, natWithin_ap, natWithin_rp, natWithin_fn, fun x r h => fnTr_sound (cod := cod) (Γ := [tz64, FS.pf portsCheck, FS.pf portsLet, FS.pf portsEnd, clMap, GS.pf delMap, FS.pf eqMap]) (Λs := [(26, natWithin_L26_2)]) (n := 30) ((congrArg Tr.eval (natWithin_eq x)).trans h)⟩
def natCheck_L9_9 : LS := ⟨9, [(1, 1), (4, 4)], ⟨103, [(33, .v (.one (.i .i64))), (1, .v (.one (.ptr 1 0))), (5, .v (.one (.i .i64))), (4, .v (.one (.ptr 4 0))), (31, .v (.one (.st 17 false))), (32, .v (.one (.i .i64)))], [(1, .cells [.i .i64, .i .i64, .i .u64, .i .i64, .i .u64, .st 17 false]), (4, .cells [.i .i64, .i .i64, .i .u64, .i .i64, .i .u64, .st 17 false])]⟩, [⟨none, [], ⟨103, [(2, .v (.one (.i .i64)))], []⟩⟩, ⟨some 0, [(4, 4)], ⟨103, [(4, .v (.one (.ptr 4 0)))], [(4, .cells [.i .i64, .i .i64, .i .u64, .i .i64, .i .u64, .st 17 false])]⟩⟩], []⟩
def natCheck_step9_9 : (Int × (Int × ((List TMap) × (Int × (Int × (Int × (Int × (Int × (Int × ((List TMap) × (Int × (Int × (Int × (Int × (Int × ((List TMap) × Unit)))))))))))))))) → Tr ((Int × (Int × ((List TMap) × (Int × (Int × (Int × (Int × (Int × (Int × ((List TMap) × (Int × (Int × (Int × (Int × (Int × ((List TMap) × Unit)))))))))))))))) ⊕ ((Int × Unit) ⊕ (Int × (Int × (Int × (Int × (Int × ((List TMap) × Unit)))))))) :=
  fun (a0, a1, a2, a3, a4, a5, a6, a7, a8, a9, a10, a11, a12, a13, a14, a15, _) =>
  .ite (decide (a0 < a3)) (
   .grd (decide ((0 : Int) ≤ a0)) (
   .opt (β := TMap) (a2[Int.toNat a0]?) (fun r0 =>
   .ite (decide (r0.proto = (17 : Int))) (
    .ite (false) (
     .ret (Sum.inr (Sum.inl ((4 : Int), ())))) (
     .ite (decide (r0.port < (0 : Int))) (
      .ret (Sum.inr (Sum.inl ((4 : Int), ())))) (
      .ite (decide ((65535 : Int) < r0.port)) (
       .ret (Sum.inr (Sum.inl ((4 : Int), ())))) (
       .ite (decide (r0.at' < a1)) (
        .ret (Sum.inr (Sum.inl ((4 : Int), ())))) (
        .ite (decide ((1099511627776 : Int) < r0.at')) (
         .ret (Sum.inr (Sum.inl ((4 : Int), ())))) (
         .opt (β := (Int × Unit)) ((natWithin_fn (a4, (a5, (a6, (a7, (a8, (a9, (r0.proto, (r0.addr, (r0.port, ()))))))))))) (fun r1 =>
         .ite (!decide (r1.1 = a0)) (
          .ret (Sum.inr (Sum.inl ((4 : Int), ())))) (
          .opt (β := (Int × (Int × (Int × Unit)))) ((portsEnd_fn (a11, (a12, (r0.out, ()))))) (fun r2 =>
          .ite (!decide (r2.2.2.1 = (0 : Int))) (
           .ret (Sum.inr (Sum.inl ((4 : Int), ())))) (
           .ret (Sum.inl (IntKind.wrap IntKind.i64 (a0 + (1 : Int)), (r0.at', (a2, (a3, (a4, (a5, (a6, (a7, (a8, (a9, (a10, (r2.1, (r2.2.1, (a13, (a14, (a15, ()))))))))))))))))))))))))))) (
    .ite (decide (r0.proto = (6 : Int))) (
     .ite (false) (
      .ret (Sum.inr (Sum.inl ((4 : Int), ())))) (
      .ite (decide (r0.port < (0 : Int))) (
       .ret (Sum.inr (Sum.inl ((4 : Int), ())))) (
       .ite (decide ((65535 : Int) < r0.port)) (
        .ret (Sum.inr (Sum.inl ((4 : Int), ())))) (
        .ite (decide (r0.at' < a1)) (
         .ret (Sum.inr (Sum.inl ((4 : Int), ())))) (
         .ite (decide ((1099511627776 : Int) < r0.at')) (
          .ret (Sum.inr (Sum.inl ((4 : Int), ())))) (
          .opt (β := (Int × Unit)) ((natWithin_fn (a4, (a5, (a6, (a7, (a8, (a9, (r0.proto, (r0.addr, (r0.port, ()))))))))))) (fun r1 =>
          .ite (!decide (r1.1 = a0)) (
           .ret (Sum.inr (Sum.inl ((4 : Int), ())))) (
           .opt (β := (Int × (Int × (Int × Unit)))) ((portsEnd_fn (a13, (a14, (r0.out, ()))))) (fun r2 =>
           .ite (!decide (r2.2.2.1 = (0 : Int))) (
            .ret (Sum.inr (Sum.inl ((4 : Int), ())))) (
            .ret (Sum.inl (IntKind.wrap IntKind.i64 (a0 + (1 : Int)), (r0.at', (a2, (a3, (a4, (a5, (a6, (a7, (a8, (a9, (a10, (a11, (a12, (r2.1, (r2.2.1, (a15, ()))))))))))))))))))))))))))) (
     .ite (true) (
      .ret (Sum.inr (Sum.inl ((4 : Int), ())))) (
      .ite (decide (r0.port < (0 : Int))) (
       .ret (Sum.inr (Sum.inl ((4 : Int), ())))) (
       .ite (decide ((65535 : Int) < r0.port)) (
        .ret (Sum.inr (Sum.inl ((4 : Int), ())))) (
        .ite (decide (r0.at' < a1)) (
         .ret (Sum.inr (Sum.inl ((4 : Int), ())))) (
         .ite (decide ((1099511627776 : Int) < r0.at')) (
          .ret (Sum.inr (Sum.inl ((4 : Int), ())))) (
          .opt (β := (Int × Unit)) ((natWithin_fn (a4, (a5, (a6, (a7, (a8, (a9, (r0.proto, (r0.addr, (r0.port, ()))))))))))) (fun r1 =>
          .ite (!decide (r1.1 = a0)) (
           .ret (Sum.inr (Sum.inl ((4 : Int), ())))) (
           .fail 3)))))))))))) (
   .ret (Sum.inr (Sum.inr (a10, (a11, (a12, (a13, (a14, (a15, ())))))))))
def natCheck_loop9_9 (x : (Int × (Int × ((List TMap) × (Int × (Int × (Int × (Int × (Int × (Int × ((List TMap) × (Int × (Int × (Int × (Int × (Int × ((List TMap) × Unit))))))))))))))))) : Option ((Int × Unit) ⊕ (Int × (Int × (Int × (Int × (Int × ((List TMap) × Unit))))))) := loopO 90009 (fun x => (natCheck_step9_9 x).eval) 18446744073709551616 x
def natCheck_ap : List VP1 := [.agg [.i .i64, .i .i64, .i .u64, .i .i64, .i .u64, .st 17 false]]
def natCheck_rp : SP := ⟨1, [(0, .v (.one (.i .i64)))], []⟩
def natCheck_tree : (Int × (Int × (Int × (Int × (Int × ((List TMap) × Unit)))))) → Tr (Int × Unit) :=
  fun (a0, a1, a2, a3, a4, a5, _) =>
  .ite (decide (a0 < (1 : Int))) (
   .ret ((1 : Int), ())) (
   .ite (decide ((1000000 : Int) < a0)) (
    .ret ((1 : Int), ())) (
    .opt (β := (Int × Unit)) ((portsCheck_fn (a1, (a2, ())))) (fun r0 =>
    .opt (β := (Int × Unit)) ((portsCheck_fn (a3, (a4, ())))) (fun r1 =>
    .ite (!decide ((if false = true then if r1.1 < r0.1 then r1.1 else r0.1 else if r1.1 > r0.1 then r1.1 else r0.1) = (0 : Int))) (
     .ret (if false = true then if r1.1 < r0.1 then r1.1 else r0.1 else if r1.1 > r0.1 then r1.1 else r0.1, ())) (
     .opt (β := ((Int × Unit) ⊕ (Int × (Int × (Int × (Int × (Int × ((List TMap) × Unit)))))))) ((natCheck_loop9_9 ((0 : Int), ((0 : Int), (a5, ((↑(List.length a5) : Int), (a0, (a1, (a2, (a3, (a4, (a5, (a0, (a1, (a2, (a3, (a4, (a5, ())))))))))))))))))) (fun r2 =>
     .sum (β := (Int × Unit)) (γ := (Int × (Int × (Int × (Int × (Int × ((List TMap) × Unit))))))) (r2) (fun r3 =>
      .ret (r3.1, ())) (fun r3 =>
      .ite (!decide (r3.2.2.1 = (0 : Int))) (
       .ret ((4 : Int), ())) (
       .ite (!decide (r3.2.2.2.2.1 = (0 : Int))) (
        .ret ((4 : Int), ())) (
        .ret ((0 : Int), ()))))))))))
theorem natCheck_eq (x : (Int × (Int × (Int × (Int × (Int × ((List TMap) × Unit))))))) : fnTr Tryd.prog cod [tz64, FS.pf portsCheck, FS.pf portsLet, FS.pf portsEnd, clMap, GS.pf delMap, FS.pf eqMap, FS.pf natWithin] [(9, natCheck_L9_9)] 30 9 natCheck_ap natCheck_rp x = natCheck_tree x := by kernel_rfl
def natCheck_fn (x : (Int × (Int × (Int × (Int × (Int × ((List TMap) × Unit))))))) : Option (Int × Unit) := (natCheck_tree x).eval
def natCheck : FS Tryd.prog := ⟨9, natCheck_ap, natCheck_rp, natCheck_fn, fun x r h => fnTr_sound (cod := cod) (Γ := [tz64, FS.pf portsCheck, FS.pf portsLet, FS.pf portsEnd, clMap, GS.pf delMap, FS.pf eqMap, FS.pf natWithin]) (Λs := [(9, natCheck_L9_9)]) (n := 30) ((congrArg Tr.eval (natCheck_eq x)).trans h)⟩
end Go.Proofs.YtcdcdmfecglemaaDoor.X
