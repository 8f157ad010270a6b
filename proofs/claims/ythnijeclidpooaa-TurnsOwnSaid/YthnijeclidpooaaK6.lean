/- Texts towards the law TurnsOwn, put together (part 6): an abstract walk and its proof, functions of the program as trees, and plain laws. Conditions: none. -/
import Derived.KernelRfl
import Derived.WalkKit
import Derived.Test.YthnijeclidpooaaK5
namespace Go.Proofs.Ythnijeclidpooaa.X
open Go Go.RowKit Go.Proofs.Ythnijeclidpooaa.Abs
open Go.IntKind renaming wrap -> wW
set_option maxRecDepth 100000
set_option linter.unusedVariables false
def tuSize_ap : List VP1 := [.one (.i .i64)]
def tuSize_rp : SP := ⟨1, [(0, .v (.one (.b)))], []⟩
def tuSize_tree : (Int × Unit) -> Tr (Bool × Unit) :=
 fun (a0, _) =>
 .ite (decide (1 <= a0)) (
 .ret (decide (a0 <= 1000000), ())) (
 .ret (false, ()))
theorem tuSize_eq (x : (Int × Unit)) : fnTr Try.prog cod [] [] 30 39 tuSize_ap tuSize_rp x = tuSize_tree x := by kernel_rfl
def tuSize_fn (x : (Int × Unit)) : Option (Bool × Unit) := (tuSize_tree x).eval
def tuSize : FS Try.prog := ⟨39, tuSize_ap, tuSize_rp, tuSize_fn, fun x r h => fnTr_sound (cod := cod) (Γ := []) (Λs := []) (n := 30) ((congrArg Tr.eval (tuSize_eq x)).trans h)⟩
def tuCheck_L13_10 : LS := ⟨10, [], ⟨63, [(32, .v (.one (.i .i64))), (30, .v (.one (.st 12 false))), (31, .v (.one (.i .i64)))], []⟩, [⟨none, [], ⟨63, [(2, .v (.one (.i .i64)))], []⟩⟩, ⟨some 2, [], ⟨63, [], []⟩⟩], []⟩
def tuCheck_step13_10 : (Int × ((List TQueue) × (Int × Unit))) -> Tr ((Int × ((List TQueue) × (Int × Unit))) ⊕ ((Int × Unit) ⊕ Unit)) :=
 fun (a0, a1, a2, _) =>
 .ite (decide (a0 < a2)) (
 .grd (decide (0 <= a0)) (
 .opt (a1[Int.toNat a0]?) (fun r0 =>
 .ite (decide (r0.saved < 0)) (
 .ret (Sum.inr (Sum.inl (4, ())))) (
 .ite (decide ((↑(List.length r0.sizes) : Int) = 0)) (
 .ite (decide (0 < r0.saved)) (
 .ret (Sum.inr (Sum.inl (4, ())))) (
 .ite (decide (0 < (↑(List.length r0.sizes) : Int))) (
 .grd (true) (
 .opt (r0.sizes[(0 : Nat)]?) (fun r1 =>
 .ite (decide (r1 <= r0.saved)) (
 .ret (Sum.inr (Sum.inl (4, ())))) (
 .ret (Sum.inl (wW .i64 (a0 + 1), (a1, (a2, ())))))))) (
 .ret (Sum.inl (wW .i64 (a0 + 1), (a1, (a2, ()))))))) (
 .ite (decide (0 < (↑(List.length r0.sizes) : Int))) (
 .grd (true) (
 .opt (r0.sizes[(0 : Nat)]?) (fun r1 =>
 .ite (decide (r1 <= r0.saved)) (
 .ret (Sum.inr (Sum.inl (4, ())))) (
 .ret (Sum.inl (wW .i64 (a0 + 1), (a1, (a2, ())))))))) (
 .ret (Sum.inl (wW .i64 (a0 + 1), (a1, (a2, ())))))))))) (
 .ret (Sum.inr (Sum.inr ())))
def tuCheck_loop13_10 (x : (Int × ((List TQueue) × (Int × Unit)))) : Option ((Int × Unit) ⊕ Unit) := loopO 130010 (fun x => (tuCheck_step13_10 x).eval) 18446744073709551616 x
def tuCheck_L71_2 : LS := ⟨2, [], ⟨19, [(8, .v (.one (.i .i64))), (0, .v (.one (.st 0 false))), (1, .v (.one (.clo 41 []))), (7, .v (.one (.i .i64)))], []⟩, [⟨none, [], ⟨19, [(4, .v (.one (.i .i64)))], []⟩⟩, ⟨some 0, [], ⟨19, [], []⟩⟩], []⟩
def tuCheck_step71_2 : (Int × ((List Int) × (Int × Unit))) -> Tr ((Int × ((List Int) × (Int × Unit))) ⊕ ((Int × Unit) ⊕ Unit)) :=
 fun (a0, a1, a2, _) =>
 .ite (decide (a0 < a2)) (
 .grd (decide (0 <= a0)) (
 .opt (a1[Int.toNat a0]?) (fun r0 =>
 .opt ((tuSize_fn (r0, ()))) (fun r1 =>
 .ite (!r1.1) (
 .ret (Sum.inr (Sum.inl (a0, ())))) (
 .ret (Sum.inl (wW .i64 (a0 + 1), (a1, (a2, ()))))))))) (
 .ret (Sum.inr (Sum.inr ())))
def tuCheck_loop71_2 (x : (Int × ((List Int) × (Int × Unit)))) : Option ((Int × Unit) ⊕ Unit) := loopO 710002 (fun x => (tuCheck_step71_2 x).eval) 18446744073709551616 x
def tuCheck_L13_4 : LS := ⟨4, [], ⟨63, [(16, .v (.one (.i .i64))), (14, .v (.one (.st 12 false))), (0, .v (.one (.st 12 false))), (15, .v (.one (.i .i64)))], []⟩, [⟨none, [], ⟨63, [(2, .v (.one (.i .i64)))], []⟩⟩, ⟨some 0, [], ⟨63, [(0, .v (.one (.st 12 false)))], []⟩⟩], []⟩
def tuCheck_step13_4 : (Int × ((List TQueue) × ((List TQueue) × (Int × Unit)))) -> Tr ((Int × ((List TQueue) × ((List TQueue) × (Int × Unit)))) ⊕ ((Int × Unit) ⊕ ((List TQueue) × Unit))) :=
 fun (a0, a1, a2, a3, _) =>
 .ite (decide (a0 < a3)) (
 .grd (decide (0 <= a0)) (
 .opt (a1[Int.toNat a0]?) (fun r0 =>
 .opt ((tuSize_fn (r0.share, ()))) (fun r1 =>
 .ite (!r1.1) (
 .ret (Sum.inr (Sum.inl (1, ())))) (
 .opt ((tuCheck_loop71_2 (0, (r0.sizes, ((↑(List.length r0.sizes) : Int), ()))))) (fun r2 =>
 .sum (r2) (fun r3 =>
 .ite (decide (0 <= r3.1)) (
 .ret (Sum.inr (Sum.inl (1, ())))) (
 .ret (Sum.inl (wW .i64 (a0 + 1), (a1, (a2, (a3, ()))))))) (fun r3 =>
 .ite (false) (
 .ret (Sum.inr (Sum.inl (1, ())))) (
 .ret (Sum.inl (wW .i64 (a0 + 1), (a1, (a2, (a3, ()))))))))))))) (
 .ret (Sum.inr (Sum.inr (a2, ()))))
def tuCheck_loop13_4 (x : (Int × ((List TQueue) × ((List TQueue) × (Int × Unit))))) : Option ((Int × Unit) ⊕ ((List TQueue) × Unit)) := loopO 130004 (fun x => (tuCheck_step13_4 x).eval) 18446744073709551616 x
def tuCheck_L70_2 : LS := ⟨2, [], ⟨19, [(8, .v (.one (.i .i64))), (0, .v (.one (.st 12 false))), (1, .v (.one (.clo 38 []))), (7, .v (.one (.i .i64)))], []⟩, [⟨none, [], ⟨19, [(4, .v (.one (.i .i64)))], []⟩⟩, ⟨some 0, [], ⟨19, [], []⟩⟩], []⟩
def tuCheck_step70_2 : (Int × ((List TQueue) × (Int × Unit))) -> Tr ((Int × ((List TQueue) × (Int × Unit))) ⊕ ((Int × Unit) ⊕ Unit)) :=
 fun (a0, a1, a2, _) =>
 .ite (decide (a0 < a2)) (
 .grd (decide (0 <= a0)) (
 .opt (a1[Int.toNat a0]?) (fun r0 =>
 .ite (decide (200 < (↑(List.length r0.sizes) : Int))) (
 .ret (Sum.inr (Sum.inl (a0, ())))) (
 .ret (Sum.inl (wW .i64 (a0 + 1), (a1, (a2, ())))))))) (
 .ret (Sum.inr (Sum.inr ())))
def tuCheck_loop70_2 (x : (Int × ((List TQueue) × (Int × Unit)))) : Option ((Int × Unit) ⊕ Unit) := loopO 700002 (fun x => (tuCheck_step70_2 x).eval) 18446744073709551616 x
def tuCheck_ap : List VP1 := [.one (.st 12 false)]
def tuCheck_rp : SP := ⟨1, [(0, .v (.one (.i .i64)))], []⟩
def tuCheck_tree : ((List TQueue) × Unit) -> Tr (Int × Unit) :=
 fun (a0, _) =>
 .ite (decide (16 < (↑(a0.length) : Int))) (
 .ret (2, ())) (
 .opt ((tuCheck_loop70_2 (0, (a0, ((↑(a0.length) : Int), ()))))) (fun r0 =>
 .sum (r0) (fun r1 =>
 .ite (decide (0 <= r1.1)) (
 .ret (2, ())) (
 .opt ((tuCheck_loop13_4 (0, (a0, (a0, ((↑(a0.length) : Int), ())))))) (fun r2 =>
 .sum (r2) (fun r3 =>
 .ret (r3.1, ())) (fun r3 =>
 .opt ((tuCheck_loop13_10 (0, (r3.1, ((↑(List.length r3.1) : Int), ()))))) (fun r4 =>
 .sum (r4) (fun r5 =>
 .ret (r5.1, ())) (fun r5 =>
 .ret (0, ()))))))) (fun r1 =>
 .ite (false) (
 .ret (2, ())) (
 .opt ((tuCheck_loop13_4 (0, (a0, (a0, ((↑(a0.length) : Int), ())))))) (fun r2 =>
 .sum (r2) (fun r3 =>
 .ret (r3.1, ())) (fun r3 =>
 .opt ((tuCheck_loop13_10 (0, (r3.1, ((↑(List.length r3.1) : Int), ()))))) (fun r4 =>
 .sum (r4) (fun r5 =>
 .ret (r5.1, ())) (fun r5 =>
 .ret (0, ())))))))))
theorem tuCheck_eq (x : ((List TQueue) × Unit)) : fnTr Try.prog cod [FS.pf tuSize] [(13, tuCheck_L13_10), (71, tuCheck_L71_2), (13, tuCheck_L13_4), (70, tuCheck_L70_2)] 30 13 tuCheck_ap tuCheck_rp x = tuCheck_tree x := by kernel_rfl
def tuCheck_fn (x : ((List TQueue) × Unit)) : Option (Int × Unit) := (tuCheck_tree x).eval
def tuCheck : FS Try.prog := ⟨13, tuCheck_ap, tuCheck_rp, tuCheck_fn, fun x r h => fnTr_sound (cod := cod) (Γ := [FS.pf tuSize]) (Λs := [(13, tuCheck_L13_10), (71, tuCheck_L71_2), (13, tuCheck_L13_4), (70, tuCheck_L70_2)]) (n := 30) ((congrArg Tr.eval (tuCheck_eq x)).trans h)⟩
theorem clOwn_h1 (xs : List (τ 0)) : (bodyTr Go.Proofs.Try.prog cod 17 [.one (.nn (.st 0 xs))]).eval = (cloneRes 3 0 8 xs).eval := by kernel_rfl
theorem clOwn_h2 : (bodyTr Go.Proofs.Try.prog cod 17 [.one .nil]).eval = some (.one .nil, []) := by kernel_rfl
def clOwn : PF Go.Proofs.Try.prog := clonePF Go.Proofs.Try.prog cod 17 3 0 8 clOwn_h1 clOwn_h2
def tuOwnO_L42_3 : LS := ⟨3, [(8, 8)], ⟨25, [(11, .v (.one (.i .i64))), (3, .v (.one (.dp 8))), (9, .v (.one (.st 12 false))), (10, .v (.one (.i .i64)))], [(8, .deep 35 3 12)]⟩, [⟨some 0, [(8, 8)], ⟨25, [(3, .v (.one (.dp 8)))], [(8, .deep 35 3 12)]⟩⟩], []⟩
def tuOwnO_step42_3 : (Int × (Nat × ((List TQueue) × (Int × ((List TQueue) × Unit))))) -> Tr ((Int × (Nat × ((List TQueue) × (Int × ((List TQueue) × Unit))))) ⊕ (Nat × ((List TQueue) × Unit))) :=
 fun (a0, a1, a2, a3, a4, _) =>
 .ite (decide (a0 < a3)) (
 .grd (decide (0 <= a0)) (
 .opt (a2[Int.toNat a0]?) (fun r0 =>
 .grd (decide (((0 : Nat) + List.length r0.sizes) * (8 : Nat) <= (140737488355328 : Nat) /\ (0 : Nat) + List.length r0.sizes <= (9223372036854775807 : Nat))) (
 .grd (decide ((a4.length + List.length [TQueue.mk r0.share r0.saved r0.sizes]) * (40 : Nat) <= (140737488355328 : Nat) /\ a4.length + List.length [TQueue.mk r0.share r0.saved r0.sizes] <= (9223372036854775807 : Nat))) (
 .grd (decide (List.length (a4 ++ [TQueue.mk r0.share r0.saved r0.sizes]) = List.length (a4 ++ [TQueue.mk r0.share r0.saved r0.sizes]))) (
 .ret (Sum.inl (wW .i64 (a0 + 1), (List.length (a4 ++ [TQueue.mk r0.share r0.saved r0.sizes]), (a2, (a3, (a4 ++ [TQueue.mk r0.share r0.saved r0.sizes], ())))))))))))) (
 .grd (decide (a4.length = a4.length)) (
 .ret (Sum.inr (a1, (a4, ())))))
def tuOwnO_loop42_3 (x : (Int × (Nat × ((List TQueue) × (Int × ((List TQueue) × Unit)))))) : Option (Nat × ((List TQueue) × Unit)) := loopO 420003 (fun x => (tuOwnO_step42_3 x).eval) 18446744073709551616 x
def tuOwnO_ap : SP := ⟨25, [(0, .v (.one (.st 12 false)))], []⟩
def tuOwnO_rp : SP := ⟨1, [(0, .v (.one (.dp 2000000)))], [(2000000, .deep 35 3 12)]⟩
def tuOwnO_tree : ((List TQueue) × Unit) -> Tr (Nat × ((List TQueue) × Unit)) :=
 fun (a0, _) =>
 .grd (decide ((0 : Int) <= (0 : Int) /\ 0 <= (↑(a0.length) : Int) /\ Int.toNat (↑(a0.length) : Int) * (40 : Nat) <= (140737488355328 : Nat) /\ (↑(a0.length) : Int) <= (↑(9223372036854775807 : Nat) : Int))) (
 .grd (true) (
 .opt ((tuOwnO_loop42_3 (0, (Int.toNat (↑(a0.length) : Int), (a0, ((↑(a0.length) : Int), (List.replicate (0 : Nat) (TQueue.mk (0 : Int) (0 : Int) []), ()))))))) (fun r0 =>
 .grd (decide (List.length r0.2.fst = List.length r0.2.1)) (
 .ret (r0.1, (r0.2.1, ()))))))
theorem tuOwnO_eq (x : ((List TQueue) × Unit)) : gsTr Try.prog cod [FS.pf tuSize, FS.pf tuCheck, clOwn] [(42, tuOwnO_L42_3)] 30 42 tuOwnO_ap tuOwnO_rp x = tuOwnO_tree x := by kernel_rfl
def tuOwnO_fn (x : ((List TQueue) × Unit)) : Option (Nat × ((List TQueue) × Unit)) := (tuOwnO_tree x).eval
def tuOwnO : GS Try.prog := ⟨42, [0], tuOwnO_ap, tuOwnO_rp, tuOwnO_fn, fun x r h ys m g he hg => gs_sound (cod := cod) (Γ := [FS.pf tuSize, FS.pf tuCheck, clOwn]) (Λs := [(42, tuOwnO_L42_3)]) (n := 30) ((congrArg Tr.eval (tuOwnO_eq x)).trans h) he hg⟩
def tuPutO_ap : SP := ⟨53, [(0, .v (.one (.st 12 false))), (1, .v (.one (.i .i64))), (2, .v (.one (.i .i64)))], []⟩
def tuPutO_rp : SP := ⟨1, [(0, .tup [.one (.dp 2000000), .one (.i .i64)])], [(2000000, .deep 35 3 12)]⟩
def tuPutO_tree : ((List TQueue) × (Int × (Int × Unit))) -> Tr (Nat × (Int × ((List TQueue) × Unit))) :=
 fun (a0, a1, a2, _) =>
 .opt ((tuCheck_fn (a0, ()))) (fun r0 =>
 .ite (!decide (r0.1 = 0)) (
 .ite (!decide (r0.1 = 0)) (
 .grd (true) (
 .ret ((0 : Nat), (r0.1, ([], ()))))) (
 .opt ((tuOwnO_fn (a0, ()))) (fun r1 =>
 .grd (decide (0 <= a1 /\ a1 < (↑(List.length r1.2.fst) : Int))) (
 .opt (r1.2.1[Int.toNat a1]?) (fun r2 =>
 .grd (decide ((List.length r2.sizes + List.length [a2]) * (8 : Nat) <= (140737488355328 : Nat) /\ List.length r2.sizes + List.length [a2] <= (9223372036854775807 : Nat))) (
 .grd (decide (0 <= a1 /\ a1 < (↑(List.length r1.2.fst) : Int))) (
 .grd (decide (Int.toNat a1 = Int.toNat a1)) (
 .opt (r1.2.1[Int.toNat a1]?) (fun r3 =>
 .grd (decide (List.length r1.2.fst = List.length (List.set r1.2.1 (Int.toNat a1) (TQueue.mk r3.share r3.saved (r2.sizes ++ [a2]))))) (
 .ret (r1.1, (0, (List.set r1.2.1 (Int.toNat a1) (TQueue.mk r3.share r3.saved (r2.sizes ++ [a2])), ()))))))))))))) (
 .ite (decide (a1 < 0)) (
 .ite (true) (
 .grd (true) (
 .ret ((0 : Nat), (7, ([], ()))))) (
 .opt ((tuOwnO_fn (a0, ()))) (fun r1 =>
 .grd (decide (0 <= a1 /\ a1 < (↑(List.length r1.2.fst) : Int))) (
 .opt (r1.2.1[Int.toNat a1]?) (fun r2 =>
 .grd (decide ((List.length r2.sizes + List.length [a2]) * (8 : Nat) <= (140737488355328 : Nat) /\ List.length r2.sizes + List.length [a2] <= (9223372036854775807 : Nat))) (
 .grd (decide (0 <= a1 /\ a1 < (↑(List.length r1.2.fst) : Int))) (
 .grd (decide (Int.toNat a1 = Int.toNat a1)) (
 .opt (r1.2.1[Int.toNat a1]?) (fun r3 =>
 .grd (decide (List.length r1.2.fst = List.length (List.set r1.2.1 (Int.toNat a1) (TQueue.mk r3.share r3.saved (r2.sizes ++ [a2]))))) (
 .ret (r1.1, (0, (List.set r1.2.1 (Int.toNat a1) (TQueue.mk r3.share r3.saved (r2.sizes ++ [a2])), ()))))))))))))) (
 .ite (decide ((↑(a0.length) : Int) <= a1)) (
 .ite (true) (
 .grd (true) (
 .ret ((0 : Nat), (7, ([], ()))))) (
 .opt ((tuOwnO_fn (a0, ()))) (fun r1 =>
 .grd (decide (0 <= a1 /\ a1 < (↑(List.length r1.2.fst) : Int))) (
 .opt (r1.2.1[Int.toNat a1]?) (fun r2 =>
 .grd (decide ((List.length r2.sizes + List.length [a2]) * (8 : Nat) <= (140737488355328 : Nat) /\ List.length r2.sizes + List.length [a2] <= (9223372036854775807 : Nat))) (
 .grd (decide (0 <= a1 /\ a1 < (↑(List.length r1.2.fst) : Int))) (
 .grd (decide (Int.toNat a1 = Int.toNat a1)) (
 .opt (r1.2.1[Int.toNat a1]?) (fun r3 =>
 .grd (decide (List.length r1.2.fst = List.length (List.set r1.2.1 (Int.toNat a1) (TQueue.mk r3.share r3.saved (r2.sizes ++ [a2]))))) (
 .ret (r1.1, (0, (List.set r1.2.1 (Int.toNat a1) (TQueue.mk r3.share r3.saved (r2.sizes ++ [a2])), ()))))))))))))) (
 .opt ((tuSize_fn (a2, ()))) (fun r1 =>
 .ite (!r1.1) (
 .ite (true) (
 .grd (true) (
 .ret ((0 : Nat), (1, ([], ()))))) (
 .opt ((tuOwnO_fn (a0, ()))) (fun r2 =>
 .grd (decide (0 <= a1 /\ a1 < (↑(List.length r2.2.fst) : Int))) (
 .opt (r2.2.1[Int.toNat a1]?) (fun r3 =>
 .grd (decide ((List.length r3.sizes + List.length [a2]) * (8 : Nat) <= (140737488355328 : Nat) /\ List.length r3.sizes + List.length [a2] <= (9223372036854775807 : Nat))) (
 .grd (decide (0 <= a1 /\ a1 < (↑(List.length r2.2.fst) : Int))) (
 .grd (decide (Int.toNat a1 = Int.toNat a1)) (
 .opt (r2.2.1[Int.toNat a1]?) (fun r4 =>
 .grd (decide (List.length r2.2.fst = List.length (List.set r2.2.1 (Int.toNat a1) (TQueue.mk r4.share r4.saved (r3.sizes ++ [a2]))))) (
 .ret (r2.1, (0, (List.set r2.2.1 (Int.toNat a1) (TQueue.mk r4.share r4.saved (r3.sizes ++ [a2])), ()))))))))))))) (
 .grd (decide (0 <= a1)) (
 .opt (a0[Int.toNat a1]?) (fun r2 =>
 .ite (decide ((↑(List.length r2.sizes) : Int) = 200)) (
 .ite (true) (
 .grd (true) (
 .ret ((0 : Nat), (6, ([], ()))))) (
 .opt ((tuOwnO_fn (a0, ()))) (fun r3 =>
 .grd (decide (0 <= a1 /\ a1 < (↑(List.length r3.2.fst) : Int))) (
 .opt (r3.2.1[Int.toNat a1]?) (fun r4 =>
 .grd (decide ((List.length r4.sizes + List.length [a2]) * (8 : Nat) <= (140737488355328 : Nat) /\ List.length r4.sizes + List.length [a2] <= (9223372036854775807 : Nat))) (
 .grd (decide (0 <= a1 /\ a1 < (↑(List.length r3.2.fst) : Int))) (
 .grd (decide (Int.toNat a1 = Int.toNat a1)) (
 .opt (r3.2.1[Int.toNat a1]?) (fun r5 =>
 .grd (decide (List.length r3.2.fst = List.length (List.set r3.2.1 (Int.toNat a1) (TQueue.mk r5.share r5.saved (r4.sizes ++ [a2]))))) (
 .ret (r3.1, (0, (List.set r3.2.1 (Int.toNat a1) (TQueue.mk r5.share r5.saved (r4.sizes ++ [a2])), ()))))))))))))) (
 .ite (!decide (r0.1 = 0)) (
 .grd (true) (
 .ret ((0 : Nat), (r0.1, ([], ()))))) (
 .opt ((tuOwnO_fn (a0, ()))) (fun r3 =>
 .grd (decide (0 <= a1 /\ a1 < (↑(List.length r3.2.fst) : Int))) (
 .opt (r3.2.1[Int.toNat a1]?) (fun r4 =>
 .grd (decide ((List.length r4.sizes + List.length [a2]) * (8 : Nat) <= (140737488355328 : Nat) /\ List.length r4.sizes + List.length [a2] <= (9223372036854775807 : Nat))) (
 .grd (decide (0 <= a1 /\ a1 < (↑(List.length r3.2.fst) : Int))) (
 .grd (decide (Int.toNat a1 = Int.toNat a1)) (
 .opt (r3.2.1[Int.toNat a1]?) (fun r5 =>
 .grd (decide (List.length r3.2.fst = List.length (List.set r3.2.1 (Int.toNat a1) (TQueue.mk r5.share r5.saved (r4.sizes ++ [a2]))))) (
 .ret (r3.1, (0, (List.set r3.2.1 (Int.toNat a1) (TQueue.mk r5.share r5.saved (r4.sizes ++ [a2])), ())))))))))))))))))))))
theorem tuPutO_eq (x : ((List TQueue) × (Int × (Int × Unit)))) : gnTr Try.prog cod [FS.pf tuSize, FS.pf tuCheck, clOwn, GS.pf tuOwnO] [] [(0, 2000000, 35, 12, 0)] 30 18 tuPutO_ap tuPutO_rp x = tuPutO_tree x := by kernel_rfl
def tuPutO_fn (x : ((List TQueue) × (Int × (Int × Unit)))) : Option (Nat × (Int × ((List TQueue) × Unit))) := (tuPutO_tree x).eval
def tuPutO : GS Try.prog := ⟨18, [0, 0, 0], tuPutO_ap, tuPutO_rp, tuPutO_fn, fun x r h ys m g he hg => gn_sound (cod := cod) (Γ := [FS.pf tuSize, FS.pf tuCheck, clOwn, GS.pf tuOwnO]) (Λs := []) (n := 30) ((congrArg Tr.eval (tuPutO_eq x)).trans h) he hg⟩
def tuOwnX_L42_3 : LS := ⟨3, [(8, 8)], ⟨25, [(11, .v (.one (.i .i64))), (3, .v (.one (.dp 8))), (9, .v (.one (.st 12 false))), (10, .v (.one (.i .i64)))], [(8, .deep 35 3 12)]⟩, [⟨some 0, [(8, 8)], ⟨25, [(3, .v (.one (.dp 8)))], [(8, .deep 35 3 12)]⟩⟩], []⟩
def tuOwnX_step42_3 : (Int × (Nat × ((List TQueue) × (Int × ((List TQueue) × Unit))))) -> Tr ((Int × (Nat × ((List TQueue) × (Int × ((List TQueue) × Unit))))) ⊕ (Nat × ((List TQueue) × Unit))) :=
 fun (a0, a1, a2, a3, a4, _) =>
 .ite (decide (a0 < a3)) (
 .grd (decide (0 <= a0)) (
 .opt (a2[Int.toNat a0]?) (fun r0 =>
 .grd (decide (((0 : Nat) + List.length r0.sizes) * (8 : Nat) <= (140737488355328 : Nat) /\ (0 : Nat) + List.length r0.sizes <= (9223372036854775807 : Nat))) (
 .grd (decide ((a4.length + List.length [TQueue.mk r0.share r0.saved r0.sizes]) * (40 : Nat) <= (140737488355328 : Nat) /\ a4.length + List.length [TQueue.mk r0.share r0.saved r0.sizes] <= (9223372036854775807 : Nat))) (
 .grd (decide (List.length (a4 ++ [TQueue.mk r0.share r0.saved r0.sizes]) = List.length (a4 ++ [TQueue.mk r0.share r0.saved r0.sizes]))) (
 .ret (Sum.inl (wW .i64 (a0 + 1), (List.length (a4 ++ [TQueue.mk r0.share r0.saved r0.sizes]), (a2, (a3, (a4 ++ [TQueue.mk r0.share r0.saved r0.sizes], ())))))))))))) (
 .grd (decide (a4.length = a4.length)) (
 .ret (Sum.inr (a1, (a4, ())))))
def tuOwnX_loop42_3 (x : (Int × (Nat × ((List TQueue) × (Int × ((List TQueue) × Unit)))))) : Option (Nat × ((List TQueue) × Unit)) := loopO 420003 (fun x => (tuOwnX_step42_3 x).eval) 18446744073709551616 x
def tuOwnX_ap : SP := ⟨25, [(0, .v (.one (.st 12 false)))], []⟩
def tuOwnX_rp : SP := ⟨1, [(0, .v (.one (.dp 2000000)))], [(2000000, .dx 35 3 12)]⟩
def tuOwnX_tree : ((List TQueue) × Unit) -> Tr (Nat × ((List Nat) × ((List TQueue) × Unit))) :=
 fun (a0, _) =>
 .grd (decide ((0 : Int) <= (0 : Int) /\ 0 <= (↑(a0.length) : Int) /\ Int.toNat (↑(a0.length) : Int) * (40 : Nat) <= (140737488355328 : Nat) /\ (↑(a0.length) : Int) <= (↑(9223372036854775807 : Nat) : Int))) (
 .grd (true) (
 .opt ((tuOwnX_loop42_3 (0, (Int.toNat (↑(a0.length) : Int), (a0, ((↑(a0.length) : Int), (List.replicate (0 : Nat) (TQueue.mk (0 : Int) (0 : Int) []), ()))))))) (fun r0 =>
 .grd (decide (List.length r0.2.fst = List.length r0.2.1)) (
 .ret (r0.1, ([], (r0.2.1, ())))))))
theorem tuOwnX_eq (x : ((List TQueue) × Unit)) : gsTr Try.prog cod [FS.pf tuSize, FS.pf tuCheck, clOwn, GS.pf tuPutO] [(42, tuOwnX_L42_3)] 30 42 tuOwnX_ap tuOwnX_rp x = tuOwnX_tree x := by kernel_rfl
def tuOwnX_fn (x : ((List TQueue) × Unit)) : Option (Nat × ((List Nat) × ((List TQueue) × Unit))) := (tuOwnX_tree x).eval
def tuOwnX : GS Try.prog := ⟨42, [0], tuOwnX_ap, tuOwnX_rp, tuOwnX_fn, fun x r h ys m g he hg => gs_sound (cod := cod) (Γ := [FS.pf tuSize, FS.pf tuCheck, clOwn, GS.pf tuPutO]) (Λs := [(42, tuOwnX_L42_3)]) (n := 30) ((congrArg Tr.eval (tuOwnX_eq x)).trans h) he hg⟩
def tuRoundO_L14_13 : LS := ⟨13, [(17000, 17000), (6, 6)], ⟨112, [(9, .v (.one (.i .i64))), (8, .v (.one (.dpr 17000 3 0))), (7, .v (.one (.i .i64))), (6, .v (.one (.own 6))), (0, .v (.one (.dp 17000))), (18, .v (.one (.i .i64))), (19, .v (.one (.i .i64)))], [(17000, .dx 35 3 12), (6, .row 32 13 true true)]⟩, [⟨some 2, [(6, 6), (17000, 17000)], ⟨112, [(6, .v (.one (.own 6))), (0, .v (.one (.dp 17000))), (18, .v (.one (.i .i64))), (19, .v (.one (.i .i64))), (8, .v (.one (.dpr 17000 3 0))), (9, .v (.one (.i .i64)))], [(6, .row 32 13 true true), (17000, .dx 35 3 12)]⟩⟩], []⟩
abbrev ty0_ : Type := (Int × (Nat × (Int × (Nat × (Int × (Int × ((List Nat) × ((List TQueue) × ((List TSent) × Unit)))))))))
def tuRoundO_step14_13 : ty0_ -> Tr (ty0_ ⊕ (Nat × (Int × (Int × (Nat × (Int × ((List TSent) × ((List Nat) × ((List TQueue) × Unit))))))))) :=
 fun (a0, a1, a2, a3, a4, a5, a6, a7, a8, _) =>
 .opt (a7[a1]?) (fun r0 =>
 .ite (decide (a0 < (↑(List.length r0.sizes - List.getD a6 a1 (0 : Nat)) : Int))) (
 .grd (decide (a1 = a1)) (
 .opt (a7[a1]?) (fun r1 =>
 .grd (decide (0 <= a0 /\ a0 < (↑(List.length r0.sizes - List.getD a6 a1 (0 : Nat)) : Int))) (
 .opt (r0.sizes[List.getD a6 a1 (0 : Nat) + Int.toNat a0]?) (fun r2 =>
 .opt (a7[a1]?) (fun r3 =>
 .ite (decide (r2 <= r3.saved)) (
 .grd (decide (a1 = a1)) (
 .opt (a7[a1]?) (fun r4 =>
 .grd (decide (0 <= a0 /\ a0 < (↑(List.length r0.sizes - List.getD a6 a1 (0 : Nat)) : Int))) (
 .opt (r0.sizes[List.getD a6 a1 (0 : Nat) + Int.toNat a0]?) (fun r5 =>
 .grd (decide ((a8.length + List.length [TSent.mk a2 r5]) * (16 : Nat) <= (140737488355328 : Nat) /\ a8.length + List.length [TSent.mk a2 r5] <= (9223372036854775807 : Nat))) (
 .opt (a7[a1]?) (fun r6 =>
 .grd (decide (a1 = a1)) (
 .opt (a7[a1]?) (fun r7 =>
 .grd (decide (0 <= a0 /\ a0 < (↑(List.length r0.sizes - List.getD a6 a1 (0 : Nat)) : Int))) (
 .opt (r0.sizes[List.getD a6 a1 (0 : Nat) + Int.toNat a0]?) (fun r8 =>
 .opt (a7[a1]?) (fun r9 =>
 .grd (decide (List.length (a8 ++ [TSent.mk a2 r5]) = List.length (a8 ++ [TSent.mk a2 r5]))) (
 .grd (decide (a7.length = List.length (List.modify (List.set a7 a1 (TQueue.mk r9.share (wW .i64 (r6.saved - r8)) r9.sizes)) a1 fun x => TQueue.mk x.share x.saved r0.sizes))) (
 .ret (Sum.inl (wW .i64 (a0 + 1), (a1, (a2, (a3, (a4, (a5, (a6, (List.modify (List.set a7 a1 (TQueue.mk r9.share (wW .i64 (r6.saved - r8)) r9.sizes)) a1 fun x => TQueue.mk x.share x.saved r0.sizes, (a8 ++ [TSent.mk a2 r5], ())))))))))))))))))))))))) (
 .grd (decide (a8.length = a8.length)) (
 .grd (decide (a7.length = List.length (List.modify a7 a1 fun x => TQueue.mk x.share x.saved r0.sizes))) (
 .ret (Sum.inr (a3, (a4, (a5, (a1, (a0, (a8, (a6, (List.modify a7 a1 fun x => TQueue.mk x.share x.saved r0.sizes, ())))))))))))))))))) (
 .grd (decide (a8.length = a8.length)) (
 .grd (decide (a7.length = List.length (List.modify a7 a1 fun x => TQueue.mk x.share x.saved r0.sizes))) (
 .ret (Sum.inr (a3, (a4, (a5, (a1, (a0, (a8, (a6, (List.modify a7 a1 fun x => TQueue.mk x.share x.saved r0.sizes, ())))))))))))))
def tuRoundO_loop14_13 (x : ty0_) : Option (Nat × (Int × (Int × (Nat × (Int × ((List TSent) × ((List Nat) × ((List TQueue) × Unit)))))))) := loopO 140013 (fun x => (tuRoundO_step14_13 x).eval) 18446744073709551616 x
def tuRoundO_L14_7 : LS := ⟨7, [(6, 6), (17000, 17000)], ⟨112, [(19, .v (.one (.i .i64))), (6, .v (.one (.own 6))), (0, .v (.one (.dp 17000))), (18, .v (.one (.i .i64)))], [(6, .row 32 13 true true), (17000, .dx 35 3 12)]⟩, [⟨some 0, [(6, 6), (17000, 17000)], ⟨112, [(6, .v (.one (.own 6))), (0, .v (.one (.dp 17000)))], [(6, .row 32 13 true true), (17000, .dx 35 3 12)]⟩⟩], [(6, 32, 13)]⟩
def tuRoundO_step14_7 : (Int × (Nat × (Int × ((List TSent) × ((List Nat) × ((List TQueue) × Unit)))))) -> Tr ((Int × (Nat × (Int × ((List TSent) × ((List Nat) × ((List TQueue) × Unit)))))) ⊕ (Nat × ((List TSent) × ((List Nat) × ((List TQueue) × Unit))))) :=
 fun (a0, a1, a2, a3, a4, a5, _) =>
 .ite (decide (a0 < a2)) (
 .grd (decide (0 <= a0 /\ a0 < (↑(a5.length) : Int))) (
 .opt (a5[Int.toNat a0]?) (fun r0 =>
 .ite (decide ((↑(List.length r0.sizes - List.getD a4 (Int.toNat a0) (0 : Nat)) : Int) = 0)) (
 .grd (decide (a3.length = a3.length)) (
 .grd (decide (a5.length = List.length (List.modify a5 (Int.toNat a0) fun x => TQueue.mk x.share x.saved r0.sizes))) (
 .ret (Sum.inl (wW .i64 (a0 + 1), (a1, (a2, (a3, (a4, (List.modify a5 (Int.toNat a0) fun x => TQueue.mk x.share x.saved r0.sizes, ())))))))))) (
 .opt (a5[Int.toNat a0]?) (fun r1 =>
 .opt (a5[Int.toNat a0]?) (fun r2 =>
 .opt (a5[Int.toNat a0]?) (fun r3 =>
 .grd (decide (a3.length = a3.length)) (
 .grd (decide (a5.length = List.length (List.modify (List.set a5 (Int.toNat a0) (TQueue.mk r3.share (wW .i64 (r1.saved + r2.share)) r3.sizes)) (Int.toNat a0) fun x => TQueue.mk x.share x.saved r0.sizes))) (
 .opt ((tuRoundO_loop14_13 (0, (Int.toNat a0, (a0, (a1, (a2, (a0, (a4, (List.modify (List.set a5 (Int.toNat a0) (TQueue.mk r3.share (wW .i64 (r1.saved + r2.share)) r3.sizes)) (Int.toNat a0) fun x => TQueue.mk x.share x.saved r0.sizes, (a3, ()))))))))))) (fun r4 =>
 .opt (r4.2.2.2.2.2.2.2.1[r4.2.2.2.1]?) (fun r5 =>
 .grd (decide (0 <= r4.2.2.2.2.1 /\ r4.2.2.2.2.1 <= (↑(List.length r5.sizes - List.getD r4.2.2.2.2.2.2.1 r4.2.2.2.1 (0 : Nat)) : Int) /\ (↑(List.length r5.sizes - List.getD r4.2.2.2.2.2.2.1 r4.2.2.2.1 (0 : Nat)) : Int) <= (↑(List.length r5.sizes - List.getD r4.2.2.2.2.2.2.1 r4.2.2.2.1 (0 : Nat)) : Int))) (
 .grd (decide (r4.2.2.2.1 = r4.2.2.2.1 /\ List.getD r4.2.2.2.2.2.2.1 r4.2.2.2.1 (0 : Nat) + Int.toNat r4.2.2.2.2.1 + Int.toNat ((↑(List.length r5.sizes - List.getD r4.2.2.2.2.2.2.1 r4.2.2.2.1 (0 : Nat)) : Int) - r4.2.2.2.2.1) = List.length r5.sizes)) (
 .opt (r4.2.2.2.2.2.2.2.1[r4.2.2.2.1]?) (fun r6 =>
 .grd (decide (r4.2.2.2.1 = r4.2.2.2.1)) (
 .opt (r4.2.2.2.2.2.2.2.1[r4.2.2.2.1]?) (fun r7 =>
 .ite (decide ((↑(List.length r5.sizes - List.getD (oSet r4.2.2.2.2.2.2.1 r4.2.2.2.1 (List.getD r4.2.2.2.2.2.2.1 r4.2.2.2.1 (0 : Nat) + Int.toNat r4.2.2.2.2.1)) r4.2.2.2.1 (0 : Nat)) : Int) = 0)) (
 .opt (r4.2.2.2.2.2.2.2.1[r4.2.2.2.1]?) (fun r8 =>
 .grd (decide (List.length r4.2.2.2.2.2.fst = List.length r4.2.2.2.2.2.1)) (
 .grd (decide (List.length r4.2.2.2.2.2.2.2.fst = List.length (List.modify (List.set r4.2.2.2.2.2.2.2.1 r4.2.2.2.1 (TQueue.mk r8.share (0 : Int) r8.sizes)) r4.2.2.2.1 fun x => TQueue.mk x.share x.saved r5.sizes))) (
 .ret (Sum.inl (wW .i64 (r4.2.2.1 + 1), (r4.1, (r4.2.1, (r4.2.2.2.2.2.1, (oSet r4.2.2.2.2.2.2.1 r4.2.2.2.1 (List.getD r4.2.2.2.2.2.2.1 r4.2.2.2.1 (0 : Nat) + Int.toNat r4.2.2.2.2.1), (List.modify (List.set r4.2.2.2.2.2.2.2.1 r4.2.2.2.1 (TQueue.mk r8.share (0 : Int) r8.sizes)) r4.2.2.2.1 fun x => TQueue.mk x.share x.saved r5.sizes, ()))))))))))) (
 .grd (decide (List.length r4.2.2.2.2.2.fst = List.length r4.2.2.2.2.2.1)) (
 .grd (decide (List.length r4.2.2.2.2.2.2.2.fst = List.length (List.modify r4.2.2.2.2.2.2.2.1 r4.2.2.2.1 fun x => TQueue.mk x.share x.saved r5.sizes))) (
 .ret (Sum.inl (wW .i64 (r4.2.2.1 + 1), (r4.1, (r4.2.1, (r4.2.2.2.2.2.1, (oSet r4.2.2.2.2.2.2.1 r4.2.2.2.1 (List.getD r4.2.2.2.2.2.2.1 r4.2.2.2.1 (0 : Nat) + Int.toNat r4.2.2.2.2.1), (List.modify r4.2.2.2.2.2.2.2.1 r4.2.2.2.1 fun x => TQueue.mk x.share x.saved r5.sizes, ())))))))))))))))))))))))))) (
 .grd (decide (a3.length = a3.length)) (
 .grd (decide (a5.length = a5.length)) (
 .ret (Sum.inr (a1, (a3, (a4, (a5, ()))))))))
def tuRoundO_loop14_7 (x : (Int × (Nat × (Int × ((List TSent) × ((List Nat) × ((List TQueue) × Unit))))))) : Option (Nat × ((List TSent) × ((List Nat) × ((List TQueue) × Unit)))) := loopO 140007 (fun x => (tuRoundO_step14_7 x).eval) 18446744073709551616 x
def tuRoundO_ap : SP := ⟨112, [(0, .v (.one (.st 12 false)))], []⟩
def tuRoundO_rp : SP := ⟨1, [(0, .tup [.one (.dp 2000000), .one (.own 2000001), .one (.i .i64)])], [(2000000, .dx 35 3 12), (2000001, .row 32 13 true true)]⟩
def tuRoundO_tree : ((List TQueue) × Unit) -> Tr (Nat × (Int × ((List Nat) × ((List TQueue) × ((List TSent) × Unit))))) :=
 fun (a0, _) =>
 .opt ((tuCheck_fn (a0, ()))) (fun r0 =>
 .ite (!decide (r0.1 = 0)) (
 .grd (true) (
 .grd (true) (
 .ret ((0 : Nat), (r0.1, ([], ([], ([], ())))))))) (
 .opt ((tuOwnX_fn (a0, ()))) (fun r1 =>
 .grd (true) (
 .grd (decide (List.length r1.2.2.fst = List.length r1.2.2.1)) (
 .opt ((tuRoundO_loop14_7 (0, (r1.1, ((↑(List.length r1.2.2.fst) : Int), ([], (r1.2.1, (r1.2.2.1, ())))))))) (fun r2 =>
 .grd (decide (List.length r2.2.2.2.fst = List.length r2.2.2.2.1)) (
 .grd (decide (List.length r2.2.fst = List.length r2.2.1)) (
 .ret (r2.1, (0, (r2.2.2.1, (r2.2.2.2.1, (r2.2.1, ())))))))))))))
noncomputable def gm0 : List (PF Go.Proofs.Try.prog) := [FS.pf tuSize, FS.pf tuCheck, clOwn, GS.pf tuPutO, GS.pf tuOwnX]
theorem tuRoundO_eq (x : ((List TQueue) × Unit)) : gnTr Try.prog cod gm0 [(14, tuRoundO_L14_13), (14, tuRoundO_L14_7)] [(0, 2000000, 35, 12, 0), (1, 2000001, 32, 13, 0)] 30 14 tuRoundO_ap tuRoundO_rp x = tuRoundO_tree x := by kernel_rfl
def tuRoundO_fn (x : ((List TQueue) × Unit)) : Option (Nat × (Int × ((List Nat) × ((List TQueue) × ((List TSent) × Unit))))) := (tuRoundO_tree x).eval
def tuRoundO : GS Try.prog := ⟨14, [0], tuRoundO_ap, tuRoundO_rp, tuRoundO_fn, fun x r h ys m g he hg => gn_sound (cod := cod) (Γ := gm0) (Λs := [(14, tuRoundO_L14_13), (14, tuRoundO_L14_7)]) (n := 30) ((congrArg Tr.eval (tuRoundO_eq x)).trans h) he hg⟩
def eqInts_L16_4 : LS := ⟨4, [], ⟨26, [(13, .v (.one (.i .i64))), (1, .v (.one (.st 0 false))), (0, .v (.one (.st 0 false))), (12, .v (.one (.i .i64)))], []⟩, [⟨none, [], ⟨26, [(4, .v (.one (.b)))], []⟩⟩, ⟨some 0, [], ⟨26, [], []⟩⟩], []⟩
def eqInts_step16_4 : (Int × ((List Int) × ((List Int) × (Int × Unit)))) -> Tr ((Int × ((List Int) × ((List Int) × (Int × Unit)))) ⊕ ((Bool × Unit) ⊕ Unit)) :=
 fun (a0, a1, a2, a3, _) =>
 .ite (decide (a0 < a3)) (
 .grd (decide (0 <= a0)) (
 .opt (a2[Int.toNat a0]?) (fun r0 =>
 .grd (decide (0 <= a0)) (
 .opt (a1[Int.toNat a0]?) (fun r1 =>
 .ite (!decide (r0 = r1)) (
 .ret (Sum.inr (Sum.inl (false, ())))) (
 .ret (Sum.inl (wW .i64 (a0 + 1), (a1, (a2, (a3, ()))))))))))) (
 .ret (Sum.inr (Sum.inr ())))
def eqInts_loop16_4 (x : (Int × ((List Int) × ((List Int) × (Int × Unit))))) : Option ((Bool × Unit) ⊕ Unit) := loopO 160004 (fun x => (eqInts_step16_4 x).eval) 18446744073709551616 x
def eqInts_ap : List VP1 := [.one (.st 0 false), .one (.st 0 false)]
def eqInts_rp : SP := ⟨1, [(0, .v (.one (.b)))], []⟩
def eqInts_tree : ((List Int) × ((List Int) × Unit)) -> Tr (Bool × Unit) :=
 fun (a0, a1, _) =>
 .ite (!decide ((↑(a0.length) : Int) = (↑(a1.length) : Int))) (
 .ret (false, ())) (
 .opt ((eqInts_loop16_4 (0, (a1, (a0, ((↑(a0.length) : Int), ())))))) (fun r0 =>
 .sum (r0) (fun r1 =>
 .ret (r1.1, ())) (fun r1 =>
 .ret (true, ()))))
noncomputable def gm1 : List (PF Go.Proofs.Try.prog) := [FS.pf tuSize, FS.pf tuCheck, clOwn, GS.pf tuPutO, GS.pf tuRoundO]
theorem eqInts_eq (x : ((List Int) × ((List Int) × Unit))) : fnTr Try.prog cod gm1 [(16, eqInts_L16_4)] 30 16 eqInts_ap eqInts_rp x = eqInts_tree x := by kernel_rfl
def eqInts_fn (x : ((List Int) × ((List Int) × Unit))) : Option (Bool × Unit) := (eqInts_tree x).eval
def eqInts : FS Try.prog := ⟨16, eqInts_ap, eqInts_rp, eqInts_fn, fun x r h => fnTr_sound (cod := cod) (Γ := gm1) (Λs := [(16, eqInts_L16_4)]) (n := 30) ((congrArg Tr.eval (eqInts_eq x)).trans h)⟩
def eqSent_L36_4 : LS := ⟨4, [], ⟨26, [(13, .v (.one (.i .i64))), (1, .v (.one (.st 13 false))), (0, .v (.one (.st 13 false))), (12, .v (.one (.i .i64)))], []⟩, [⟨none, [], ⟨26, [(4, .v (.one (.b)))], []⟩⟩, ⟨some 0, [], ⟨26, [], []⟩⟩], []⟩
def eqSent_step36_4 : (Int × ((List TSent) × ((List TSent) × (Int × Unit)))) -> Tr ((Int × ((List TSent) × ((List TSent) × (Int × Unit)))) ⊕ ((Bool × Unit) ⊕ Unit)) :=
 fun (a0, a1, a2, a3, _) =>
 .ite (decide (a0 < a3)) (
 .grd (decide (0 <= a0)) (
 .opt (a2[Int.toNat a0]?) (fun r0 =>
 .grd (decide (0 <= a0)) (
 .opt (a1[Int.toNat a0]?) (fun r1 =>
 .ite (!(decide (r0.queue = r1.queue) && (decide (r0.size = r1.size) && true))) (
 .ret (Sum.inr (Sum.inl (false, ())))) (
 .ret (Sum.inl (wW .i64 (a0 + 1), (a1, (a2, (a3, ()))))))))))) (
 .ret (Sum.inr (Sum.inr ())))
def eqSent_loop36_4 (x : (Int × ((List TSent) × ((List TSent) × (Int × Unit))))) : Option ((Bool × Unit) ⊕ Unit) := loopO 360004 (fun x => (eqSent_step36_4 x).eval) 18446744073709551616 x
def eqSent_ap : List VP1 := [.one (.st 13 false), .one (.st 13 false)]
def eqSent_rp : SP := ⟨1, [(0, .v (.one (.b)))], []⟩
def eqSent_tree : ((List TSent) × ((List TSent) × Unit)) -> Tr (Bool × Unit) :=
 fun (a0, a1, _) =>
 .ite (!decide ((↑(a0.length) : Int) = (↑(a1.length) : Int))) (
 .ret (false, ())) (
 .opt ((eqSent_loop36_4 (0, (a1, (a0, ((↑(a0.length) : Int), ())))))) (fun r0 =>
 .sum (r0) (fun r1 =>
 .ret (r1.1, ())) (fun r1 =>
 .ret (true, ()))))
noncomputable def gm2 : List (PF Go.Proofs.Try.prog) := gm1 ++ [FS.pf eqInts]
theorem eqSent_eq (x : ((List TSent) × ((List TSent) × Unit))) : fnTr Try.prog cod gm2 [(36, eqSent_L36_4)] 30 36 eqSent_ap eqSent_rp x = eqSent_tree x := by kernel_rfl
def eqSent_fn (x : ((List TSent) × ((List TSent) × Unit))) : Option (Bool × Unit) := (eqSent_tree x).eval
def eqSent : FS Try.prog := ⟨36, eqSent_ap, eqSent_rp, eqSent_fn, fun x r h => fnTr_sound (cod := cod) (Γ := gm2) (Λs := [(36, eqSent_L36_4)]) (n := 30) ((congrArg Tr.eval (eqSent_eq x)).trans h)⟩
def turnsLives_ap : List VP1 := []
def turnsLives_rp : SP := ⟨1, [(0, .v (.one (.b)))], []⟩
def turnsLives_tree : Unit -> Tr (Bool × Unit) :=
 fun (_) =>
 .opt ((tuRoundO_fn ([TQueue.mk (5 : Int) (0 : Int) [3, (3 : Int)], TQueue.mk (2 : Int) (0 : Int) [(2 : Int)]], ()))) (fun r0 =>
 .ite (decide (r0.2.1 = 0)) (
 .opt ((eqSent_fn (r0.2.2.2.2.1, ([TSent.mk (0 : Int) 3, TSent.mk (1 : Int) (2 : Int)], ())))) (fun r1 =>
 .ite (r1.1) (
 .ite (decide ((↑(List.length r0.2.2.2.fst) : Int) = 2)) (
 .grd (decide ((0 : Int) <= (0 : Int) /\ 0 < (↑(List.length r0.2.2.2.fst) : Int))) (
 .opt (r0.2.2.2.1[(0 : Nat)]?) (fun r2 =>
 .ite (decide (r2.saved = 2)) (
 .grd (decide ((0 : Int) <= (1 : Int) /\ 1 < (↑(List.length r0.2.2.2.fst) : Int))) (
 .opt (r0.2.2.2.1[(1 : Nat)]?) (fun r3 =>
 .ret (decide (r3.saved = 0), ())))) (
 .ret (false, ()))))) (
 .ret (false, ()))) (
 .ret (false, ())))) (
 .ret (false, ())))
noncomputable def gm3 : List (PF Go.Proofs.Try.prog) := gm2 ++ [FS.pf eqSent]
theorem turnsLives_eq (x : Unit) : fnTr Try.prog cod gm3 [] 30 12 turnsLives_ap turnsLives_rp x = turnsLives_tree x := by kernel_rfl
def turnsLives_fn (x : Unit) : Option (Bool × Unit) := (turnsLives_tree x).eval
def turnsLives : FS Try.prog := ⟨12, turnsLives_ap, turnsLives_rp, turnsLives_fn, fun x r h => fnTr_sound (cod := cod) (Γ := gm3) (Λs := []) (n := 30) ((congrArg Tr.eval (turnsLives_eq x)).trans h)⟩
def sameTurns_L44_4 : LS := ⟨4, [], ⟨32, [(17, .v (.one (.i .i64))), (2, .v (.one (.clo 45 []))), (1, .v (.one (.st 12 false))), (15, .v (.one (.st 12 false))), (16, .v (.one (.i .i64)))], []⟩, [⟨none, [], ⟨32, [(6, .v (.one (.b)))], []⟩⟩, ⟨some 0, [], ⟨32, [], []⟩⟩], []⟩
def sameTurns_step44_4 : (Int × ((List TQueue) × ((List TQueue) × (Int × Unit)))) -> Tr ((Int × ((List TQueue) × ((List TQueue) × (Int × Unit)))) ⊕ ((Bool × Unit) ⊕ Unit)) :=
 fun (a0, a1, a2, a3, _) =>
 .ite (decide (a0 < a3)) (
 .grd (decide (0 <= a0)) (
 .opt (a2[Int.toNat a0]?) (fun r0 =>
 .grd (decide (0 <= a0)) (
 .opt (a1[Int.toNat a0]?) (fun r1 =>
 .ite (decide (r0.share = r1.share)) (
 .ite (decide (r0.saved = r1.saved)) (
 .opt ((eqInts_fn (r0.sizes, (r1.sizes, ())))) (fun r2 =>
 .ite (!r2.1) (
 .ret (Sum.inr (Sum.inl (false, ())))) (
 .ret (Sum.inl (wW .i64 (a0 + 1), (a1, (a2, (a3, ())))))))) (
 .ite (true) (
 .ret (Sum.inr (Sum.inl (false, ())))) (
 .ret (Sum.inl (wW .i64 (a0 + 1), (a1, (a2, (a3, ())))))))) (
 .ite (true) (
 .ret (Sum.inr (Sum.inl (false, ())))) (
 .ret (Sum.inl (wW .i64 (a0 + 1), (a1, (a2, (a3, ())))))))))))) (
 .ret (Sum.inr (Sum.inr ())))
def sameTurns_loop44_4 (x : (Int × ((List TQueue) × ((List TQueue) × (Int × Unit))))) : Option ((Bool × Unit) ⊕ Unit) := loopO 440004 (fun x => (sameTurns_step44_4 x).eval) 18446744073709551616 x
def sameTurns_ap : List VP1 := [.one (.st 12 false), .one (.st 12 false)]
def sameTurns_rp : SP := ⟨1, [(0, .v (.one (.b)))], []⟩
def sameTurns_tree : ((List TQueue) × ((List TQueue) × Unit)) -> Tr (Bool × Unit) :=
 fun (a0, a1, _) =>
 .ite (!decide ((↑(a0.length) : Int) = (↑(a1.length) : Int))) (
 .ret (false, ())) (
 .opt ((sameTurns_loop44_4 (0, (a1, (a0, ((↑(a0.length) : Int), ())))))) (fun r0 =>
 .sum (r0) (fun r1 =>
 .ret (r1.1, ())) (fun r1 =>
 .ret (true, ()))))
noncomputable def gm4 : List (PF Go.Proofs.Try.prog) := gm3 ++ [FS.pf turnsLives]
theorem sameTurns_eq (x : ((List TQueue) × ((List TQueue) × Unit))) : fnTr Try.prog cod gm4 [(44, sameTurns_L44_4)] 30 19 sameTurns_ap sameTurns_rp x = sameTurns_tree x := by kernel_rfl
def sameTurns_fn (x : ((List TQueue) × ((List TQueue) × Unit))) : Option (Bool × Unit) := (sameTurns_tree x).eval
def sameTurns : FS Try.prog := ⟨19, sameTurns_ap, sameTurns_rp, sameTurns_fn, fun x r h => fnTr_sound (cod := cod) (Γ := gm4) (Λs := [(44, sameTurns_L44_4)]) (n := 30) ((congrArg Tr.eval (sameTurns_eq x)).trans h)⟩
end Go.Proofs.Ythnijeclidpooaa.X
namespace Go.Proofs.Ythnijeclidpooaa.Abs
set_option linter.unusedVariables false
theorem loopO_succ {A B : Type} (tag : Nat) (f : A -> Option (A ⊕ B)) (n : Nat) (a : A) : loopO tag f (n + 1) a = match f a with | none => none | some (.inl a') => loopO tag f n a' | some (.inr b) => some b := rfl
theorem loopO_out {A B : Type} {tag : Nat} {f : A -> Option (A ⊕ B)} {n : Nat} {a : A} {b : B} (h : f a = some (.inr b)) : loopO tag f (n + 1) a = some b := by rw [loopO_succ, h]
theorem loopO_in {A B : Type} {tag : Nat} {f : A -> Option (A ⊕ B)} {n : Nat} {a a' : A} (h : f a = some (.inl a')) : loopO tag f (n + 1) a = loopO tag f n a' := by rw [loopO_succ, h]

end Go.Proofs.Ythnijeclidpooaa.Abs
namespace Go.Proofs.Ythnijeclidpooaa.Bits
open Go
@[go_sem] theorem signed_u8 : IntKind.u8.signed = false := rfl
@[go_sem] theorem signed_u16 : IntKind.u16.signed = false := rfl
@[go_sem] theorem signed_u32 : IntKind.u32.signed = false := rfl
@[go_sem] theorem signed_u64 : IntKind.u64.signed = false := rfl
@[go_sem] theorem signed_i64 : IntKind.i64.signed = true := rfl

theorem wrap_nat (k : IntKind) (n : Nat) (h : n < 2 ^ k.bits) (hs : k.signed = true -> n < 2 ^ (k.bits - 1)) : k.wrap (n : Int) = (n : Int) := by
 have hb : (2 : Int) ^ k.bits = ((2 ^ k.bits : Nat) : Int) := by norm_cast
 have h2 : (2 : Nat) ^ k.bits = 2 ^ (k.bits - 1) + 2 ^ (k.bits - 1) := by cases k <;> rfl
 have hm : n % 2 ^ k.bits = n := Nat.mod_eq_of_lt h
 unfold IntKind.wrap
 by_cases hk : k.signed = true
 . have := hs hk
   cases k <;> simp_all [IntKind.bits, IntKind.signed] <;> omega
 . cases k <;> simp_all [IntKind.bits, IntKind.signed] <;> omega

end Go.Proofs.Ythnijeclidpooaa.Bits
namespace Go.Proofs.Ythnijeclidpooaa.X
open Go Go.RowKit Go.Proofs.Ythnijeclidpooaa.Abs Go.Proofs.Ythnijeclidpooaa.Bits
set_option linter.unusedVariables false
set_option linter.unusedSimpArgs false
def byteOf (x : Int) : UInt8 := UInt8.ofNat (x % 256).toNat
def wd (x : Int) : List UInt8 := [byteOf (x / 256), byteOf x]
@[simp] theorem wd_len (x : Int) : (wd x).length = 2 := rfl
def lg (x : Int) : List UInt8 := wd (x / 65536) ++ wd x
@[simp] theorem lg_len (x : Int) : (lg x).length = 4 := rfl
def ws : List UInt8 -> Nat
 | [] => 0
 | [a] => a.toNat * 256
 | a :: b :: r => a.toNat * 256 + b.toNat + ws r
theorem ev_opt {α β : Type} {o : Option β} {k : β -> Tr α} {b : β} {r : Option α} (h : o = some b) (h2 : (k b).eval = r) : (Tr.opt o k).eval = r := by rw [h]; exact h2
theorem ev_t {α : Type} {c : Bool} {t e : Tr α} {r : Option α} (h : c = true) (h2 : t.eval = r) : (Tr.ite c t e).eval = r := by rw [h]; exact h2
theorem ev_f {α : Type} {c : Bool} {t e : Tr α} {r : Option α} (h : c = false) (h2 : e.eval = r) : (Tr.ite c t e).eval = r := by rw [h]; exact h2
theorem ev_g {α : Type} {c : Bool} {t : Tr α} {r : Option α} (h : c = true) (h2 : t.eval = r) : (Tr.grd c t).eval = r := by rw [h]; exact h2
theorem ev_r {α : Type} {a b : α} (h : a = b) : (Tr.ret a).eval = some b := by rw [h]; rfl

def hit {T : Type} (p : T -> Bool) : List T -> Option (Nat × T)
 | [] => none
 | x :: r => match p x with
  | true => some (0, x)
  | false => (hit p r).map fun q => (q.1 + 1, q.2)
theorem hit_at {T : Type} {p : T -> Bool} : ∀ {l : List T} {i : Nat} {x : T}, hit p l = some (i, x) -> l[i]? = some x /\ p x = true
 | [], i, x, h => by cases h
 | y :: r, i, x, h => by
  simp only [hit] at h
  split at h
  . rename_i e; cases h; exact ⟨rfl, e⟩
  . obtain ⟨q, hq, e⟩ := Option.map_eq_some_iff.1 h
    cases e
    obtain ⟨h1, h2⟩ := hit_at (x := q.2) (i := q.1) hq
    exact ⟨by simpa using h1, h2⟩
theorem hit_none {T : Type} {p : T -> Bool} : ∀ {l : List T}, hit p l = none ↔ ∀ x ∈ l, p x = false
 | [] => by simp [hit]
 | y :: r => by
  simp only [hit, List.mem_cons, forall_eq_or_imp]
  cases e : p y with
  | true => simp
  | false => simp [hit_none (l := r)]
def fst {T : Type} (p : T -> Bool) (l : List T) : Option T := (hit p l).map (·.2)
theorem loop_hit {A B T : Type} {tag : Nat} {f : A -> Option (A ⊕ B)} {l : List T} (st : Nat -> A) (p : T -> Bool) (out : Option (Nat × T) -> B)
  (h1 : ∀ (i : Nat) (x : T), l[i]? = some x -> f (st i) = match p x with | true => some (.inr (out (some (i, x)))) | false => some (.inl (st (i + 1))))
  (h2 : f (st l.length) = some (.inr (out none))) (n : Nat) (hn : l.length < n) : loopO tag f n (st 0) = some (out (hit p l)) := by
 have key : ∀ (r : List T) (k n : Nat), l.drop k = r -> k <= l.length -> r.length < n -> loopO tag f n (st k) = some (out ((hit p r).map fun q => (q.1 + k, q.2))) := by
  intro r
  induction r with
  | nil =>
   intro k n hk hle hn
   obtain ⟨n, rfl⟩ : ∃ m, n = m + 1 := ⟨n - 1, by simp at hn; omega⟩
   have : k = l.length := by have := congrArg List.length hk; simp at this; omega
   subst this
   exact loopO_out h2
  | cons x r ih =>
   intro k n hk hle hn
   obtain ⟨n, rfl⟩ : ∃ m, n = m + 1 := ⟨n - 1, by simp at hn; omega⟩
   have hx : l[k]? = some x := by have := congrArg (·[0]?) hk; simpa using this
   have hk2 : l.drop (k + 1) = r := by rw [<- List.drop_drop, hk]; rfl
   have := h1 k x hx
   simp only [hit]
   cases hp : p x with
   | true => rw [hp] at this; rw [loopO_out this]; simp
   | false =>
    rw [hp] at this
    have hlt := (List.getElem?_eq_some_iff.1 hx).1
    rw [loopO_in this, ih (k + 1) n hk2 (by omega) (by simp at hn; omega)]
    cases hit p r with
    | none => rfl
    | some q => simp only [Option.map_some]; rw [show q.1 + (k + 1) = q.1 + 1 + k by omega]
 have := key l 0 n rfl (by omega) hn
 rw [this]
 cases hit p l <;> rfl
theorem loop_fold {A B S T : Type} {tag : Nat} {f : A -> Option (A ⊕ B)} {l : List T} (st : Nat -> S -> A) (I : Nat -> S -> Prop) (g : S -> T -> S) (out : S -> B)
  (h1 : ∀ (i : Nat) (x : T) (s : S), l[i]? = some x -> I i s -> f (st i s) = some (.inl (st (i + 1) (g s x))) /\ I (i + 1) (g s x))
  (h2 : ∀ s, I l.length s -> f (st l.length s) = some (.inr (out s))) (n : Nat) (s : S) (hs : I 0 s) (hn : l.length < n) : loopO tag f n (st 0 s) = some (out (l.foldl g s)) /\ I l.length (l.foldl g s) := by
 have key : ∀ (r : List T) (k n : Nat) (s : S), l.drop k = r -> k <= l.length -> r.length < n -> I k s -> loopO tag f n (st k s) = some (out (r.foldl g s)) /\ I l.length (r.foldl g s) := by
  intro r
  induction r with
  | nil =>
   intro k n s hk hle hn hi
   obtain ⟨n, rfl⟩ : ∃ m, n = m + 1 := ⟨n - 1, by simp at hn; omega⟩
   have : k = l.length := by have := congrArg List.length hk; simp at this; omega
   subst this
   exact ⟨loopO_out (h2 s hi), hi⟩
  | cons x r ih =>
   intro k n s hk hle hn hi
   obtain ⟨n, rfl⟩ : ∃ m, n = m + 1 := ⟨n - 1, by simp at hn; omega⟩
   have hx : l[k]? = some x := by have := congrArg (·[0]?) hk; simpa using this
   have hk2 : l.drop (k + 1) = r := by rw [<- List.drop_drop, hk]; rfl
   obtain ⟨e, hi'⟩ := h1 k x s hx hi
   have hlt := (List.getElem?_eq_some_iff.1 hx).1
   rw [loopO_in e]
   exact ih (k + 1) n (g s x) hk2 (by omega) (by simp at hn; omega) hi'
 exact key l 0 n s rfl (by omega) hn hs

theorem next_i64 (i : Nat) (h : (i : Int) + 1 < 9223372036854775808) : IntKind.wrap IntKind.i64 ((i : Int) + (1 : Int)) = ((i + 1 : Nat) : Int) := by
 have := wrap_nat .i64 (i + 1) (by show i + 1 < 2 ^ 64; omega) (fun _ => by show i + 1 < 2 ^ 63; omega)
 simpa using this
set_option linter.unnecessarySimpa false
theorem loop_all {A B T : Type} {tag : Nat} {f : A -> Option (A ⊕ B)} {l : List T} (st : Nat -> A) (p : Nat -> T -> Prop) (bad good : B)
   (h1 : ∀ (i : Nat) (x : T), l[i]? = some x -> (p i x -> f (st i) = some (.inl (st (i + 1)))) /\ (¬ p i x -> f (st i) = some (.inr bad)))
   (h2 : f (st l.length) = some (.inr good)) (n : Nat) (hn : l.length < n) : ((∀ i x, l[i]? = some x -> p i x) /\ loopO tag f n (st 0) = some good) \/ ((¬ ∀ i x, l[i]? = some x -> p i x) /\ loopO tag f n (st 0) = some bad) := by
 have key : ∀ (c k n : Nat), k + c = l.length -> c < n -> ((∀ i x, k <= i -> l[i]? = some x -> p i x) /\ loopO tag f n (st k) = some good) \/ ((¬ ∀ i x, l[i]? = some x -> p i x) /\ loopO tag f n (st k) = some bad) := by
   intro c
   induction c with
   | zero =>
    intro k n hk hn
    obtain ⟨n, rfl⟩ : ∃ m, n = m + 1 := ⟨n - 1, by omega⟩
    have : k = l.length := by omega
    subst this
    refine .inl ⟨fun i x hi hx => ?_, loopO_out h2⟩
    have := (List.getElem?_eq_some_iff.1 hx).1
    omega
   | succ c ih =>
    intro k n hk hn
    obtain ⟨n, rfl⟩ : ∃ m, n = m + 1 := ⟨n - 1, by omega⟩
    have hkl : k < l.length := by omega
    obtain ⟨g1, g2⟩ := h1 k l[k] (List.getElem?_eq_getElem hkl)
    by_cases hp : p k l[k]
    . rcases ih (k + 1) n (by omega) (by omega) with ⟨a1, a2⟩ | ⟨a1, a2⟩
      . refine .inl ⟨fun i x hi hx => ?_, by rw [loopO_in (g1 hp)]; exact a2⟩
        by_cases e : i = k
        . subst e; rw [List.getElem?_eq_getElem hkl] at hx; cases hx; exact hp
        . exact a1 i x (by omega) hx
      . exact .inr ⟨a1, by rw [loopO_in (g1 hp)]; exact a2⟩
    . exact .inr ⟨fun hall => hp (hall k _ (List.getElem?_eq_getElem hkl)), loopO_out (g2 hp)⟩
 rcases key l.length 0 n (by omega) hn with ⟨a1, a2⟩ | h
 . exact .inl ⟨fun i x hx => a1 i x (by omega) hx, a2⟩
 . exact .inr h
end Go.Proofs.Ythnijeclidpooaa.X
namespace Go.Proofs.Ythnijeclidpooaa.Abs
open Go Go.RowKit Go.Proofs.Ythnijeclidpooaa.Read
set_option linter.unusedVariables false
def ShAll (Q : TypeId -> List D -> Prop) : List TypeId -> List D -> Prop
 | [], ds => ds = []
 | t :: r, ds => ∃ a b, ds = a ++ b /\ Q t a /\ ShAll Q r b

def Sh (P : Program) : Nat -> TypeId -> List D -> Prop
 | 0, _, _ => False
 | n + 1, t, ds => match P.underlying t with
  | some .bool => ∃ b, ds = [.b b]
  | some (.int k) => ∃ x, ds = [.i k x] /\ k.min <= x /\ x <= k.max
  | some .string => ∃ l : List UInt8, ds = [.s l] /\ l.length <= 140737488351232
  | some (.struct fs) => ShAll (Sh P n) (fs.toList.map (·.type)) ds
  | some (.array m e) => ShAll (Sh P n) (List.replicate m e) ds
  | some (.slice e) => ∃ rows, ds = [.sl (P.cellsOf e) rows] /\ rows.length <= maxLen /\ rows.length * P.bytesOf e <= 140737488351232 /\ ∀ r ∈ rows, Sh P n e r
  | _ => False

def contig (P : Program) : List Field -> Nat -> Option Nat
 | [], o => some o
 | f :: r, o => if f.offset = o then contig P r (o + P.cellsOf f.type) else none

def okT (P : Program) : Nat -> TypeId -> Bool
 | 0, _ => false
 | n + 1, t => match P.underlying t with
  | some .bool | some (.int _) | some .string => true
  | some (.struct fs) => contig P fs.toList 0 == some (P.cellsOf t) && fs.toList.all (fun f => okT P n f.type)
  | some (.array m e) => P.cellsOf t == m * P.cellsOf e && okT P n e
  | some (.slice e) => decide (0 < P.cellsOf e) && okT P n e
  | _ => false

def RepAll (w : World) (U : Nat -> Prop) : List Value -> List D -> Prop
 | [], [] => True
 | v :: r, d :: q => RepI w U v d /\ RepAll w U r q
 | _, _ => False
theorem RepAll.length {w : World} {U : Nat -> Prop} : ∀ {l : List Value} {q : List D}, RepAll w U l q -> l.length = q.length
 | [], [], _ => rfl
 | v :: r, d :: q, h => by simp [RepAll.length h.2]
 | [], d :: q, h => h.elim
 | v :: r, [], h => h.elim
theorem RepAll.app {w : World} {U : Nat -> Prop} : ∀ {l l2 : List Value} {q q2 : List D}, RepAll w U l q -> RepAll w U l2 q2 -> RepAll w U (l ++ l2) (q ++ q2)
 | [], l2, [], q2, _, h2 => h2
 | v :: r, l2, d :: q, q2, h, h2 => ⟨h.1, RepAll.app h.2 h2⟩
 | [], l2, d :: q, q2, h, h2 => h.elim
 | v :: r, l2, [], q2, h, h2 => h.elim
theorem RepAll.at {w : World} {U : Nat -> Prop} : ∀ {l : List Value} {q : List D}, RepAll w U l q -> ∀ (j : Nat) v d, l[j]? = some v -> q[j]? = some d -> RepI w U v d
 | v :: r, d :: q, h, 0, v', d', h1, h2 => by simp at h1 h2; subst h1; subst h2; exact h.1
 | v :: r, d :: q, h, j + 1, v', d', h1, h2 => RepAll.at h.2 j v' d' (by simpa using h1) (by simpa using h2)
 | [], [], h, j, v', d', h1, h2 => by simp at h1
 | [], d :: q, h, j, v', d', h1, h2 => h.elim
 | v :: r, [], h, j, v', d', h1, h2 => h.elim

theorem struct_all {P : Program} {w : World} {U : Nat -> Prop} {cs : List Value} {n : Nat} (ih : ∀ t l, okT P n t = true -> Rd P w t l -> ∃ ds, RepAll w U l ds /\ Sh P n t ds) :
  ∀ (fs : List Field) (o tot : Nat), contig P fs o = some tot -> tot = cs.length -> (∀ f ∈ fs, okT P n f.type = true /\ Rd P w f.type ((cs.drop f.offset).take (P.cellsOf f.type))) ->
    ∃ ds, RepAll w U (cs.drop o) ds /\ ShAll (Sh P n) (fs.map (·.type)) ds
 | [], o, tot, h, ht, _ => by
  simp only [contig, Option.some.injEq] at h
  subst h; subst ht
  exact ⟨[], by simp [RepAll], rfl⟩
 | f :: r, o, tot, h, ht, hf => by
  unfold contig at h
  split at h
  . rename_i e
    obtain ⟨h1, h2⟩ := hf f List.mem_cons_self
    obtain ⟨d1, k1, k2⟩ := ih _ _ h1 h2
    obtain ⟨d2, k3, k4⟩ := struct_all ih r _ tot h ht fun g hg => hf g (List.mem_cons_of_mem _ hg)
    refine ⟨d1 ++ d2, ?_, d1, d2, rfl, k2, k4⟩
    have := k1.app k3
    rw [e, <- List.drop_drop, List.take_append_drop] at this
    exact this
  . cases h

theorem array_all {P : Program} {w : World} {U : Nat -> Prop} {cs : List Value} {n : Nat} {e : TypeId} (ih : ∀ l, Rd P w e l -> ∃ ds, RepAll w U l ds /\ Sh P n e ds) :
  ∀ (m k : Nat), (k + m) * P.cellsOf e = cs.length -> (∀ i, i < k + m -> Rd P w e ((cs.drop (i * P.cellsOf e)).take (P.cellsOf e))) ->
   ∃ ds, RepAll w U (cs.drop (k * P.cellsOf e)) ds /\ ShAll (Sh P n) (List.replicate m e) ds
 | 0, k, h, _ => ⟨[], by rw [List.drop_eq_nil_of_le (by rw [<- h]; exact Nat.le_refl _)]; trivial, rfl⟩
 | m + 1, k, h, hf => by
  obtain ⟨d1, k1, k2⟩ := ih _ (hf k (by omega))
  obtain ⟨d2, k3, k4⟩ := array_all ih m (k + 1) (by rw [<- h]; congr 1; omega) fun i hi => hf i (by omega)
  refine ⟨d1 ++ d2, ?_, d1, d2, rfl, k2, k4⟩
  have := k1.app k3
  rw [show (k + 1) * P.cellsOf e = k * P.cellsOf e + P.cellsOf e by rw [Nat.succ_mul], <- List.drop_drop, List.take_append_drop] at this
  exact this


theorem bounds_wf {k : IntKind} {x : Int} (h : (Lit.int k x).wf = true) : k.min <= x /\ x <= k.max := by
 cases k <;> (simp only [Lit.wf, Bool.and_eq_true, decide_eq_true_eq] at h; exact h)

theorem rd_rep {P : Program} {w : World} {U : Nat -> Prop} (hU : ∀ b, b < w.heap.size -> U b) : ∀ (n : Nat) (t : TypeId) (cs : List Value), okT P n t = true -> Rd P w t cs -> ∃ ds, RepAll w U cs ds /\ Sh P n t ds
 | 0, t, cs, h, _ => by simp [okT] at h
 | n + 1, t, cs, h, hr => by
  unfold okT at h
  split at h
  . rename_i ht
    obtain ⟨b, rfl⟩ := hr.bool ht
    simp only [Sh, ht]
    exact ⟨[.b b], ⟨.b b, trivial⟩, b, rfl⟩
  . rename_i k ht
    obtain ⟨x, rfl, hx⟩ := hr.int ht
    simp only [Sh, ht]
    exact ⟨[.i k x], ⟨.i k x, trivial⟩, x, rfl, bounds_wf hx⟩
  . rename_i ht
    obtain ⟨s, rfl, hs⟩ := hr.string ht
    simp only [Sh, ht]
    refine ⟨[.s s.data.toList], ⟨?_, trivial⟩, _, rfl, by rw [Array.length_toList]; exact hs⟩
    exact RepI.s s.data.toList
  . rename_i fs ht
    simp only [Sh, ht]
    simp only [Bool.and_eq_true, beq_iff_eq, List.all_eq_true] at h
    obtain ⟨hl, hf⟩ := hr.struct ht
    obtain ⟨ds, h1, h2⟩ := struct_all (U := U) (n := n) (fun t l => rd_rep hU n t l) fs.toList 0 _ h.1 hl.symm fun f hf' => by
      obtain ⟨i, hi, rfl⟩ := List.getElem_of_mem hf'
      exact ⟨h.2 _ (List.getElem_mem _), hf i _ (by simp)⟩
    exact ⟨ds, h1, h2⟩
  . rename_i m e ht
    simp only [Sh, ht]
    simp only [Bool.and_eq_true, beq_iff_eq] at h
    obtain ⟨hl, hf⟩ := hr.array ht
    obtain ⟨ds, h1, h2⟩ := array_all (U := U) (n := n) (fun l => rd_rep hU n e l h.2) m 0 (by rw [hl, h.1, Nat.zero_add]) fun i hi => hf i (by omega)
    exact ⟨ds, by simpa using h1, h2⟩
  . rename_i e ht
    simp only [Sh, ht]
    obtain ⟨a, len, cap, rfl, hlc, hcm, hcb, hn, hx⟩ := hr.slice ht
    have hb : ∀ l : Nat, l <= cap -> l * P.bytesOf e <= 140737488351232 := fun l hl => Nat.le_trans (Nat.mul_le_mul_right _ hl) hcb
    by_cases h0 : len = 0
    . subst h0
      exact ⟨[.sl (P.cellsOf e) []], ⟨.nil a cap _ hn, trivial⟩, [], rfl, by simp, by simp, by simp⟩
    . cases a with
      | none => have := hn rfl; omega
      | some x =>
       obtain ⟨vals, hvl, hv⟩ := exists_list (P := fun i (p : List Value × List D) => w.cells? 0 (x.add (i * P.cellsOf e)) (P.cellsOf e) = some p.1 /\ RepAll w U p.1 p.2 /\ Sh P n e p.2) len fun i hi => by
         obtain ⟨row, h1, h2⟩ := hx x rfl i (by omega)
         obtain ⟨ds, h3, h4⟩ := rd_rep hU n e row (by simp at h; exact h.2) h2
         exact ⟨(row, ds), h1, h3, h4⟩
       refine ⟨[.sl (P.cellsOf e) (vals.map (·.2))], ⟨?_, trivial⟩, _, rfl, by simp; omega, by simp only [List.length_map, hvl]; exact hb len hlc, ?_⟩
       . by_cases hz : P.cellsOf e = 0
         . simp [hz] at h
         . have hx0 := hv 0 (by omega)
           obtain ⟨q1, q2⟩ := cells_at hx0.1
           obtain ⟨q3, q4⟩ := spot_none (q2 0 (by omega))
           obtain ⟨b, o, sp⟩ := x
           have hsp : sp = none /\ b < w.heap.size := by
             rw [Nat.zero_mul] at q3 q4
             unfold Addr.add at q3 q4
             simp at q3 q4
             exact ⟨q3, q4⟩
           obtain ⟨rfl, hb2⟩ := hsp
           have := RepI.sl (w := w) (U := U) b o cap (P.cellsOf e) (vals.map (·.2)) (fun i j => ((vals[i]?).bind fun p => p.1[j]?).getD undef) (hU b hb2)
           rw [List.length_map, hvl] at this
           refine this ?_ hlc ?_ ?_
           . intro r hr'
             obtain ⟨p, hp, rfl⟩ := List.mem_map.1 hr'
             obtain ⟨i, hi, rfl⟩ := List.getElem_of_mem hp
             rw [<- (hv i hi).2.1.length, (cells_at (hv i hi).1).1]
           . intro i j r d h1 h2
             rw [List.getElem?_map, Option.map_eq_some_iff] at h1
             obtain ⟨p, hp, rfl⟩ := h1
             obtain ⟨hi, rfl⟩ := List.getElem?_eq_some_iff.1 hp
             obtain ⟨k1, k2, k3⟩ := hv i hi
             obtain ⟨m1, m2⟩ := cells_at k1
             obtain ⟨hj, -⟩ := List.getElem?_eq_some_iff.1 h2
             have hj' : j < (vals[i]).1.length := by rw [k2.length]; exact hj
             have := m2 j hj'
             rw [add_none, add_none] at this
             rw [hp]
             simp only [Option.bind_some]
             rw [List.getElem?_eq_getElem hj', Option.getD_some]
             exact this
           . intro i j r d h1 h2
             rw [List.getElem?_map, Option.map_eq_some_iff] at h1
             obtain ⟨p, hp, rfl⟩ := h1
             obtain ⟨hi, rfl⟩ := List.getElem?_eq_some_iff.1 hp
             obtain ⟨k1, k2, k3⟩ := hv i hi
             obtain ⟨hj, -⟩ := List.getElem?_eq_some_iff.1 h2
             have hj' : j < (vals[i]).1.length := by rw [k2.length]; exact hj
             rw [hp]
             simp only [Option.bind_some]
             rw [List.getElem?_eq_getElem hj', Option.getD_some]
             exact k2.at j _ d (List.getElem?_eq_getElem hj') h2
       . intro r hr'
         obtain ⟨p, hp, rfl⟩ := List.mem_map.1 hr'
         obtain ⟨i, hi, rfl⟩ := List.getElem_of_mem hp
         exact (hv i hi).2.2
  . cases h

def RepArgs (w : World) (us : List Value) (ys : List V) : Prop := us.length = ys.length /\ ∀ (j : Nat) u y, us[j]? = some u -> ys[j]? = some y -> RepV w (fun _ => none) (fun b => b < w.heap.size) w.heap.size u y
theorem RepArgs.nil {w : World} : RepArgs w [] [] := ⟨rfl, fun j u y h => by simp at h⟩
theorem RepArgs.cons {w : World} {u : Value} {y : V} {us : List Value} {ys : List V} (h : RepV w (fun _ => none) (fun b => b < w.heap.size) w.heap.size u y) (hr : RepArgs w us ys) : RepArgs w (u :: us) (y :: ys) := by
 refine ⟨by simp [hr.1], fun j u' y' h1 h2 => ?_⟩
 cases j with
 | zero => simp at h1 h2; subst h1; subst h2; exact h
 | succ j => exact hr.2 j u' y' (by simpa using h1) (by simpa using h2)

theorem RepArgs.agg {w : World} {cs : Array Value} {ds : List D} {us : List Value} {ys : List V} (h : RepAll w (fun b => b < w.heap.size) cs.toList ds) (hr : RepArgs w us ys) : RepArgs w (.agg cs :: us) (.agg (ds.map C.d) :: ys) := by
 refine hr.cons ?_
 have := RepV.agg (w := w) (β := fun _ => none) (U := fun b => b < w.heap.size) (base := w.heap.size) cs.toList (ds.map C.d) (by rw [h.length, List.length_map]) ?_ ?_
 . exact this
 . intro u hu
   obtain ⟨j, hj, rfl⟩ := List.getElem_of_mem hu
   have hj2 : j < ds.length := by rw [<- h.length]; exact hj
   exact (h.at j _ _ (List.getElem?_eq_getElem hj) (List.getElem?_eq_getElem hj2)).oneCell
 . intro j u c hu hc
   rw [List.getElem?_map, Option.map_eq_some_iff] at hc
   obtain ⟨d, hd, rfl⟩ := hc
   exact h.at j u d hu hd
theorem RepArgs.one {w : World} {v : Value} {d : D} {us : List Value} {ys : List V} (h : RepI w (fun b => b < w.heap.size) v d) (hr : RepArgs w us ys) : RepArgs w (v :: us) (vd d :: ys) := hr.cons (.one _ _ h)
theorem RepArgs.s {w : World} {s : ByteArray} {us : List Value} {ys : List V} (hr : RepArgs w us ys) : RepArgs w (.string s :: us) (Abs.vs s.data.toList :: ys) := hr.one (.s s.data.toList)
theorem RepArgs.i {w : World} {k : IntKind} {n : Int} {us : List Value} {ys : List V} (hr : RepArgs w us ys) : RepArgs w (.int k n :: us) (vi k n :: ys) := hr.one (.i k n)
theorem RepArgs.b {w : World} {x : Bool} {us : List Value} {ys : List V} (hr : RepArgs w us ys) : RepArgs w (.bool x :: us) (vb x :: ys) := hr.one (.b x)

theorem glob_of {w : World} (h : ∀ e ∈ globs, ∃ x y, w.heap[e.1]? = some (.cells e.2 x y)) (h2 : ∀ g ∈ gints, g < w.heap.size /\ ∃ m, w.cell? ⟨g, 0, none⟩ = some (.int .i64 m))
  (h3 : ∀ g ∈ gerrs, g < w.heap.size /\ ∃ v, w.cell? ⟨g, 0, none⟩ = some v /\ (v = .nilIface \/ ∃ te pe, v = .iface te pe)) : Glob (fun b => b < w.heap.size) w := by
 refine ⟨fun e he => ?_, h2, h3⟩
 obtain ⟨x, y, hx⟩ := h e he
 exact ⟨(Array.getElem?_eq_some_iff.1 hx).1, x, y, hx⟩
theorem law_calls {P : Program} {f : FuncId} {ys : List V} {w : World} {us : Array Value} (h : AFn P f ys (vb true)) (hr : RepArgs w us.toList ys) (hn : decide (ys.length <= 900) = true) (hgl : Glob (fun b => b < w.heap.size) w) : Calls P f us w fun e w' => e = .returned (.bool true) /\ Below w.heap.size w w' := by
 have h0 : SimB w (fun b => b < w.heap.size) (fun _ _ => False) (fun _ => none) (fun _ => none) (fun b => b < w.heap.size) ⟨ys.length, argsEnv 0 ys, []⟩ ⟨us, []⟩ w := by
  refine { n := by simpa using hr.1, small := of_decide_eq_true hn, args := fun _ _ => rfl, ver0 := ⟨fun k v ver e => (by cases e), fun k v ver us e => (by cases e)⟩, hist := (fun k p e => by cases e), defers := rfl, env := fun t => ?_, mem := (fun k b e => by cases e), dom := (fun k p e => by cases e), apart := (fun k p b e => by cases e), inj := (fun k k' p p' b b' x j _ e => by cases e), stab := fun b h => h, glob := hgl, old := fun b h => h, new := fun b h _ => h, chg := Chg.refl _ _ _, may := (fun k p b c j e => by cases e) }
  show RepV _ _ _ _ _ ((look t (argsEnv 0 ys)).getD (.one .bad))
  rw [look_argsEnv, if_pos (Nat.zero_le _), Nat.sub_zero]
  cases hy : ys[t]? with
  | none => exact .one _ _ trivial
  | some y =>
   have ht : t < ys.length := (List.getElem?_eq_some_iff.1 hy).1
   have ht2 : t < us.toList.length := by rw [hr.1]; exact ht
   have := hr.2 t _ y (List.getElem?_eq_getElem ht2) hy
   have e : us.getD t undef = us.toList[t] := by simp only [Array.length_toList] at ht2; simp [Array.getD, ht2]
   rw [e]; exact this
 refine (h w _ _ _ us h0).mono ?_
 rintro e w' ⟨v, r, m', rfl, ⟨rfl, rfl⟩, β, U, hs⟩
 have := hs.env 0
 refine ⟨?_, hs.chg.below fun _ _ h => h⟩
 have e : (⟨1, [(0, vb true)], []⟩ : St).get 0 = vb true := rfl
 rw [e] at this
 have hv := this.bool
 simp at hv
 subst hv; rfl
set_option linter.unusedSimpArgs false
def PD.same : PD -> PD -> Bool
 | .i k, .i k' => decide (k = k')
 | .b, .b => true
 | .s, .s => true
 | .st c, .st c' => Nat.beq c c'
 | _, _ => false
def pdsSame : List PD -> List PD -> Bool
 | [], [] => true
 | p :: ps, q :: qs => p.same q && pdsSame ps qs
 | _, _ => false
theorem same_eq {p q : PD} (h : p.same q = true) : p = q := by
 cases p <;> cases q <;> first | rfl | (cases h; done) | (simp only [PD.same, decide_eq_true_eq] at h; rw [h]) | exact congrArg PD.st (Nat.eq_of_beq_eq_true h)
theorem pdsSame_eq : ∀ {l m : List PD}, pdsSame l m = true -> l = m
 | [], [], _ => rfl
 | p :: ps, q :: qs, h => by
  simp only [pdsSame, Bool.and_eq_true] at h
  rw [same_eq h.1, pdsSame_eq h.2]
 | [], _ :: _, h => by cases h
 | _ :: _, [], h => by cases h
def pdsE : Nat -> List PD
 | 0 => [.i .i64]
 | 1 => [.b]
 | 2 => [.i .u8]
 | 3 => [.s]
 | 4 => [.i .i64, .s]
 | 5 => [.i .i64, .s, .b]
 | 6 => [.i .u32, .i .u32, .i .i64, .i .i64, .i .i64, .i .i64, .s, .st 5]
 | 7 => [.b, .i .u64, .i .i64]
 | 8 => [.i .i64, .i .i64]
 | 9 => [.i .i64, .i .i64, .b, .i .i64]
 | 10 => [.i .u32, .i .i64, .i .u32, .i .i64, .i .i64, .i .i64, .i .i64, .i .i64, .i .i64, .b]
 | 11 => [.i .i64, .i .i64]
 | 12 => [.i .i64, .i .i64, .st 0]
 | 13 => [.i .i64, .i .i64]
 | 14 => [.i .i64, .i .i64]
 | 15 => [.i .u8, .i .u8, .i .u8, .i .u8, .i .u8, .i .u8, .i .i64, .i .i64]
 | 16 => [.i .u32, .i .u32, .i .i64, .i .i64, .i .i64, .i .i64, .i .i64]
 | 17 => [.i .i64, .i .u32, .i .i64, .i .i64, .i .i64]
 | 18 => [.i .u32, .i .u32, .i .i64, .i .i64, .i .u32, .i .u32, .i .u32, .b, .i .i64]
 | 19 => [.i .u32, .i .i64, .i .i64, .i .i64, .i .i64]
 | 20 => [.i .i64, .i .i64, .b, .b, .i .i64, .i .i64, .i .i64, .i .u32, .i .u32, .s, .s]
 | 21 => [.i .u32, .i .i64]
 | 22 => [.st 0]
 | 23 => [.i .i64, .i .i64, .i .u32, .i .u32, .i .i64, .i .i64, .i .i64, .st 4, .s]
 | 24 => [.b, .s, .i .i64]
 | 25 => [.s, .i .i64, .i .i64]
 | 26 => [.i .u32, .i .u32, .i .i64, .i .i64]
 | 27 => [.i .u64]
 | 28 => [.i .u32]
 | _ => []
def bsz : Nat -> Nat
 | 0 => 8
 | 1 => 1
 | 2 => 1
 | 3 => 16
 | 4 => 24
 | 5 => 32
 | 6 => 80
 | 7 => 24
 | 8 => 16
 | 9 => 32
 | 10 => 80
 | 11 => 16
 | 12 => 40
 | 13 => 16
 | 14 => 16
 | 15 => 24
 | 16 => 48
 | 17 => 40
 | 18 => 48
 | 19 => 40
 | 20 => 88
 | 21 => 16
 | 22 => 24
 | 23 => 88
 | 24 => 32
 | 25 => 32
 | 26 => 24
 | 27 => 8
 | 28 => 4
 | _ => 0
theorem enc_of : ∀ (c : Nat) (x : PdsT (pdsE c) Unit), c < 29 -> (∀ d ∈ (putDs (pdsE c) x).1, c = 2 -> ∃ n : Int, d = .i .u8 n /\ 0 <= n /\ n <= 255) -> ∃ t : τ c, enc c t = (putDs (pdsE c) x).1 := by
 intro c x hc hb
 match c, x, hc, hb with
 | 0, (x0, ()), _, _ => exact ⟨x0, rfl⟩
 | 1, (x0, ()), _, _ => exact ⟨x0, rfl⟩
 | 2, (n, ()), _, hb =>
  obtain ⟨m, h1, h2, h3⟩ := hb (.i .u8 n) (show D.i .u8 n ∈ [D.i .u8 n] from List.mem_singleton.2 rfl) rfl
  cases h1
  refine ⟨UInt8.ofNat n.toNat, ?_⟩
  have e : (UInt8.ofNat n.toNat).toNat = n.toNat := by rw [UInt8.toNat_ofNat']; omega
  show [D.i .u8 ((UInt8.ofNat n.toNat).toNat : Int)] = [D.i .u8 n]
  rw [e]; congr 2; omega
 | 3, (x0, ()), _, _ => exact ⟨x0, rfl⟩
 | 4, (x0, x1, ()), _, _ => exact ⟨TOption.mk x0 x1, rfl⟩
 | 5, (x0, x1, x2, ()), _, _ => exact ⟨TPart.mk x0 x1 x2, rfl⟩
 | 6, (x0, x1, x2, x3, x4, x5, x6, x7, ()), _, _ => exact ⟨THeap.mk x0 x1 x2 x3 x4 x5 x6 x7, rfl⟩
 | 7, (x0, x1, x2, ()), _, _ => exact ⟨TSlot.mk x0 x1 x2, rfl⟩
 | 8, (x0, x1, ()), _, _ => exact ⟨TStay.mk x0 x1, rfl⟩
 | 9, (x0, x1, x2, x3, ()), _, _ => exact ⟨TNode.mk x0 x1 x2 x3, rfl⟩
 | 10, (x0, x1, x2, x3, x4, x5, x6, x7, x8, x9, ()), _, _ => exact ⟨TRule.mk x0 x1 x2 x3 x4 x5 x6 x7 x8 x9, rfl⟩
 | 11, (x0, x1, ()), _, _ => exact ⟨TDrop.mk x0 x1, rfl⟩
 | 12, (x0, x1, x2, ()), _, _ => exact ⟨TQueue.mk x0 x1 x2, rfl⟩
 | 13, (x0, x1, ()), _, _ => exact ⟨TSent.mk x0 x1, rfl⟩
 | 14, (x0, x1, ()), _, _ => exact ⟨TDue.mk x0 x1, rfl⟩
 | 15, (x0, x1, x2, x3, x4, x5, x6, x7, ()), _, _ => exact ⟨TStation.mk x0 x1 x2 x3 x4 x5 x6 x7, rfl⟩
 | 16, (x0, x1, x2, x3, x4, x5, x6, ()), _, _ => exact ⟨TTalk.mk x0 x1 x2 x3 x4 x5 x6, rfl⟩
 | 17, (x0, x1, x2, x3, x4, ()), _, _ => exact ⟨TMap.mk x0 x1 x2 x3 x4, rfl⟩
 | 18, (x0, x1, x2, x3, x4, x5, x6, x7, x8, ()), _, _ => exact ⟨TGuarded.mk x0 x1 x2 x3 x4 x5 x6 x7 x8, rfl⟩
 | 19, (x0, x1, x2, x3, x4, ()), _, _ => exact ⟨TMeter.mk x0 x1 x2 x3 x4, rfl⟩
 | 20, (x0, x1, x2, x3, x4, x5, x6, x7, x8, x9, x10, ()), _, _ => exact ⟨TPacket.mk x0 x1 x2 x3 x4 x5 x6 x7 x8 x9 x10, rfl⟩
 | 21, (x0, x1, ()), _, _ => exact ⟨TNet.mk x0 x1, rfl⟩
 | 22, (x0, ()), _, _ => exact ⟨x0, rfl⟩
 | 23, (x0, x1, x2, x3, x4, x5, x6, x7, x8, ()), _, _ => exact ⟨TSegment.mk x0 x1 x2 x3 x4 x5 x6 x7 x8, rfl⟩
 | 24, (x0, x1, x2, ()), _, _ => exact ⟨TCame.mk x0 x1 x2, rfl⟩
 | 25, (x0, x1, x2, ()), _, _ => exact ⟨TWent.mk x0 x1 x2, rfl⟩
 | 26, (x0, x1, x2, x3, ()), _, _ => exact ⟨TRoad.mk x0 x1 x2 x3, rfl⟩
 | 27, (x0, ()), _, _ => exact ⟨x0, rfl⟩
 | 28, (x0, ()), _, _ => exact ⟨x0, rfl⟩
 | n + 29, _, h, _ => omega

def BndD : Nat -> D -> Prop
 | _, .i k x => k.min <= x /\ x <= k.max
 | _, .b _ => True
 | _, .s l => l.length <= 140737488351232
 | n + 1, .st c xs => xs.length * bsz c <= 140737488351232 /\ ∀ x ∈ xs, ∀ d ∈ enc c x, BndD n d
 | _, _ => False
theorem BndD.up : ∀ (n : Nat) (d : D), BndD n d -> BndD (n + 1) d := by
 intro n
 induction n with
 | zero => intro d h; cases d <;> first | exact h | exact h.elim
 | succ n ih =>
  intro d h
  cases d with
  | st c xs => exact ⟨h.1, fun x hx d hd => ih d (h.2 x hx d hd)⟩
  | _ => first | exact h | exact h.elim

def WkS (d d' : D) : Prop := ∀ (w : World) (U : Nat -> Prop) (v : Value), RepI w U v d -> RepI w U v d'
def WkSs (l l' : List D) : Prop := l.length = l'.length /\ ∀ (j : Nat) d d', l[j]? = some d -> l'[j]? = some d' -> WkS d d'
theorem WkSs.app {a b a' b' : List D} (h : WkSs a a') (k : WkSs b b') : WkSs (a ++ b) (a' ++ b') := by
 refine ⟨by simp [h.1, k.1], fun j d d' h1 h2 => ?_⟩
 by_cases hj : j < a.length
 . rw [List.getElem?_append_left hj] at h1
   rw [List.getElem?_append_left (by rw [<- h.1]; exact hj)] at h2
   exact h.2 j d d' h1 h2
 . rw [List.getElem?_append_right (by omega)] at h1
   rw [List.getElem?_append_right (by rw [<- h.1]; omega), <- h.1] at h2
   exact k.2 _ d d' h1 h2
theorem WkSs.rfl (l : List D) : WkSs l l := ⟨Eq.refl _, fun j d d' h1 h2 => by rw [h1] at h2; cases h2; exact fun _ _ _ h => h⟩
theorem RepAll.wkS {w : World} {U : Nat -> Prop} {cs : List Value} {ds ds' : List D} (h : RepAll w U cs ds) (k : WkSs ds ds') : RepAll w U cs ds' := by
 have key : ∀ (cs : List Value) (ds ds' : List D), RepAll w U cs ds -> WkSs ds ds' -> RepAll w U cs ds' := by
  intro cs
  induction cs with
  | nil =>
   intro ds ds' h k
   cases ds with
   | nil => cases ds' with | nil => trivial | cons => have := k.1; simp at this
   | cons => exact h.elim
  | cons v cs ih =>
   intro ds ds' h k
   cases ds with
   | nil => exact h.elim
   | cons d ds =>
    cases ds' with
    | nil => have := k.1; simp at this
    | cons d' ds' =>
     refine ⟨k.2 0 d d' (by simp) (by simp) _ _ _ h.1, ih ds ds' h.2 ⟨by have := k.1; simpa using this, fun j d d' h1 h2 => k.2 (j + 1) d d' (by simpa using h1) (by simpa using h2)⟩⟩
 exact key cs ds ds' h k

theorem wkS_rows {sz c : Nat} {rows : List (List D)} {xs : List (τ c)} (hsz : sz = esz c) (hl : rows.length = xs.length) (h : ∀ (i : Nat) r x, rows[i]? = some r -> xs[i]? = some x -> WkSs r (enc c x)) : WkS (.sl sz rows) (.st c xs) := by
 subst hsz
 intro w U v hr
 refine RepI.toSt ?_
 have hl' : rows.length = (xs.map (enc c)).length := by simpa using hl
 cases hr with
 | nil a cap _ hn =>
  have : xs = [] := List.length_eq_zero_iff.1 (by simpa using hl.symm)
  subst this
  exact .nil a cap _ hn
 | sl b o cap _ _ vals hU hlen hcap hc hrr =>
  have main := RepI.sl (w := w) (U := U) b o cap (esz c) (xs.map (enc c)) vals hU (fun r hr => by obtain ⟨t, _, rfl⟩ := List.mem_map.1 hr; exact enc_len c t) (by rw [<- hl']; exact hcap)
   (fun i j r d hi hj => by
    rw [List.getElem?_map, Option.map_eq_some_iff] at hi
    obtain ⟨x, hx, rfl⟩ := hi
    have hlt : i < rows.length := by rw [hl]; exact (List.getElem?_eq_some_iff.1 hx).1
    have hw := h i _ x (List.getElem?_eq_getElem hlt) hx
    have hjlt : j < (rows[i]).length := by rw [hw.1]; exact (List.getElem?_eq_some_iff.1 hj).1
    exact hc i j _ _ (List.getElem?_eq_getElem hlt) (List.getElem?_eq_getElem hjlt))
   (fun i j r d hi hj => by
    rw [List.getElem?_map, Option.map_eq_some_iff] at hi
    obtain ⟨x, hx, rfl⟩ := hi
    have hlt : i < rows.length := by rw [hl]; exact (List.getElem?_eq_some_iff.1 hx).1
    have hw := h i _ x (List.getElem?_eq_getElem hlt) hx
    have hjlt : j < (rows[i]).length := by rw [hw.1]; exact (List.getElem?_eq_some_iff.1 hj).1
    exact hw.2 j _ d (List.getElem?_eq_getElem hjlt) hj _ _ _ (hrr i j _ _ (List.getElem?_eq_getElem hlt) (List.getElem?_eq_getElem hjlt)))
  rw [<- hl'] at main
  exact main

def tyDs (P : Program) (cod : TypeId -> Nat) : Nat -> TypeId -> Option (List PD)
 | 0, _ => none
 | n + 1, t => match P.underlying t with
  | some .bool => some [.b]
  | some (.int k) => some [.i k]
  | some .string => some [.s]
  | some (.struct fs) => (fs.toList.map (·.type)).foldr (fun t r => match tyDs P cod n t, r with | some a, some b => some (a ++ b) | _, _ => none) (some [])
  | some (.array m e) => (List.replicate m e).foldr (fun t r => match tyDs P cod n t, r with | some a, some b => some (a ++ b) | _, _ => none) (some [])
  | some (.slice e) => if cod t < 29 /\ esz (cod t) = P.cellsOf e /\ bsz (cod t) = P.bytesOf e then match tyDs P cod n e with
   | some ps => match pdsSame ps (pdsE (cod t)) with | true => some [.st (cod t)] | false => none
   | none => none
   else none
  | _ => none

theorem putDs_app : ∀ (a b : List PD) (x : PdsT a Unit) (y : PdsT b Unit), ∃ z : PdsT (a ++ b) Unit, (putDs (a ++ b) z).1 = (putDs a x).1 ++ (putDs b y).1
 | [], b, x, y => ⟨y, rfl⟩
 | .i k :: a, b, (n, x), y => by obtain ⟨z, hz⟩ := putDs_app a b x y; exact ⟨(n, z), by simp [putDs, hz]⟩
 | .b :: a, b, (n, x), y => by obtain ⟨z, hz⟩ := putDs_app a b x y; exact ⟨(n, z), by simp [putDs, hz]⟩
 | .s :: a, b, (n, x), y => by obtain ⟨z, hz⟩ := putDs_app a b x y; exact ⟨(n, z), by simp [putDs, hz]⟩
 | .st c :: a, b, (n, x), y => by obtain ⟨z, hz⟩ := putDs_app a b x y; exact ⟨(n, z), by simp [putDs, hz]⟩

theorem list_choose {α β : Type} {Q : α -> β -> Prop} : ∀ (l : List α), (∀ a ∈ l, ∃ b, Q a b) -> ∃ m : List β, l.length = m.length /\ ∀ (i : Nat) a b, l[i]? = some a -> m[i]? = some b -> Q a b
 | [], _ => ⟨[], rfl, fun i a b h => by simp at h⟩
 | a :: l, h => by
  obtain ⟨b, hb⟩ := h a (by simp)
  obtain ⟨m, h1, h2⟩ := list_choose l (fun a ha => h a (by simp [ha]))
  refine ⟨b :: m, by simp [h1], fun i a' b' e1 e2 => ?_⟩
  cases i with
  | zero => simp at e1 e2; subst e1; subst e2; exact hb
  | succ i => exact h2 i a' b' (by simpa using e1) (by simpa using e2)

theorem u8_of {ps : List PD} (h : ps = [.i .u8]) {x : PdsT ps Unit} {d : D} (hd : d ∈ (putDs ps x).1) : ∃ n : Int, d = .i .u8 n := by
 subst h
 obtain ⟨n, u⟩ := x
 have hd' : d ∈ [D.i .u8 n] := hd
 exact ⟨n, List.mem_singleton.1 hd'⟩

theorem sh_typed {P : Program} {cod : TypeId -> Nat} : ∀ (n : Nat) (t : TypeId) (ds : List D) (ps : List PD), tyDs P cod n t = some ps -> Sh P n t ds -> ∃ x : PdsT ps Unit, WkSs ds (putDs ps x).1 /\ ∀ d ∈ (putDs ps x).1, BndD n d
 | 0, t, ds, ps, h, _ => by cases h
 | n + 1, t, ds, ps, h, hs => by
  have parts : ∀ (ts : List TypeId) (ds : List D) (ps : List PD), ts.foldr (fun t r => match tyDs P cod n t, r with | some a, some b => some (a ++ b) | _, _ => none) (some []) = some ps -> ShAll (Sh P n) ts ds ->
      ∃ x : PdsT ps Unit, WkSs ds (putDs ps x).1 /\ ∀ d ∈ (putDs ps x).1, BndD (n + 1) d := by
    intro ts
    induction ts with
    | nil =>
      intro ds ps h hs
      cases h
      have : ds = [] := hs
      subst this
      exact ⟨(), WkSs.rfl _, fun d hd => by cases hd⟩
    | cons t ts ih =>
      intro ds ps h hs
      rw [List.foldr_cons] at h
      split at h
      . rename_i a b h1 h2
        cases h
        obtain ⟨d1, d2, rfl, s1, s2⟩ := hs
        obtain ⟨x, hx, bx⟩ := sh_typed n t d1 a h1 s1
        obtain ⟨y, hy, byy⟩ := ih d2 b h2 s2
        obtain ⟨z, hz⟩ := putDs_app a b x y
        refine ⟨z, by rw [hz]; exact hx.app hy, fun d hd => ?_⟩
        rw [hz] at hd
        rcases List.mem_append.1 hd with hd | hd
        . exact BndD.up n d (bx d hd)
        . exact byy d hd
      . cases h
  unfold tyDs at h
  unfold Sh at hs
  split at h
  . rename_i hu
    cases h
    rw [hu] at hs
    obtain ⟨b, rfl⟩ := hs
    exact ⟨(b, ()), WkSs.rfl _, fun d hd => by simp [putDs] at hd; subst hd; trivial⟩
  . rename_i k hu
    cases h
    rw [hu] at hs
    obtain ⟨x, rfl, h1, h2⟩ := hs
    exact ⟨(x, ()), WkSs.rfl _, fun d hd => by simp [putDs] at hd; subst hd; exact ⟨h1, h2⟩⟩
  . rename_i hu
    cases h
    rw [hu] at hs
    obtain ⟨l, rfl, h1⟩ := hs
    exact ⟨(l, ()), WkSs.rfl _, fun d hd => by simp [putDs] at hd; subst hd; exact h1⟩
  . rename_i fs hu
    rw [hu] at hs
    exact parts _ ds ps h hs
  . rename_i m e hu
    rw [hu] at hs
    exact parts _ ds ps h hs
  . rename_i e hu
    rw [hu] at hs
    obtain ⟨rows, rfl, h1, h2, h3⟩ := hs
    split at h
    case isFalse => cases h
    rename_i hc
    obtain ⟨c1, c2, c3⟩ := hc
    split at h
    case h_2 => cases h
    rename_i ps' hps
    split at h
    case h_2 => cases h
    rename_i heq
    have heq := pdsSame_eq heq
    subst heq
    cases h
    obtain ⟨xs, hl, hx⟩ := list_choose (Q := fun (r : List D) (x : τ (cod t)) => WkSs r (enc (cod t) x) /\ ∀ d ∈ enc (cod t) x, BndD n d) rows (fun r hr => by
      obtain ⟨x, hx, bx⟩ := sh_typed n e r _ hps (h3 r hr)
      obtain ⟨y, hy⟩ := enc_of (cod t) x c1 (fun d hd he => by
        have hb := bx d hd
        obtain ⟨n', rfl⟩ := u8_of (by rw [he]; rfl) hd
        have hb' : IntKind.u8.min <= n' /\ n' <= IntKind.u8.max := by cases n <;> exact hb
        exact ⟨n', rfl, hb'.1, hb'.2⟩)
      exact ⟨y, by rw [hy]; exact hx, by rw [hy]; exact bx⟩)
    refine ⟨(xs, ()), ?_, fun d hd => ?_⟩
    . refine ⟨rfl, fun j d d' e1 e2 => ?_⟩
      cases j with
      | zero =>
        simp [putDs] at e1 e2
        subst e1; subst e2
        exact wkS_rows c2.symm hl (fun i r x a1 a2 => (hx i r x a1 a2).1)
      | succ j => simp at e1
    . simp [putDs] at hd
      subst hd
      refine ⟨by rw [<- hl, c3]; exact h2, fun x hxm d hd => ?_⟩
      obtain ⟨i, hi⟩ := List.mem_iff_getElem?.1 hxm
      have hlt : i < rows.length := by rw [hl]; exact (List.getElem?_eq_some_iff.1 hi).1
      exact (hx i _ x (List.getElem?_eq_getElem hlt) hi).2 d hd
  . cases h

theorem rd_typed {P : Program} {cod : TypeId -> Nat} {w : World} {t : TypeId} {cs : List Value} {ps : List PD} (hok : okT P 6 t = true) (hps : tyDs P cod 6 t = some ps) (hr : Rd P w t cs) :
  ∃ x : PdsT ps Unit, RepAll w (fun b => b < w.heap.size) cs (putDs ps x).1 /\ ∀ d ∈ (putDs ps x).1, BndD 6 d := by
 obtain ⟨ds, h1, h2⟩ := rd_rep (U := fun b => b < w.heap.size) (fun _ h => h) 6 t cs hok hr
 obtain ⟨x, h3, h4⟩ := sh_typed 6 t ds ps hps h2
 exact ⟨x, h1.wkS h3, h4⟩
theorem RepArgs.d1 {w : World} {v : Value} {d : D} {us : List Value} {ys : List V} (h : RepAll w (fun b => b < w.heap.size) [v] [d]) (hr : RepArgs w us ys) : RepArgs w (v :: us) (vd d :: ys) := hr.one h.1
theorem RepArgs.aggG {w : World} {cs : Array Value} {k : IntKind} {i : Int} {n c : Nat} {L : List (List (τ c))} {us : List Value} {ys : List V} (h : RepAll w (fun b => b < w.heap.size) cs.toList (.i k i :: L.map (D.st c))) (hL : L.length = n) (hr : RepArgs w us ys) :
   RepArgs w (.agg cs :: us) (.agg ([C.d (.i k i)] ++ gcs c n L) :: ys) := by
 refine hr.cons ?_
 have hl : cs.toList.length = ([C.d (.i k i)] ++ gcs c n L).length := by rw [h.length]; simp [gcs, hL]
 have := RepV.agg (w := w) (β := fun _ => none) (U := fun b => b < w.heap.size) (base := w.heap.size) cs.toList ([C.d (.i k i)] ++ gcs c n L) hl ?_ ?_
 . exact this
 . intro u hu
   obtain ⟨j, hj, rfl⟩ := List.getElem_of_mem hu
   have hj2 : j < (D.i k i :: L.map (D.st c)).length := by rw [<- h.length]; exact hj
   exact (h.at j _ _ (List.getElem?_eq_getElem hj) (List.getElem?_eq_getElem hj2)).oneCell
 . intro j u x hu hx
   cases j with
   | zero => cases hx; exact h.at 0 u (.i k i) hu rfl
   | succ j =>
    have hx' : (gcs c n L)[j]? = some x := by simpa using hx
    have hj : j < n := by have := (List.getElem?_eq_some_iff.1 hx').1; simpa [gcs] using this
    unfold gcs at hx'
    rw [List.getElem?_map, List.getElem?_range hj] at hx'
    cases hx'
    have hd : (D.i k i :: L.map (D.st c))[j + 1]? = some (D.st c (L.getD j [])) := by
     rw [List.getElem?_cons_succ, List.getElem?_map, List.getD_eq_getElem?_getD, List.getElem?_eq_getElem (by omega)]; rfl
    exact h.at (j + 1) u _ hu hd
theorem law_told {P : Program} (F : FS P) (hrp : F.rp = ⟨1, [(0, .v (.one .b))], []⟩) {x : VPsT F.ap Unit} (h : ∃ r, F.fn x = some r /\ (F.rp.put r).get 0 = vb true /\ (F.rp.put r).mem = []) {w : World} {us : Array Value} (hr : RepArgs w us.toList (putVs (fun _ => 0) F.ap x).1)
  (hn : decide ((putVs (fun _ => 0) F.ap x).1.length <= 900) = true) (hgl : ∀ e ∈ globs, ∃ x y, w.heap[e.1]? = some (.cells e.2 x y) := by intro e he; exact absurd he (by simp [Go.Proofs.Ythnijeclidpooaa.Abs.globs])) (hgi : ∀ g ∈ gints, g < w.heap.size /\ ∃ m, w.cell? ⟨g, 0, none⟩ = some (.int .i64 m) := by intro e he; exact absurd he (by simp [Go.Proofs.Ythnijeclidpooaa.Abs.gints]))
  (hge : ∀ g ∈ gerrs, g < w.heap.size /\ ∃ v, w.cell? ⟨g, 0, none⟩ = some v /\ (v = .nilIface \/ ∃ te pe, v = .iface te pe) := by intro e he; exact absurd he (by simp [Go.Proofs.Ythnijeclidpooaa.Abs.gerrs])) : Calls P F.f us w fun e w' => e = .returned (.bool true) /\ Below w.heap.size w w' := by
 obtain ⟨r, h1, h2, h3⟩ := h
 have := F.ok x r h1
 rw [h2, h3] at this
 exact law_calls this hr hn (glob_of hgl hgi hge)
end Go.Proofs.Ythnijeclidpooaa.Abs
namespace Go.Proofs.Ythnijeclidpooaa.X
open Go Go.RowKit Go.Proofs.Ythnijeclidpooaa.Abs Go.Proofs.Ythnijeclidpooaa.Bits
set_option linter.unusedVariables false
set_option linter.unnecessarySimpa false
set_option linter.unusedSimpArgs false
set_option maxRecDepth 100000
def sm (l : List Int) : Int := l.foldr (· + ·) 0
def nsent : Int -> List Int -> Nat
 | _, [] => 0
 | s, x :: r => if x <= s then nsent (s - x) r + 1 else 0
structure QOk (q : TQueue) : Prop where
 s0 : 1 <= q.share
 s1 : q.share <= 1000000
 len : q.sizes.length <= 200
 sz : ∀ x ∈ q.sizes, 1 <= x /\ x <= 1000000
 v0 : 0 <= q.saved
 v1 : q.sizes = [] -> q.saved = 0
 v2 : ∀ x, q.sizes[0]? = some x -> q.saved < x
theorem QOk.v1' {q : TQueue} (h : QOk q) : q.saved <= 1000000 := by
 cases hs : q.sizes with
 | nil => have := h.v1 hs; omega
 | cons x r =>
  have h1 := h.v2 x (by rw [hs]; rfl)
  have h2 := h.sz x (by rw [hs]; exact List.mem_cons_self)
  omega
def goes (q : TQueue) : List Int := if q.sizes = [] then [] else q.sizes.take (nsent (q.saved + q.share) q.sizes)
def TGood (Q : List TQueue) : Prop := Q.length <= 16 /\ ∀ q ∈ Q, QOk q
theorem size_fn (n : Int) : tuSize_fn (n, ()) = some (decide (1 <= n) && decide (n <= 1000000), ()) := by
 unfold tuSize_fn tuSize_tree
 by_cases h : 1 <= n
 . exact ev_t (by simpa using h) (ev_r (by simp [h]))
 . exact ev_f (by simpa using h) (ev_r (by simp [h]))
def big (q : TQueue) : Bool := decide ((200 : Int) < (q.sizes.length : Int))
def badSz (x : Int) : Bool := !(decide (1 <= x) && decide (x <= 1000000))
def bad1 (q : TQueue) : Prop := 1 <= q.share /\ q.share <= 1000000 /\ ∀ x ∈ q.sizes, badSz x = false
def ok2 (q : TQueue) : Prop := 0 <= q.saved /\ (q.sizes = [] -> q.saved = 0) /\ ∀ x, q.sizes[0]? = some x -> q.saved < x
theorem check_fn (Q : List TQueue) (hQ : Q.length < 1000000000000000) (hS : ∀ q ∈ Q, q.sizes.length < 1000000000000000) : ∃ c : Int, tuCheck_fn (Q, ()) = some (c, ()) /\ (c = 0 ↔ TGood Q) := by
 unfold tuCheck_fn tuCheck_tree
 by_cases h16 : 16 < Q.length
 . exact ⟨2, ev_t (by simp <;> omega) (ev_r rfl), ⟨fun h => (by cases h), fun h => by have := h.1; omega⟩⟩
 have l1 := loop_hit (tag := 700002) (f := fun x => (tuCheck_step70_2 x).eval) (l := Q) (fun i => ((i : Int), (Q, ((Q.length : Int), ()))))
     big (fun q => match q with | some q => Sum.inl ((q.1 : Int), ()) | none => Sum.inr ())
     (fun i x hx => by
       have hi := (List.getElem?_eq_some_iff.1 hx).1
       show (tuCheck_step70_2 _).eval = _
       unfold tuCheck_step70_2
       refine ev_t (by simp <;> omega) (ev_g (by simp) (ev_opt (show Q[Int.toNat (i : Int)]? = some x by simpa using hx) ?_))
       unfold big
       rcases Bool.eq_false_or_eq_true (decide ((200 : Int) < (x.sizes.length : Int))) with h | h
       . rw [h]; exact ev_t rfl (ev_r rfl)
       . rw [h]; exact ev_f rfl (ev_r (by rw [next_i64 i (by omega)])))
     (by show (tuCheck_step70_2 _).eval = _; exact ev_f (by simp) (ev_r rfl)) 18446744073709551616 (by omega)
 cases hb : hit big Q with
 | some q =>
   obtain ⟨i, q⟩ := q
   rw [hb] at l1
   refine ⟨2, ev_f (by simp <;> omega) (ev_opt (show tuCheck_loop70_2 _ = _ from l1) ?_), ⟨fun h => (by cases h), fun h => ?_⟩⟩
   . exact ev_t (by simp) (ev_r rfl)
   . obtain ⟨h1, h2⟩ := hit_at hb
     have := (h.2 q (List.mem_iff_getElem?.2 ⟨i, h1⟩)).len
     unfold big at h2
     simp at h2; omega
 | none =>
   have hsmall := hit_none.1 hb
   rw [hb] at l1
   have inner : ∀ l : List Int, l.length < 1000000000000000 -> tuCheck_loop71_2 ((0 : Int), (l, ((l.length : Int), ()))) = some (match hit badSz l with | some q => Sum.inl ((q.1 : Int), ()) | none => Sum.inr ()) := by
     intro l hl
     exact loop_hit (tag := 710002) (f := fun x => (tuCheck_step71_2 x).eval) (l := l) (fun i => ((i : Int), (l, ((l.length : Int), ()))))
       badSz (fun q => match q with | some q => Sum.inl ((q.1 : Int), ()) | none => Sum.inr ())
       (fun i x hx => by
         have hi := (List.getElem?_eq_some_iff.1 hx).1
         show (tuCheck_step71_2 _).eval = _
         unfold tuCheck_step71_2
         refine ev_t (by simp <;> omega) (ev_g (by simp) (ev_opt (show l[Int.toNat (i : Int)]? = some x by simpa using hx) (ev_opt (size_fn x) ?_)))
         unfold badSz
         rcases Bool.eq_false_or_eq_true (!(decide (1 <= x) && decide (x <= 1000000))) with h | h
         . rw [h]; exact ev_t rfl (ev_r rfl)
         . rw [h]; exact ev_f rfl (ev_r (by rw [next_i64 i (by omega)])))
       (by show (tuCheck_step71_2 _).eval = _; exact ev_f (by simp) (ev_r rfl)) 18446744073709551616 (by omega)
   have l2 := loop_all (tag := 130004) (f := fun x => (tuCheck_step13_4 x).eval) (l := Q) (fun i => ((i : Int), (Q, (Q, ((Q.length : Int), ())))))
     (fun i q => bad1 q) (Sum.inl ((1 : Int), ())) (Sum.inr (Q, ()))
     (fun i q hq => by
       have hi := (List.getElem?_eq_some_iff.1 hq).1
       have hm := List.mem_iff_getElem?.2 ⟨i, hq⟩
       show (_ -> (tuCheck_step13_4 _).eval = _) /\ (_ -> (tuCheck_step13_4 _).eval = _)
       unfold tuCheck_step13_4
       have eo : Q[Int.toNat (i : Int)]? = some q := by simpa using hq
       have hin := inner q.sizes (hS q hm)
       refine ⟨fun hA => ?_, fun hA => ?_⟩
       . obtain ⟨a1, a2, a3⟩ := hA
         rw [hit_none.2 a3] at hin
         exact ev_t (by simp <;> omega) (ev_g (by simp) (ev_opt eo (ev_opt (size_fn _) (ev_f (by simp <;> omega) (ev_opt hin (ev_f rfl (ev_r (by rw [next_i64 i (by omega)]))))))))
       . refine ev_t (by simp <;> omega) (ev_g (by simp) (ev_opt eo (ev_opt (size_fn _) ?_)))
         by_cases a1 : 1 <= q.share /\ q.share <= 1000000
         . refine ev_f (by simp <;> omega) (ev_opt hin ?_)
           cases hz : hit badSz q.sizes with
           | none => exact (hA ⟨a1.1, a1.2, hit_none.1 hz⟩).elim
           | some r => exact ev_t (by simp) (ev_r rfl)
         . exact ev_t (by simp <;> omega) (ev_r rfl))
     (by show (tuCheck_step13_4 _).eval = _; exact ev_f (by simp) (ev_r rfl)) 18446744073709551616 (by omega)
   have go : ∀ (c : Int) (K : (Int × Unit) ⊕ ((List TQueue) × Unit)) , True := fun _ _ => trivial
   rcases l2 with ⟨hall, l2⟩ | ⟨hnot, l2⟩
   . have l3 := loop_all (tag := 130010) (f := fun x => (tuCheck_step13_10 x).eval) (l := Q) (fun i => ((i : Int), (Q, ((Q.length : Int), ()))))
       (fun i q => ok2 q) (Sum.inl ((4 : Int), ())) (Sum.inr ())
       (fun i q hq => by
         have hi := (List.getElem?_eq_some_iff.1 hq).1
         show (_ -> (tuCheck_step13_10 _).eval = _) /\ (_ -> (tuCheck_step13_10 _).eval = _)
         unfold tuCheck_step13_10
         have eo : Q[Int.toNat (i : Int)]? = some q := by simpa using hq
         have en := next_i64 i (by omega)
         refine ⟨fun hA => ?_, fun hA => ?_⟩
         . obtain ⟨a1, a2, a3⟩ := hA
           refine ev_t (by simp <;> omega) (ev_g (by simp) (ev_opt eo (ev_f (by simpa using a1) ?_)))
           cases hs : q.sizes with
           | nil =>
             have := a2 hs
             exact ev_t rfl (ev_f (by simp [this]) (ev_f rfl (ev_r (by rw [en]))))
           | cons x r =>
             have := a3 x (by rw [hs]; rfl)
             exact ev_f (by simp <;> omega) (ev_t (by simp <;> omega) (ev_g rfl (ev_opt (b := x) rfl (ev_f (by simpa using this) (ev_r (by rw [en]))))))
         . refine ev_t (by simp <;> omega) (ev_g (by simp) (ev_opt eo ?_))
           by_cases a1 : q.saved < 0
           . exact ev_t (by simpa using a1) (ev_r rfl)
           refine ev_f (by simpa using a1) ?_
           cases hs : q.sizes with
           | nil =>
             have : 0 < q.saved := by
              apply Decidable.byContradiction
              intro hn
              exact hA ⟨by omega, fun _ => by omega, fun x hx => by rw [hs] at hx; cases hx⟩
             exact ev_t rfl (ev_t (by simpa using this) (ev_r rfl))
           | cons x r =>
             have : x <= q.saved := by
              apply Decidable.byContradiction
              intro hn
              exact hA ⟨by omega, fun e => (by rw [hs] at e; cases e), fun y hy => by rw [hs] at hy; cases hy; omega⟩
             exact ev_f (by simp <;> omega) (ev_t (by simp <;> omega) (ev_g rfl (ev_opt (b := x) rfl (ev_t (by simpa using this) (ev_r rfl))))))
       (by show (tuCheck_step13_10 _).eval = _; exact ev_f (by simp) (ev_r rfl)) 18446744073709551616 (by omega)
     rcases l3 with ⟨hall3, l3⟩ | ⟨hnot3, l3⟩
     . refine ⟨0, ev_f (by simp <;> omega) (ev_opt (show tuCheck_loop70_2 _ = _ from l1) (ev_f rfl (ev_opt (show tuCheck_loop13_4 _ = _ from l2) (ev_opt (show tuCheck_loop13_10 _ = _ from l3) (ev_r rfl))))), ⟨fun _ => ⟨by omega, fun q hq => ?_⟩, fun _ => rfl⟩⟩
       obtain ⟨i, hi⟩ := List.mem_iff_getElem?.1 hq
       obtain ⟨a1, a2, a3⟩ := hall i q hi
       obtain ⟨b1, b2, b3⟩ := hall3 i q hi
       refine ⟨a1, a2, ?_, fun x hx => ?_, b1, b2, b3⟩
       . have := hsmall q hq; unfold big at this; simp at this; omega
       . have := a3 x hx; unfold badSz at this; simp at this; omega
     . refine ⟨4, ev_f (by simp <;> omega) (ev_opt (show tuCheck_loop70_2 _ = _ from l1) (ev_f rfl (ev_opt (show tuCheck_loop13_4 _ = _ from l2) (ev_opt (show tuCheck_loop13_10 _ = _ from l3) (ev_r rfl))))), ⟨fun h => (by cases h), fun h => (hnot3 fun i q hi => ?_).elim⟩⟩
       have := h.2 q (List.mem_iff_getElem?.2 ⟨i, hi⟩)
       exact ⟨this.v0, this.v1, this.v2⟩
   . refine ⟨1, ev_f (by simp <;> omega) (ev_opt (show tuCheck_loop70_2 _ = _ from l1) (ev_f rfl (ev_opt (show tuCheck_loop13_4 _ = _ from l2) (ev_r rfl)))), ⟨fun h => (by cases h), fun h => (hnot fun i q hi => ?_).elim⟩⟩
     have := h.2 q (List.mem_iff_getElem?.2 ⟨i, hi⟩)
     refine ⟨this.s0, this.s1, fun x hx => ?_⟩
     have := this.sz x hx
     unfold badSz; simp; omega
end Go.Proofs.Ythnijeclidpooaa.X
namespace Go.Proofs.Ythnijeclidpooaa.Abs
open Go Go.RowKit
set_option linter.unusedVariables false
set_option linter.unusedSimpArgs false
def AllP (k : Nat -> Tr Prop) : Prop := ∀ n, n <= 9223372036854775807 -> ∃ p, (k n).eval = some p /\ p
def AllY (c : Nat) (n : Nat) (k : List (τ c) -> Tr Prop) : Prop := ∀ ys : List (τ c), ys.length = n -> ∃ p, (k ys).eval = some p /\ p
def AllL (n : Nat) (k : List (Nat × Nat) -> Tr Prop) : Prop := ∀ ls : List (Nat × Nat), ls.length = n -> (∀ l ∈ ls, l.1 <= l.2 /\ l.2 <= 9223372036854775807) -> ∃ p, (k ls).eval = some p /\ p
def dpAt (s : St) (t : Nat) : Option Nat := match s.get t with
 | .one (.dp k _ _ _) => some k
 | _ => none
def grpOf : List C -> Option Nat
 | [] => none
 | .gr k _ _ :: _ => some k
 | _ :: r => grpOf r
def gpAt (s : St) (t : Nat) : Option Nat := match s.get t with
 | .one (.ptr b _) => match s.blk b with
  | some (.cells cs) => grpOf cs
  | _ => none
 | .agg cs => grpOf cs
 | _ => none
def opOk (e c : Nat) : Bool := match spIn e sps with
 | none => true
 | some c' => Nat.beq c c' && flatT c
def jtC : Nat -> Bool
 | 12 => true
 | _ => false
def jtOk (e c : Nat) : Bool := !isJt e || jtC c
theorem jtC_enc {c : Nat} (h : jtC c = true) (x : τ c) {j : Nat} {d : D} (hd : (enc c x)[j]? = some d) (hj : j ≠ dIc c) : isN d = true := by
 unfold jtC at h
 split at h
 . match j, hj, hd with
   | 0, _, hd => cases hd; rfl
   | 1, _, hd => cases hd; rfl
   | 2, hj, _ => exact absurd rfl hj
   | n + 3, _, hd => cases hd
 . cases h
def Holds (T : Tr Prop) : Prop := ∃ p, T.eval = some p /\ p
def findO (id : Nat) : List (Nat × Nat) -> Option Nat
 | [] => none
 | (i, t) :: r => match Nat.beq i id with | true => some t | false => findO id r
def ownAt (s : St) (t : Nat) : Option Nat :=
 match t / 100000 with
 | 0 => match s.get t with
  | .one (.own k _ _) => some k
  | _ => none
 | j + 1 => match s.get (t % 100000) with
  | .one (.ptr b 0) => match s.blk b with
   | some (.cells cs) => match cs[j]? with
    | some (.own k _ _) => some k
    | _ => none
   | _ => none
  | .agg cs => match cs[j]? with
   | some (.own k _ _) => some k
   | _ => none
  | _ => none
def iterJ : Nat -> (Nat -> (Kn -> St -> Tr Prop) -> Kn -> St -> Tr Prop) -> Kn -> St -> Tr Prop
 | 0, _, _, _ => .fail 14
 | n + 1, F, kn, s => F n (iterJ n F) kn s
section
variable (P : Program) (cod : TypeId -> Nat) (own : FuncId -> List Nat) (call : FuncId -> List V -> Mem -> Tr (V × Mem)) (Λs : List (FuncId × LS)) (fi : Nat) (opn : List (Nat × Nat)) (un : List Nat)
def execJ : Code -> Nat -> Kn -> St -> (Exit -> Kn -> St -> Tr Prop) -> Tr Prop
 | .seq a b, v, kn, s, K => execJ a v kn s fun e kn' s' => match e with
  | .normal => execJ b v kn' s' K
  | e => K e kn' s'
 | .block id body, v, kn, s, K => execJ body v kn s fun e kn' s' => match e with
  | .exit id' => match Nat.beq id' id with
   | true => K .normal kn' s'
   | false => K (.exit id') kn' s'
  | e => K e kn' s'
 | .loop body, v, kn, s, K => match un.contains (lid body) with
  | true => iterJ 8 (fun n again kn s => execJ body (8 - n) kn s fun e kn' s' => match e with
    | .normal => (match trimR body s' with | some s2 => again [] s2 | none => .fail 16)
    | e => K e kn' s') kn s
  | false => match findO (500000 + lid body) opn with
   | none => exec P cod own call (loopsOf (fi + 1000 * v) Λs) (fi + 1000 * v) (.loop body) Prop kn s K
   | some t => match ownAt s t with
    | some k => match s.blk k with
     | some (.junk ver e sz len N) => match spIn e sps with
      | some c => match Nat.beq sz (esz c) with
       | true => .grd (decide (len = N)) (.ret (AllY c N fun ys => exec P cod own call (loopsOf (fi + 1000 * v) Λs) (fi + 1000 * v) (.loop body) Prop kn (s.set k (.rowT ver e c false false ys)) K))
       | false => .fail 55
      | none => .fail 54
     | _ => .fail 53
    | none => .fail 50
 | .region id ops draw, v, kn, s, K => match findO id opn with
  | none => exec P cod own call (loopsOf (fi + 1000 * v) Λs) (fi + 1000 * v) (.region id ops draw) Prop kn s K
  | some t => match ownAt s t with
   | some k => match s.blk k with
    | some (.rowT ver e c true fr xs) => match opOk e c with
     | true => .ret (AllP fun N => exec P cod own call (loopsOf (fi + 1000 * v) Λs) (fi + 1000 * v) (.region id ops draw) Prop kn (s.set k (.junk ver e (esz c) xs.length N)) K)
     | false => .fail 52
    | _ => .fail 51
   | none => match dpAt s t with
    | some k => match s.blk k with
     | some (.deep ver e ei c none xs) => match opOk ei (dIn c) && jtOk e c with
      | true => .ret (AllL xs.length fun ls => exec P cod own call (loopsOf (fi + 1000 * v) Λs) (fi + 1000 * v) (.region id ops draw) Prop kn (s.set k (.jd ver e ei (esz c) (dIc c) (esz (dIn c)) none none none ls)) K)
      | false => .fail 52
     | some (.dx ver e ei c os none xs) => match opOk ei (dIn c) && jtOk e c with
      | true => .ret (AllL xs.length fun ls => exec P cod own call (loopsOf (fi + 1000 * v) Λs) (fi + 1000 * v) (.region id ops draw) Prop kn (s.set k (.jd ver e ei (esz c) (dIc c) (esz (dIn c)) none (some os) none ls)) K)
      | false => .fail 52
     | some (.jd ver e ei sz ic szi none none none ls) => match noSp e && !Nat.beq e ei with
      | true => .ret (AllP fun N => exec P cod own call (loopsOf (fi + 1000 * v) Λs) (fi + 1000 * v) (.region id ops draw) Prop kn (s.set k (.jd ver e ei sz ic szi (some (ls.length, N)) none none [])) K)
      | false => .fail 56
     | _ => .fail 57
    | none => match gpAt s t with
     | some k => match s.blk k with
      | some (.grp ver ei c m _ none L) => match opOk ei c with
       | true => .grd (decide (m = L.length)) (.ret (AllL L.length fun ls => exec P cod own call (loopsOf (fi + 1000 * v) Λs) (fi + 1000 * v) (.region id ops draw) Prop kn (s.set k (.jd ver ei ei 1 0 (esz c) none none none ls)) K))
       | false => .fail 58
      | _ => .fail 59
     | none => .fail 50
 | c, v, kn, s, K => exec P cod own call (loopsOf (fi + 1000 * v) Λs) (fi + 1000 * v) c Prop kn s K
end
variable {P : Program} {cod : TypeId -> Nat} {own : FuncId -> List Nat} {call : FuncId -> List V -> Mem -> Tr (V × Mem)} {Λs : List (FuncId × LS)} {fi : Nat} {opn : List (Nat × Nat)} {un : List Nat}
theorem RepI.ofFlat {w w' : World} {U U' : Nat -> Prop} {v : Value} {d : D} (h : RepI w U v d) (hf : d.flat = true) : RepI w' U' v d := by
 cases h with
 | i k n => exact .i k n
 | b x => exact .b x
 | s l => exact .s l
 | z v h1 => exact .z _ h1
 | nil => simp [D.flat] at hf
 | sl => simp [D.flat] at hf
 | st => simp [D.flat] at hf
 | tn => simp [D.flat] at hf
 | tr => simp [D.flat] at hf
theorem SimB.opened {w0 : World} {U0 : Nat -> Prop} {X : Nat -> Nat -> Prop} {β0 β : Nat -> Option Place} {U : Nat -> Prop} {s : St} {a : Act} {w : World} (h : SimB w0 U0 X β0 β U s a w) {k ver : Nat} {e : TypeId} {c : Nat} {fr : Bool} {xs : List (τ c)}
  (hb : s.blk k = some (.rowT ver e c true fr xs)) (hok : opOk e c = true) : ∃ N, N <= 9223372036854775807 /\ Sim w0 U0 X β0 (s.set k (.junk ver e (esz c) xs.length N)) a w := by
 obtain ⟨p, hp, hr⟩ := h.mem k _ hb
 cases p with
 | cells => exact hr.elim
 | deep => exact hr.elim
 | row v ver0 =>
  obtain ⟨rfl, q2, q3⟩ := hr
  have key : ∀ N, RepB w (upd β k (.row v ver)) U w0.heap.size (.row v ver) (.junk ver e (esz c) xs.length N) -> Sim w0 U0 X β0 (s.set k (.junk ver e (esz c) xs.length N)) a w := fun N hr =>
    ⟨_, _, h.repl (w' := w) (p' := .row v ver) (blk' := .junk ver e (esz c) xs.length N) hp hb rfl rfl rfl (Nat.le_refl _) (fun _ _ _ => rfl) (fun _ _ _ _ => ⟨rfl, rfl⟩) (fun _ _ _ => .inl rfl) (.inl rfl) (fun _ hb => .inl hb) (fun _ _ hc => .inl hc) hr⟩
  rcases q3 with ⟨e1, e2⟩ | ⟨g, cap, cur, fz, e1, hg, h3, h4, h5, h6, h7, h8⟩
  . have hx : xs.length = 0 := by simpa using congrArg List.length e2
    exact ⟨0, by omega, key 0 ⟨rfl, .inl ⟨e1, hx, rfl⟩⟩⟩
  . obtain ⟨hfz, hsp⟩ := h6 rfl
    rw [hfz] at hg
    rw [List.length_map] at hsp
    rw [List.length_map] at e1 h3
    refine ⟨cap, h4, key cap ⟨rfl, .inr ⟨g, cur, e1, h3, hg, h5, h4, ⟨fun c' hc' => ?_, hsp.2⟩⟩⟩⟩
    unfold opOk at hok
    rw [hc'] at hok
    simp only [Bool.and_eq_true] at hok
    obtain ⟨hcc, hfl⟩ := hok
    obtain rfl := Nat.eq_of_beq_eq_true hcc
    obtain ⟨ys, k1, k2⟩ := hsp.1 c hc'
    refine ⟨xs ++ ys, by rw [List.length_append]; omega, fun i j y d hy hd => ?_⟩
    rw [Nat.zero_add]
    by_cases hlt : i < xs.length
    . rw [List.getElem?_append_left hlt] at hy
      obtain ⟨u, q1, q2, q3⟩ := h8 i j (enc c y) d (show (xs.map (enc c))[i]? = some (enc c y) by rw [List.getElem?_map, hy]; rfl) hd
      have hflat : d.flat = true := List.all_eq_true.1 (flatT_all c y hfl) d (List.mem_of_getElem? hd)
      exact ⟨u, q1, q2, fun w' U' => RepI.ofFlat (w' := w') (U' := U') q3 hflat⟩
    . rw [List.getElem?_append_right (by omega)] at hy
      obtain ⟨u, q1, q2, q3⟩ := k2 (i - xs.length) j y d hy hd
      rw [show xs.length + (i - xs.length) = i by omega] at q1
      exact ⟨u, q1, q2, q3⟩
theorem SimB.shown {w0 : World} {U0 : Nat -> Prop} {X : Nat -> Nat -> Prop} {β0 β : Nat -> Option Place} {U : Nat -> Prop} {s : St} {a : Act} {w : World} (h : SimB w0 U0 X β0 β U s a w) {k ver : Nat} {e : TypeId} {c N : Nat}
  (hb : s.blk k = some (.junk ver e (esz c) N N)) (hc : spIn e sps = some c) : ∃ ys : List (τ c), ys.length = N /\ Sim w0 U0 X β0 (s.set k (.rowT ver e c false false ys)) a w := by
 obtain ⟨p, hp, hr⟩ := h.mem k _ hb
 cases p with
 | cells => exact hr.elim
 | deep => exact hr.elim
 | row v ver0 =>
  obtain ⟨rfl, q3⟩ := hr
  have key : ∀ ys : List (τ c), RepB w (upd β k (.row v ver)) U w0.heap.size (.row v ver) (.rowT ver e c false false ys) -> Sim w0 U0 X β0 (s.set k (.rowT ver e c false false ys)) a w := fun ys hr =>
    ⟨_, _, h.repl (w' := w) (p' := .row v ver) (blk' := .rowT ver e c false false ys) hp hb rfl rfl rfl (Nat.le_refl _) (fun _ _ _ => rfl) (fun _ _ _ _ => ⟨rfl, rfl⟩) (fun _ _ _ => .inl rfl) (.inl rfl) (fun _ hb => .inl hb) (fun _ _ hc => .inl hc) hr⟩
  rcases q3 with ⟨e1, _, e2⟩ | ⟨g, cur, e1, h3, hg, h5, hcap, hsp⟩
  . subst e2
    exact ⟨[], rfl, key [] ⟨rfl, fun r hr => by simp at hr, .inl ⟨e1, rfl⟩⟩⟩
  . obtain ⟨ys, k1, k2⟩ := hsp.1 c hc
    rw [Nat.zero_add] at k1
    subst k1
    refine ⟨ys, rfl, key ys ⟨rfl, fun r hr => by obtain ⟨t, _, rfl⟩ := List.mem_map.1 hr; exact enc_len c t, .inr ⟨g, ys.length, cur, (0, 0), by rw [List.length_map]; exact e1, hg, by rw [List.length_map]; exact Nat.le_refl _, hcap, h5, fun hh => (by cases hh), fun i _ => by simp [World.frozen?, hg], fun i j r d hi hj => ?_⟩⟩⟩
    rw [List.getElem?_map, Option.map_eq_some_iff] at hi
    obtain ⟨y, hy, rfl⟩ := hi
    obtain ⟨u, q1, q2, q3⟩ := k2 i j y d hy hj
    rw [Nat.zero_add] at q1
    exact ⟨u, q1, q2, q3 _ _⟩
theorem exists_ls {α : Type} {Q : Nat -> α -> Prop} : ∀ (n : Nat), (∀ i, i < n -> ∃ l, Q i l) -> ∃ ls : List α, ls.length = n /\ ∀ (i : Nat) (l : α), ls[i]? = some l -> Q i l
 | 0, _ => ⟨[], rfl, fun i l h => by simp at h⟩
 | n + 1, h => by
  obtain ⟨ls, h1, h2⟩ := exists_ls n fun i hi => h i (by omega)
  obtain ⟨x, hx⟩ := h n (Nat.lt_succ_self _)
  refine ⟨ls ++ [x], by simp [h1], fun i l hl => ?_⟩
  rcases Nat.lt_or_ge i n with hlt | hge
  . rw [List.getElem?_append_left (by omega)] at hl; exact h2 i l hl
  . rw [List.getElem?_append_right (by omega)] at hl
    have : i = n := by have := (List.getElem?_eq_some_iff.1 hl).1; simp at this; omega
    subst this
    rw [h1, Nat.sub_self] at hl
    cases hl; exact hx
theorem Inner.loose {w : World} {e : TypeId} {c : Nat} {u : Value} {ys : List (τ c)} (h : Inner w e c u ys) (hok : opOk e c = true) : ∃ N, ys.length <= N /\ N <= 9223372036854775807 /\ Loose w e (esz c) u ys.length N := by
 rcases h with ⟨rfl, rfl⟩ | ⟨g, cap, cur, rfl, h1, h2, h3, h4, hsp, h5⟩
 . exact ⟨0, Nat.le_refl _, by omega, .inl ⟨rfl, rfl, rfl⟩⟩
 . refine ⟨cap, h2, h3, .inr ⟨g, cur, rfl, h2, h1, h4, h3, ⟨fun c' hc' => ?_, hsp.2⟩⟩⟩
   unfold opOk at hok
   rw [hc'] at hok
   simp only [Bool.and_eq_true] at hok
   obtain ⟨hcc, hfl⟩ := hok
   obtain rfl := Nat.eq_of_beq_eq_true hcc
   obtain ⟨zs, k1, k2⟩ := hsp.1 c hc'
   refine ⟨ys ++ zs, by rw [List.length_append]; omega, fun i j y d hy hd => ?_⟩
   rw [Nat.zero_add]
   by_cases hlt : i < ys.length
   . rw [List.getElem?_append_left hlt] at hy
     obtain ⟨u, q1, q2, q3⟩ := h5 i j y d hy hd
     have hflat : d.flat = true := List.all_eq_true.1 (flatT_all c y hfl) d (List.mem_of_getElem? hd)
     exact ⟨u, q1, q2, fun w' U' => RepI.ofFlat (w' := w') (U' := U') q3 hflat⟩
   . rw [List.getElem?_append_right (by omega)] at hy
     obtain ⟨u, q1, q2, q3⟩ := k2 (i - ys.length) j y d hy hd
     rw [show ys.length + (i - ys.length) = i by omega] at q1
     exact ⟨u, q1, q2, q3⟩
theorem SimB.openJ {w0 : World} {U0 : Nat -> Prop} {X : Nat -> Nat -> Prop} {β0 β : Nat -> Option Place} {U : Nat -> Prop} {s : St} {a : Act} {w : World} (h : SimB w0 U0 X β0 β U s a w) {k ver : Nat} {e ei : TypeId} {c : Nat} {xs : List (τ c)}
  (hb : s.blk k = some (.deep ver e ei c none xs)) (hok : opOk ei (dIn c) = true) (hjt : jtOk e c = true) : ∃ ls : List (Nat × Nat), ls.length = xs.length /\ (∀ l ∈ ls, l.1 <= l.2 /\ l.2 <= 9223372036854775807) /\ Sim w0 U0 X β0 (s.set k (.jd ver e ei (esz c) (dIc c) (esz (dIn c)) none none none ls)) a w := by
 obtain ⟨p, hp, hr⟩ := h.mem k _ hb
 cases p with
 | cells => exact hr.elim
 | row => exact hr.elim
 | deep v ver0 us =>
  obtain ⟨rfl, hdk, l1, l2, l3, l4, l5⟩ := hr
  obtain ⟨ls, q1, q2⟩ := exists_ls (Q := fun i (l : Nat × Nat) => (l.1 <= l.2 /\ l.2 <= 9223372036854775807) /\ ∀ u, us[i]? = some u -> Loose w ei (esz (dIn c)) u l.1 l.2) xs.length fun i hi => by
    have hu := List.getElem?_eq_getElem (l := us) (i := i) (by omega)
    obtain ⟨N, n1, n2, n3⟩ := (l3 i _ xs[i] hu (List.getElem?_eq_getElem hi) rfl).loose hok
    refine ⟨((dGet c xs[i]).length, N), ⟨n1, n2⟩, fun u hu' => ?_⟩
    rw [hu] at hu'; cases hu'; exact n3
  refine ⟨ls, q1, fun l hl => ?_, upd β k (.deep v ver us), U, ?_⟩
  . obtain ⟨i, hi⟩ := List.mem_iff_getElem?.1 hl
    exact (q2 i l hi).1
  . refine h.replE (w' := w) (p' := .deep v ver us) (blk' := .jd ver e ei (esz c) (dIc c) (esz (dIn c)) none none none ls) hp hb rfl rfl rfl (Nat.le_refl _) (fun _ _ _ => rfl) (fun _ _ _ _ => ⟨rfl, rfl⟩) (fun _ _ _ => .inl rfl) (.inl rfl) (fun _ hb => .inl hb) (fun _ _ hc => .inl hc)
      ⟨rfl, by rw [l1, q1], l2, dIc_lt hdk, fun i u l hu hl _ => (q2 i l hl).2 u hu, fun i l hh => (by cases hh), ?_⟩
    rcases l5 with ⟨e1, rfl⟩ | ⟨g, cap, cur, e1, hg, k1, k2, k3, k4⟩
    . exact .inl ⟨e1, List.eq_nil_of_length_eq_zero q1⟩
    . refine .inr (.inl ⟨g, cap, cur, by rw [q1]; exact e1, hg, by rw [q1]; exact k1, k2, k3, fun i j hi hj => ?_⟩)
      rw [q1] at hi
      obtain ⟨u, z1, z2, z3, z4, _⟩ := k4 i j xs[i] ((enc c xs[i])[j]'(by rw [enc_len]; exact hj)) (List.getElem?_eq_getElem hi) (List.getElem?_eq_getElem _)
      have hint : isJt e = true -> j ≠ dIc c -> ∃ n : Int, u = .int .i64 n := fun q1 q2 => by
       rw [jtOk, q1] at hjt
       exact repI_int (z3 q2) (jtC_enc hjt _ (List.getElem?_eq_getElem _) q2)
      exact ⟨u, z1, ⟨z2, hint⟩, fun hj _ => ⟨u, z4 hj rfl, rfl⟩, fun _ _ _ hh => by cases hh⟩
theorem SimB.openX {w0 : World} {U0 : Nat -> Prop} {X : Nat -> Nat -> Prop} {β0 β : Nat -> Option Place} {U : Nat -> Prop} {s : St} {a : Act} {w : World} (h : SimB w0 U0 X β0 β U s a w) {k ver : Nat} {e ei : TypeId} {c : Nat} {os : List Nat} {xs : List (τ c)}
  (hb : s.blk k = some (.dx ver e ei c os none xs)) (hok : opOk ei (dIn c) = true) (hjt : jtOk e c = true) : ∃ ls : List (Nat × Nat), ls.length = xs.length /\ (∀ l ∈ ls, l.1 <= l.2 /\ l.2 <= 9223372036854775807) /\ Sim w0 U0 X β0 (s.set k (.jd ver e ei (esz c) (dIc c) (esz (dIn c)) none (some os) none ls)) a w := by
 obtain ⟨p, hp, hr⟩ := h.mem k _ hb
 cases p with
 | cells => exact hr.elim
 | row => exact hr.elim
 | deep v ver0 us =>
  obtain ⟨rfl, hdk, l1, l2, l3, l4, l5⟩ := hr
  obtain ⟨ls, q1, q2⟩ := exists_ls (Q := fun i (l : Nat × Nat) => (l.1 <= l.2 /\ l.2 <= 9223372036854775807) /\ ∀ u, us[i]? = some u -> Loose w ei (esz (dIn c)) u l.1 l.2) xs.length fun i hi => by
    have hu := List.getElem?_eq_getElem (l := us) (i := i) (by omega)
    obtain ⟨N, n1, n2, n3⟩ := (l3 i _ xs[i] hu (List.getElem?_eq_getElem hi) rfl).loose hok
    refine ⟨((dGet c xs[i]).length, N), ⟨n1, n2⟩, fun u hu' => ?_⟩
    rw [hu] at hu'; cases hu'; exact n3
  refine ⟨ls, q1, fun l hl => ?_, upd β k (.deep v ver us), U, ?_⟩
  . obtain ⟨i, hi⟩ := List.mem_iff_getElem?.1 hl
    exact (q2 i l hi).1
  . refine h.replE (w' := w) (p' := .deep v ver us) (blk' := .jd ver e ei (esz c) (dIc c) (esz (dIn c)) none (some os) none ls) hp hb rfl rfl rfl (Nat.le_refl _) (fun _ _ _ => rfl) (fun _ _ _ _ => ⟨rfl, rfl⟩) (fun _ _ _ => .inl rfl) (.inl rfl) (fun _ hb => .inl hb) (fun _ _ hc => .inl hc)
      ⟨rfl, by rw [l1, q1], l2, dIc_lt hdk, fun i u l hu hl _ => (q2 i l hl).2 u hu, fun i l hh => (by cases hh), ?_⟩
    rcases l5 with ⟨e1, rfl⟩ | ⟨g, cap, cur, e1, hg, k1, k2, k3, k4⟩
    . exact .inl ⟨e1, List.eq_nil_of_length_eq_zero q1⟩
    . refine .inr (.inl ⟨g, cap, cur, by rw [q1]; exact e1, hg, by rw [q1]; exact k1, k2, k3, fun i j hi hj => ?_⟩)
      rw [q1] at hi
      obtain ⟨u, z1, z2, z3, z4, _⟩ := k4 i j xs[i] ((enc c xs[i])[j]'(by rw [enc_len]; exact hj)) (List.getElem?_eq_getElem hi) (List.getElem?_eq_getElem _)
      have hint : isJt e = true -> j ≠ dIc c -> ∃ n : Int, u = .int .i64 n := fun q1 q2 => by
       rw [jtOk, q1] at hjt
       exact repI_int (z3 q2) (jtC_enc hjt _ (List.getElem?_eq_getElem _) q2)
      exact ⟨u, z1, ⟨z2, hint⟩, fun hj _ => z4 hj rfl, fun _ _ _ hh => by cases hh⟩
theorem SimB.openO {w0 : World} {U0 : Nat -> Prop} {X : Nat -> Nat -> Prop} {β0 β : Nat -> Option Place} {U : Nat -> Prop} {s : St} {a : Act} {w : World} (h : SimB w0 U0 X β0 β U s a w) {k ver : Nat} {e ei : TypeId} {sz ic szi : Nat} {ls : List (Nat × Nat)}
  (hb : s.blk k = some (.jd ver e ei sz ic szi none none none ls)) (hnsp : noSp e = true) (hne : e ≠ ei) : ∃ N, N <= 9223372036854775807 /\ Sim w0 U0 X β0 (s.set k (.jd ver e ei sz ic szi (some (ls.length, N)) none none [])) a w := by
 obtain ⟨p, hp, hr⟩ := h.mem k _ hb
 cases p with
 | cells => exact hr.elim
 | row => exact hr.elim
 | deep v ver0 us =>
  obtain ⟨rfl, hr⟩ := hr
  obtain ⟨_, _, _, _, _, h5⟩ : JdOk w β v us e ei sz ic szi none none ls := hr
  have key : ∀ N, Loose w e sz v ls.length N -> Sim w0 U0 X β0 (s.set k (.jd ver e ei sz ic szi (some (ls.length, N)) none none [])) a w := fun N hl =>
    ⟨upd β k (.deep v ver us), U, h.replE (w' := w) (p' := .deep v ver us) (blk' := .jd ver e ei sz ic szi (some (ls.length, N)) none none []) hp hb rfl rfl rfl (Nat.le_refl _) (fun _ _ _ => rfl) (fun _ _ _ _ => ⟨rfl, rfl⟩) (fun _ _ _ => .inl rfl) (.inl rfl) (fun _ hb => .inl hb) (fun _ _ hc => .inl hc) ⟨rfl, hl⟩⟩
  rcases h5 with ⟨e1, e2⟩ | ⟨g, cap, cur, e1, hg, k1, k2, k3, _⟩ | ⟨_, vs, _, g2, _⟩
  rotate_right
  . exact absurd g2.2 hne
  . exact ⟨0, by omega, key 0 (.inl ⟨e1, by rw [e2]; rfl, rfl⟩)⟩
  . exact ⟨cap, k2, key cap (.inr ⟨g, cur, e1, k1, hg, k3, k2, noSp_spare hnsp⟩)⟩
theorem SimB.openG {w0 : World} {U0 : Nat -> Prop} {X : Nat -> Nat -> Prop} {β0 β : Nat -> Option Place} {U : Nat -> Prop} {s : St} {a : Act} {w : World} (h : SimB w0 U0 X β0 β U s a w) {k ver : Nat} {ei : TypeId} {c m : Nat} {o : Bool} {L : List (List (τ c))}
  (hb : s.blk k = some (.grp ver ei c m o none L)) (hok : opOk ei c = true) (hm : m = L.length) (hsz : 0 < 1) : ∃ ls : List (Nat × Nat), ls.length = L.length /\ (∀ l ∈ ls, l.1 <= l.2 /\ l.2 <= 9223372036854775807) /\ Sim w0 U0 X β0 (s.set k (.jd ver ei ei 1 0 (esz c) none none none ls)) a w := by
 obtain ⟨p, hp, hr⟩ := h.mem k _ hb
 cases p with
 | cells => exact hr.elim
 | row => exact hr.elim
 | deep v ver0 us =>
  obtain ⟨hv, hr⟩ := hr
  subst hv
  have hr : GrpOk w β U v us ei c m none L := hr
  obtain ⟨l1, _, l2, vs, rfl, l3, l4, l5, _, _, _⟩ := hr
  obtain ⟨ls, q1, q2⟩ := exists_ls (Q := fun i (l : Nat × Nat) => (l.1 <= l.2 /\ l.2 <= 9223372036854775807) /\ ∀ u, us[i]? = some u -> Loose w ei (esz c) u l.1 l.2) L.length fun i hi => by
    have hu := List.getElem?_eq_getElem (l := us) (i := i) (by omega)
    obtain ⟨N, n1, n2, n3⟩ := (l5 i _ L[i] hu (List.getElem?_eq_getElem hi) rfl).2.loose hok
    refine ⟨(L[i].length, N), ⟨n1, n2⟩, fun u hu' => ?_⟩
    rw [hu] at hu'; cases hu'; exact n3
  refine ⟨ls, q1, fun l hl => ?_, upd β k (.deep (.agg vs.toArray) ver us), U, ?_⟩
  . obtain ⟨i, hi⟩ := List.mem_iff_getElem?.1 hl
    exact (q2 i l hi).1
  . refine h.replE (w' := w) (p' := .deep (.agg vs.toArray) ver us) (blk' := .jd ver ei ei 1 0 (esz c) none none none ls) hp hb rfl rfl rfl (Nat.le_refl _) (fun _ _ _ => rfl) (fun _ _ _ _ => ⟨rfl, rfl⟩) (fun _ _ _ => .inl rfl) (.inl rfl) (fun _ hb => .inl hb) (fun _ _ hc => .inl hc)
     ⟨rfl, by rw [l1, q1, hm], l2, Nat.zero_lt_one, fun i u l hu hl _ => (q2 i l hl).2 u hu, fun i l hh => (by cases hh), .inr (.inr ⟨rfl, vs, rfl, ⟨by rw [l3, q1], rfl⟩, l4, fun i u hu _ => ?_, fun _ _ _ hh => by cases hh⟩)⟩
    have hi : i < L.length := by have := (List.getElem?_eq_some_iff.1 hu).1; omega
    exact (l5 i u L[i] hu (List.getElem?_eq_getElem hi) rfl).1
theorem execW (hcall : CallOk P call) {Λ : List LS} {fi : Nat} (c : Code) {kn : Kn} {s : St} {K : Exit -> Kn -> St -> Tr Prop} (hkn : KnOk kn s) (h : Holds (exec P cod own call Λ fi c Prop kn s K)) :
  AWp P c (fun e1 s1 => ∃ kn', KnOk kn' s1 /\ Holds (K e1 kn' s1)) s := by
 obtain ⟨p, h1, h2⟩ := h
 obtain ⟨e, kn', s', q1, q2, q3⟩ := exec_sound hcall c hkn h1
 refine awp_mono q3 ?_
 rintro e1 s1 ⟨rfl, rfl⟩
 exact ⟨kn', q1, p, q2, h2⟩
theorem iterJ_sound {body : Code} {F : Nat -> (Kn -> St -> Tr Prop) -> Kn -> St -> Tr Prop} {Q : Exit -> St -> Prop}
  (hb : ∀ n again kn s, KnOk kn s -> Holds (F n again kn s) -> AWp P body (fun e1 s1 => (e1 = .normal /\ ∃ s2, trimR body s1 = some s2 /\ Holds (again [] s2)) \/ (e1 ≠ .normal /\ Q e1 s1)) s) :
  ∀ (n : Nat) {kn : Kn} {s : St}, KnOk kn s -> Holds (iterJ n F kn s) ->
    ∀ (w0 : World) (U0 : Nat -> Prop) (X : Nat -> Nat -> Prop) (β0 : Nat -> Option Place) (a : Act) (w : World), Sim w0 U0 X β0 s a w -> Code.rounds P body (fun e1 a' w' => ∃ s1, Q e1 s1 /\ Sim w0 U0 X β0 s1 a' w') n a w
 | 0, kn, s, hkn, h => by obtain ⟨p, h, _⟩ := h; cases h
 | n + 1, kn, s, hkn, h => by
  intro w0 U0 X β0 a w hs
  refine wp_mono (hb n _ kn s hkn h w0 U0 X β0 a w hs) ?_
  rintro e2 a2 w2 ⟨s2, hq, hs2⟩
  rcases hq with ⟨rfl, s3, hs3, hh⟩ | ⟨hne, hq⟩
  . exact iterJ_sound hb n KnOk.nil hh w0 U0 X β0 a2 w2 (hs2.norm hs3)
  . cases e2 with
    | normal => exact absurd rfl hne
    | _ => exact ⟨s2, hq, hs2⟩
theorem execJ_sound (hcall : CallOk P call) : ∀ (c : Code) {v : Nat} {kn : Kn} {s : St} {K : Exit -> Kn -> St -> Tr Prop}, KnOk kn s -> Holds (execJ P cod own call Λs fi opn un c v kn s K) ->
  AWp P c (fun e1 s1 => ∃ kn', KnOk kn' s1 /\ Holds (K e1 kn' s1)) s
 | .seq a b, v, kn, s, K, hkn, h => by
  unfold execJ at h
  refine awp_seq (awp_mono (execJ_sound hcall a hkn h) ?_)
  rintro e1 s1 ⟨kn', h1, h2⟩
  cases e1 with
  | normal => exact execJ_sound hcall b h1 h2
  | _ => exact ⟨kn', h1, h2⟩
 | .block id body, v, kn, s, K, hkn, h => by
  unfold execJ at h
  refine awp_block (awp_mono (execJ_sound hcall body hkn h) ?_)
  rintro e1 s1 ⟨kn', h1, h2⟩
  cases e1 with
  | exit id' =>
    simp only at h2
    split at h2
    . rename_i e
      obtain rfl : id' = id := Nat.eq_of_beq_eq_true e
      exact block_exit ⟨kn', h1, h2⟩
    . rename_i e
      have e : id' ≠ id := Nat.ne_of_beq_eq_false e
      exact block_other (by simpa using e) ⟨kn', h1, h2⟩
  | _ => exact ⟨kn', h1, h2⟩
 | .loop body, v, kn, s, K, hkn, h => by
  unfold execJ at h
  split at h
  . intro w0 U0 X β0 a w hs
    refine wp_loop_rounds 8 (iterJ_sound (Q := fun e1 s1 => ∃ kn', KnOk kn' s1 /\ Holds (K e1 kn' s1)) ?_ 8 hkn h w0 U0 X β0 a w hs)
    intro n again kn s hk hh
    refine awp_mono (execJ_sound hcall body hk hh) ?_
    rintro e1 s1 ⟨kn', h1, h2⟩
    cases e1 with
    | normal =>
      simp only at h2
      split at h2
      . rename_i s2 hs2
        exact .inl ⟨rfl, s2, hs2, h2⟩
      . obtain ⟨p, h2, _⟩ := h2; cases h2
    | _ => exact .inr ⟨by simp, kn', h1, h2⟩
  . split at h
    . exact execW hcall _ hkn h
    . split at h
      . split at h
        . rename_i k _ _ ver e sz len N hb
          split at h
          . rename_i c hc
            split at h
            . rename_i hcond
              obtain rfl := Nat.eq_of_beq_eq_true hcond
              obtain ⟨p, hp, hpp⟩ := h
              obtain ⟨hlen, hp⟩ := Tr.eval_grd hp
              obtain rfl := of_decide_eq_true hlen
              cases hp
              intro w0 U0 X β0 a w hs
              obtain ⟨β, U, hs⟩ := hs
              obtain ⟨ys, hl, hN⟩ := hs.shown hb hc
              have hk2 : KnOk kn (s.set k (.rowT ver e c false false ys)) := fun t b ht => hkn t b ht
              exact execW hcall _ hk2 (hpp ys hl) w0 U0 X β0 a w hN
            . obtain ⟨p, h, _⟩ := h; cases h
          . obtain ⟨p, h, _⟩ := h; cases h
        . obtain ⟨p, h, _⟩ := h; cases h
      . obtain ⟨p, h, _⟩ := h; cases h
 | .region id ops draw, v, kn, s, K, hkn, h => by
  unfold execJ at h
  split at h
  . exact execW hcall _ hkn h
  . split at h
    . split at h
      . rename_i k _ _ ver e c fr xs hb
        split at h
        . rename_i hok
          obtain ⟨p, hp, hpp⟩ := h
          cases hp
          intro w0 U0 X β0 a w hs
          obtain ⟨β, U, hs⟩ := hs
          obtain ⟨N, hN0, hN⟩ := hs.opened hb hok
          have hk2 : KnOk kn (s.set k (.junk ver e (esz c) xs.length N)) := fun t b ht => hkn t b ht
          exact execW hcall _ hk2 (hpp N hN0) w0 U0 X β0 a w hN
        . obtain ⟨p, h, _⟩ := h; cases h
      . obtain ⟨p, h, _⟩ := h; cases h
    . split at h
      . rename_i k _
        split at h
        . rename_i ver e ei c xs hb
          split at h
          . rename_i hok
            rw [Bool.and_eq_true] at hok
            obtain ⟨p, hp, hpp⟩ := h
            cases hp
            intro w0 U0 X β0 a w hs
            obtain ⟨β, U, hs⟩ := hs
            obtain ⟨ls, hl1, hl2, hN⟩ := hs.openJ hb hok.1 hok.2
            have hk2 : KnOk kn (s.set k (.jd ver e ei (esz c) (dIc c) (esz (dIn c)) none none none ls)) := fun t b ht => hkn t b ht
            exact execW hcall _ hk2 (hpp ls hl1 hl2) w0 U0 X β0 a w hN
          . obtain ⟨p, h, _⟩ := h; cases h
        . rename_i ver e ei c os xs hb
          split at h
          . rename_i hok
            rw [Bool.and_eq_true] at hok
            obtain ⟨p, hp, hpp⟩ := h
            cases hp
            intro w0 U0 X β0 a w hs
            obtain ⟨β, U, hs⟩ := hs
            obtain ⟨ls, hl1, hl2, hN⟩ := hs.openX hb hok.1 hok.2
            have hk2 : KnOk kn (s.set k (.jd ver e ei (esz c) (dIc c) (esz (dIn c)) none (some os) none ls)) := fun t b ht => hkn t b ht
            exact execW hcall _ hk2 (hpp ls hl1 hl2) w0 U0 X β0 a w hN
          . obtain ⟨p, h, _⟩ := h; cases h
        . rename_i ver e ei sz ic szi ls hb
          split at h
          . rename_i hnsp
            simp only [Bool.and_eq_true, Bool.not_eq_true'] at hnsp
            obtain ⟨p, hp, hpp⟩ := h
            cases hp
            intro w0 U0 X β0 a w hs
            obtain ⟨β, U, hs⟩ := hs
            obtain ⟨N, hN0, hN⟩ := hs.openO hb hnsp.1 (fun e => by subst e; rw [Nat.beq_refl] at hnsp; cases hnsp.2)
            have hk2 : KnOk kn (s.set k (.jd ver e ei sz ic szi (some (ls.length, N)) none none [])) := fun t b ht => hkn t b ht
            exact execW hcall _ hk2 (hpp N hN0) w0 U0 X β0 a w hN
          . obtain ⟨p, h, _⟩ := h; cases h
        . obtain ⟨p, h, _⟩ := h; cases h
      . split at h
        . rename_i k _
          split at h
          . rename_i ver ei c m _ L hb
            split at h
            . rename_i hok
              obtain ⟨p, hp, hpp⟩ := h
              obtain ⟨hm, hp⟩ := Tr.eval_grd hp
              cases hp
              intro w0 U0 X β0 a w hs
              obtain ⟨β, U, hs⟩ := hs
              obtain ⟨ls, hl1, hl2, hN⟩ := hs.openG hb hok (of_decide_eq_true hm) Nat.zero_lt_one
              have hk2 : KnOk kn (s.set k (.jd ver ei ei 1 0 (esz c) none none none ls)) := fun t b ht => hkn t b ht
              exact execW hcall _ hk2 (hpp ls hl1 hl2) w0 U0 X β0 a w hN
            . obtain ⟨p, h, _⟩ := h; cases h
          . obtain ⟨p, h, _⟩ := h; cases h
        . obtain ⟨p, h, _⟩ := h; cases h
 | .skip, v, kn, s, K, hkn, h => execW hcall _ hkn h
 | .cond _ _ _, v, kn, s, K, hkn, h => execW hcall _ hkn h
 | .exit _, v, kn, s, K, hkn, h => execW hcall _ hkn h
 | .ret, v, kn, s, K, hkn, h => execW hcall _ hkn h
 | .rangeFunc .., v, kn, s, K, hkn, h => execW hcall _ hkn h
 | .scope .., v, kn, s, K, hkn, h => execW hcall _ hkn h
 | .label .., v, kn, s, K, hkn, h => execW hcall _ hkn h
 | .goto .., v, kn, s, K, hkn, h => execW hcall _ hkn h
 | .refuse .., v, kn, s, K, hkn, h => execW hcall _ hkn h
def endJ (P : Program) (rs : List ResultVar) (e : Exit) (s : St) : Tr Prop :=
 match (match e with | .normal | .ret => true | _ => false) with
 | true => match resA P rs s with
  | some (.one (.d (.b b))) => .ret (b = true)
  | _ => .fail 22
 | false => .fail 23
def lawJ (P : Program) (cod : TypeId -> Nat) (Γ : List (PF P)) (Λs : List (FuncId × LS)) (opn : List (Nat × Nat)) (un : List Nat) (n : Nat) (f : FuncId) (ap : List VP1) (x : VPsT ap Unit) : Tr Prop :=
 match P.funcs[f]? with
 | some fn => match fn.body with
  | some c => match decide (fn.ntmps <= 900) && decide ((putVs (fun _ => 0) ap x).1.length <= fn.ntmps) with
   | true => execJ P cod (ownF Γ) (execFn P cod Γ Λs n) Λs f opn un c 0 [] ⟨fn.ntmps, argsEnv 0 (putVs (fun _ => 0) ap x).1, []⟩ fun e _ s => endJ P fn.results.toList e s
   | false => .fail 24
  | none => .fail 25
 | none => .fail 28
theorem lawJ_sound {Γ : List (PF P)} {n : Nat} {f : FuncId} {ap : List VP1} {x : VPsT ap Unit} (h : Holds (lawJ P cod Γ Λs opn un n f ap x)) :
   ACall P f (putVs (fun _ => 0) ap x).1 [] fun r' m' => r' = vb true /\ m' = [] := by
 unfold lawJ at h
 split at h
 case h_2 => obtain ⟨p, h, _⟩ := h; cases h
 rename_i fn hf
 split at h
 case h_2 => obtain ⟨p, h, _⟩ := h; cases h
 rename_i c hb
 split at h
 case h_2 => obtain ⟨p, h, _⟩ := h; cases h
 rename_i hn
 simp only [Bool.and_eq_true, decide_eq_true_eq] at hn
 refine acall_enter [] hf hb rfl rfl hn.1 hn.2 (awp_mono (execJ_sound (execFn_sound (cod := cod) (Γ := Γ) (Λs := Λs) n) c KnOk.nil h) ?_)
 rintro e1 s1 ⟨kn', _, p, h1, h2⟩
 unfold endJ at h1
 split at h1
 case h_2 => cases h1
 rename_i he
 split at h1
 case h_2 => cases h1
 rename_i b hv
 cases h1
 subst h2
 refine ⟨?_, vb true, [], ?_, rfl, rfl⟩
 . cases e1 <;> first | exact .inl rfl | exact .inr rfl | cases he
 . simp only [hv]
   rfl
open Classical in
/-- A law whose tree tells what must hold, as a told function. -/
noncomputable def jFS {P : Program} (f : FuncId) (ap : List VP1) (T : VPsT ap Unit -> Tr Prop) (ok : ∀ x, Holds (T x) -> ACall P f (putVs (fun _ => 0) ap x).1 [] fun r' m' => r' = vb true /\ m' = []) : FS P :=
 ⟨f, ap, ⟨1, [(0, .v (.one .b))], []⟩, fun x => if Holds (T x) then some (true, ()) else none, fun x r h => by
  split at h
  . rename_i hh
    cases h
    exact ok x hh
  . cases h⟩
theorem jFS_true {P : Program} {f : FuncId} {ap : List VP1} {T : VPsT ap Unit -> Tr Prop} {ok : ∀ x, Holds (T x) -> ACall P f (putVs (fun _ => 0) ap x).1 [] fun r' m' => r' = vb true /\ m' = []} {x : VPsT ap Unit} (h : Holds (T x)) : (jFS f ap T ok).fn x = some (true, ()) := by
 show @ite _ (Holds (T x)) (Classical.propDecidable _) (some (true, ())) none = _
 rw [if_pos h]
end Go.Proofs.Ythnijeclidpooaa.Abs
namespace Go.Proofs.Ythnijeclidpooaa.X
open Go Go.RowKit Go.Proofs.Ythnijeclidpooaa.Abs
open Go.IntKind renaming wrap -> wW
set_option maxRecDepth 100000
set_option linter.unusedVariables false
def turnsOwn_L2004_25 : LS := ⟨25, [(48000, 48000), (43000, 43000), (7, 7)], ⟨109, [(87, .v (.one (.i .i64))), (17, .v (.one (.dp 48000))), (56, .v (.agg [.dp 43000, .dp 48000])), (7, .v (.one (.dp 7))), (0, .v (.one (.st 12 false))), (15, .v (.one (.b))), (57, .v (.one (.kn .i64 1))), (86, .v (.one (.i .i64)))], [(48000, .jz 35 3 3 2 1), (43000, .jd 35 3 3 2 1), (7, .deep 35 3 12)]⟩, [⟨some 8, [(43000, 43000), (48000, 48000), (7, 7)], ⟨109, [(56, .v (.agg [.dp 43000, .dp 48000])), (7, .v (.one (.dp 7))), (0, .v (.one (.st 12 false))), (15, .v (.one (.b))), (57, .v (.one (.kn .i64 1)))], [(43000, .jd 35 3 3 2 1), (48000, .jz 35 3 3 2 1), (7, .deep 35 3 12)]⟩⟩], []⟩
abbrev ty1_ : Type := (Int × (Nat × (Nat × (Nat × (Nat × ((List TQueue) × (Bool × (Int × ((List Nat) × ((List (Nat × Nat)) × ((List (Nat × Nat)) × ((List TQueue) × Unit))))))))))))
abbrev ty2_ : Type := ((List TQueue) × (Bool × ((List (Nat × Nat)) × ((List Nat) × ((List (Nat × Nat)) × ((List TQueue) × Unit))))))
def turnsOwn_step2004_25 : ty1_ -> Tr (ty1_ ⊕ (Nat × (Nat × (Nat × ty2_)))) :=
 fun (a0, a1, a2, a3, a4, a5, a6, a7, a8, a9, a10, a11, _) =>
 .ite (decide (a0 < a7)) (
 .grd (decide (0 <= a0 /\ a0 < (↑(a9.length) : Int))) (
 .grd (decide (Int.toNat a0 < a9.length)) (
 .grd (decide (0 <= a0 /\ a0 < (↑(a9.length) : Int))) (
 .grd (decide (Int.toNat a0 < a9.length)) (
 .grd (decide (a9.length = a9.length)) (
 .grd (decide (a10.length = a10.length)) (
 .grd (decide (a9.length = a9.length)) (
 .grd (decide (a11.length = a11.length)) (
 .ret (Sum.inl (wW .i64 (a0 + 1), (a1, (a2, (a3, (a4, (a5, (a6, (a7, (a8, (a9, (a10, (a11, ())))))))))))))))))))))) (
 .grd (decide (a10.length = a10.length)) (
 .grd (decide (a9.length = a9.length)) (
 .grd (decide (a11.length = a11.length)) (
 .ret (Sum.inr (a2, (a3, (a4, (a5, (a6, (a10, (a8, (a9, (a11, ()))))))))))))))
def turnsOwn_loop2004_25 (x : ty1_) : Option (Nat × (Nat × (Nat × ty2_))) := loopO 20040025 (fun x => (turnsOwn_step2004_25 x).eval) 18446744073709551616 x
def turnsOwn_L2004_19 : LS := ⟨19, [(4048000, 4048000), (48000, 48000), (43000, 43000), (7, 7)], ⟨109, [(74, .v (.one (.i .i64))), (20, .v (.one (.sub 4048000 1))), (60, .v (.one (.dp 48000))), (17, .v (.one (.dp 48000))), (56, .v (.agg [.dp 43000, .dp 48000])), (7, .v (.one (.dp 7))), (0, .v (.one (.st 12 false))), (15, .v (.one (.b))), (57, .v (.one (.kn .i64 1))), (61, .v (.one (.i .i64))), (62, .v (.one (.i .i64))), (73, .v (.one (.i .i64)))], [(4048000, .jk 3 1), (48000, .jzH 35 3 3 2 1 4048000), (43000, .jd 35 3 3 2 1), (7, .deep 35 3 12)]⟩, [⟨some 6, [(48000, 48000), (43000, 43000), (7, 7)], ⟨109, [(60, .v (.one (.dp 48000))), (17, .v (.one (.dp 48000))), (56, .v (.agg [.dp 43000, .dp 48000])), (7, .v (.one (.dp 7))), (0, .v (.one (.st 12 false))), (15, .v (.one (.b))), (57, .v (.one (.kn .i64 1))), (61, .v (.one (.i .i64))), (62, .v (.one (.i .i64)))], [(48000, .jz 35 3 3 2 1), (43000, .jd 35 3 3 2 1), (7, .deep 35 3 12)]⟩⟩], []⟩
abbrev ty3_ : Type := (Int × (Nat × (Nat × (Nat × (Nat × (Nat × (Nat × (Nat × ((List TQueue) × (Bool × (Int × (Int × (Int × (Nat × (Nat × (Nat × ((List Nat) × ((List (Nat × Nat)) × ((List (Nat × Nat)) × ((List TQueue) × Unit))))))))))))))))))))
abbrev ty4_ : Type := ((List TQueue) × (Bool × (Int × (Int × ((List Nat) × ((List (Nat × Nat)) × ((List (Nat × Nat)) × ((List TQueue) × Unit))))))))
def turnsOwn_step2004_19 : ty3_ -> Tr (ty3_ ⊕ (Nat × (Nat × (Nat × (Nat × (Nat × ty4_)))))) :=
 fun (a0, a1, a2, a3, a4, a5, a6, a7, a8, a9, a10, a11, a12, a13, a14, a15, a16, a17, a18, a19, _) =>
 .ite (decide (a0 < a12)) (
 .grd (decide (0 <= a0 /\ a0 < (↑a2 : Int))) (
 .grd (decide (a1 + Int.toNat a0 < a14)) (
 .grd (decide (0 <= a0 /\ a0 < (↑a2 : Int))) (
 .grd (decide (a1 + Int.toNat a0 < a14)) (
 .grd (decide (a17.length = a17.length)) (
 .grd (decide (a17.length = a17.length)) (
 .grd (decide (a18.length = a18.length)) (
 .grd (decide (a17.length = a17.length)) (
 .grd (decide (a19.length = a19.length)) (
 .ret (Sum.inl (wW .i64 (a0 + 1), (a1, (a2, (a3, (a4, (a5, (a6, (a7, (a8, (a9, (a10, (a11, (a12, (a13, (a14, ((a15, some ((4048000 : Nat), vk (4048000 : Nat))).fst, (a16, (a17, (a18, (a19, ()))))))))))))))))))))))))))))))) (
 .grd (decide (a17.length = List.length (List.set a17 a15 (a13, a14)))) (
 .grd (decide (a17.length = List.length (List.set a17 a15 (a13, a14)))) (
 .grd (decide (a18.length = a18.length)) (
 .grd (decide (a17.length = List.length (List.set a17 a15 (a13, a14)))) (
 .grd (decide (a19.length = a19.length)) (
 .ret (Sum.inr (a3, (a4, (a5, (a6, (a7, (a8, (a9, (a10, (a11, (a16, (List.set a17 a15 (a13, a14), (a18, (a19, ()))))))))))))))))))))
def turnsOwn_loop2004_19 (x : ty3_) : Option (Nat × (Nat × (Nat × (Nat × (Nat × ty4_))))) := loopO 20040019 (fun x => (turnsOwn_step2004_19 x).eval) 18446744073709551616 x
def turnsOwn_L2004_15 : LS := ⟨15, [(48000, 48000), (43000, 43000), (7, 7)], ⟨109, [(62, .v (.one (.i .i64))), (60, .v (.one (.dp 48000))), (17, .v (.one (.dp 48000))), (56, .v (.agg [.dp 43000, .dp 48000])), (7, .v (.one (.dp 7))), (0, .v (.one (.st 12 false))), (15, .v (.one (.b))), (57, .v (.one (.kn .i64 1))), (61, .v (.one (.i .i64)))], [(48000, .jz 35 3 3 2 1), (43000, .jd 35 3 3 2 1), (7, .deep 35 3 12)]⟩, [⟨some 4, [(48000, 48000), (43000, 43000), (7, 7)], ⟨109, [(17, .v (.one (.dp 48000))), (56, .v (.agg [.dp 43000, .dp 48000])), (7, .v (.one (.dp 7))), (0, .v (.one (.st 12 false))), (15, .v (.one (.b))), (57, .v (.one (.kn .i64 1)))], [(48000, .jz 35 3 3 2 1), (43000, .jd 35 3 3 2 1), (7, .deep 35 3 12)]⟩⟩], []⟩
abbrev ty5_ : Type := (Int × (Nat × (Nat × (Nat × (Nat × (Nat × ((List TQueue) × (Bool × (Int × ((List Nat) × ((List (Nat × Nat)) × ((List (Nat × Nat)) × ((List TQueue) × Unit)))))))))))))
abbrev ty6_ : Type := ((List TQueue) × (Bool × ((List Nat) × ((List (Nat × Nat)) × ((List (Nat × Nat)) × ((List TQueue) × Unit))))))
def turnsOwn_step2004_15 : ty5_ -> Tr (ty5_ ⊕ (Nat × (Nat × (Nat × (Nat × ty6_))))) :=
 fun (a0, a1, a2, a3, a4, a5, a6, a7, a8, a9, a10, a11, a12, _) =>
 .ite (decide (a0 < a8)) (
 .grd (decide (0 <= a0 /\ a0 < (↑(a10.length) : Int))) (
 .opt (a10[Int.toNat a0]?) (fun r0 =>
 .grd (decide ((↑(r0.snd - List.getD a9 (Int.toNat a0) (0 : Nat)) : Int) = (↑(r0.snd - List.getD a9 (Int.toNat a0) (0 : Nat)) : Int))) (
 .grd (decide (a10.length = a10.length)) (
 .grd (decide (a10.length = a10.length)) (
 .grd (decide (a11.length = a11.length)) (
 .grd (decide (a10.length = a10.length)) (
 .grd (decide (a12.length = a12.length)) (
 .opt ((turnsOwn_loop2004_19 (0, (List.getD a9 (Int.toNat a0) (0 : Nat), (r0.snd - List.getD a9 (Int.toNat a0) (0 : Nat), (a1, (a2, (a3, (a4, (a5, (a6, (a7, (a8, (a0, ((↑(r0.snd - List.getD a9 (Int.toNat a0) (0 : Nat)) : Int), (r0.fst, (r0.snd, ((Int.toNat a0, some (hkey (48000 : Nat), (1 : Nat))).fst, (a9, (a10, (a11, (a12, ())))))))))))))))))))))) (fun r1 =>
 .grd (decide (List.length r1.2.2.2.2.2.2.2.2.2.2.fst = List.length r1.2.2.2.2.2.2.2.2.2.2.1)) (
 .grd (decide (List.length r1.2.2.2.2.2.2.2.2.2.2.fst = List.length r1.2.2.2.2.2.2.2.2.2.2.1)) (
 .grd (decide (List.length r1.2.2.2.2.2.2.2.2.2.2.2.fst = List.length r1.2.2.2.2.2.2.2.2.2.2.2.1)) (
 .grd (decide (List.length r1.2.2.2.2.2.2.2.2.2.2.fst = List.length r1.2.2.2.2.2.2.2.2.2.2.1)) (
 .grd (decide (List.length r1.2.2.2.2.2.2.2.2.2.2.2.2.fst = List.length r1.2.2.2.2.2.2.2.2.2.2.2.2.1)) (
 .ret (Sum.inl (wW .i64 (r1.2.2.2.2.2.2.2.2.1 + 1), (r1.1, (r1.2.1, (r1.2.2.1, (r1.2.2.2.1, (r1.2.2.2.2.1, (r1.2.2.2.2.2.1, (r1.2.2.2.2.2.2.1, (r1.2.2.2.2.2.2.2.1, (r1.2.2.2.2.2.2.2.2.2.1, (r1.2.2.2.2.2.2.2.2.2.2.1, (r1.2.2.2.2.2.2.2.2.2.2.2.1, (r1.2.2.2.2.2.2.2.2.2.2.2.2.1, ()))))))))))))))))))))))))))))) (
 .grd (decide (a10.length = a10.length)) (
 .grd (decide (a11.length = a11.length)) (
 .grd (decide (a10.length = a10.length)) (
 .grd (decide (a12.length = a12.length)) (
 .ret (Sum.inr (a2, (a3, (a4, (a5, (a6, (a7, (a9, (a10, (a11, (a12, ()))))))))))))))))
def turnsOwn_loop2004_15 (x : ty5_) : Option (Nat × (Nat × (Nat × (Nat × ty6_)))) := loopO 20040015 (fun x => (turnsOwn_step2004_15 x).eval) 18446744073709551616 x
def turnsOwn_L1004_25 : LS := ⟨25, [(43000, 43000), (48000, 48000), (7, 7)], ⟨109, [(87, .v (.one (.i .i64))), (17, .v (.one (.dp 43000))), (56, .v (.agg [.dp 43000, .dp 48000])), (7, .v (.one (.dp 7))), (0, .v (.one (.st 12 false))), (15, .v (.one (.b))), (57, .v (.one (.kn .i64 0))), (86, .v (.one (.i .i64)))], [(43000, .jd 35 3 3 2 1), (48000, .dx 35 3 12), (7, .deep 35 3 12)]⟩, [⟨some 8, [(43000, 43000), (48000, 48000), (7, 7)], ⟨109, [(56, .v (.agg [.dp 43000, .dp 48000])), (7, .v (.one (.dp 7))), (0, .v (.one (.st 12 false))), (15, .v (.one (.b))), (57, .v (.one (.kn .i64 0)))], [(43000, .jd 35 3 3 2 1), (48000, .dx 35 3 12), (7, .deep 35 3 12)]⟩⟩], []⟩
abbrev ty7_ : Type := (Int × (Nat × (Nat × (Nat × (Nat × ((List TQueue) × (Bool × (Int × ((List (Nat × Nat)) × ((List Nat) × ((List TQueue) × ((List TQueue) × Unit))))))))))))
abbrev ty8_ : Type := ((List TQueue) × (Bool × ((List (Nat × Nat)) × ((List Nat) × ((List TQueue) × ((List TQueue) × Unit))))))
def turnsOwn_step1004_25 : ty7_ -> Tr (ty7_ ⊕ (Nat × (Nat × (Nat × ty8_)))) :=
 fun (a0, a1, a2, a3, a4, a5, a6, a7, a8, a9, a10, a11, _) =>
 .ite (decide (a0 < a7)) (
 .grd (decide (0 <= a0 /\ a0 < (↑(a8.length) : Int))) (
 .grd (decide (Int.toNat a0 < a8.length)) (
 .grd (decide (0 <= a0 /\ a0 < (↑(a8.length) : Int))) (
 .grd (decide (Int.toNat a0 < a8.length)) (
 .grd (decide (a8.length = a8.length)) (
 .grd (decide (a8.length = a8.length)) (
 .grd (decide (a10.length = a10.length)) (
 .grd (decide (a11.length = a11.length)) (
 .ret (Sum.inl (wW .i64 (a0 + 1), (a1, (a2, (a3, (a4, (a5, (a6, (a7, (a8, (a9, (a10, (a11, ())))))))))))))))))))))) (
 .grd (decide (a8.length = a8.length)) (
 .grd (decide (a10.length = a10.length)) (
 .grd (decide (a11.length = a11.length)) (
 .ret (Sum.inr (a2, (a3, (a4, (a5, (a6, (a8, (a9, (a10, (a11, ()))))))))))))))
def turnsOwn_loop1004_25 (x : ty7_) : Option (Nat × (Nat × (Nat × ty8_))) := loopO 10040025 (fun x => (turnsOwn_step1004_25 x).eval) 18446744073709551616 x
def turnsOwn_L1004_19 : LS := ⟨19, [(4043000, 4043000), (43000, 43000), (48000, 48000), (7, 7)], ⟨109, [(74, .v (.one (.i .i64))), (20, .v (.one (.sub 4043000 1))), (60, .v (.one (.dp 43000))), (17, .v (.one (.dp 43000))), (56, .v (.agg [.dp 43000, .dp 48000])), (7, .v (.one (.dp 7))), (0, .v (.one (.st 12 false))), (15, .v (.one (.b))), (57, .v (.one (.kn .i64 0))), (61, .v (.one (.i .i64))), (62, .v (.one (.i .i64))), (73, .v (.one (.i .i64)))], [(4043000, .jk 3 1), (43000, .jdH 35 3 3 2 1 4043000), (48000, .dx 35 3 12), (7, .deep 35 3 12)]⟩, [⟨some 6, [(43000, 43000), (48000, 48000), (7, 7)], ⟨109, [(60, .v (.one (.dp 43000))), (17, .v (.one (.dp 43000))), (56, .v (.agg [.dp 43000, .dp 48000])), (7, .v (.one (.dp 7))), (0, .v (.one (.st 12 false))), (15, .v (.one (.b))), (57, .v (.one (.kn .i64 0))), (61, .v (.one (.i .i64))), (62, .v (.one (.i .i64)))], [(43000, .jd 35 3 3 2 1), (48000, .dx 35 3 12), (7, .deep 35 3 12)]⟩⟩], []⟩
abbrev ty9_ : Type := (Int × (Nat × (Nat × (Nat × (Nat × (Nat × (Nat × (Nat × ((List TQueue) × (Bool × (Int × (Int × (Int × (Nat × (Nat × (Nat × ((List (Nat × Nat)) × ((List Nat) × ((List TQueue) × ((List TQueue) × Unit))))))))))))))))))))
abbrev ty10_ : Type := ((List TQueue) × (Bool × (Int × (Int × ((List (Nat × Nat)) × ((List Nat) × ((List TQueue) × ((List TQueue) × Unit))))))))
def turnsOwn_step1004_19 : ty9_ -> Tr (ty9_ ⊕ (Nat × (Nat × (Nat × (Nat × (Nat × ty10_)))))) :=
 fun (a0, a1, a2, a3, a4, a5, a6, a7, a8, a9, a10, a11, a12, a13, a14, a15, a16, a17, a18, a19, _) =>
 .ite (decide (a0 < a12)) (
 .grd (decide (0 <= a0 /\ a0 < (↑a2 : Int))) (
 .grd (decide (a1 + Int.toNat a0 < a14)) (
 .grd (decide (0 <= a0 /\ a0 < (↑a2 : Int))) (
 .grd (decide (a1 + Int.toNat a0 < a14)) (
 .grd (decide (a16.length = a16.length)) (
 .grd (decide (a16.length = a16.length)) (
 .grd (decide (a16.length = a16.length)) (
 .grd (decide (a18.length = a18.length)) (
 .grd (decide (a19.length = a19.length)) (
 .ret (Sum.inl (wW .i64 (a0 + 1), (a1, (a2, (a3, (a4, (a5, (a6, (a7, (a8, (a9, (a10, (a11, (a12, (a13, (a14, ((a15, some ((4043000 : Nat), vk (4043000 : Nat))).fst, (a16, (a17, (a18, (a19, ()))))))))))))))))))))))))))))))) (
 .grd (decide (a16.length = List.length (List.set a16 a15 (a13, a14)))) (
 .grd (decide (a16.length = List.length (List.set a16 a15 (a13, a14)))) (
 .grd (decide (a16.length = List.length (List.set a16 a15 (a13, a14)))) (
 .grd (decide (a18.length = a18.length)) (
 .grd (decide (a19.length = a19.length)) (
 .ret (Sum.inr (a3, (a4, (a5, (a6, (a7, (a8, (a9, (a10, (a11, (List.set a16 a15 (a13, a14), (a17, (a18, (a19, ()))))))))))))))))))))
def turnsOwn_loop1004_19 (x : ty9_) : Option (Nat × (Nat × (Nat × (Nat × (Nat × ty10_))))) := loopO 10040019 (fun x => (turnsOwn_step1004_19 x).eval) 18446744073709551616 x
def turnsOwn_L1004_15 : LS := ⟨15, [(43000, 43000), (48000, 48000), (7, 7)], ⟨109, [(62, .v (.one (.i .i64))), (60, .v (.one (.dp 43000))), (17, .v (.one (.dp 43000))), (56, .v (.agg [.dp 43000, .dp 48000])), (7, .v (.one (.dp 7))), (0, .v (.one (.st 12 false))), (15, .v (.one (.b))), (57, .v (.one (.kn .i64 0))), (61, .v (.one (.i .i64)))], [(43000, .jd 35 3 3 2 1), (48000, .dx 35 3 12), (7, .deep 35 3 12)]⟩, [⟨some 4, [(43000, 43000), (48000, 48000), (7, 7)], ⟨109, [(17, .v (.one (.dp 43000))), (56, .v (.agg [.dp 43000, .dp 48000])), (7, .v (.one (.dp 7))), (0, .v (.one (.st 12 false))), (15, .v (.one (.b))), (57, .v (.one (.kn .i64 0)))], [(43000, .jd 35 3 3 2 1), (48000, .dx 35 3 12), (7, .deep 35 3 12)]⟩⟩], []⟩
abbrev ty11_ : Type := (Int × (Nat × (Nat × (Nat × (Nat × (Nat × ((List TQueue) × (Bool × (Int × ((List (Nat × Nat)) × ((List Nat) × ((List TQueue) × ((List TQueue) × Unit)))))))))))))
def turnsOwn_step1004_15 : ty11_ -> Tr (ty11_ ⊕ (Nat × (Nat × (Nat × (Nat × ty8_))))) :=
 fun (a0, a1, a2, a3, a4, a5, a6, a7, a8, a9, a10, a11, a12, _) =>
 .ite (decide (a0 < a8)) (
 .grd (decide (0 <= a0 /\ a0 < (↑(a9.length) : Int))) (
 .opt (a9[Int.toNat a0]?) (fun r0 =>
 .grd (decide ((↑r0.snd : Int) = (↑r0.snd : Int))) (
 .grd (decide (a9.length = a9.length)) (
 .grd (decide (a9.length = a9.length)) (
 .grd (decide (a9.length = a9.length)) (
 .grd (decide (a11.length = a11.length)) (
 .grd (decide (a12.length = a12.length)) (
 .opt ((turnsOwn_loop1004_19 (0, ((0 : Nat), (r0.snd, (a1, (a2, (a3, (a4, (a5, (a6, (a7, (a8, (a0, ((↑r0.snd : Int), (r0.fst, (r0.snd, ((Int.toNat a0, some (hkey (43000 : Nat), (1 : Nat))).fst, (a9, (a10, (a11, (a12, ())))))))))))))))))))))) (fun r1 =>
 .grd (decide (List.length r1.2.2.2.2.2.2.2.2.2.fst = List.length r1.2.2.2.2.2.2.2.2.2.1)) (
 .grd (decide (List.length r1.2.2.2.2.2.2.2.2.2.fst = List.length r1.2.2.2.2.2.2.2.2.2.1)) (
 .grd (decide (List.length r1.2.2.2.2.2.2.2.2.2.fst = List.length r1.2.2.2.2.2.2.2.2.2.1)) (
 .grd (decide (List.length r1.2.2.2.2.2.2.2.2.2.2.2.fst = List.length r1.2.2.2.2.2.2.2.2.2.2.2.1)) (
 .grd (decide (List.length r1.2.2.2.2.2.2.2.2.2.2.2.2.fst = List.length r1.2.2.2.2.2.2.2.2.2.2.2.2.1)) (
 .ret (Sum.inl (wW .i64 (r1.2.2.2.2.2.2.2.2.1 + 1), (r1.1, (r1.2.1, (r1.2.2.1, (r1.2.2.2.1, (r1.2.2.2.2.1, (r1.2.2.2.2.2.1, (r1.2.2.2.2.2.2.1, (r1.2.2.2.2.2.2.2.1, (r1.2.2.2.2.2.2.2.2.2.1, (r1.2.2.2.2.2.2.2.2.2.2.1, (r1.2.2.2.2.2.2.2.2.2.2.2.1, (r1.2.2.2.2.2.2.2.2.2.2.2.2.1, ()))))))))))))))))))))))))))))) (
 .grd (decide (a9.length = a9.length)) (
 .grd (decide (a9.length = a9.length)) (
 .grd (decide (a11.length = a11.length)) (
 .grd (decide (a12.length = a12.length)) (
 .ret (Sum.inr (a2, (a3, (a4, (a5, (a6, (a7, (a9, (a10, (a11, (a12, ()))))))))))))))))
def turnsOwn_loop1004_15 (x : ty11_) : Option (Nat × (Nat × (Nat × (Nat × ty8_)))) := loopO 10040015 (fun x => (turnsOwn_step1004_15 x).eval) 18446744073709551616 x
def turnsOwn_L4_3 : LS := ⟨3, [(7, 7)], ⟨109, [(25, .v (.one (.i .i64))), (7, .v (.one (.dp 7))), (23, .v (.one (.st 12 false))), (0, .v (.one (.st 12 false))), (2, .v (.one (.i .i64))), (1, .v (.one (.i .i64))), (24, .v (.one (.i .i64)))], [(7, .deep 35 3 12)]⟩, [⟨some 0, [(7, 7)], ⟨109, [(7, .v (.one (.dp 7))), (0, .v (.one (.st 12 false))), (2, .v (.one (.i .i64))), (1, .v (.one (.i .i64)))], [(7, .deep 35 3 12)]⟩⟩], [(7, 35, 12)]⟩
abbrev ty12_ : Type := (Int × (Nat × ((List TQueue) × ((List TQueue) × (Int × (Int × (Int × ((List TQueue) × Unit))))))))
def turnsOwn_step4_3 : ty12_ -> Tr (ty12_ ⊕ (Nat × ((List TQueue) × (Int × (Int × ((List TQueue) × Unit)))))) :=
 fun (a0, a1, a2, a3, a4, a5, a6, a7, _) =>
 .ite (decide (a0 < a6)) (
 .grd (decide (0 <= a0)) (
 .opt (a2[Int.toNat a0]?) (fun r0 =>
 .grd (decide (((0 : Nat) + List.length r0.sizes) * (8 : Nat) <= (140737488355328 : Nat) /\ (0 : Nat) + List.length r0.sizes <= (9223372036854775807 : Nat))) (
 .grd (decide ((a7.length + List.length [TQueue.mk r0.share r0.saved r0.sizes]) * (40 : Nat) <= (140737488355328 : Nat) /\ a7.length + List.length [TQueue.mk r0.share r0.saved r0.sizes] <= (9223372036854775807 : Nat))) (
 .grd (decide (List.length (a7 ++ [TQueue.mk r0.share r0.saved r0.sizes]) = List.length (a7 ++ [TQueue.mk r0.share r0.saved r0.sizes]))) (
 .ret (Sum.inl (wW .i64 (a0 + 1), (List.length (a7 ++ [TQueue.mk r0.share r0.saved r0.sizes]), (a2, (a3, (a4, (a5, (a6, (a7 ++ [TQueue.mk r0.share r0.saved r0.sizes], ()))))))))))))))) (
 .grd (decide (a7.length = a7.length)) (
 .ret (Sum.inr (a1, (a3, (a4, (a5, (a7, ()))))))))
def turnsOwn_loop4_3 (x : ty12_) : Option (Nat × ((List TQueue) × (Int × (Int × ((List TQueue) × Unit))))) := loopO 40003 (fun x => (turnsOwn_step4_3 x).eval) 18446744073709551616 x
def turnsOwn_ap : List VP1 := [.one (.st 12 false), .one (.i .i64), .one (.i .i64)]
def turnsOwn_tree : ((List TQueue) × (Int × (Int × Unit))) -> Tr Prop :=
 fun (a0, a1, a2, _) =>
 .grd (true) (
 .opt ((turnsOwn_loop4_3 (0, ((0 : Nat), (a0, (a0, (a2, (a1, ((↑(a0.length) : Int), ([], ())))))))))) (fun r0 =>
 .opt ((tuPutO_fn (r0.2.1, (r0.2.2.2.1, (r0.2.2.1, ()))))) (fun r1 =>
 .opt ((tuRoundO_fn (r0.2.1, ()))) (fun r2 =>
 .opt ((sameTurns_fn (r0.2.1, (r0.2.2.2.2.1, ())))) (fun r3 =>
 .ite (true) (
 .ret (AllL (List.length r1.2.2.1) fun (w4 : List (Nat × Nat)) =>
 .grd (decide (List.length r1.2.2.fst = w4.length)) (
 .grd (decide (List.length r1.2.2.fst = w4.length)) (
 .grd (decide (List.length r1.2.2.fst = w4.length)) (
 .grd (decide (List.length r2.2.2.2.fst = List.length r2.2.2.2.1)) (
 .grd (decide (List.length r0.2.2.2.2.fst = List.length r0.2.2.2.2.1)) (
 .opt ((turnsOwn_loop1004_15 (0, (r1.1, (r1.1, (r1.1, (r2.1, (r0.1, (r0.2.1, (r3.1, ((↑(List.length r1.2.2.fst) : Int), (w4, (r2.2.2.1, (r2.2.2.2.1, (r0.2.2.2.2.1, ()))))))))))))))) (fun r5 =>
 .grd (decide (List.length r5.2.2.2.2.2.2.fst = List.length r5.2.2.2.2.2.2.1)) (
 .grd (decide (List.length r5.2.2.2.2.2.2.fst = List.length r5.2.2.2.2.2.2.1)) (
 .grd (decide (List.length r5.2.2.2.2.2.2.2.2.fst = List.length r5.2.2.2.2.2.2.2.2.1)) (
 .grd (decide (List.length r5.2.2.2.2.2.2.2.2.2.fst = List.length r5.2.2.2.2.2.2.2.2.2.1)) (
 .opt ((turnsOwn_loop1004_25 (0, (r5.1, (r5.2.1, (r5.2.2.1, (r5.2.2.2.1, (r5.2.2.2.2.1, (r5.2.2.2.2.2.1, ((↑(List.length r5.2.2.2.2.2.2.fst) : Int), (r5.2.2.2.2.2.2.1, (r5.2.2.2.2.2.2.2.1, (r5.2.2.2.2.2.2.2.2.1, (r5.2.2.2.2.2.2.2.2.2.1, ())))))))))))))) (fun r6 =>
 .ite (true) (
 .ret (AllL (List.length r6.2.2.2.2.2.2.2.1) fun (w7 : List (Nat × Nat)) =>
 .grd (decide (List.length r6.2.2.2.2.2.2.2.fst = w7.length)) (
 .grd (decide (List.length r6.2.2.2.2.2.2.2.fst = w7.length)) (
 .grd (decide (List.length r6.2.2.2.2.2.fst = List.length r6.2.2.2.2.2.1)) (
 .grd (decide (List.length r6.2.2.2.2.2.2.2.fst = w7.length)) (
 .grd (decide (List.length r6.2.2.2.2.2.2.2.2.fst = List.length r6.2.2.2.2.2.2.2.2.1)) (
 .opt ((turnsOwn_loop2004_15 (0, (r6.2.1, (r6.2.1, (r6.1, (r6.2.1, (r6.2.2.1, (r6.2.2.2.1, (r6.2.2.2.2.1, ((↑(List.length r6.2.2.2.2.2.2.2.fst) : Int), (r6.2.2.2.2.2.2.1, (w7, (r6.2.2.2.2.2.1, (r6.2.2.2.2.2.2.2.2.1, ()))))))))))))))) (fun r8 =>
 .grd (decide (List.length r8.2.2.2.2.2.2.2.fst = List.length r8.2.2.2.2.2.2.2.1)) (
 .grd (decide (List.length r8.2.2.2.2.2.2.2.2.fst = List.length r8.2.2.2.2.2.2.2.2.1)) (
 .grd (decide (List.length r8.2.2.2.2.2.2.2.fst = List.length r8.2.2.2.2.2.2.2.1)) (
 .grd (decide (List.length r8.2.2.2.2.2.2.2.2.2.fst = List.length r8.2.2.2.2.2.2.2.2.2.1)) (
 .opt ((turnsOwn_loop2004_25 (0, (r8.1, (r8.2.1, (r8.2.2.1, (r8.2.2.2.1, (r8.2.2.2.2.1, (r8.2.2.2.2.2.1, ((↑(List.length r8.2.2.2.2.2.2.2.fst) : Int), (r8.2.2.2.2.2.2.1, (r8.2.2.2.2.2.2.2.1, (r8.2.2.2.2.2.2.2.2.1, (r8.2.2.2.2.2.2.2.2.2.1, ())))))))))))))) (fun r9 =>
 .ite (false) (
 .fail 3) (
 .opt ((turnsLives_fn ())) (fun r10 =>
 .ite (r10.1) (
 .ite (r9.2.2.2.2.1) (
 .opt ((sameTurns_fn (r9.2.2.2.1, (r9.2.2.2.2.2.2.2.2.1, ())))) (fun r11 =>
 .ret (r11.1 = true))) (
 .ret (false = true))) (
 .ret (false = true))))))))))))))))) (
 .opt ((turnsLives_fn ())) (fun r7 =>
 .ite (r7.1) (
 .ite (r6.2.2.2.2.1) (
 .opt ((sameTurns_fn (r6.2.2.2.1, (r6.2.2.2.2.2.2.2.2.1, ())))) (fun r8 =>
 .ret (r8.1 = true))) (
 .ret (false = true))) (
 .ret (false = true))))))))))))))))) (
 .opt ((turnsLives_fn ())) (fun r4 =>
 .ite (r4.1) (
 .ite (r3.1) (
 .opt ((sameTurns_fn (r0.2.1, (r0.2.2.2.2.1, ())))) (fun r5 =>
 .ret (r5.1 = true))) (
 .ret (false = true))) (
 .ret (false = true)))))))))
noncomputable def gm5 : List (PF Go.Proofs.Try.prog) := gm4 ++ [FS.pf sameTurns]
theorem turnsOwn_eq (x : ((List TQueue) × (Int × (Int × Unit)))) : lawJ Try.prog cod gm5 [(2004, turnsOwn_L2004_25), (2004, turnsOwn_L2004_19), (2004, turnsOwn_L2004_15), (1004, turnsOwn_L1004_25), (1004, turnsOwn_L1004_19), (1004, turnsOwn_L1004_15), (4, turnsOwn_L4_3)] [(14, 17)] [12] 30 4 turnsOwn_ap x = turnsOwn_tree x := by kernel_rfl
noncomputable def turnsOwn : FS Try.prog := jFS 4 turnsOwn_ap turnsOwn_tree fun x h => lawJ_sound (cod := cod) (Γ := gm5) (Λs := [(2004, turnsOwn_L2004_25), (2004, turnsOwn_L2004_19), (2004, turnsOwn_L2004_15), (1004, turnsOwn_L1004_25), (1004, turnsOwn_L1004_19), (1004, turnsOwn_L1004_15), (4, turnsOwn_L4_3)]) (opn := [(14, 17)]) (un := [12]) (n := 30) (turnsOwn_eq x ▸ h)
end Go.Proofs.Ythnijeclidpooaa.X
namespace Go.Proofs.Ythnijeclidpooaa.X
open Go Go.RowKit Go.Proofs.Ythnijeclidpooaa.Abs Go.Proofs.Ythnijeclidpooaa.Bits
set_option linter.unusedVariables false
set_option linter.unnecessarySimpa false
set_option linter.unusedSimpArgs false
set_option maxRecDepth 100000
def EvP {α : Type} (t : Tr α) (P : α -> Prop) : Prop := ∃ a, t.eval = some a /\ P a
theorem evp_opt {α β : Type} {o : Option β} {k : β -> Tr α} {b : β} {P : α -> Prop} (h : o = some b) (h2 : EvP (k b) P) : EvP (.opt o k) P := by subst h; exact h2
theorem evp_t {α : Type} {c : Bool} {t e : Tr α} {P : α -> Prop} (h : c = true) (h2 : EvP t P) : EvP (.ite c t e) P := by subst h; exact h2
theorem evp_f {α : Type} {c : Bool} {t e : Tr α} {P : α -> Prop} (h : c = false) (h2 : EvP e P) : EvP (.ite c t e) P := by subst h; exact h2
theorem evp_g {α : Type} {c : Bool} {t : Tr α} {P : α -> Prop} (h : c = true) (h2 : EvP t P) : EvP (.grd c t) P := by subst h; exact h2
theorem evp_i {α : Type} {c : Bool} {t e : Tr α} {P : α -> Prop} (h1 : c = true -> EvP t P) (h2 : c = false -> EvP e P) : EvP (.ite c t e) P := by
 cases c
 . exact h2 rfl
 . exact h1 rfl
theorem evp_r {α : Type} {a : α} {P : α -> Prop} (h : P a) : EvP (.ret a) P := ⟨a, rfl, h⟩
def OutP {A B : Type} (μ : A -> Nat) (n : Nat) (I : A -> Prop) (Q : B -> Prop) : A ⊕ B -> Prop
 | .inl a => I a /\ μ a < n
 | .inr b => Q b
theorem loop_ev {A B : Type} {tag : Nat} {f : A -> Tr (A ⊕ B)} (I : A -> Prop) (Q : B -> Prop) (μ : A -> Nat) (h : ∀ a, I a -> EvP (f a) (OutP μ (μ a) I Q)) : ∀ (N : Nat) (a : A), I a -> μ a < N -> ∃ b, loopO tag (fun x => (f x).eval) N a = some b /\ Q b := by
 intro N
 induction N with
 | zero => intro a _ h; omega
 | succ N ih =>
  intro a ha hN
  obtain ⟨o, ho, hp⟩ := h a ha
  cases o with
  | inr b => exact ⟨b, loopO_out ho, hp⟩
  | inl a' =>
   obtain ⟨h1, h2⟩ := hp
   rw [loopO_in ho]
   exact ih a' h1 (by omega)
theorem loop_ixV {A B : Type} {tag : Nat} {f : A -> Option (A ⊕ B)} (n : Nat) (st : Nat -> A) (out : B) (h1 : ∀ i, i < n -> f (st i) = some (.inl (st (i + 1)))) (h2 : f (st n) = some (.inr out)) (N : Nat) (hN : n < N) : loopO tag f N (st 0) = some out := by
 have key : ∀ (c k N : Nat), k + c = n -> c < N -> loopO tag f N (st k) = some out := by
  intro c
  induction c with
  | zero =>
   intro k N hk hN
   obtain ⟨N, rfl⟩ : ∃ m, N = m + 1 := ⟨N - 1, by omega⟩
   obtain rfl : k = n := by omega
   exact loopO_out h2
  | succ c ih =>
   intro k N hk hN
   obtain ⟨N, rfl⟩ : ∃ m, N = m + 1 := ⟨N - 1, by omega⟩
   rw [loopO_in (h1 k (by omega))]
   exact ih (k + 1) N (by omega) (by omega)
 exact key n 0 N (by omega) hN
theorem toNat_v (i : Nat) : Int.toNat (i : Int) = i := by omega
theorem get_v {α : Type} {l : List α} {i : Nat} (h : i < l.length) : ∃ x, l[i]? = some x := ⟨l[i], List.getElem?_eq_getElem h⟩
theorem livesV : turnsLives_fn () = some (true, ()) := by kernel_rfl
structure QBd (Q : List TQueue) : Prop where
 len : Q.length <= 3518437208780
 sz : ∀ q ∈ Q, q.sizes.length <= 17592186043904
theorem qbd {Q : List TQueue} (h : BndD 6 (D.st 12 Q)) : QBd Q := by
 refine ⟨?_, fun q hq => ?_⟩
 . have h1 : Q.length * bsz 12 <= 140737488351232 := h.1
   have h2 : bsz 12 = 40 := rfl
   rw [h2] at h1; omega
 . have h1 := h.2 q hq (.st 0 q.sizes) (by simp [enc])
   have h2 : q.sizes.length * bsz 0 <= 140737488351232 := h1.1
   have h3 : bsz 0 = 8 := rfl
   rw [h3] at h2; omega
abbrev mkq (q : TQueue) : TQueue := TQueue.mk q.share q.saved q.sizes
theorem fold_own : ∀ (r : List TQueue) (a : Nat × List TQueue), (r.foldl (fun s q => ((s.2 ++ [mkq q]).length, s.2 ++ [mkq q])) a).2 = a.2 ++ r := by
 intro r
 induction r with
 | nil => intro a; simp
 | cons x r ih => intro a; rw [List.foldl_cons, ih]; simp [mkq]
theorem ownO_loop (Q : List TQueue) (hb : QBd Q) (n0 : Nat) : ∃ m, tuOwnO_loop42_3 ((0 : Int), (n0, (Q, ((Q.length : Int), ([], ()))))) = some (m, (Q, ())) := by
 have hl := hb.len
 have := loop_fold (tag := 420003) (f := fun x => (tuOwnO_step42_3 x).eval) (l := Q) (S := Nat × List TQueue) (fun i s => ((i : Int), (s.1, (Q, ((Q.length : Int), (s.2, ()))))))
  (fun i s => s.2.length = i) (fun s q => ((s.2 ++ [mkq q]).length, s.2 ++ [mkq q])) (fun s => (s.1, (s.2, ())))
  (fun i q s hq hi => by
   have hil := (List.getElem?_eq_some_iff.1 hq).1
   have hs := hb.sz q (List.mem_of_getElem? hq)
   refine ⟨?_, by simp; omega⟩
   show (tuOwnO_step42_3 _).eval = _
   unfold tuOwnO_step42_3
   exact ev_t (by simp <;> omega) (ev_g (by simp) (ev_opt (show Q[Int.toNat (i : Int)]? = some q by simpa using hq) (ev_g (by simp <;> omega) (ev_g (by simp <;> omega) (ev_g (by simp) (ev_r (by rw [next_i64 i (by omega)]))))))))
  (fun s hi => by show (tuOwnO_step42_3 _).eval = _; exact ev_f (by simp) (ev_g (by simp) (ev_r rfl))) 18446744073709551616 (n0, []) rfl (by omega)
 obtain ⟨h1, _⟩ := this
 have h2 := fold_own Q (n0, [])
 generalize Q.foldl (fun s q => ((s.2 ++ [mkq q]).length, s.2 ++ [mkq q])) (n0, []) = F at h1 h2
 refine ⟨F.1, ?_⟩
 have h3 : F.2 = Q := h2
 rw [h3] at h1
 exact h1
theorem ownO_fn (Q : List TQueue) (hb : QBd Q) : ∃ m, tuOwnO_fn (Q, ()) = some (m, (Q, ())) := by
 have hl := hb.len
 obtain ⟨m, hm⟩ := ownO_loop Q hb (Int.toNat (Q.length : Int))
 exact ⟨m, ev_g (by simp <;> omega) (ev_g rfl (ev_opt hm (ev_g (by simp) (ev_r rfl))))⟩
theorem ownX_loop (Q : List TQueue) (hb : QBd Q) (n0 : Nat) : ∃ m, tuOwnX_loop42_3 ((0 : Int), (n0, (Q, ((Q.length : Int), ([], ()))))) = some (m, (Q, ())) := by
 have hl := hb.len
 have := loop_fold (tag := 420003) (f := fun x => (tuOwnX_step42_3 x).eval) (l := Q) (S := Nat × List TQueue) (fun i s => ((i : Int), (s.1, (Q, ((Q.length : Int), (s.2, ()))))))
  (fun i s => s.2.length = i) (fun s q => ((s.2 ++ [mkq q]).length, s.2 ++ [mkq q])) (fun s => (s.1, (s.2, ())))
  (fun i q s hq hi => by
   have hil := (List.getElem?_eq_some_iff.1 hq).1
   have hs := hb.sz q (List.mem_of_getElem? hq)
   refine ⟨?_, by simp; omega⟩
   show (tuOwnX_step42_3 _).eval = _
   unfold tuOwnX_step42_3
   exact ev_t (by simp <;> omega) (ev_g (by simp) (ev_opt (show Q[Int.toNat (i : Int)]? = some q by simpa using hq) (ev_g (by simp <;> omega) (ev_g (by simp <;> omega) (ev_g (by simp) (ev_r (by rw [next_i64 i (by omega)]))))))))
  (fun s hi => by show (tuOwnX_step42_3 _).eval = _; exact ev_f (by simp) (ev_g (by simp) (ev_r rfl))) 18446744073709551616 (n0, []) rfl (by omega)
 obtain ⟨h1, _⟩ := this
 have h2 := fold_own Q (n0, [])
 generalize Q.foldl (fun s q => ((s.2 ++ [mkq q]).length, s.2 ++ [mkq q])) (n0, []) = F at h1 h2
 refine ⟨F.1, ?_⟩
 have h3 : F.2 = Q := h2
 rw [h3] at h1
 exact h1
theorem ownX_fn (Q : List TQueue) (hb : QBd Q) : ∃ m, tuOwnX_fn (Q, ()) = some (m, ([], (Q, ()))) := by
 have hl := hb.len
 obtain ⟨m, hm⟩ := ownX_loop Q hb (Int.toNat (Q.length : Int))
 exact ⟨m, ev_g (by simp <;> omega) (ev_g rfl (ev_opt hm (ev_g (by simp) (ev_r rfl))))⟩
theorem check_tot (Q : List TQueue) (hb : QBd Q) : ∃ c : Int, tuCheck_fn (Q, ()) = some (c, ()) /\ (c = 0 ↔ TGood Q) :=
 check_fn Q (by have := hb.len; omega) fun q hq => by have := hb.sz q hq; omega
theorem put_tot (Q : List TQueue) (hb : QBd Q) (k n : Int) : ∃ r, tuPutO_fn (Q, (k, (n, ()))) = some r /\ r.2.2.1.length <= Q.length := by
 obtain ⟨c, hc, hc0⟩ := check_tot Q hb
 show EvP (tuPutO_tree (Q, (k, (n, ())))) fun r => r.2.2.1.length <= Q.length
 unfold tuPutO_tree
 refine evp_opt hc ?_
 by_cases hz : c = 0
 case neg => exact evp_t (by simpa using hz) (evp_t (by simpa using hz) (evp_g rfl (evp_r (Nat.zero_le _))))
 have hg := hc0.1 hz
 have h16 := hg.1
 refine evp_f (by simpa using hz) ?_
 by_cases k0 : k < 0
 . exact evp_t (by simpa using k0) (evp_t rfl (evp_g rfl (evp_r (Nat.zero_le _))))
 refine evp_f (by simpa using k0) ?_
 by_cases k1 : (Q.length : Int) <= k
 . exact evp_t (by simpa using k1) (evp_t rfl (evp_g rfl (evp_r (Nat.zero_le _))))
 refine evp_f (by simpa using k1) (evp_opt (size_fn n) ?_)
 refine evp_i (fun _ => evp_t rfl (evp_g rfl (evp_r (Nat.zero_le _)))) fun _ => ?_
 obtain ⟨q, hq⟩ := get_v (l := Q) (i := Int.toNat k) (by omega)
 have hqb := (hg.2 q (List.mem_of_getElem? hq)).len
 refine evp_g (by simp <;> omega) (evp_opt hq ?_)
 refine evp_i (fun _ => evp_t rfl (evp_g rfl (evp_r (Nat.zero_le _)))) fun _ => ?_
 obtain ⟨m, hm⟩ := ownO_fn Q hb
 refine evp_f (by simpa using hz) (evp_opt hm ?_)
 exact evp_g (by simp <;> omega) (evp_opt hq (evp_g (by simp <;> omega) (evp_g (by simp <;> omega) (evp_g (by simp) (evp_opt hq (evp_g (by simp) (evp_r (by simp))))))))
abbrev zs (xs : List TQueue) : List (List Int) := xs.map (·.sizes)
theorem zs_get {xs : List TQueue} {Z : List (List Int)} (h : zs xs = Z) {i : Nat} {z : List Int} (hz : Z[i]? = some z) : ∃ x, xs[i]? = some x /\ x.sizes = z := by
 subst h
 rw [List.getElem?_map, Option.map_eq_some_iff] at hz
 exact hz
theorem zs_len {xs : List TQueue} {Z : List (List Int)} (h : zs xs = Z) : xs.length = Z.length := by rw [<- h]; simp
theorem zs_set {xs : List TQueue} {Z : List (List Int)} (h : zs xs = Z) {i : Nat} {z : List Int} (hz : Z[i]? = some z) {y : TQueue} (hy : y.sizes = z) : zs (xs.set i y) = Z := by
 subst h
 rw [zs, List.map_set]
 apply List.ext_getElem?
 intro j
 by_cases e : i = j
 . subst e
   have hlt := (List.getElem?_eq_some_iff.1 hz).1
   rw [List.getElem?_set_self hlt, hz, hy]
 . rw [List.getElem?_set_ne e]
theorem zs_mod {xs : List TQueue} {Z : List (List Int)} (h : zs xs = Z) {i : Nat} {z : List Int} (hz : Z[i]? = some z) : zs (xs.modify i fun x => TQueue.mk x.share x.saved z) = Z := by
 subst h
 apply List.ext_getElem?
 intro j
 rw [List.getElem?_map, List.getElem?_modify]
 by_cases e : i = j
 . subst e
   rw [List.getElem?_map, Option.map_eq_some_iff] at hz
   obtain ⟨x, hx, rfl⟩ := hz
   simp [hx]
 . simp [e]
abbrev InS := Int × (Nat × (Int × (Nat × (Int × (Int × ((List Nat) × ((List TQueue) × ((List TSent) × Unit))))))))
abbrev InO := Nat × (Int × (Int × (Nat × (Int × ((List TSent) × ((List Nat) × ((List TQueue) × Unit)))))))
theorem inner_tot {Z : List (List Int)} {os : List Nat} {i : Nat} {z : List Int} (hz : Z[i]? = some z) (hz2 : z.length <= 200) (hos : os.getD i 0 = 0) (a2 a4 a5 : Int) (a3 B : Nat) (hB : B <= 10000) (xs : List TQueue) (hxs : zs xs = Z) (out : List TSent) (ho : out.length <= B) :
   ∃ b : InO, tuRoundO_loop14_13 ((0 : Int), (i, (a2, (a3, (a4, (a5, (os, (xs, (out, ())))))))) ) = some b /\ ∃ (n : Nat) (out' : List TSent) (xs' : List TQueue), b = (a3, (a4, (a5, (i, ((n : Int), (out', (os, (xs', ())))))))) /\ n <= z.length /\ zs xs' = Z /\ out'.length <= B + 200 := by
 refine loop_ev (tag := 140013) (f := tuRoundO_step14_13)
   (fun s : InS => ∃ (n : Nat) (xs' : List TQueue) (out' : List TSent), s = ((n : Int), (i, (a2, (a3, (a4, (a5, (os, (xs', (out', ())))))))) ) /\ n <= z.length /\ zs xs' = Z /\ out'.length <= B + n)
   (fun b : InO => ∃ (n : Nat) (out' : List TSent) (xs' : List TQueue), b = (a3, (a4, (a5, (i, ((n : Int), (out', (os, (xs', ())))))))) /\ n <= z.length /\ zs xs' = Z /\ out'.length <= B + 200)
   (fun s => z.length + 1 - s.1.toNat) ?_ 18446744073709551616 _ ⟨0, xs, out, rfl, Nat.zero_le _, hxs, ho⟩ (by show z.length + 1 - _ < _; omega)
 rintro s ⟨n, xs', out', rfl, hn, hxs', ho'⟩
 obtain ⟨r0, hr0, hs0⟩ := zs_get hxs' hz
 subst hs0
 unfold tuRoundO_step14_13
 refine evp_opt hr0 ?_
 by_cases hlt : n < r0.sizes.length
 case neg =>
   exact evp_f (by rw [hos]; simp; omega) (evp_g (by simp) (evp_g (by simp) (evp_r ⟨n, out', _, rfl, hn, zs_mod hxs' hz, by omega⟩)))
 obtain ⟨x, hx⟩ := get_v hlt
 have hx' : r0.sizes[List.getD os i 0 + Int.toNat (n : Int)]? = some x := by rw [hos, toNat_v, Nat.zero_add]; exact hx
 refine evp_t (by rw [hos]; simp; omega) (evp_g (by simp) (evp_opt hr0 (evp_g (by rw [hos]; simp; omega) (evp_opt hx' (evp_opt hr0 ?_)))))
 refine evp_i (fun _ => ?_) fun _ => ?_
 . refine evp_g (by simp) (evp_opt hr0 (evp_g (by rw [hos]; simp; omega) (evp_opt hx' (evp_g (by simp <;> omega) (evp_opt hr0 (evp_g (by simp) (evp_opt hr0 (evp_g (by rw [hos]; simp; omega) (evp_opt hx' (evp_opt hr0 (evp_g (by simp) (evp_g (by simp) (evp_r ?_)))))))))))))
   refine ⟨⟨n + 1, _, out' ++ [TSent.mk a2 x], by rw [next_i64 n (by omega)], by omega, zs_mod (zs_set hxs' hz (y := TQueue.mk r0.share (IntKind.wrap IntKind.i64 (r0.saved - x)) r0.sizes) rfl) hz, by rw [List.length_append, List.length_singleton]; omega⟩, ?_⟩
   show r0.sizes.length + 1 - Int.toNat _ < r0.sizes.length + 1 - Int.toNat _
   rw [next_i64 n (by omega), toNat_v, toNat_v]; omega
 . exact evp_g (by simp) (evp_g (by simp) (evp_r ⟨n, out', _, rfl, hn, zs_mod hxs' hz, by omega⟩))
abbrev OuS := Int × (Nat × (Int × ((List TSent) × ((List Nat) × ((List TQueue) × Unit)))))
abbrev OuO := Nat × ((List TSent) × ((List Nat) × ((List TQueue) × Unit)))
theorem outer_tot (Q : List TQueue) (hg : TGood Q) (m : Nat) :
   ∃ b : OuO, tuRoundO_loop14_7 ((0 : Int), (m, ((Q.length : Int), ([], ([], (Q, ())))))) = some b /\ ∃ (out : List TSent) (os : List Nat) (xs : List TQueue), b = (m, (out, (os, (xs, ())))) /\ xs.length = Q.length := by
 have h16 := hg.1
 obtain ⟨Z, hZ⟩ : ∃ Z, zs Q = Z := ⟨_, rfl⟩
 have hZl : Q.length = Z.length := zs_len hZ
 have hz200 : ∀ (i : Nat) (z : List Int), Z[i]? = some z -> z.length <= 200 := fun i z hz => by
   obtain ⟨q, hq, rfl⟩ := zs_get hZ hz
   exact (hg.2 q (List.mem_of_getElem? hq)).len
 refine loop_ev (tag := 140007) (f := tuRoundO_step14_7)
   (fun s : OuS => ∃ (i : Nat) (out : List TSent) (os : List Nat) (xs : List TQueue), s = ((i : Int), (m, ((Q.length : Int), (out, (os, (xs, ())))))) /\ i <= Q.length /\ zs xs = Z /\ out.length <= 200 * i /\ ∀ j, i <= j -> os.getD j 0 = 0)
   (fun b : OuO => ∃ (out : List TSent) (os : List Nat) (xs : List TQueue), b = (m, (out, (os, (xs, ())))) /\ xs.length = Q.length)
   (fun s => Q.length + 1 - s.1.toNat) ?_ 18446744073709551616 _ ⟨0, [], [], Q, rfl, Nat.zero_le _, hZ, Nat.zero_le _, fun j _ => rfl⟩ (by show Q.length + 1 - _ < _; omega)
 rintro s ⟨i, out, os, xs, rfl, hi, hxs, ho, hos⟩
 have hxl := zs_len hxs
 unfold tuRoundO_step14_7
 by_cases hlt : i < Q.length
 case neg =>
   exact evp_f (by simp <;> omega) (evp_g (by simp) (evp_g (by simp) (evp_r ⟨out, os, xs, rfl, by omega⟩)))
 obtain ⟨z, hz⟩ := get_v (l := Z) (i := i) (by omega)
 obtain ⟨r0, hr0, hs0⟩ := zs_get hxs hz
 subst hs0
 have hz2 := hz200 i _ hz
 have hoi := hos i (Nat.le_refl _)
 have hmu : Q.length + 1 - Int.toNat (((i + 1 : Nat)) : Int) < Q.length + 1 - Int.toNat (i : Int) := by rw [toNat_v, toNat_v]; omega
 have hr0' : xs[Int.toNat (i : Int)]? = some r0 := by rw [toNat_v]; exact hr0
 refine evp_t (by simp <;> omega) (evp_g (by simp <;> omega) (evp_opt hr0' ?_))
 refine evp_i (fun _ => ?_) fun _ => ?_
 . refine evp_g (by simp) (evp_g (by simp) (evp_r ⟨⟨i + 1, out, os, _, by rw [next_i64 i (by omega)], by omega, by rw [toNat_v]; exact zs_mod hxs hz, by omega, fun j hj => hos j (by omega)⟩, ?_⟩))
   show Q.length + 1 - Int.toNat _ < _
   rw [next_i64 i (by omega)]; exact hmu
 . obtain ⟨b, hb, n, out', xs', rfl, hn, hxs', ho'⟩ := inner_tot (os := os) hz hz2 hoi (i : Int) (Q.length : Int) (i : Int) m (200 * i) (by omega) _ (zs_mod (zs_set hxs hz (y := TQueue.mk r0.share (IntKind.wrap IntKind.i64 (r0.saved + r0.share)) r0.sizes) rfl) hz) out ho
   have hxl' := zs_len hxs'
   obtain ⟨r5, hr5, hs5⟩ := zs_get hxs' hz
   refine evp_opt hr0' (evp_opt hr0' (evp_opt hr0' (evp_g (by simp) (evp_g (by simp) ?_))))
   refine evp_opt (b := (m, ((Q.length : Int), ((i : Int), (i, ((n : Int), (out', (os, (xs', ())))))))) ) ?_ ?_
   . rw [toNat_v]; exact hb
   refine evp_opt hr5 (evp_g (by rw [hoi, hs5]; simp; omega) (evp_g (by rw [hoi, hs5]; simp; omega) (evp_opt hr5 (evp_g (by simp) (evp_opt hr5 ?_)))))
   have hfin : ∀ j, i + 1 <= j -> (oSet os i (List.getD os i 0 + Int.toNat (n : Int))).getD j 0 = 0 := fun j hj => by
     rw [oSet_ne _ _ _ _ (by omega)]; exact hos j (by omega)
   refine evp_i (fun _ => ?_) fun _ => ?_
   . refine evp_opt hr5 (evp_g (by simp) (evp_g (by simp) (evp_r ⟨⟨i + 1, out', _, _, by rw [next_i64 i (by omega)], by omega, by rw [hs5]; exact zs_mod (zs_set hxs' hz (y := TQueue.mk r5.share 0 r0.sizes) rfl) hz, by omega, hfin⟩, ?_⟩)))
     show Q.length + 1 - Int.toNat _ < _
     rw [next_i64 i (by omega)]; exact hmu
   . refine evp_g (by simp) (evp_g (by simp) (evp_r ⟨⟨i + 1, out', _, _, by rw [next_i64 i (by omega)], by omega, by rw [hs5]; exact zs_mod hxs' hz, by omega, hfin⟩, ?_⟩))
     show Q.length + 1 - Int.toNat _ < _
     rw [next_i64 i (by omega)]; exact hmu
theorem round_tot (Q : List TQueue) (hb : QBd Q) : ∃ r, tuRoundO_fn (Q, ()) = some r /\ r.2.2.2.1.length <= Q.length := by
 obtain ⟨c, hc, hc0⟩ := check_tot Q hb
 show EvP (tuRoundO_tree (Q, ())) fun r => r.2.2.2.1.length <= Q.length
 unfold tuRoundO_tree
 refine evp_opt hc ?_
 by_cases hz : c = 0
 case neg => exact evp_t (by simpa using hz) (evp_g rfl (evp_g rfl (evp_r (Nat.zero_le _))))
 have hg := hc0.1 hz
 obtain ⟨m, hm⟩ := ownX_fn Q hb
 obtain ⟨b, hlp, out, os, xs, rfl, hxl⟩ := outer_tot Q hg m
 exact evp_f (by simpa using hz) (evp_opt hm (evp_g rfl (evp_g (by simp) (evp_opt hlp (evp_g (by simp) (evp_g (by simp) (evp_r (Nat.le_of_eq hxl))))))))
theorem eqInts_self (l : List Int) (hl : l.length < 1000000000000000) : eqInts_fn (l, (l, ())) = some (true, ()) := by
 have lp := loop_ixV (tag := 160004) (f := fun x => (eqInts_step16_4 x).eval) l.length (fun i => ((i : Int), (l, (l, ((l.length : Int), ()))))) (Sum.inr ())
  (fun i hi => by
   have hx : l[Int.toNat (i : Int)]? = some l[i] := by rw [Int.toNat_natCast]; exact List.getElem?_eq_getElem hi
   show (eqInts_step16_4 _).eval = _
   unfold eqInts_step16_4
   exact ev_t (by simp <;> omega) (ev_g (by simp) (ev_opt hx (ev_g (by simp) (ev_opt hx (ev_f (by simp) (ev_r (by rw [next_i64 i (by omega)])))))))) (by
   show (eqInts_step16_4 _).eval = _
   exact ev_f (by simp) (ev_r rfl)) 18446744073709551616 (by omega)
 unfold eqInts_fn eqInts_tree
 exact ev_f (by simp) (ev_opt (show eqInts_loop16_4 _ = _ from lp) (ev_r rfl))
theorem sameTurns_self {l : List TQueue} (hb : QBd l) : sameTurns_fn (l, (l, ())) = some (true, ()) := by
 have hbl := hb.len
 have lp := loop_ixV (tag := 440004) (f := fun x => (sameTurns_step44_4 x).eval) l.length (fun i => ((i : Int), (l, (l, ((l.length : Int), ()))))) (Sum.inr ())
  (fun i hi => by
   have hx : l[Int.toNat (i : Int)]? = some l[i] := by rw [Int.toNat_natCast]; exact List.getElem?_eq_getElem hi
   have hq := hb.sz l[i] (List.getElem_mem hi)
   have he := eqInts_self l[i].sizes (by omega)
   show (sameTurns_step44_4 _).eval = _
   unfold sameTurns_step44_4
   have d : ∀ {α : Type} [DecidableEq α] (a : α), decide (a = a) = true := fun a => by simp
   exact ev_t (by simp <;> omega) (ev_g (by simp) (ev_opt hx (ev_g (by simp) (ev_opt hx (ev_t (d _) (ev_t (d _) (ev_opt he (ev_f rfl (ev_r (by rw [next_i64 i (by omega)]))))))))))) (by
   show (sameTurns_step44_4 _).eval = _
   exact ev_f (by simp) (ev_r rfl)) 18446744073709551616 (by omega)
 unfold sameTurns_fn sameTurns_tree
 exact ev_f (by simp) (ev_opt lp (show (Tr.sum (.inr ()) _ _).eval = _ from ev_r rfl))
theorem own_before {Q : List TQueue} (hb : QBd Q) (k n : Int) : ∃ rm, turnsOwn_loop4_3 ((0 : Int), ((0 : Nat), (Q, (Q, (n, (k, ((Q.length : Int), ([], ())))))))) = some (rm, (Q, (n, (k, (Q, ()))))) := by
 have hl := hb.len
 have := loop_fold (tag := 40003) (f := fun x => (turnsOwn_step4_3 x).eval) (l := Q) (S := Nat × List TQueue) (fun i s => ((i : Int), (s.1, (Q, (Q, (n, (k, ((Q.length : Int), (s.2, ())))))))))
  (fun i s => s.2.length = i) (fun s q => ((s.2 ++ [mkq q]).length, s.2 ++ [mkq q])) (fun s => (s.1, (Q, (n, (k, (s.2, ()))))))
  (fun i q s hq hi => by
   have hil := (List.getElem?_eq_some_iff.1 hq).1
   have hs := hb.sz q (List.mem_of_getElem? hq)
   refine ⟨?_, by simp; omega⟩
   show (turnsOwn_step4_3 _).eval = _
   unfold turnsOwn_step4_3
   exact ev_t (by simp <;> omega) (ev_g (by simp) (ev_opt (show Q[Int.toNat (i : Int)]? = some q by simpa using hq) (ev_g (by simp <;> omega) (ev_g (by simp <;> omega) (ev_g (by simp) (ev_r (by rw [next_i64 i (by omega)]))))))))
  (fun s hi => by show (turnsOwn_step4_3 _).eval = _; exact ev_f (by simp) (ev_g (by simp) (ev_r rfl))) 18446744073709551616 (0, []) rfl (by omega)
 obtain ⟨h1, _⟩ := this
 have h2 := fold_own Q (0, [])
 generalize Q.foldl (fun s q => ((s.2 ++ [mkq q]).length, s.2 ++ [mkq q])) (0, []) = F at h1 h2
 refine ⟨F.1, ?_⟩
 have h3 : F.2 = Q := h2
 rw [h3] at h1
 exact h1
section
variable (x3 x4 x5 x6 x7 : Nat) (l bf : List TQueue) (s : Bool) (N : Nat) (ls : List (Nat × Nat)) (os : List Nat) (bs : List TQueue) (ms : List (Nat × Nat))
theorem in1 (y : Int) (i : Int) (a R len h : Nat) (hR : R <= 9223372036854775807) :
  turnsOwn_loop1004_19 ((0 : Int), (a, ((R - a : Nat), (x3, (x4, (x5, (x6, (x7, (l, (s, (y, (i, (((R - a : Nat) : Int), (len, (R, (h, (ls, (os, (bs, (bf, ())))))))))))))))))))) = some (x3, (x4, (x5, (x6, (x7, (l, (s, (y, (i, (ls.set h (len, R), (os, (bs, (bf, ()))))))))))))) :=
 loop_ixV (tag := 10040019) (f := fun x => (turnsOwn_step1004_19 x).eval) (R - a)
  (fun j => ((j : Int), (a, ((R - a : Nat), (x3, (x4, (x5, (x6, (x7, (l, (s, (y, (i, (((R - a : Nat) : Int), (len, (R, (h, (ls, (os, (bs, (bf, ())))))))))))))))))))) ) _
  (fun j hj => by
   show (turnsOwn_step1004_19 _).eval = _
   unfold turnsOwn_step1004_19
   exact ev_t (by simp <;> omega) (ev_g (by simp <;> omega) (ev_g (by simp <;> omega) (ev_g (by simp <;> omega) (ev_g (by simp <;> omega) (ev_g (by simp) (ev_g (by simp) (ev_g (by simp) (ev_g (by simp) (ev_g (by simp) (ev_r (by rw [next_i64 j (by omega)]))))))))))))
  (by
   show (turnsOwn_step1004_19 _).eval = _
   unfold turnsOwn_step1004_19
   exact ev_f (by simp) (ev_g (by simp) (ev_g (by simp) (ev_g (by simp) (ev_g (by simp) (ev_g (by simp) (ev_r rfl)))))))
  18446744073709551616 (by omega)
theorem over1 (x1 x2 : Nat) (hN : N <= 3518437208780) (hls : ls.length = N) (hb : ∀ x ∈ ls, x.1 <= x.2 /\ x.2 <= 9223372036854775807) :
  turnsOwn_loop1004_15 ((0 : Int), (x1, (x2, (x3, (x4, (x5, (l, (s, ((N : Int), (ls, (os, (bs, (bf, ()))))))))))))) = some (x2, (x3, (x4, (x5, (l, (s, (ls, (os, (bs, (bf, ())))))))))) :=
 loop_ixV (tag := 10040015) (f := fun x => (turnsOwn_step1004_15 x).eval) N
  (fun i => ((i : Int), (x1, (x2, (x3, (x4, (x5, (l, (s, ((N : Int), (ls, (os, (bs, (bf, ()))))))))))))) ) _
  (fun i hi => by
   obtain ⟨r, hr⟩ := get_v (l := ls) (i := i) (by omega)
   have hrb := hb r (List.mem_of_getElem? hr)
   have hset : ls.set i (r.1, r.2) = ls := by
     obtain ⟨h1, h2⟩ := List.getElem?_eq_some_iff.1 hr
     subst h2
     exact List.set_getElem_self h1
   have hin := in1 x1 x2 x3 x4 x5 l bf s ls os bs (N : Int) (i : Int) 0 r.2 r.1 i hrb.2
   rw [hset] at hin
   show (turnsOwn_step1004_15 _).eval = _
   unfold turnsOwn_step1004_15
   refine ev_t (by simp <;> omega) (ev_g (by simp <;> omega) (ev_opt (show ls[Int.toNat (i : Int)]? = some r by rw [toNat_v]; exact hr) (ev_g (by simp) (ev_g (by simp) (ev_g (by simp) (ev_g (by simp) (ev_g (by simp) (ev_g (by simp) (ev_opt (b := (x1, (x2, (x3, (x4, (x5, (l, (s, ((N : Int), ((i : Int), (ls, (os, (bs, (bf, ())))))))))))))) ?_ ?_)))))))))
   . simp only [toNat_v]
     exact hin
   . exact ev_g (by simp) (ev_g (by simp) (ev_g (by simp) (ev_g (by simp) (ev_g (by simp) (ev_r (by rw [next_i64 i (by omega)])))))))
  (by
   show (turnsOwn_step1004_15 _).eval = _
   unfold turnsOwn_step1004_15
   exact ev_f (by simp) (ev_g (by simp) (ev_g (by simp) (ev_g (by simp) (ev_g (by simp) (ev_r rfl)))))) 18446744073709551616 (by omega)
theorem list1 (x1 x2 : Nat) (hN : N <= 3518437208780) (hls : ls.length = N) :
  turnsOwn_loop1004_25 ((0 : Int), (x1, (x2, (x3, (x4, (l, (s, ((N : Int), (ls, (os, (bs, (bf, ())))))))))))) = some (x2, (x3, (x4, (l, (s, (ls, (os, (bs, (bf, ()))))))))) :=
 loop_ixV (tag := 10040025) (f := fun x => (turnsOwn_step1004_25 x).eval) N
  (fun i => ((i : Int), (x1, (x2, (x3, (x4, (l, (s, ((N : Int), (ls, (os, (bs, (bf, ())))))))))))) ) _
  (fun i hi => by
   show (turnsOwn_step1004_25 _).eval = _
   unfold turnsOwn_step1004_25
   exact ev_t (by simp <;> omega) (ev_g (by simp <;> omega) (ev_g (by simp <;> omega) (ev_g (by simp <;> omega) (ev_g (by simp <;> omega) (ev_g (by simp) (ev_g (by simp) (ev_g (by simp) (ev_g (by simp) (ev_r (by rw [next_i64 i (by omega)])))))))))))
  (by
   show (turnsOwn_step1004_25 _).eval = _
   unfold turnsOwn_step1004_25
   exact ev_f (by simp) (ev_g (by simp) (ev_g (by simp) (ev_g (by simp) (ev_r rfl))))) 18446744073709551616 (by omega)
theorem in2 (y : Int) (i : Int) (a R len h : Nat) (hR : R <= 9223372036854775807) :
  turnsOwn_loop2004_19 ((0 : Int), (a, ((R - a : Nat), (x3, (x4, (x5, (x6, (x7, (l, (s, (y, (i, (((R - a : Nat) : Int), (len, (R, (h, (os, (ls, (ms, (bf, ())))))))))))))))))))) = some (x3, (x4, (x5, (x6, (x7, (l, (s, (y, (i, (os, (ls.set h (len, R), (ms, (bf, ()))))))))))))) :=
 loop_ixV (tag := 20040019) (f := fun x => (turnsOwn_step2004_19 x).eval) (R - a)
  (fun j => ((j : Int), (a, ((R - a : Nat), (x3, (x4, (x5, (x6, (x7, (l, (s, (y, (i, (((R - a : Nat) : Int), (len, (R, (h, (os, (ls, (ms, (bf, ())))))))))))))))))))) ) _
  (fun j hj => by
   show (turnsOwn_step2004_19 _).eval = _
   unfold turnsOwn_step2004_19
   exact ev_t (by simp <;> omega) (ev_g (by simp <;> omega) (ev_g (by simp <;> omega) (ev_g (by simp <;> omega) (ev_g (by simp <;> omega) (ev_g (by simp) (ev_g (by simp) (ev_g (by simp) (ev_g (by simp) (ev_g (by simp) (ev_r (by rw [next_i64 j (by omega)]))))))))))))
  (by
   show (turnsOwn_step2004_19 _).eval = _
   unfold turnsOwn_step2004_19
   exact ev_f (by simp) (ev_g (by simp) (ev_g (by simp) (ev_g (by simp) (ev_g (by simp) (ev_g (by simp) (ev_r rfl)))))))
  18446744073709551616 (by omega)
theorem over2 (x1 x2 : Nat) (hN : N <= 3518437208780) (hls : ls.length = N) (hb : ∀ x ∈ ls, x.1 <= x.2 /\ x.2 <= 9223372036854775807) :
  turnsOwn_loop2004_15 ((0 : Int), (x1, (x2, (x3, (x4, (x5, (l, (s, ((N : Int), (os, (ls, (ms, (bf, ()))))))))))))) = some (x2, (x3, (x4, (x5, (l, (s, (os, (ls, (ms, (bf, ())))))))))) :=
 loop_ixV (tag := 20040015) (f := fun x => (turnsOwn_step2004_15 x).eval) N
  (fun i => ((i : Int), (x1, (x2, (x3, (x4, (x5, (l, (s, ((N : Int), (os, (ls, (ms, (bf, ()))))))))))))) ) _
  (fun i hi => by
   obtain ⟨r, hr⟩ := get_v (l := ls) (i := i) (by omega)
   have hrb := hb r (List.mem_of_getElem? hr)
   have hset : ls.set i (r.1, r.2) = ls := by
     obtain ⟨h1, h2⟩ := List.getElem?_eq_some_iff.1 hr
     subst h2
     exact List.set_getElem_self h1
   have hin := in2 x1 x2 x3 x4 x5 l bf s ls os ms (N : Int) (i : Int) (os.getD i 0) r.2 r.1 i hrb.2
   rw [hset] at hin
   show (turnsOwn_step2004_15 _).eval = _
   unfold turnsOwn_step2004_15
   refine ev_t (by simp <;> omega) (ev_g (by simp <;> omega) (ev_opt (show ls[Int.toNat (i : Int)]? = some r by rw [toNat_v]; exact hr) (ev_g (decide_eq_true rfl) (ev_g (by simp) (ev_g (by simp) (ev_g (by simp) (ev_g (by simp) (ev_g (by simp) (ev_opt (b := (x1, (x2, (x3, (x4, (x5, (l, (s, ((N : Int), ((i : Int), (os, (ls, (ms, (bf, ())))))))))))))) ?_ ?_)))))))))
   . simp only [toNat_v]
     exact hin
   . exact ev_g (by simp) (ev_g (by simp) (ev_g (by simp) (ev_g (by simp) (ev_g (by simp) (ev_r (by rw [next_i64 i (by omega)])))))))
  (by
   show (turnsOwn_step2004_15 _).eval = _
   unfold turnsOwn_step2004_15
   exact ev_f (by simp) (ev_g (by simp) (ev_g (by simp) (ev_g (by simp) (ev_g (by simp) (ev_r rfl)))))) 18446744073709551616 (by omega)
theorem list2 (x1 x2 : Nat) (hN : N <= 3518437208780) (hls : ls.length = N) :
  turnsOwn_loop2004_25 ((0 : Int), (x1, (x2, (x3, (x4, (l, (s, ((N : Int), (os, (ls, (ms, (bf, ())))))))))))) = some (x2, (x3, (x4, (l, (s, (ms, (os, (ls, (bf, ()))))))))) :=
 loop_ixV (tag := 20040025) (f := fun x => (turnsOwn_step2004_25 x).eval) N
  (fun i => ((i : Int), (x1, (x2, (x3, (x4, (l, (s, ((N : Int), (os, (ls, (ms, (bf, ())))))))))))) ) _
  (fun i hi => by
   show (turnsOwn_step2004_25 _).eval = _
   unfold turnsOwn_step2004_25
   exact ev_t (by simp <;> omega) (ev_g (by simp <;> omega) (ev_g (by simp <;> omega) (ev_g (by simp <;> omega) (ev_g (by simp <;> omega) (ev_g (by simp) (ev_g (by simp) (ev_g (by simp) (ev_g (by simp) (ev_r (by rw [next_i64 i (by omega)])))))))))))
  (by
   show (turnsOwn_step2004_25 _).eval = _
   unfold turnsOwn_step2004_25
   exact ev_f (by simp) (ev_g (by simp) (ev_g (by simp) (ev_g (by simp) (ev_r rfl))))) 18446744073709551616 (by omega)
end
theorem turnsOwn_true {Q : List TQueue} {k n : Int} {A1 A2 : Prop} (b : BndD 6 (D.st 12 Q)) (_ : A1) (_ : A2) : turnsOwn.fn (Q, (k, (n, ()))) = some (true, ()) := by
 have hb := qbd b
 have hql := hb.len
 obtain ⟨rm, hbef⟩ := own_before hb k n
 obtain ⟨⟨p1, p2, p3, _⟩, hp, hpl⟩ := put_tot Q hb k n
 obtain ⟨⟨r1, r2, r3, r4, r5, _⟩, hr, hrl⟩ := round_tot Q hb
 have hs := sameTurns_self hb
 have hpl : p3.length <= Q.length := hpl
 have hrl : r4.length <= Q.length := hrl
 refine jFS_true ?_
 show Holds (turnsOwn_tree _)
 refine ⟨_, ev_g rfl (ev_opt hbef (ev_opt hp (ev_opt hr (ev_opt hs (ev_t rfl (ev_r rfl)))))), ?_⟩
 intro ls hls hlb
 have hls : ls.length = p3.length := hls
 have hv := over1 p1 r1 rm Q Q true p3.length ls r3 r4 p1 p1 (by omega) hls hlb
 have hl := list1 r1 rm Q Q true ls.length ls r3 r4 p1 p1 (by omega) rfl
 refine ⟨_, ev_g (decide_eq_true hls.symm) (ev_g (decide_eq_true hls.symm) (ev_g (decide_eq_true hls.symm) (ev_g (decide_eq_true rfl) (ev_g (decide_eq_true rfl) (ev_opt hv (ev_g (decide_eq_true rfl) (ev_g (decide_eq_true rfl) (ev_g (decide_eq_true rfl) (ev_g (decide_eq_true rfl) (ev_opt hl (ev_t rfl (ev_r rfl)))))))))))), ?_⟩
 intro w hw hwb
 have hw : w.length = r4.length := hw
 have hv2 := over2 p1 r1 rm Q Q true r4.length w r3 ls r1 r1 (by omega) hw hwb
 have hl2 := list2 r1 rm Q Q true w.length w r3 ls r1 p1 (by omega) rfl
 exact ⟨_, ev_g (decide_eq_true hw.symm) (ev_g (decide_eq_true hw.symm) (ev_g (decide_eq_true rfl) (ev_g (decide_eq_true hw.symm) (ev_g (decide_eq_true rfl) (ev_opt hv2 (ev_g (decide_eq_true rfl) (ev_g (decide_eq_true rfl) (ev_g (decide_eq_true rfl) (ev_g (decide_eq_true rfl) (ev_opt hl2 (ev_f rfl (ev_opt livesV (ev_t rfl (ev_t rfl (ev_opt hs (ev_r rfl)))))))))))))))), rfl⟩
end Go.Proofs.Ythnijeclidpooaa.X
namespace Go.Proofs.Ythnijeclidpooaa.TurnsOwn
open Go Go.RowKit Go.Proofs.Ythnijeclidpooaa Go.Proofs.Ythnijeclidpooaa.Abs
set_option linter.unusedVariables false
set_option maxRecDepth 100000
theorem walk (a0 : Option Addr) (l0 c0 : Nat) (a1 : Int) (a2 : Int) (w : World) (h0 : Read.Rd Try.prog w 23 [.slice a0 l0 c0]) (h1 : -9223372036854775808 <= a1 /\ a1 <= 9223372036854775807) (h2 : -9223372036854775808 <= a2 /\ a2 <= 9223372036854775807) : Calls Try.prog 4 #[.slice a0 l0 c0, .int .i64 a1, .int .i64 a2] w fun e w' => e = .returned (.bool true) /\ Below w.heap.size w w' := by
 obtain ⟨x0, r0, b0⟩ := rd_typed (cod := X.cod) (ps := [.st 12]) (by kernel_rfl) (by kernel_rfl) h0
 obtain ⟨v0_0, ⟨⟩⟩ := x0
 replace b0 : ∀ d ∈ [D.st 12 v0_0], BndD 6 d := b0
 replace r0 : RepAll w (fun b => b < w.heap.size) _ [D.st 12 v0_0] := r0
 have b0_0 : BndD 6 (D.st 12 v0_0) := b0 _ List.mem_cons_self
 exact law_told X.turnsOwn rfl (x := (v0_0, (a1, (a2, ())))) ⟨(true, ()), X.turnsOwn_true b0_0 h1 h2, rfl, rfl⟩ (RepArgs.d1 r0 (RepArgs.i (RepArgs.i RepArgs.nil))) rfl
end Go.Proofs.Ythnijeclidpooaa.TurnsOwn
