/- Texts towards the law HouseQuiet, put together (part 4): an abstract walk and its proof, functions of the program as trees, and plain laws. Conditions: none. -/
import Derived.KernelRfl
import Derived.Lib.TrailingZeros
import Derived.Laws.Bits64b
import Derived.WalkKit
import Derived.Test.YthkhikdglmaiaaaDoorK3
namespace Go.Proofs.YthkhikdglmaiaaaDoor.X
open Go Go.RowKit Go.Proofs.YthkhikdglmaiaaaDoor.Abs
open Go.IntKind renaming wrap -> wW
set_option maxRecDepth 100000
set_option linter.unusedVariables false
def tcWordAt_ap : List VP1 := [.one (.s), .one (.i .i64)]
def tcWordAt_rp : SP := ⟨1, [(0, .v (.one (.i .i64)))], []⟩
def tcWordAt_tree : ((List UInt8) × (Int × Unit)) -> Tr (Int × Unit) :=
 fun (a0, a1, _) =>
 .grd (decide ((0 : Int) <= a1 /\ a1 < (↑(a0.length) : Int))) (
 .grd (true) (
 .grd (decide ((0 : Int) <= wW .i64 (a1 + (1 : Int)) /\ wW .i64 (a1 + (1 : Int)) < (↑(a0.length) : Int))) (
 .ret (bits .or .i64 (wW .i64 (wW .i64 (↑(UInt8.toNat (List.getD a0 (Int.toNat a1) (0 : UInt8))) : Int) * (2 : Int) ^ (8 : Nat))) (wW .i64 (↑(UInt8.toNat (List.getD a0 (Int.toNat (wW .i64 (a1 + (1 : Int)))) (0 : UInt8))) : Int)), ()))))
theorem tcWordAt_eq (x : ((List UInt8) × (Int × Unit))) : fnTr Tryd.prog cod gm7 [] 30 52 tcWordAt_ap tcWordAt_rp x = tcWordAt_tree x := by kernel_rfl
def tcWordAt_fn (x : ((List UInt8) × (Int × Unit))) : Option (Int × Unit) := (tcWordAt_tree x).eval
def tcWordAt : FS Tryd.prog := ⟨52, tcWordAt_ap, tcWordAt_rp, tcWordAt_fn, fun x r h => fnTr_sound (cod := cod) (Γ := gm7) (Λs := []) (n := 30) ((congrArg Tr.eval (tcWordAt_eq x)).trans h)⟩
def tcLongAt_ap : List VP1 := [.one (.s), .one (.i .i64)]
def tcLongAt_rp : SP := ⟨1, [(0, .v (.one (.i .u32)))], []⟩
def tcLongAt_tree : ((List UInt8) × (Int × Unit)) -> Tr (Int × Unit) :=
 fun (a0, a1, _) =>
 .opt ((tcWordAt_fn (a0, (a1, ())))) (fun r0 =>
 .grd (true) (
 .opt ((tcWordAt_fn (a0, (wW .i64 (a1 + (2 : Int)), ())))) (fun r1 =>
 .ret (bits .or .u32 (wW .u32 (wW .u32 r0.1 * (2 : Int) ^ (16 : Nat))) (wW .u32 r1.1), ()))))
noncomputable def gm16 : List (PF Go.Proofs.Tryd.prog) := [FS.pf sumFold, FS.pf sumAdd, FS.pf sumOf, FS.pf sumRight, FS.pf sumFix, FS.pf dgWord, FS.pf dgLong, FS.pf dgWordAt, FS.pf dgUnder, FS.pf dgPort, FS.pf dgWrite, FS.pf dgRead, FS.pf tcWordAt]
theorem tcLongAt_eq (x : ((List UInt8) × (Int × Unit))) : fnTr Tryd.prog cod gm16 [] 30 53 tcLongAt_ap tcLongAt_rp x = tcLongAt_tree x := by kernel_rfl
def tcLongAt_fn (x : ((List UInt8) × (Int × Unit))) : Option (Int × Unit) := (tcLongAt_tree x).eval
def tcLongAt : FS Tryd.prog := ⟨53, tcLongAt_ap, tcLongAt_rp, tcLongAt_fn, fun x r h => fnTr_sound (cod := cod) (Γ := gm16) (Λs := []) (n := 30) ((congrArg Tr.eval (tcLongAt_eq x)).trans h)⟩
def tcParse_L51_10 : LS := ⟨10, [(4, 4)], ⟨66, [(57, .v (.one (.i .i64))), (0, .v (.one (.s))), (4, .v (.one (.own 4))), (56, .v (.one (.i .i64)))], [(4, .row 153 4 true true)]⟩, [⟨none, [], ⟨66, [(2, .v (.one (.nil))), (3, .v (.one (.b)))], []⟩⟩, ⟨some 2, [(4, 4)], ⟨66, [(4, .v (.one (.own 4)))], [(4, .row 153 4 true true)]⟩⟩], []⟩
def tcParse_step51_10 : (Int × ((List UInt8) × (Int × ((List TOption) × Unit)))) -> Tr ((Int × ((List UInt8) × (Int × ((List TOption) × Unit)))) ⊕ ((Bool × Unit) ⊕ ((List TOption) × Unit))) :=
 fun (a0, a1, a2, a3, _) =>
 .ite (decide (a0 < a2)) (
 .grd (decide ((0 : Int) <= a0 /\ a0 < (↑(a1.length) : Int))) (
 .ite (!decide ((↑(UInt8.toNat (List.getD a1 (Int.toNat a0) (0 : UInt8))) : Int) = (0 : Int))) (
 .ret (Sum.inr (Sum.inl (false, ())))) (
 .grd (decide (a3.length = a3.length)) (
 .ret (Sum.inl (wW .i64 (a0 + (1 : Int)), (a1, (a2, (a3, ()))))))))) (
 .grd (decide (a3.length = a3.length)) (
 .ret (Sum.inr (Sum.inr (a3, ())))))
def tcParse_loop51_10 (x : (Int × ((List UInt8) × (Int × ((List TOption) × Unit))))) : Option ((Bool × Unit) ⊕ ((List TOption) × Unit)) := loopO 510010 (fun x => (tcParse_step51_10 x).eval) 18446744073709551616 x
def tcParse_L51_2 : LS := ⟨2, [(4, 4)], ⟨66, [(0, .v (.one (.s))), (4, .v (.one (.own 4)))], [(4, .row 153 4 true true)]⟩, [⟨none, [], ⟨66, [(2, .v (.one (.nil))), (3, .v (.one (.b)))], []⟩⟩, ⟨some 0, [(4, 4)], ⟨66, [(0, .v (.one (.s))), (4, .v (.one (.own 4)))], [(4, .row 153 4 true true)]⟩⟩], [(4, 153, 4)]⟩
def tcParse_step51_2 : ((List UInt8) × ((List TOption) × Unit)) -> Tr (((List UInt8) × ((List TOption) × Unit)) ⊕ ((Bool × Unit) ⊕ ((List UInt8) × ((List TOption) × Unit)))) :=
 fun (a0, a1, _) =>
 .ite (!decide (a0 = [])) (
 .grd (decide ((0 : Int) <= (0 : Int) /\ (0 : Int) < (↑(a0.length) : Int))) (
 .ite (!decide ((↑(UInt8.toNat (List.getD a0 (0 : Nat) (0 : UInt8))) : Int) = (0 : Int))) (
 .grd (decide ((0 : Int) <= (0 : Int) /\ (0 : Int) < (↑(a0.length) : Int))) (
 .ite (decide ((↑(UInt8.toNat (List.getD a0 (0 : Nat) (0 : UInt8))) : Int) = (1 : Int))) (
 .grd (decide ((a1.length + List.length [TOption.mk (1 : Int) []]) * (24 : Nat) <= (140737488355328 : Nat) /\ a1.length + List.length [TOption.mk (1 : Int) []] <= (9223372036854775807 : Nat))) (
 .grd (decide ((0 : Int) <= (1 : Int) /\ (1 : Int) <= (↑(a0.length) : Int) /\ (↑(a0.length) : Int) <= (↑(a0.length) : Int))) (
 .grd (decide (List.length (a1 ++ [TOption.mk (1 : Int) []]) = List.length (a1 ++ [TOption.mk (1 : Int) []]))) (
 .ret (Sum.inl (List.drop (1 : Nat) (List.take (Int.toNat (↑(a0.length) : Int)) a0), (a1 ++ [TOption.mk (1 : Int) []], ()))))))) (
 .ite (decide ((↑(a0.length) : Int) < (2 : Int))) (
 .ret (Sum.inr (Sum.inl (false, ())))) (
 .grd (decide ((0 : Int) <= (1 : Int) /\ (1 : Int) < (↑(a0.length) : Int))) (
 .ite (decide ((↑(UInt8.toNat (List.getD a0 (1 : Nat) (0 : UInt8))) : Int) < (2 : Int))) (
 .ret (Sum.inr (Sum.inl (false, ())))) (
 .grd (decide ((0 : Int) <= (1 : Int) /\ (1 : Int) < (↑(a0.length) : Int))) (
 .ite (decide ((↑(a0.length) : Int) < wW .i64 (↑(UInt8.toNat (List.getD a0 (1 : Nat) (0 : UInt8))) : Int))) (
 .ret (Sum.inr (Sum.inl (false, ())))) (
 .grd (decide ((0 : Int) <= (1 : Int) /\ (1 : Int) < (↑(a0.length) : Int))) (
 .grd (decide ((0 : Int) <= (0 : Int) /\ (0 : Int) < (↑(a0.length) : Int))) (
 .grd (decide ((0 : Int) <= (2 : Int) /\ (2 : Int) <= wW .i64 (↑(UInt8.toNat (List.getD a0 (1 : Nat) (0 : UInt8))) : Int) /\ wW .i64 (↑(UInt8.toNat (List.getD a0 (1 : Nat) (0 : UInt8))) : Int) <= (↑(a0.length) : Int))) (
 .grd (decide ((a1.length + List.length [TOption.mk (wW .i64 (↑(UInt8.toNat (List.getD a0 (0 : Nat) (0 : UInt8))) : Int)) (List.drop (2 : Nat) (List.take (Int.toNat (wW .i64 (↑(UInt8.toNat (List.getD a0 (1 : Nat) (0 : UInt8))) : Int))) a0))]) * (24 : Nat) <= (140737488355328 : Nat) /\ a1.length + List.length [TOption.mk (wW .i64 (↑(UInt8.toNat (List.getD a0 (0 : Nat) (0 : UInt8))) : Int)) (List.drop (2 : Nat) (List.take (Int.toNat (wW .i64 (↑(UInt8.toNat (List.getD a0 (1 : Nat) (0 : UInt8))) : Int))) a0))] <= (9223372036854775807 : Nat))) (
 .grd (decide ((0 : Int) <= wW .i64 (↑(UInt8.toNat (List.getD a0 (1 : Nat) (0 : UInt8))) : Int) /\ wW .i64 (↑(UInt8.toNat (List.getD a0 (1 : Nat) (0 : UInt8))) : Int) <= (↑(a0.length) : Int) /\ (↑(a0.length) : Int) <= (↑(a0.length) : Int))) (
 .grd (decide (List.length (a1 ++ [TOption.mk (wW .i64 (↑(UInt8.toNat (List.getD a0 (0 : Nat) (0 : UInt8))) : Int)) (List.drop (2 : Nat) (List.take (Int.toNat (wW .i64 (↑(UInt8.toNat (List.getD a0 (1 : Nat) (0 : UInt8))) : Int))) a0))]) = List.length (a1 ++ [TOption.mk (wW .i64 (↑(UInt8.toNat (List.getD a0 (0 : Nat) (0 : UInt8))) : Int)) (List.drop (2 : Nat) (List.take (Int.toNat (wW .i64 (↑(UInt8.toNat (List.getD a0 (1 : Nat) (0 : UInt8))) : Int))) a0))]))) (
 .ret (Sum.inl (List.drop (Int.toNat (wW .i64 (↑(UInt8.toNat (List.getD a0 (1 : Nat) (0 : UInt8))) : Int))) (List.take (Int.toNat (↑(a0.length) : Int)) a0), (a1 ++ [TOption.mk (wW .i64 (↑(UInt8.toNat (List.getD a0 (0 : Nat) (0 : UInt8))) : Int)) (List.drop (2 : Nat) (List.take (Int.toNat (wW .i64 (↑(UInt8.toNat (List.getD a0 (1 : Nat) (0 : UInt8))) : Int))) a0))], ()))))))))))))))))) (
 .grd (decide (a1.length = a1.length)) (
 .ret (Sum.inr (Sum.inr (a0, (a1, ())))))))) (
 .grd (decide (a1.length = a1.length)) (
 .ret (Sum.inr (Sum.inr (a0, (a1, ()))))))
def tcParse_loop51_2 (x : ((List UInt8) × ((List TOption) × Unit))) : Option ((Bool × Unit) ⊕ ((List UInt8) × ((List TOption) × Unit))) := loopO 510002 (fun x => (tcParse_step51_2 x).eval) 18446744073709551616 x
def tcParse_ap : List VP1 := [.one (.s)]
def tcParse_rp : SP := ⟨1, [(0, .tup [.one (.st 4 true), .one (.b)])], []⟩
def tcParse_tree : ((List UInt8) × Unit) -> Tr ((List TOption) × (Bool × Unit)) :=
 fun (a0, _) =>
 .grd (true) (
 .opt ((tcParse_loop51_2 (a0, ([], ())))) (fun r0 =>
 .sum (r0) (fun r1 =>
 .ret ([], (r1.1, ()))) (fun r1 =>
 .grd (decide (List.length r1.2.fst = List.length r1.2.1)) (
 .opt ((tcParse_loop51_10 ((0 : Int), (r1.1, ((↑(List.length r1.1) : Int), (r1.2.1, ())))))) (fun r2 =>
 .sum (r2) (fun r3 =>
 .ret ([], (r3.1, ()))) (fun r3 =>
 .ret (r3.1, (true, ()))))))))
noncomputable def gm17 : List (PF Go.Proofs.Tryd.prog) := [FS.pf sumFold, FS.pf sumAdd, FS.pf sumOf, FS.pf sumRight, FS.pf sumFix, FS.pf dgWord, FS.pf dgLong, FS.pf dgWordAt, FS.pf dgUnder, FS.pf dgPort, FS.pf dgWrite, FS.pf dgRead, FS.pf tcWordAt, FS.pf tcLongAt]
theorem tcParse_eq (x : ((List UInt8) × Unit)) : fnTr Tryd.prog cod gm17 [(51, tcParse_L51_10), (51, tcParse_L51_2)] 30 51 tcParse_ap tcParse_rp x = tcParse_tree x := by kernel_rfl
def tcParse_fn (x : ((List UInt8) × Unit)) : Option ((List TOption) × (Bool × Unit)) := (tcParse_tree x).eval
def tcParse : FS Tryd.prog := ⟨51, tcParse_ap, tcParse_rp, tcParse_fn, fun x r h => fnTr_sound (cod := cod) (Γ := gm17) (Λs := [(51, tcParse_L51_10), (51, tcParse_L51_2)]) (n := 30) ((congrArg Tr.eval (tcParse_eq x)).trans h)⟩
def tcRead_ap : List VP1 := [.one (.s), .one (.i .u32), .one (.i .u32)]
def tcRead_rp : SP := ⟨1, [(0, .tup [.agg [.i .i64, .i .i64, .i .u32, .i .u32, .i .i64, .i .i64, .i .i64, .st 4 true, .s], .one (.i .i64)])], []⟩
abbrev ty2_ : Type := (Int × (Int × (Int × (Int × (Int × (Int × (Int × ((List TOption) × ((List UInt8) × (Int × Unit))))))))))
def tcRead_tree : ((List UInt8) × (Int × (Int × Unit))) -> Tr ty2_ :=
 fun (a0, a1, a2, _) =>
 .ite (decide ((↑(a0.length) : Int) < (20 : Int))) (
 .ret ((0 : Int), ((0 : Int), ((0 : Int), ((0 : Int), ((0 : Int), ((0 : Int), ((0 : Int), ([], ([], ((3 : Int), ()))))))))))) (
 .grd (decide ((0 : Int) <= (12 : Int) /\ (12 : Int) < (↑(a0.length) : Int))) (
 .grd (true) (
 .ite (decide ((↑(a0.length) : Int) < wW .i64 (wW .i64 (Int.tdiv (wW .i64 (↑(UInt8.toNat (List.getD a0 (12 : Nat) (0 : UInt8))) : Int)) (16 : Int)) * (4 : Int)))) (
 .ret ((0 : Int), ((0 : Int), ((0 : Int), ((0 : Int), ((0 : Int), ((0 : Int), ((0 : Int), ([], ([], ((3 : Int), ()))))))))))) (
 .ite (decide (wW .i64 (wW .i64 (Int.tdiv (wW .i64 (↑(UInt8.toNat (List.getD a0 (12 : Nat) (0 : UInt8))) : Int)) (16 : Int)) * (4 : Int)) < (20 : Int))) (
 .ret ((0 : Int), ((0 : Int), ((0 : Int), ((0 : Int), ((0 : Int), ((0 : Int), ((0 : Int), ([], ([], ((4 : Int), ()))))))))))) (
 .grd (decide ((0 : Int) <= (12 : Int) /\ (12 : Int) < (↑(a0.length) : Int))) (
 .grd (true) (
 .ite (!decide (Int.tmod (↑(UInt8.toNat (List.getD a0 (12 : Nat) (0 : UInt8))) : Int) (16 : Int) = (0 : Int))) (
 .ret ((0 : Int), ((0 : Int), ((0 : Int), ((0 : Int), ((0 : Int), ((0 : Int), ((0 : Int), ([], ([], ((4 : Int), ()))))))))))) (
 .ite (decide ((65455 : Int) < wW .i64 ((↑(a0.length) : Int) - wW .i64 (wW .i64 (Int.tdiv (wW .i64 (↑(UInt8.toNat (List.getD a0 (12 : Nat) (0 : UInt8))) : Int)) (16 : Int)) * (4 : Int))))) (
 .ret ((0 : Int), ((0 : Int), ((0 : Int), ((0 : Int), ((0 : Int), ((0 : Int), ((0 : Int), ([], ([], ((2 : Int), ()))))))))))) (
 .grd (decide ((0 : Int) <= (20 : Int) /\ (20 : Int) <= wW .i64 (wW .i64 (Int.tdiv (wW .i64 (↑(UInt8.toNat (List.getD a0 (12 : Nat) (0 : UInt8))) : Int)) (16 : Int)) * (4 : Int)) /\ wW .i64 (wW .i64 (Int.tdiv (wW .i64 (↑(UInt8.toNat (List.getD a0 (12 : Nat) (0 : UInt8))) : Int)) (16 : Int)) * (4 : Int)) <= (↑(a0.length) : Int))) (
 .opt ((tcParse_fn (List.drop (20 : Nat) (List.take (Int.toNat (wW .i64 (wW .i64 (Int.tdiv (wW .i64 (↑(UInt8.toNat (List.getD a0 (12 : Nat) (0 : UInt8))) : Int)) (16 : Int)) * (4 : Int)))) a0), ()))) (fun r0 =>
 .ite (!r0.2.1) (
 .ret ((0 : Int), ((0 : Int), ((0 : Int), ((0 : Int), ((0 : Int), ((0 : Int), ((0 : Int), ([], ([], ((4 : Int), ()))))))))))) (
 .opt ((dgUnder_fn (a1, (a2, ((6 : Int), ((↑(a0.length) : Int), ())))))) (fun r1 =>
 .grd (decide (List.length r1.1 + a0.length <= (9223372036854775807 : Nat))) (
 .opt ((sumRight_fn (r1.1 ++ a0, ()))) (fun r2 =>
 .ite (!r2.1) (
 .ret ((0 : Int), ((0 : Int), ((0 : Int), ((0 : Int), ((0 : Int), ((0 : Int), ((0 : Int), ([], ([], ((5 : Int), ()))))))))))) (
 .opt ((tcWordAt_fn (a0, ((0 : Int), ())))) (fun r3 =>
 .opt ((tcWordAt_fn (a0, ((2 : Int), ())))) (fun r4 =>
 .opt ((tcLongAt_fn (a0, ((4 : Int), ())))) (fun r5 =>
 .opt ((tcLongAt_fn (a0, ((8 : Int), ())))) (fun r6 =>
 .grd (decide ((0 : Int) <= (13 : Int) /\ (13 : Int) < (↑(a0.length) : Int))) (
 .opt ((tcWordAt_fn (a0, ((14 : Int), ())))) (fun r7 =>
 .opt ((tcWordAt_fn (a0, ((18 : Int), ())))) (fun r8 =>
 .grd (decide ((0 : Int) <= wW .i64 (wW .i64 (Int.tdiv (wW .i64 (↑(UInt8.toNat (List.getD a0 (12 : Nat) (0 : UInt8))) : Int)) (16 : Int)) * (4 : Int)) /\ wW .i64 (wW .i64 (Int.tdiv (wW .i64 (↑(UInt8.toNat (List.getD a0 (12 : Nat) (0 : UInt8))) : Int)) (16 : Int)) * (4 : Int)) <= (↑(a0.length) : Int) /\ (↑(a0.length) : Int) <= (↑(a0.length) : Int))) (
 .ret (r3.1, (r4.1, (r5.1, (r6.1, (wW .i64 (↑(UInt8.toNat (List.getD a0 (13 : Nat) (0 : UInt8))) : Int), (r7.1, (r8.1, (r0.1, (List.drop (Int.toNat (wW .i64 (wW .i64 (Int.tdiv (wW .i64 (↑(UInt8.toNat (List.getD a0 (12 : Nat) (0 : UInt8))) : Int)) (16 : Int)) * (4 : Int)))) (List.take (Int.toNat (↑(a0.length) : Int)) a0), ((0 : Int), ()))))))))))))))))))))))))))))))))))
noncomputable def gm18 : List (PF Go.Proofs.Tryd.prog) := [FS.pf sumFold, FS.pf sumAdd, FS.pf sumOf, FS.pf sumRight, FS.pf sumFix, FS.pf dgWord, FS.pf dgLong, FS.pf dgWordAt, FS.pf dgUnder, FS.pf dgPort, FS.pf dgWrite, FS.pf dgRead, FS.pf tcWordAt, FS.pf tcLongAt, FS.pf tcParse]
theorem tcRead_eq (x : ((List UInt8) × (Int × (Int × Unit)))) : fnTr Tryd.prog cod gm18 [] 30 25 tcRead_ap tcRead_rp x = tcRead_tree x := by kernel_rfl
def tcRead_fn (x : ((List UInt8) × (Int × (Int × Unit)))) : Option ty2_ := (tcRead_tree x).eval
def tcRead : FS Tryd.prog := ⟨25, tcRead_ap, tcRead_rp, tcRead_fn, fun x r h => fnTr_sound (cod := cod) (Γ := gm18) (Λs := []) (n := 30) ((congrArg Tr.eval (tcRead_eq x)).trans h)⟩
def swEnds_ap : List VP1 := [.one (.s)]
def swEnds_rp : SP := ⟨1, [(0, .tup [.agg [.i .u32, .i .u32, .i .i64, .i .i64, .i .i64], .one (.i .i64)])], []⟩
def swEnds_tree : ((List UInt8) × Unit) -> Tr (Int × (Int × (Int × (Int × (Int × (Int × Unit)))))) :=
 fun (a0, _) =>
 .opt ((ipRead_fn (a0, ()))) (fun r0 =>
 .ite (!decide (r0.2.2.2.2.2.2.2.2.2.2.2.1 = (0 : Int))) (
 .ret ((0 : Int), ((0 : Int), ((0 : Int), ((0 : Int), ((0 : Int), (r0.2.2.2.2.2.2.2.2.2.2.2.1, ()))))))) (
 .ite (!decide (r0.2.2.2.2.2.2.1 = (6 : Int))) (
 .ite (!decide (r0.2.2.2.2.2.2.1 = (17 : Int))) (
 .ret ((0 : Int), ((0 : Int), ((0 : Int), ((0 : Int), ((0 : Int), ((7 : Int), ()))))))) (
 .ite (r0.2.2.2.1) (
 .ret ((0 : Int), ((0 : Int), ((0 : Int), ((0 : Int), ((0 : Int), ((9 : Int), ()))))))) (
 .ite (!decide (r0.2.2.2.2.1 = (0 : Int))) (
 .ret ((0 : Int), ((0 : Int), ((0 : Int), ((0 : Int), ((0 : Int), ((9 : Int), ()))))))) (
 .ite (decide (r0.2.2.2.2.2.2.1 = (6 : Int))) (
 .opt ((tcRead_fn (r0.2.2.2.2.2.2.2.2.2.2.1, (r0.2.2.2.2.2.2.2.1, (r0.2.2.2.2.2.2.2.2.1, ()))))) (fun r1 =>
 .ite (!decide (r1.2.2.2.2.2.2.2.2.2.1 = (0 : Int))) (
 .ret ((0 : Int), ((0 : Int), ((0 : Int), ((0 : Int), ((0 : Int), (r1.2.2.2.2.2.2.2.2.2.1, ()))))))) (
 .ret (r0.2.2.2.2.2.2.2.1, (r0.2.2.2.2.2.2.2.2.1, (r0.2.2.2.2.2.2.1, (r1.1, (r1.2.1, ((0 : Int), ()))))))))) (
 .opt ((dgRead_fn (r0.2.2.2.2.2.2.2.2.2.2.1, (r0.2.2.2.2.2.2.2.1, (r0.2.2.2.2.2.2.2.2.1, ()))))) (fun r1 =>
 .ite (!decide (r1.2.2.2.1 = (0 : Int))) (
 .ret ((0 : Int), ((0 : Int), ((0 : Int), ((0 : Int), ((0 : Int), (r1.2.2.2.1, ()))))))) (
 .ret (r0.2.2.2.2.2.2.2.1, (r0.2.2.2.2.2.2.2.2.1, (r0.2.2.2.2.2.2.1, (r1.1, (r1.2.1, ((0 : Int), ()))))))))))))) (
 .ite (r0.2.2.2.1) (
 .ret ((0 : Int), ((0 : Int), ((0 : Int), ((0 : Int), ((0 : Int), ((9 : Int), ()))))))) (
 .ite (!decide (r0.2.2.2.2.1 = (0 : Int))) (
 .ret ((0 : Int), ((0 : Int), ((0 : Int), ((0 : Int), ((0 : Int), ((9 : Int), ()))))))) (
 .ite (decide (r0.2.2.2.2.2.2.1 = (6 : Int))) (
 .opt ((tcRead_fn (r0.2.2.2.2.2.2.2.2.2.2.1, (r0.2.2.2.2.2.2.2.1, (r0.2.2.2.2.2.2.2.2.1, ()))))) (fun r1 =>
 .ite (!decide (r1.2.2.2.2.2.2.2.2.2.1 = (0 : Int))) (
 .ret ((0 : Int), ((0 : Int), ((0 : Int), ((0 : Int), ((0 : Int), (r1.2.2.2.2.2.2.2.2.2.1, ()))))))) (
 .ret (r0.2.2.2.2.2.2.2.1, (r0.2.2.2.2.2.2.2.2.1, (r0.2.2.2.2.2.2.1, (r1.1, (r1.2.1, ((0 : Int), ()))))))))) (
 .opt ((dgRead_fn (r0.2.2.2.2.2.2.2.2.2.2.1, (r0.2.2.2.2.2.2.2.1, (r0.2.2.2.2.2.2.2.2.1, ()))))) (fun r1 =>
 .ite (!decide (r1.2.2.2.1 = (0 : Int))) (
 .ret ((0 : Int), ((0 : Int), ((0 : Int), ((0 : Int), ((0 : Int), (r1.2.2.2.1, ()))))))) (
 .ret (r0.2.2.2.2.2.2.2.1, (r0.2.2.2.2.2.2.2.2.1, (r0.2.2.2.2.2.2.1, (r1.1, (r1.2.1, ((0 : Int), ()))))))))))))))
noncomputable def gm19 : List (PF Go.Proofs.Tryd.prog) := [FS.pf sumFold, FS.pf sumAdd, FS.pf sumOf, FS.pf sumRight, FS.pf sumFix, FS.pf dgWord, FS.pf dgLong, FS.pf dgWordAt, FS.pf dgUnder, FS.pf dgPort, FS.pf dgWrite, FS.pf dgRead, FS.pf ipWordAt, FS.pf ipLongAt, FS.pf ipByt, FS.pf ipRefused, FS.pf ipWord, FS.pf ipLong, FS.pf ipWrite, FS.pf ipRead, FS.pf ipHop, FS.pf tcWordAt, FS.pf tcLongAt, FS.pf tcParse, FS.pf tcRead]
theorem swEnds_eq (x : ((List UInt8) × Unit)) : fnTr Tryd.prog cod gm19 [] 30 9 swEnds_ap swEnds_rp x = swEnds_tree x := by kernel_rfl
def swEnds_fn (x : ((List UInt8) × Unit)) : Option (Int × (Int × (Int × (Int × (Int × (Int × Unit)))))) := (swEnds_tree x).eval
def swEnds : FS Tryd.prog := ⟨9, swEnds_ap, swEnds_rp, swEnds_fn, fun x r h => fnTr_sound (cod := cod) (Γ := gm19) (Λs := []) (n := 30) ((congrArg Tr.eval (swEnds_eq x)).trans h)⟩
def swWord_ap : List VP1 := [.one (.st 2 false), .one (.i .i64)]
def swWord_rp : SP := ⟨1, [(0, .v (.one (.i .u16)))], []⟩
def swWord_tree : ((List UInt8) × (Int × Unit)) -> Tr (Int × Unit) :=
 fun (a0, a1, _) =>
 .grd (decide ((0 : Int) <= a1)) (
 .opt (a0[Int.toNat a1]?) (fun r0 =>
 .grd (true) (
 .grd (decide ((0 : Int) <= wW .i64 (a1 + (1 : Int)))) (
 .opt (a0[Int.toNat (wW .i64 (a1 + (1 : Int)))]?) (fun r1 =>
 .ret (bits .or .u16 (wW .u16 (wW .u16 (↑(UInt8.toNat r0) : Int) * (2 : Int) ^ (8 : Nat))) (wW .u16 (↑(UInt8.toNat r1) : Int)), ()))))))
noncomputable def gm20 : List (PF Go.Proofs.Tryd.prog) := [FS.pf sumFold, FS.pf sumAdd, FS.pf sumOf, FS.pf sumRight, FS.pf sumFix, FS.pf dgWord, FS.pf dgLong, FS.pf dgWordAt, FS.pf dgUnder, FS.pf dgPort, FS.pf dgWrite, FS.pf dgRead, FS.pf ipWordAt, FS.pf ipLongAt, FS.pf ipByt, FS.pf ipRefused, FS.pf ipWord, FS.pf ipLong, FS.pf ipWrite, FS.pf ipRead, FS.pf ipHop, FS.pf tcWordAt, FS.pf tcLongAt, FS.pf tcParse, FS.pf tcRead, FS.pf swEnds]
theorem swWord_eq (x : ((List UInt8) × (Int × Unit))) : fnTr Tryd.prog cod gm20 [] 30 105 swWord_ap swWord_rp x = swWord_tree x := by kernel_rfl
def swWord_fn (x : ((List UInt8) × (Int × Unit))) : Option (Int × Unit) := (swWord_tree x).eval
def swWord : FS Tryd.prog := ⟨105, swWord_ap, swWord_rp, swWord_fn, fun x r h => fnTr_sound (cod := cod) (Γ := gm20) (Λs := []) (n := 30) ((congrArg Tr.eval (swWord_eq x)).trans h)⟩
def swPut_ap : SP := ⟨18, [(0, .v (.one (.pre 1500100 1))), (1, .v (.one (.i .i64))), (2, .v (.one (.i .u16)))], [(1500100, .row 5 2 false true)]⟩
def swPut_rp : SP := ⟨1, [(0, .tup [])], [(1500100, .row 5 2 false true)]⟩
def swPut_tree : (Nat × (Int × (Int × ((List UInt8) × Unit)))) -> Tr ((List UInt8) × Unit) :=
 fun (a0, a1, a2, a3, _) =>
 .grd (true) (
 .grd (decide ((0 : Int) <= a1 /\ a1 < (↑a0 : Int))) (
 .opt (a3[(0 : Nat) + Int.toNat a1]?) (fun r0 =>
 .grd (decide ((0 : Int) <= wW .u8 (Int.fdiv a2 ((2 : Int) ^ (8 : Nat))) /\ wW .u8 (Int.fdiv a2 ((2 : Int) ^ (8 : Nat))) < (256 : Int))) (
 .grd (decide ((0 : Int) <= wW .i64 (a1 + (1 : Int)) /\ wW .i64 (a1 + (1 : Int)) < (↑a0 : Int))) (
 .opt ((List.set a3 ((0 : Nat) + Int.toNat a1) (UInt8.ofNat (Int.toNat (wW .u8 (Int.fdiv a2 ((2 : Int) ^ (8 : Nat)))))))[(0 : Nat) + Int.toNat (wW .i64 (a1 + (1 : Int)))]?) (fun r1 =>
 .grd (decide ((0 : Int) <= wW .u8 a2 /\ wW .u8 a2 < (256 : Int))) (
 .ret (List.set (List.set a3 ((0 : Nat) + Int.toNat a1) (UInt8.ofNat (Int.toNat (wW .u8 (Int.fdiv a2 ((2 : Int) ^ (8 : Nat))))))) ((0 : Nat) + Int.toNat (wW .i64 (a1 + (1 : Int)))) (UInt8.ofNat (Int.toNat (wW .u8 a2))), ()))))))))
noncomputable def gm21 : List (PF Go.Proofs.Tryd.prog) := [FS.pf sumFold, FS.pf sumAdd, FS.pf sumOf, FS.pf sumRight, FS.pf sumFix, FS.pf dgWord, FS.pf dgLong, FS.pf dgWordAt, FS.pf dgUnder, FS.pf dgPort, FS.pf dgWrite, FS.pf dgRead, FS.pf ipWordAt, FS.pf ipLongAt, FS.pf ipByt, FS.pf ipRefused, FS.pf ipWord, FS.pf ipLong, FS.pf ipWrite, FS.pf ipRead, FS.pf ipHop, FS.pf tcWordAt, FS.pf tcLongAt, FS.pf tcParse, FS.pf tcRead, FS.pf swEnds, FS.pf swWord]
theorem swPut_eq (x : (Nat × (Int × (Int × ((List UInt8) × Unit))))) : gsTr Tryd.prog cod gm21 [] 30 107 swPut_ap swPut_rp x = swPut_tree x := by kernel_rfl
def swPut_fn (x : (Nat × (Int × (Int × ((List UInt8) × Unit))))) : Option ((List UInt8) × Unit) := (swPut_tree x).eval
def swPut : GS Tryd.prog := ⟨107, [2, 0, 0], swPut_ap, swPut_rp, swPut_fn, fun x r h ys m g he hg => gs_sound (cod := cod) (Γ := gm21) (Λs := []) (n := 30) ((congrArg Tr.eval (swPut_eq x)).trans h) he hg⟩
def swChange_L106_3 : LS := ⟨3, [(1500100, 1500100)], ⟨34, [(20, .v (.one (.i .i64))), (2, .v (.one (.i .u16))), (8, .v (.one (.i .u16))), (0, .v (.one (.pre 1500100 1))), (18, .v (.one (.st 0 false))), (19, .v (.one (.i .i64)))], [(1500100, .row 5 2 false true)]⟩, [⟨some 0, [(1500100, 1500100)], ⟨34, [], [(1500100, .row 5 2 false true)]⟩⟩], []⟩
def swChange_step106_3 : (Int × (Int × (Int × (Nat × ((List Int) × (Int × ((List UInt8) × Unit))))))) -> Tr ((Int × (Int × (Int × (Nat × ((List Int) × (Int × ((List UInt8) × Unit))))))) ⊕ ((List UInt8) × Unit)) :=
 fun (a0, a1, a2, a3, a4, a5, a6, _) =>
 .ite (decide (a0 < a5)) (
 .grd (decide ((0 : Int) <= a0)) (
 .opt (a4[Int.toNat a0]?) (fun r0 =>
 .opt ((swWord_fn (List.take a3 a6, (r0, ())))) (fun r1 =>
 .opt ((sumFix_fn (r1.1, (a2, (a1, ()))))) (fun r2 =>
 .opt ((swPut_fn (a3, (r0, (r2.1, (a6, ())))))) (fun r3 =>
 .ret (Sum.inl (wW .i64 (a0 + (1 : Int)), (a1, (a2, (a3, (a4, (a5, (r3.1, ())))))))))))))) (
 .ret (Sum.inr (a6, ())))
def swChange_loop106_3 (x : (Int × (Int × (Int × (Nat × ((List Int) × (Int × ((List UInt8) × Unit)))))))) : Option ((List UInt8) × Unit) := loopO 1060003 (fun x => (swChange_step106_3 x).eval) 18446744073709551616 x
def swChange_ap : SP := ⟨34, [(0, .v (.one (.pre 1500100 1))), (1, .v (.one (.i .i64))), (2, .v (.one (.i .u16))), (3, .v (.one (.st 0 false)))], [(1500100, .row 5 2 false true)]⟩
def swChange_rp : SP := ⟨1, [(0, .tup [])], [(1500100, .row 5 2 false true)]⟩
def swChange_tree : (Nat × (Int × (Int × ((List Int) × ((List UInt8) × Unit))))) -> Tr ((List UInt8) × Unit) :=
 fun (a0, a1, a2, a3, a4, _) =>
 .opt ((swWord_fn (List.take a0 a4, (a1, ())))) (fun r0 =>
 .opt ((swPut_fn (a0, (a1, (a2, (a4, ())))))) (fun r1 =>
 .opt ((swChange_loop106_3 ((0 : Int), (a2, (r0.1, (a0, (a3, ((↑(a3.length) : Int), (r1.1, ()))))))))) (fun r2 =>
 .ret (r2.1, ()))))
noncomputable def gm22 : List (PF Go.Proofs.Tryd.prog) := [FS.pf sumFold, FS.pf sumAdd, FS.pf sumOf, FS.pf sumRight, FS.pf sumFix, FS.pf dgWord, FS.pf dgLong, FS.pf dgWordAt, FS.pf dgUnder, FS.pf dgPort, FS.pf dgWrite, FS.pf dgRead, FS.pf ipWordAt, FS.pf ipLongAt, FS.pf ipByt, FS.pf ipRefused, FS.pf ipWord, FS.pf ipLong, FS.pf ipWrite, FS.pf ipRead, FS.pf ipHop, FS.pf tcWordAt, FS.pf tcLongAt, FS.pf tcParse, FS.pf tcRead, FS.pf swEnds, FS.pf swWord, GS.pf swPut]
theorem swChange_eq (x : (Nat × (Int × (Int × ((List Int) × ((List UInt8) × Unit)))))) : gsTr Tryd.prog cod gm22 [(106, swChange_L106_3)] 30 106 swChange_ap swChange_rp x = swChange_tree x := by kernel_rfl
def swChange_fn (x : (Nat × (Int × (Int × ((List Int) × ((List UInt8) × Unit)))))) : Option ((List UInt8) × Unit) := (swChange_tree x).eval
def swChange : GS Tryd.prog := ⟨106, [2, 0, 0, 0], swChange_ap, swChange_rp, swChange_fn, fun x r h ys m g he hg => gs_sound (cod := cod) (Γ := gm22) (Λs := [(106, swChange_L106_3)]) (n := 30) ((congrArg Tr.eval (swChange_eq x)).trans h) he hg⟩
def swSwapped_ap : List VP1 := [.one (.s), .one (.i .u32), .one (.i .i64), .one (.i .i64), .one (.i .i64)]
def swSwapped_rp : SP := ⟨1, [(0, .tup [.one (.s), .one (.i .i64)])], []⟩
def swSwapped_tree : ((List UInt8) × (Int × (Int × (Int × (Int × Unit))))) -> Tr ((List UInt8) × (Int × Unit)) :=
 fun (a0, a1, a2, a3, a4, _) =>
 .opt ((swEnds_fn (a0, ()))) (fun r0 =>
 .ite (!decide (r0.2.2.2.2.2.1 = (0 : Int))) (
 .ret ([], (r0.2.2.2.2.2.1, ()))) (
 .ite (decide (a2 < (0 : Int))) (
 .ret ([], ((1 : Int), ()))) (
 .ite (decide ((65535 : Int) < a2)) (
 .ret ([], ((1 : Int), ()))) (
 .grd (decide (a0.length <= (9223372036854775807 : Nat))) (
 .opt ((swWord_fn (a0, ((2 : Int), ())))) (fun r1 =>
 .grd (decide ((0 : Int) <= r1.1 /\ r1.1 <= (↑(a0.length) : Int))) (
 .grd (decide ((0 : Int) <= (0 : Int) /\ (0 : Int) < (↑(Int.toNat r1.1) : Int))) (
 .opt (a0[(0 : Nat) + (0 : Nat)]?) (fun r2 =>
 .ite (decide (r0.2.2.1 = (17 : Int))) (
 .ite (decide (r0.2.2.1 = (17 : Int))) (
 .opt ((swWord_fn (List.take (Int.toNat r1.1) a0, (wW .i64 (wW .i64 (wW .i64 (bits .and .u8 (↑(UInt8.toNat r2) : Int) (15 : Int)) * (4 : Int)) + (6 : Int)), ())))) (fun r3 =>
 .ite (decide (r3.1 = (0 : Int))) (
 .grd (true) (
 .grd (true) (
 .opt ((swChange_fn (Int.toNat r1.1, (a3, (wW .u16 (Int.fdiv a1 ((2 : Int) ^ (16 : Nat))), (List.take (1 : Nat) [(10 : Int), wW .i64 (wW .i64 (wW .i64 (bits .and .u8 (↑(UInt8.toNat r2) : Int) (15 : Int)) * (4 : Int)) + (6 : Int))], (a0, ()))))))) (fun r4 =>
 .opt ((swChange_fn (Int.toNat r1.1, (wW .i64 (a3 + (2 : Int)), (wW .u16 a1, (List.take (1 : Nat) [(10 : Int), wW .i64 (wW .i64 (wW .i64 (bits .and .u8 (↑(UInt8.toNat r2) : Int) (15 : Int)) * (4 : Int)) + (6 : Int))], (r4.1, ()))))))) (fun r5 =>
 .grd (decide ((0 : Int) <= (1 : Int) /\ (1 : Int) <= (↑(1 : Nat) : Int) /\ (↑(1 : Nat) : Int) <= (↑(List.length [(10 : Int), wW .i64 (wW .i64 (wW .i64 (bits .and .u8 (↑(UInt8.toNat r2) : Int) (15 : Int)) * (4 : Int)) + (6 : Int))]) : Int))) (
 .opt ((swChange_fn (Int.toNat r1.1, (wW .i64 (wW .i64 (wW .i64 (bits .and .u8 (↑(UInt8.toNat r2) : Int) (15 : Int)) * (4 : Int)) + a4), (wW .u16 a2, (List.take (0 : Nat) (List.drop (1 : Nat) [(10 : Int), wW .i64 (wW .i64 (wW .i64 (bits .and .u8 (↑(UInt8.toNat r2) : Int) (15 : Int)) * (4 : Int)) + (6 : Int))]), (r5.1, ()))))))) (fun r6 =>
 .ite (decide (r0.2.2.1 = (17 : Int))) (
 .ite (!decide (r3.1 = (0 : Int))) (
 .opt ((swWord_fn (List.take (Int.toNat r1.1) r6.1, (wW .i64 (wW .i64 (wW .i64 (bits .and .u8 (↑(UInt8.toNat r2) : Int) (15 : Int)) * (4 : Int)) + (6 : Int)), ())))) (fun r7 =>
 .ite (decide (r7.1 = (0 : Int))) (
 .opt ((swPut_fn (Int.toNat r1.1, (wW .i64 (wW .i64 (wW .i64 (bits .and .u8 (↑(UInt8.toNat r2) : Int) (15 : Int)) * (4 : Int)) + (6 : Int)), ((65535 : Int), (r6.1, ())))))) (fun r8 =>
 .ret (List.take (Int.toNat r1.1) r8.1, ((0 : Int), ())))) (
 .ret (List.take (Int.toNat r1.1) r6.1, ((0 : Int), ()))))) (
 .ret (List.take (Int.toNat r1.1) r6.1, ((0 : Int), ())))) (
 .ret (List.take (Int.toNat r1.1) r6.1, ((0 : Int), ())))))))))) (
 .grd (true) (
 .opt ((swChange_fn (Int.toNat r1.1, (a3, (wW .u16 (Int.fdiv a1 ((2 : Int) ^ (16 : Nat))), ([(10 : Int), wW .i64 (wW .i64 (wW .i64 (bits .and .u8 (↑(UInt8.toNat r2) : Int) (15 : Int)) * (4 : Int)) + (6 : Int))], (a0, ()))))))) (fun r4 =>
 .opt ((swChange_fn (Int.toNat r1.1, (wW .i64 (a3 + (2 : Int)), (wW .u16 a1, ([(10 : Int), wW .i64 (wW .i64 (wW .i64 (bits .and .u8 (↑(UInt8.toNat r2) : Int) (15 : Int)) * (4 : Int)) + (6 : Int))], (r4.1, ()))))))) (fun r5 =>
 .grd (true) (
 .opt ((swChange_fn (Int.toNat r1.1, (wW .i64 (wW .i64 (wW .i64 (bits .and .u8 (↑(UInt8.toNat r2) : Int) (15 : Int)) * (4 : Int)) + a4), (wW .u16 a2, (List.take (1 : Nat) (List.drop (1 : Nat) [(10 : Int), wW .i64 (wW .i64 (wW .i64 (bits .and .u8 (↑(UInt8.toNat r2) : Int) (15 : Int)) * (4 : Int)) + (6 : Int))]), (r5.1, ()))))))) (fun r6 =>
 .ite (decide (r0.2.2.1 = (17 : Int))) (
 .ite (!decide (r3.1 = (0 : Int))) (
 .opt ((swWord_fn (List.take (Int.toNat r1.1) r6.1, (wW .i64 (wW .i64 (wW .i64 (bits .and .u8 (↑(UInt8.toNat r2) : Int) (15 : Int)) * (4 : Int)) + (6 : Int)), ())))) (fun r7 =>
 .ite (decide (r7.1 = (0 : Int))) (
 .opt ((swPut_fn (Int.toNat r1.1, (wW .i64 (wW .i64 (wW .i64 (bits .and .u8 (↑(UInt8.toNat r2) : Int) (15 : Int)) * (4 : Int)) + (6 : Int)), ((65535 : Int), (r6.1, ())))))) (fun r8 =>
 .ret (List.take (Int.toNat r1.1) r8.1, ((0 : Int), ())))) (
 .ret (List.take (Int.toNat r1.1) r6.1, ((0 : Int), ()))))) (
 .ret (List.take (Int.toNat r1.1) r6.1, ((0 : Int), ())))) (
 .ret (List.take (Int.toNat r1.1) r6.1, ((0 : Int), ()))))))))))) (
 .grd (true) (
 .opt ((swChange_fn (Int.toNat r1.1, (a3, (wW .u16 (Int.fdiv a1 ((2 : Int) ^ (16 : Nat))), ([(10 : Int), wW .i64 (wW .i64 (wW .i64 (bits .and .u8 (↑(UInt8.toNat r2) : Int) (15 : Int)) * (4 : Int)) + (6 : Int))], (a0, ()))))))) (fun r3 =>
 .opt ((swChange_fn (Int.toNat r1.1, (wW .i64 (a3 + (2 : Int)), (wW .u16 a1, ([(10 : Int), wW .i64 (wW .i64 (wW .i64 (bits .and .u8 (↑(UInt8.toNat r2) : Int) (15 : Int)) * (4 : Int)) + (6 : Int))], (r3.1, ()))))))) (fun r4 =>
 .grd (true) (
 .opt ((swChange_fn (Int.toNat r1.1, (wW .i64 (wW .i64 (wW .i64 (bits .and .u8 (↑(UInt8.toNat r2) : Int) (15 : Int)) * (4 : Int)) + a4), (wW .u16 a2, (List.take (1 : Nat) (List.drop (1 : Nat) [(10 : Int), wW .i64 (wW .i64 (wW .i64 (bits .and .u8 (↑(UInt8.toNat r2) : Int) (15 : Int)) * (4 : Int)) + (6 : Int))]), (r4.1, ()))))))) (fun r5 =>
 .ite (decide (r0.2.2.1 = (17 : Int))) (
 .ite (true) (
 .opt ((swWord_fn (List.take (Int.toNat r1.1) r5.1, (wW .i64 (wW .i64 (wW .i64 (bits .and .u8 (↑(UInt8.toNat r2) : Int) (15 : Int)) * (4 : Int)) + (6 : Int)), ())))) (fun r6 =>
 .ite (decide (r6.1 = (0 : Int))) (
 .opt ((swPut_fn (Int.toNat r1.1, (wW .i64 (wW .i64 (wW .i64 (bits .and .u8 (↑(UInt8.toNat r2) : Int) (15 : Int)) * (4 : Int)) + (6 : Int)), ((65535 : Int), (r5.1, ())))))) (fun r7 =>
 .ret (List.take (Int.toNat r1.1) r7.1, ((0 : Int), ())))) (
 .ret (List.take (Int.toNat r1.1) r5.1, ((0 : Int), ()))))) (
 .ret (List.take (Int.toNat r1.1) r5.1, ((0 : Int), ())))) (
 .ret (List.take (Int.toNat r1.1) r5.1, ((0 : Int), ())))))))))) (
 .ite (decide (r0.2.2.1 = (17 : Int))) (
 .opt ((swWord_fn (List.take (Int.toNat r1.1) a0, (wW .i64 (wW .i64 (wW .i64 (bits .and .u8 (↑(UInt8.toNat r2) : Int) (15 : Int)) * (4 : Int)) + (16 : Int)), ())))) (fun r3 =>
 .ite (decide (r3.1 = (0 : Int))) (
 .grd (true) (
 .grd (true) (
 .opt ((swChange_fn (Int.toNat r1.1, (a3, (wW .u16 (Int.fdiv a1 ((2 : Int) ^ (16 : Nat))), (List.take (1 : Nat) [(10 : Int), wW .i64 (wW .i64 (wW .i64 (bits .and .u8 (↑(UInt8.toNat r2) : Int) (15 : Int)) * (4 : Int)) + (16 : Int))], (a0, ()))))))) (fun r4 =>
 .opt ((swChange_fn (Int.toNat r1.1, (wW .i64 (a3 + (2 : Int)), (wW .u16 a1, (List.take (1 : Nat) [(10 : Int), wW .i64 (wW .i64 (wW .i64 (bits .and .u8 (↑(UInt8.toNat r2) : Int) (15 : Int)) * (4 : Int)) + (16 : Int))], (r4.1, ()))))))) (fun r5 =>
 .grd (decide ((0 : Int) <= (1 : Int) /\ (1 : Int) <= (↑(1 : Nat) : Int) /\ (↑(1 : Nat) : Int) <= (↑(List.length [(10 : Int), wW .i64 (wW .i64 (wW .i64 (bits .and .u8 (↑(UInt8.toNat r2) : Int) (15 : Int)) * (4 : Int)) + (16 : Int))]) : Int))) (
 .opt ((swChange_fn (Int.toNat r1.1, (wW .i64 (wW .i64 (wW .i64 (bits .and .u8 (↑(UInt8.toNat r2) : Int) (15 : Int)) * (4 : Int)) + a4), (wW .u16 a2, (List.take (0 : Nat) (List.drop (1 : Nat) [(10 : Int), wW .i64 (wW .i64 (wW .i64 (bits .and .u8 (↑(UInt8.toNat r2) : Int) (15 : Int)) * (4 : Int)) + (16 : Int))]), (r5.1, ()))))))) (fun r6 =>
 .ite (decide (r0.2.2.1 = (17 : Int))) (
 .ite (!decide (r3.1 = (0 : Int))) (
 .opt ((swWord_fn (List.take (Int.toNat r1.1) r6.1, (wW .i64 (wW .i64 (wW .i64 (bits .and .u8 (↑(UInt8.toNat r2) : Int) (15 : Int)) * (4 : Int)) + (16 : Int)), ())))) (fun r7 =>
 .ite (decide (r7.1 = (0 : Int))) (
 .opt ((swPut_fn (Int.toNat r1.1, (wW .i64 (wW .i64 (wW .i64 (bits .and .u8 (↑(UInt8.toNat r2) : Int) (15 : Int)) * (4 : Int)) + (16 : Int)), ((65535 : Int), (r6.1, ())))))) (fun r8 =>
 .ret (List.take (Int.toNat r1.1) r8.1, ((0 : Int), ())))) (
 .ret (List.take (Int.toNat r1.1) r6.1, ((0 : Int), ()))))) (
 .ret (List.take (Int.toNat r1.1) r6.1, ((0 : Int), ())))) (
 .ret (List.take (Int.toNat r1.1) r6.1, ((0 : Int), ())))))))))) (
 .grd (true) (
 .opt ((swChange_fn (Int.toNat r1.1, (a3, (wW .u16 (Int.fdiv a1 ((2 : Int) ^ (16 : Nat))), ([(10 : Int), wW .i64 (wW .i64 (wW .i64 (bits .and .u8 (↑(UInt8.toNat r2) : Int) (15 : Int)) * (4 : Int)) + (16 : Int))], (a0, ()))))))) (fun r4 =>
 .opt ((swChange_fn (Int.toNat r1.1, (wW .i64 (a3 + (2 : Int)), (wW .u16 a1, ([(10 : Int), wW .i64 (wW .i64 (wW .i64 (bits .and .u8 (↑(UInt8.toNat r2) : Int) (15 : Int)) * (4 : Int)) + (16 : Int))], (r4.1, ()))))))) (fun r5 =>
 .grd (true) (
 .opt ((swChange_fn (Int.toNat r1.1, (wW .i64 (wW .i64 (wW .i64 (bits .and .u8 (↑(UInt8.toNat r2) : Int) (15 : Int)) * (4 : Int)) + a4), (wW .u16 a2, (List.take (1 : Nat) (List.drop (1 : Nat) [(10 : Int), wW .i64 (wW .i64 (wW .i64 (bits .and .u8 (↑(UInt8.toNat r2) : Int) (15 : Int)) * (4 : Int)) + (16 : Int))]), (r5.1, ()))))))) (fun r6 =>
 .ite (decide (r0.2.2.1 = (17 : Int))) (
 .ite (!decide (r3.1 = (0 : Int))) (
 .opt ((swWord_fn (List.take (Int.toNat r1.1) r6.1, (wW .i64 (wW .i64 (wW .i64 (bits .and .u8 (↑(UInt8.toNat r2) : Int) (15 : Int)) * (4 : Int)) + (16 : Int)), ())))) (fun r7 =>
 .ite (decide (r7.1 = (0 : Int))) (
 .opt ((swPut_fn (Int.toNat r1.1, (wW .i64 (wW .i64 (wW .i64 (bits .and .u8 (↑(UInt8.toNat r2) : Int) (15 : Int)) * (4 : Int)) + (16 : Int)), ((65535 : Int), (r6.1, ())))))) (fun r8 =>
 .ret (List.take (Int.toNat r1.1) r8.1, ((0 : Int), ())))) (
 .ret (List.take (Int.toNat r1.1) r6.1, ((0 : Int), ()))))) (
 .ret (List.take (Int.toNat r1.1) r6.1, ((0 : Int), ())))) (
 .ret (List.take (Int.toNat r1.1) r6.1, ((0 : Int), ()))))))))))) (
 .grd (true) (
 .opt ((swChange_fn (Int.toNat r1.1, (a3, (wW .u16 (Int.fdiv a1 ((2 : Int) ^ (16 : Nat))), ([(10 : Int), wW .i64 (wW .i64 (wW .i64 (bits .and .u8 (↑(UInt8.toNat r2) : Int) (15 : Int)) * (4 : Int)) + (16 : Int))], (a0, ()))))))) (fun r3 =>
 .opt ((swChange_fn (Int.toNat r1.1, (wW .i64 (a3 + (2 : Int)), (wW .u16 a1, ([(10 : Int), wW .i64 (wW .i64 (wW .i64 (bits .and .u8 (↑(UInt8.toNat r2) : Int) (15 : Int)) * (4 : Int)) + (16 : Int))], (r3.1, ()))))))) (fun r4 =>
 .grd (true) (
 .opt ((swChange_fn (Int.toNat r1.1, (wW .i64 (wW .i64 (wW .i64 (bits .and .u8 (↑(UInt8.toNat r2) : Int) (15 : Int)) * (4 : Int)) + a4), (wW .u16 a2, (List.take (1 : Nat) (List.drop (1 : Nat) [(10 : Int), wW .i64 (wW .i64 (wW .i64 (bits .and .u8 (↑(UInt8.toNat r2) : Int) (15 : Int)) * (4 : Int)) + (16 : Int))]), (r4.1, ()))))))) (fun r5 =>
 .ite (decide (r0.2.2.1 = (17 : Int))) (
 .ite (true) (
 .opt ((swWord_fn (List.take (Int.toNat r1.1) r5.1, (wW .i64 (wW .i64 (wW .i64 (bits .and .u8 (↑(UInt8.toNat r2) : Int) (15 : Int)) * (4 : Int)) + (16 : Int)), ())))) (fun r6 =>
 .ite (decide (r6.1 = (0 : Int))) (
 .opt ((swPut_fn (Int.toNat r1.1, (wW .i64 (wW .i64 (wW .i64 (bits .and .u8 (↑(UInt8.toNat r2) : Int) (15 : Int)) * (4 : Int)) + (16 : Int)), ((65535 : Int), (r5.1, ())))))) (fun r7 =>
 .ret (List.take (Int.toNat r1.1) r7.1, ((0 : Int), ())))) (
 .ret (List.take (Int.toNat r1.1) r5.1, ((0 : Int), ()))))) (
 .ret (List.take (Int.toNat r1.1) r5.1, ((0 : Int), ())))) (
 .ret (List.take (Int.toNat r1.1) r5.1, ((0 : Int), ())))))))))))))))))))
noncomputable def gm23 : List (PF Go.Proofs.Tryd.prog) := [FS.pf sumFold, FS.pf sumAdd, FS.pf sumOf, FS.pf sumRight, FS.pf sumFix, FS.pf dgWord, FS.pf dgLong, FS.pf dgWordAt, FS.pf dgUnder, FS.pf dgPort, FS.pf dgWrite, FS.pf dgRead, FS.pf ipWordAt, FS.pf ipLongAt, FS.pf ipByt, FS.pf ipRefused, FS.pf ipWord, FS.pf ipLong, FS.pf ipWrite, FS.pf ipRead, FS.pf ipHop, FS.pf tcWordAt, FS.pf tcLongAt, FS.pf tcParse, FS.pf tcRead, FS.pf swEnds, FS.pf swWord, GS.pf swPut, GS.pf swChange]
theorem swSwapped_eq (x : ((List UInt8) × (Int × (Int × (Int × (Int × Unit)))))) : fnTr Tryd.prog cod gm23 [] 30 95 swSwapped_ap swSwapped_rp x = swSwapped_tree x := by kernel_rfl
def swSwapped_fn (x : ((List UInt8) × (Int × (Int × (Int × (Int × Unit)))))) : Option ((List UInt8) × (Int × Unit)) := (swSwapped_tree x).eval
def swSwapped : FS Tryd.prog := ⟨95, swSwapped_ap, swSwapped_rp, swSwapped_fn, fun x r h => fnTr_sound (cod := cod) (Γ := gm23) (Λs := []) (n := 30) ((congrArg Tr.eval (swSwapped_eq x)).trans h)⟩
def swFrom_ap : List VP1 := [.one (.s), .one (.i .u32), .one (.i .i64)]
def swFrom_rp : SP := ⟨1, [(0, .tup [.one (.s), .one (.i .i64)])], []⟩
def swFrom_tree : ((List UInt8) × (Int × (Int × Unit))) -> Tr ((List UInt8) × (Int × Unit)) :=
 fun (a0, a1, a2, _) =>
 .opt ((swSwapped_fn (a0, (a1, (a2, ((12 : Int), ((0 : Int), ()))))))) (fun r0 =>
 .ret (r0.1, (r0.2.1, ())))
noncomputable def gm24 : List (PF Go.Proofs.Tryd.prog) := [FS.pf sumFold, FS.pf sumAdd, FS.pf sumOf, FS.pf sumRight, FS.pf sumFix, FS.pf dgWord, FS.pf dgLong, FS.pf dgWordAt, FS.pf dgUnder, FS.pf dgPort, FS.pf dgWrite, FS.pf dgRead, FS.pf ipWordAt, FS.pf ipLongAt, FS.pf ipByt, FS.pf ipRefused, FS.pf ipWord, FS.pf ipLong, FS.pf ipWrite, FS.pf ipRead, FS.pf ipHop, FS.pf tcWordAt, FS.pf tcLongAt, FS.pf tcParse, FS.pf tcRead, FS.pf swEnds, FS.pf swWord, GS.pf swPut, GS.pf swChange, FS.pf swSwapped]
theorem swFrom_eq (x : ((List UInt8) × (Int × (Int × Unit)))) : fnTr Tryd.prog cod gm24 [] 30 74 swFrom_ap swFrom_rp x = swFrom_tree x := by kernel_rfl
def swFrom_fn (x : ((List UInt8) × (Int × (Int × Unit)))) : Option ((List UInt8) × (Int × Unit)) := (swFrom_tree x).eval
def swFrom : FS Tryd.prog := ⟨74, swFrom_ap, swFrom_rp, swFrom_fn, fun x r h => fnTr_sound (cod := cod) (Γ := gm24) (Λs := []) (n := 30) ((congrArg Tr.eval (swFrom_eq x)).trans h)⟩
def swTo_ap : List VP1 := [.one (.s), .one (.i .u32), .one (.i .i64)]
def swTo_rp : SP := ⟨1, [(0, .tup [.one (.s), .one (.i .i64)])], []⟩
def swTo_tree : ((List UInt8) × (Int × (Int × Unit))) -> Tr ((List UInt8) × (Int × Unit)) :=
 fun (a0, a1, a2, _) =>
 .opt ((swSwapped_fn (a0, (a1, (a2, ((16 : Int), ((2 : Int), ()))))))) (fun r0 =>
 .ret (r0.1, (r0.2.1, ())))
noncomputable def gm25 : List (PF Go.Proofs.Tryd.prog) := [FS.pf sumFold, FS.pf sumAdd, FS.pf sumOf, FS.pf sumRight, FS.pf sumFix, FS.pf dgWord, FS.pf dgLong, FS.pf dgWordAt, FS.pf dgUnder, FS.pf dgPort, FS.pf dgWrite, FS.pf dgRead, FS.pf ipWordAt, FS.pf ipLongAt, FS.pf ipByt, FS.pf ipRefused, FS.pf ipWord, FS.pf ipLong, FS.pf ipWrite, FS.pf ipRead, FS.pf ipHop, FS.pf tcWordAt, FS.pf tcLongAt, FS.pf tcParse, FS.pf tcRead, FS.pf swEnds, FS.pf swWord, GS.pf swPut, GS.pf swChange, FS.pf swSwapped, FS.pf swFrom]
theorem swTo_eq (x : ((List UInt8) × (Int × (Int × Unit)))) : fnTr Tryd.prog cod gm25 [] 30 76 swTo_ap swTo_rp x = swTo_tree x := by kernel_rfl
def swTo_fn (x : ((List UInt8) × (Int × (Int × Unit)))) : Option ((List UInt8) × (Int × Unit)) := (swTo_tree x).eval
def swTo : FS Tryd.prog := ⟨76, swTo_ap, swTo_rp, swTo_fn, fun x r h => fnTr_sound (cod := cod) (Γ := gm25) (Λs := []) (n := 30) ((congrArg Tr.eval (swTo_eq x)).trans h)⟩
theorem clTalk_h1 (xs : List (τ 16)) : (bodyTr Go.Proofs.Tryd.prog cod 38 [.one (.nn (.st 16 xs))]).eval = (cloneRes 109 16 48 xs).eval := by kernel_rfl
theorem clTalk_h2 : (bodyTr Go.Proofs.Tryd.prog cod 38 [.one .nil]).eval = some (.one .nil, []) := by kernel_rfl
def clTalk : PF Go.Proofs.Tryd.prog := clonePF Go.Proofs.Tryd.prog cod 38 109 16 48 clTalk_h1 clTalk_h2
def delTalk_ap : SP := ⟨33, [(0, .v (.one (.own 1000100))), (1, .v (.one (.i .i64))), (2, .v (.one (.i .i64)))], [(1000100, .row 109 16 true true)]⟩
def delTalk_rp : SP := ⟨1, [(0, .v (.one (.own 1000100)))], [(1000100, .row 109 16 true true)]⟩
def delTalk_tree : (Int × (Int × ((List TTalk) × Unit))) -> Tr ((List TTalk) × Unit) :=
 fun (a0, a1, a2, _) =>
 .grd (decide ((0 : Int) <= a0 /\ a0 <= a1 /\ a1 <= (↑(a2.length) : Int) /\ (↑(a2.length) : Int) <= (↑(a2.length) : Int))) (
 .ite (decide (a0 = a1)) (
 .grd (decide (a2.length = a2.length)) (
 .ret (a2, ()))) (
 .grd (decide ((0 : Int) <= a0 /\ a0 <= (↑(a2.length) : Int))) (
 .grd (decide ((0 : Int) <= a1 /\ a1 <= (↑(a2.length) : Int) /\ (↑(a2.length) : Int) <= (↑(a2.length) : Int))) (
 .grd (decide (Int.toNat a1 + Int.toNat ((↑(a2.length) : Int) - a1) <= a2.length)) (
 .grd (decide (Int.toNat a0 + List.length (List.take (Int.toNat ((↑(a2.length) : Int) - a1)) (List.drop (Int.toNat a1) a2)) <= a2.length)) (
 .grd (decide ((0 : Int) <= (↑(Int.toNat a0 + List.length (List.take (Int.toNat ((↑(a2.length) : Int) - a1)) (List.drop (Int.toNat a1) a2))) : Int) /\ (↑(Int.toNat a0 + List.length (List.take (Int.toNat ((↑(a2.length) : Int) - a1)) (List.drop (Int.toNat a1) a2))) : Int) <= (↑(a2.length) : Int) /\ (↑(a2.length) : Int) <= (↑(List.length (List.take (Int.toNat a0) a2 ++ List.take (Int.toNat ((↑(a2.length) : Int) - a1)) (List.drop (Int.toNat a1) a2) ++ List.drop (Int.toNat a0 + List.length (List.take (Int.toNat ((↑(a2.length) : Int) - a1)) (List.drop (Int.toNat a1) a2))) a2)) : Int))) (
 .grd (decide (Int.toNat (↑(Int.toNat a0 + List.length (List.take (Int.toNat ((↑(a2.length) : Int) - a1)) (List.drop (Int.toNat a1) a2))) : Int) + Int.toNat ((↑(a2.length) : Int) - (↑(Int.toNat a0 + List.length (List.take (Int.toNat ((↑(a2.length) : Int) - a1)) (List.drop (Int.toNat a1) a2))) : Int)) <= List.length (List.take (Int.toNat a0) a2 ++ List.take (Int.toNat ((↑(a2.length) : Int) - a1)) (List.drop (Int.toNat a1) a2) ++ List.drop (Int.toNat a0 + List.length (List.take (Int.toNat ((↑(a2.length) : Int) - a1)) (List.drop (Int.toNat a1) a2))) a2))) (
 .grd (decide (Int.toNat a0 + List.length (List.take (Int.toNat ((↑(a2.length) : Int) - a1)) (List.drop (Int.toNat a1) a2)) = List.length (List.take (Int.toNat a0 + List.length (List.take (Int.toNat ((↑(a2.length) : Int) - a1)) (List.drop (Int.toNat a1) a2))) (List.take (Int.toNat (↑(Int.toNat a0 + List.length (List.take (Int.toNat ((↑(a2.length) : Int) - a1)) (List.drop (Int.toNat a1) a2))) : Int)) (List.take (Int.toNat a0) a2 ++ List.take (Int.toNat ((↑(a2.length) : Int) - a1)) (List.drop (Int.toNat a1) a2) ++ List.drop (Int.toNat a0 + List.length (List.take (Int.toNat ((↑(a2.length) : Int) - a1)) (List.drop (Int.toNat a1) a2))) a2) ++ List.replicate (Int.toNat ((↑(a2.length) : Int) - (↑(Int.toNat a0 + List.length (List.take (Int.toNat ((↑(a2.length) : Int) - a1)) (List.drop (Int.toNat a1) a2))) : Int))) (TTalk.mk (0 : Int) (0 : Int) (0 : Int) (0 : Int) (0 : Int) (0 : Int) (0 : Int)) ++ List.drop (Int.toNat (↑(Int.toNat a0 + List.length (List.take (Int.toNat ((↑(a2.length) : Int) - a1)) (List.drop (Int.toNat a1) a2))) : Int) + List.length (List.replicate (Int.toNat ((↑(a2.length) : Int) - (↑(Int.toNat a0 + List.length (List.take (Int.toNat ((↑(a2.length) : Int) - a1)) (List.drop (Int.toNat a1) a2))) : Int))) (TTalk.mk (0 : Int) (0 : Int) (0 : Int) (0 : Int) (0 : Int) (0 : Int) (0 : Int)))) (List.take (Int.toNat a0) a2 ++ List.take (Int.toNat ((↑(a2.length) : Int) - a1)) (List.drop (Int.toNat a1) a2) ++ List.drop (Int.toNat a0 + List.length (List.take (Int.toNat ((↑(a2.length) : Int) - a1)) (List.drop (Int.toNat a1) a2))) a2))))) (
 .ret (List.take (Int.toNat a0 + List.length (List.take (Int.toNat ((↑(a2.length) : Int) - a1)) (List.drop (Int.toNat a1) a2))) (List.take (Int.toNat (↑(Int.toNat a0 + List.length (List.take (Int.toNat ((↑(a2.length) : Int) - a1)) (List.drop (Int.toNat a1) a2))) : Int)) (List.take (Int.toNat a0) a2 ++ List.take (Int.toNat ((↑(a2.length) : Int) - a1)) (List.drop (Int.toNat a1) a2) ++ List.drop (Int.toNat a0 + List.length (List.take (Int.toNat ((↑(a2.length) : Int) - a1)) (List.drop (Int.toNat a1) a2))) a2) ++ List.replicate (Int.toNat ((↑(a2.length) : Int) - (↑(Int.toNat a0 + List.length (List.take (Int.toNat ((↑(a2.length) : Int) - a1)) (List.drop (Int.toNat a1) a2))) : Int))) (TTalk.mk (0 : Int) (0 : Int) (0 : Int) (0 : Int) (0 : Int) (0 : Int) (0 : Int)) ++ List.drop (Int.toNat (↑(Int.toNat a0 + List.length (List.take (Int.toNat ((↑(a2.length) : Int) - a1)) (List.drop (Int.toNat a1) a2))) : Int) + List.length (List.replicate (Int.toNat ((↑(a2.length) : Int) - (↑(Int.toNat a0 + List.length (List.take (Int.toNat ((↑(a2.length) : Int) - a1)) (List.drop (Int.toNat a1) a2))) : Int))) (TTalk.mk (0 : Int) (0 : Int) (0 : Int) (0 : Int) (0 : Int) (0 : Int) (0 : Int)))) (List.take (Int.toNat a0) a2 ++ List.take (Int.toNat ((↑(a2.length) : Int) - a1)) (List.drop (Int.toNat a1) a2) ++ List.drop (Int.toNat a0 + List.length (List.take (Int.toNat ((↑(a2.length) : Int) - a1)) (List.drop (Int.toNat a1) a2))) a2)), ()))))))))))
theorem delTalk_eq (x : (Int × (Int × ((List TTalk) × Unit)))) : gsTr Tryd.prog cod [clTalk] [] 30 103 delTalk_ap delTalk_rp x = delTalk_tree x := by kernel_rfl
def delTalk_fn (x : (Int × (Int × ((List TTalk) × Unit)))) : Option ((List TTalk) × Unit) := (delTalk_tree x).eval
def delTalk : GS Tryd.prog := ⟨103, [1, 0, 0], delTalk_ap, delTalk_rp, delTalk_fn, fun x r h ys m g he hg => gs_sound (cod := cod) (Γ := [clTalk]) (Λs := []) (n := 30) ((congrArg Tr.eval (delTalk_eq x)).trans h) he hg⟩
def trTurned_ap : List VP1 := [.agg [.i .u32, .i .u32, .i .i64, .i .i64]]
def trTurned_rp : SP := ⟨1, [(0, .v (.agg [.i .u32, .i .u32, .i .i64, .i .i64]))], []⟩
def trTurned_tree : (Int × (Int × (Int × (Int × Unit)))) -> Tr (Int × (Int × (Int × (Int × Unit)))) :=
 fun (a0, a1, a2, a3, _) =>
 .ret (a1, (a0, (a3, (a2, ()))))
theorem trTurned_eq (x : (Int × (Int × (Int × (Int × Unit))))) : fnTr Tryd.prog cod [clTalk, GS.pf delTalk] [] 30 82 trTurned_ap trTurned_rp x = trTurned_tree x := by kernel_rfl
def trTurned_fn (x : (Int × (Int × (Int × (Int × Unit))))) : Option (Int × (Int × (Int × (Int × Unit)))) := (trTurned_tree x).eval
def trTurned : FS Tryd.prog := ⟨82, trTurned_ap, trTurned_rp, trTurned_fn, fun x r h => fnTr_sound (cod := cod) (Γ := [clTalk, GS.pf delTalk]) (Λs := []) (n := 30) ((congrArg Tr.eval (trTurned_eq x)).trans h)⟩
def trPort_ap : List VP1 := [.one (.i .i64)]
def trPort_rp : SP := ⟨1, [(0, .v (.one (.b)))], []⟩
def trPort_tree : (Int × Unit) -> Tr (Bool × Unit) :=
 fun (a0, _) =>
 .ite (decide ((0 : Int) <= a0)) (
 .ret (decide (a0 <= (65535 : Int)), ())) (
 .ret (false, ()))
theorem trPort_eq (x : (Int × Unit)) : fnTr Tryd.prog cod [clTalk, GS.pf delTalk, FS.pf trTurned] [] 30 97 trPort_ap trPort_rp x = trPort_tree x := by kernel_rfl
def trPort_fn (x : (Int × Unit)) : Option (Bool × Unit) := (trPort_tree x).eval
def trPort : FS Tryd.prog := ⟨97, trPort_ap, trPort_rp, trPort_fn, fun x r h => fnTr_sound (cod := cod) (Γ := [clTalk, GS.pf delTalk, FS.pf trTurned]) (Λs := []) (n := 30) ((congrArg Tr.eval (trPort_eq x)).trans h)⟩
def trRoad_ap : List VP1 := [.agg [.i .u32, .i .u32, .i .i64, .i .i64]]
def trRoad_rp : SP := ⟨1, [(0, .v (.one (.b)))], []⟩
def trRoad_tree : (Int × (Int × (Int × (Int × Unit)))) -> Tr (Bool × Unit) :=
 fun (a0, a1, a2, a3, _) =>
 .opt ((trPort_fn (a2, ()))) (fun r0 =>
 .ite (r0.1) (
 .opt ((trPort_fn (a3, ()))) (fun r1 =>
 .ite (r1.1) (
 .opt ((trTurned_fn (a0, (a1, (a2, (a3, ())))))) (fun r2 =>
 .ret (!(decide (a0 = r2.1) && (decide (a1 = r2.2.1) && (decide (a2 = r2.2.2.1) && (decide (a3 = r2.2.2.2.1) && true)))), ()))) (
 .ret (false, ())))) (
 .ret (false, ())))
theorem trRoad_eq (x : (Int × (Int × (Int × (Int × Unit))))) : fnTr Tryd.prog cod [clTalk, GS.pf delTalk, FS.pf trTurned, FS.pf trPort] [] 30 79 trRoad_ap trRoad_rp x = trRoad_tree x := by kernel_rfl
def trRoad_fn (x : (Int × (Int × (Int × (Int × Unit))))) : Option (Bool × Unit) := (trRoad_tree x).eval
def trRoad : FS Tryd.prog := ⟨79, trRoad_ap, trRoad_rp, trRoad_fn, fun x r h => fnTr_sound (cod := cod) (Γ := [clTalk, GS.pf delTalk, FS.pf trTurned, FS.pf trPort]) (Λs := []) (n := 30) ((congrArg Tr.eval (trRoad_eq x)).trans h)⟩
def trForm_ap : List VP1 := [.agg [.i .u32, .i .u32, .i .i64, .i .i64, .i .i64, .i .i64, .i .i64]]
def trForm_rp : SP := ⟨1, [(0, .v (.one (.b)))], []⟩
def trForm_tree : (Int × (Int × (Int × (Int × (Int × (Int × (Int × Unit))))))) -> Tr (Bool × Unit) :=
 fun (a0, a1, a2, a3, a4, a5, a6, _) =>
 .opt ((trRoad_fn (a0, (a1, (a2, (a3, ())))))) (fun r0 =>
 .ite (!r0.1) (
 .ret (false, ())) (
 .ite (decide (a6 < (0 : Int))) (
 .ret (false, ())) (
 .ite (decide ((1099511627776 : Int) < a6)) (
 .ret (false, ())) (
 .ite (decide (a4 = (1 : Int))) (
 .ret (decide (a5 = (0 : Int)), ())) (
 .ite (decide (a4 = (2 : Int))) (
 .ret (decide (a5 = (0 : Int)), ())) (
 .ite (decide (a4 = (3 : Int))) (
 .ite (decide ((0 : Int) <= a5)) (
 .ret (decide (a5 <= (2 : Int)), ())) (
 .ret (false, ()))) (
 .ite (decide (a4 = (4 : Int))) (
 .ret (decide (a5 = (3 : Int)), ())) (
 .ret (false, ())))))))))
noncomputable def gm26 : List (PF Go.Proofs.Tryd.prog) := [clTalk, GS.pf delTalk, FS.pf trTurned, FS.pf trPort, FS.pf trRoad]
theorem trForm_eq (x : (Int × (Int × (Int × (Int × (Int × (Int × (Int × Unit)))))))) : fnTr Tryd.prog cod gm26 [] 30 60 trForm_ap trForm_rp x = trForm_tree x := by kernel_rfl
def trForm_fn (x : (Int × (Int × (Int × (Int × (Int × (Int × (Int × Unit)))))))) : Option (Bool × Unit) := (trForm_tree x).eval
def trForm : FS Tryd.prog := ⟨60, trForm_ap, trForm_rp, trForm_fn, fun x r h => fnTr_sound (cod := cod) (Γ := gm26) (Λs := []) (n := 30) ((congrArg Tr.eval (trForm_eq x)).trans h)⟩
def trPlace_L80_2 : LS := ⟨2, [(1000200, 1000200)], ⟨19, [(8, .v (.one (.i .i64))), (0, .v (.one (.st 16 false))), (1, .v (.one (.clp 81 [(1000200, 0)]))), (7, .v (.one (.i .i64)))], [(1000200, .cells [.i .u32, .i .u32, .i .i64, .i .i64])]⟩, [⟨none, [(1000200, 1000200)], ⟨19, [(4, .v (.one (.i .i64)))], [(1000200, .cells [.i .u32, .i .u32, .i .i64, .i .i64])]⟩⟩, ⟨some 0, [(1000200, 1000200)], ⟨19, [], [(1000200, .cells [.i .u32, .i .u32, .i .i64, .i .i64])]⟩⟩], []⟩
def trPlace_step80_2 : (Int × ((List TTalk) × (Int × (Int × (Int × (Int × (Int × Unit))))))) -> Tr ((Int × ((List TTalk) × (Int × (Int × (Int × (Int × (Int × Unit))))))) ⊕ ((Int × (Int × (Int × (Int × (Int × Unit))))) ⊕ (Int × (Int × (Int × (Int × Unit)))))) :=
 fun (a0, a1, a2, a3, a4, a5, a6, _) =>
 .ite (decide (a0 < a2)) (
 .grd (decide ((0 : Int) <= a0)) (
 .opt (a1[Int.toNat a0]?) (fun r0 =>
 .ite (decide (r0.from' = a3) && (decide (r0.to = a4) && (decide (r0.fromPort = a5) && (decide (r0.toPort = a6) && true)))) (
 .ite (true) (
 .ret (Sum.inr (Sum.inl (a0, (a3, (a4, (a5, (a6, ())))))))) (
 .ret (Sum.inl (wW .i64 (a0 + (1 : Int)), (a1, (a2, (a3, (a4, (a5, (a6, ())))))))))) (
 .opt ((trTurned_fn (a3, (a4, (a5, (a6, ())))))) (fun r1 =>
 .ite (decide (r0.from' = r1.1) && (decide (r0.to = r1.2.1) && (decide (r0.fromPort = r1.2.2.1) && (decide (r0.toPort = r1.2.2.2.1) && true)))) (
 .ret (Sum.inr (Sum.inl (a0, (a3, (a4, (a5, (a6, ())))))))) (
 .ret (Sum.inl (wW .i64 (a0 + (1 : Int)), (a1, (a2, (a3, (a4, (a5, (a6, ())))))))))))))) (
 .ret (Sum.inr (Sum.inr (a3, (a4, (a5, (a6, ())))))))
def trPlace_loop80_2 (x : (Int × ((List TTalk) × (Int × (Int × (Int × (Int × (Int × Unit)))))))) : Option ((Int × (Int × (Int × (Int × (Int × Unit))))) ⊕ (Int × (Int × (Int × (Int × Unit))))) := loopO 800002 (fun x => (trPlace_step80_2 x).eval) 18446744073709551616 x
def trPlace_ap : List VP1 := [.one (.st 16 false), .agg [.i .u32, .i .u32, .i .i64, .i .i64]]
def trPlace_rp : SP := ⟨1, [(0, .v (.one (.i .i64)))], []⟩
def trPlace_tree : ((List TTalk) × (Int × (Int × (Int × (Int × Unit))))) -> Tr (Int × Unit) :=
 fun (a0, a1, a2, a3, a4, _) =>
 .opt ((trPlace_loop80_2 ((0 : Int), (a0, ((↑(a0.length) : Int), (a1, (a2, (a3, (a4, ()))))))))) (fun r0 =>
 .sum (r0) (fun r1 =>
 .ret (r1.1, ())) (fun r1 =>
 .ret ((-1 : Int), ())))
noncomputable def gm27 : List (PF Go.Proofs.Tryd.prog) := [clTalk, GS.pf delTalk, FS.pf trTurned, FS.pf trPort, FS.pf trRoad, FS.pf trForm]
theorem trPlace_eq (x : ((List TTalk) × (Int × (Int × (Int × (Int × Unit)))))) : fnTr Tryd.prog cod gm27 [(80, trPlace_L80_2)] 30 61 trPlace_ap trPlace_rp x = trPlace_tree x := by kernel_rfl
def trPlace_fn (x : ((List TTalk) × (Int × (Int × (Int × (Int × Unit)))))) : Option (Int × Unit) := (trPlace_tree x).eval
def trPlace : FS Tryd.prog := ⟨61, trPlace_ap, trPlace_rp, trPlace_fn, fun x r h => fnTr_sound (cod := cod) (Γ := gm27) (Λs := [(80, trPlace_L80_2)]) (n := 30) ((congrArg Tr.eval (trPlace_eq x)).trans h)⟩
def trCheck_L40_4 : LS := ⟨4, [], ⟨42, [(10, .v (.one (.i .i64))), (0, .v (.one (.st 16 false))), (8, .v (.one (.st 16 false))), (9, .v (.one (.i .i64)))], []⟩, [⟨none, [], ⟨42, [(2, .v (.one (.i .i64)))], []⟩⟩, ⟨some 0, [], ⟨42, [], []⟩⟩], []⟩
def trCheck_step40_4 : (Int × ((List TTalk) × ((List TTalk) × (Int × Unit)))) -> Tr ((Int × ((List TTalk) × ((List TTalk) × (Int × Unit)))) ⊕ ((Int × Unit) ⊕ Unit)) :=
 fun (a0, a1, a2, a3, _) =>
 .ite (decide (a0 < a3)) (
 .grd (decide ((0 : Int) <= a0)) (
 .opt (a2[Int.toNat a0]?) (fun r0 =>
 .opt ((trForm_fn (r0.from', (r0.to, (r0.fromPort, (r0.toPort, (r0.state, (r0.over, (r0.at', ()))))))))) (fun r1 =>
 .ite (!r1.1) (
 .ret (Sum.inr (Sum.inl ((4 : Int), ())))) (
 .ite (decide ((0 : Int) < a0)) (
 .grd (decide ((0 : Int) <= wW .i64 (a0 - (1 : Int)))) (
 .opt (a1[Int.toNat (wW .i64 (a0 - (1 : Int)))]?) (fun r2 =>
 .ite (decide (r0.at' < r2.at')) (
 .ret (Sum.inr (Sum.inl ((4 : Int), ())))) (
 .opt ((trPlace_fn (a1, (r0.from', (r0.to, (r0.fromPort, (r0.toPort, ()))))))) (fun r3 =>
 .ite (!decide (r3.1 = a0)) (
 .ret (Sum.inr (Sum.inl ((4 : Int), ())))) (
 .ret (Sum.inl (wW .i64 (a0 + (1 : Int)), (a1, (a2, (a3, ()))))))))))) (
 .opt ((trPlace_fn (a1, (r0.from', (r0.to, (r0.fromPort, (r0.toPort, ()))))))) (fun r2 =>
 .ite (!decide (r2.1 = a0)) (
 .ret (Sum.inr (Sum.inl ((4 : Int), ())))) (
 .ret (Sum.inl (wW .i64 (a0 + (1 : Int)), (a1, (a2, (a3, ()))))))))))))) (
 .ret (Sum.inr (Sum.inr ())))
def trCheck_loop40_4 (x : (Int × ((List TTalk) × ((List TTalk) × (Int × Unit))))) : Option ((Int × Unit) ⊕ Unit) := loopO 400004 (fun x => (trCheck_step40_4 x).eval) 18446744073709551616 x
def trCheck_ap : List VP1 := [.one (.st 16 false)]
def trCheck_rp : SP := ⟨1, [(0, .v (.one (.i .i64)))], []⟩
def trCheck_tree : ((List TTalk) × Unit) -> Tr (Int × Unit) :=
 fun (a0, _) =>
 .ite (decide ((64 : Int) < (↑(a0.length) : Int))) (
 .ret ((2 : Int), ())) (
 .opt ((trCheck_loop40_4 ((0 : Int), (a0, (a0, ((↑(a0.length) : Int), ())))))) (fun r0 =>
 .sum (r0) (fun r1 =>
 .ret (r1.1, ())) (fun r1 =>
 .ret ((0 : Int), ()))))
noncomputable def gm28 : List (PF Go.Proofs.Tryd.prog) := [clTalk, GS.pf delTalk, FS.pf trTurned, FS.pf trPort, FS.pf trRoad, FS.pf trForm, FS.pf trPlace]
theorem trCheck_eq (x : ((List TTalk) × Unit)) : fnTr Tryd.prog cod gm28 [(40, trCheck_L40_4)] 30 40 trCheck_ap trCheck_rp x = trCheck_tree x := by kernel_rfl
def trCheck_fn (x : ((List TTalk) × Unit)) : Option (Int × Unit) := (trCheck_tree x).eval
def trCheck : FS Tryd.prog := ⟨40, trCheck_ap, trCheck_rp, trCheck_fn, fun x r h => fnTr_sound (cod := cod) (Γ := gm28) (Λs := [(40, trCheck_L40_4)]) (n := 30) ((congrArg Tr.eval (trCheck_eq x)).trans h)⟩
def trOld_ap : List VP1 := [.agg [.i .u32, .i .u32, .i .i64, .i .i64, .i .i64, .i .i64, .i .i64], .one (.i .i64)]
def trOld_rp : SP := ⟨1, [(0, .v (.one (.b)))], []⟩
def trOld_tree : (Int × (Int × (Int × (Int × (Int × (Int × (Int × (Int × Unit)))))))) -> Tr (Bool × Unit) :=
 fun (a0, a1, a2, a3, a4, a5, a6, a7, _) =>
 .ite (decide (a4 = (3 : Int))) (
 .ret (decide ((3000 : Int) < wW .i64 (a7 - a6)), ())) (
 .ite (decide (a4 = (4 : Int))) (
 .ret (decide ((60 : Int) < wW .i64 (a7 - a6)), ())) (
 .ret (decide ((30 : Int) < wW .i64 (a7 - a6)), ())))
noncomputable def gm29 : List (PF Go.Proofs.Tryd.prog) := [clTalk, GS.pf delTalk, FS.pf trTurned, FS.pf trPort, FS.pf trRoad, FS.pf trForm, FS.pf trPlace, FS.pf trCheck]
theorem trOld_eq (x : (Int × (Int × (Int × (Int × (Int × (Int × (Int × (Int × Unit))))))))) : fnTr Tryd.prog cod gm29 [] 30 98 trOld_ap trOld_rp x = trOld_tree x := by kernel_rfl
def trOld_fn (x : (Int × (Int × (Int × (Int × (Int × (Int × (Int × (Int × Unit))))))))) : Option (Bool × Unit) := (trOld_tree x).eval
def trOld : FS Tryd.prog := ⟨98, trOld_ap, trOld_rp, trOld_fn, fun x r h => fnTr_sound (cod := cod) (Γ := gm29) (Λs := []) (n := 30) ((congrArg Tr.eval (trOld_eq x)).trans h)⟩
def dfTalk_L100_5 : LS := ⟨5, [(1000100, 1000100), (1000200, 1000200)], ⟨42, [(6, .v (.one (.i .i64))), (5, .v (.one (.i .i64))), (0, .v (.one (.own 1000100))), (1, .v (.one (.clp 101 [(1000200, 0)])))], [(1000100, .row 109 16 true true), (1000200, .cells [.i .i64])]⟩, [⟨some 0, [(1000100, 1000100), (1000200, 1000200)], ⟨42, [(5, .v (.one (.i .i64))), (0, .v (.one (.own 1000100)))], [(1000100, .row 109 16 true true), (1000200, .cells [.i .i64])]⟩⟩], []⟩
def dfTalk_step100_5 : (Int × (Int × ((List TTalk) × (Int × Unit)))) -> Tr ((Int × (Int × ((List TTalk) × (Int × Unit)))) ⊕ (Int × ((List TTalk) × (Int × Unit)))) :=
 fun (a0, a1, a2, a3, _) =>
 .ite (decide (a0 < (↑(a2.length) : Int))) (
 .grd (decide ((0 : Int) <= a0 /\ a0 < (↑(a2.length) : Int))) (
 .opt (a2[Int.toNat a0]?) (fun r0 =>
 .opt ((trOld_fn (r0.from', (r0.to, (r0.fromPort, (r0.toPort, (r0.state, (r0.over, (r0.at', (a3, ())))))))))) (fun r1 =>
 .ite (!r1.1) (
 .grd (decide ((0 : Int) <= a1 /\ a1 < (↑(a2.length) : Int))) (
 .opt (a2[Int.toNat a1]?) (fun r2 =>
 .grd (decide (a2.length = List.length (List.set a2 (Int.toNat a1) (TTalk.mk r0.from' r0.to r0.fromPort r0.toPort r0.state r0.over r0.at')))) (
 .ret (Sum.inl (wW .i64 (a0 + (1 : Int)), (wW .i64 (a1 + (1 : Int)), (List.set a2 (Int.toNat a1) (TTalk.mk r0.from' r0.to r0.fromPort r0.toPort r0.state r0.over r0.at'), (a3, ()))))))))) (
 .grd (decide (a2.length = a2.length)) (
 .ret (Sum.inl (wW .i64 (a0 + (1 : Int)), (a1, (a2, (a3, ()))))))))))) (
 .grd (decide (a2.length = a2.length)) (
 .ret (Sum.inr (a1, (a2, (a3, ()))))))
def dfTalk_loop100_5 (x : (Int × (Int × ((List TTalk) × (Int × Unit))))) : Option (Int × ((List TTalk) × (Int × Unit))) := loopO 1000005 (fun x => (dfTalk_step100_5 x).eval) 18446744073709551616 x
def dfTalk_L80_2 : LS := ⟨2, [(1000200, 1000200)], ⟨19, [(8, .v (.one (.i .i64))), (0, .v (.one (.st 16 false))), (1, .v (.one (.clp 101 [(1000200, 0)]))), (7, .v (.one (.i .i64)))], [(1000200, .cells [.i .i64])]⟩, [⟨none, [(1000200, 1000200)], ⟨19, [(4, .v (.one (.i .i64)))], [(1000200, .cells [.i .i64])]⟩⟩, ⟨some 0, [(1000200, 1000200)], ⟨19, [], [(1000200, .cells [.i .i64])]⟩⟩], []⟩
def dfTalk_step80_2 : (Int × ((List TTalk) × (Int × (Int × Unit)))) -> Tr ((Int × ((List TTalk) × (Int × (Int × Unit)))) ⊕ ((Int × (Int × Unit)) ⊕ (Int × Unit))) :=
 fun (a0, a1, a2, a3, _) =>
 .ite (decide (a0 < a2)) (
 .grd (decide ((0 : Int) <= a0)) (
 .opt (a1[Int.toNat a0]?) (fun r0 =>
 .opt ((trOld_fn (r0.from', (r0.to, (r0.fromPort, (r0.toPort, (r0.state, (r0.over, (r0.at', (a3, ())))))))))) (fun r1 =>
 .ite (r1.1) (
 .ret (Sum.inr (Sum.inl (a0, (a3, ()))))) (
 .ret (Sum.inl (wW .i64 (a0 + (1 : Int)), (a1, (a2, (a3, ())))))))))) (
 .ret (Sum.inr (Sum.inr (a3, ()))))
def dfTalk_loop80_2 (x : (Int × ((List TTalk) × (Int × (Int × Unit))))) : Option ((Int × (Int × Unit)) ⊕ (Int × Unit)) := loopO 800002 (fun x => (dfTalk_step80_2 x).eval) 18446744073709551616 x
def dfTalk_ap : SP := ⟨42, [(0, .v (.one (.own 1000100))), (1, .v (.one (.clp 101 [(1000200, 0)])))], [(1000200, .cells [.i .i64]), (1000100, .row 109 16 true true)]⟩
def dfTalk_rp : SP := ⟨1, [(0, .v (.one (.own 1000100)))], [(1000200, .cells [.i .i64]), (1000100, .row 109 16 true true)]⟩
def dfTalk_tree : (Int × ((List TTalk) × Unit)) -> Tr (Int × ((List TTalk) × Unit)) :=
 fun (a0, a1, _) =>
 .opt ((dfTalk_loop80_2 ((0 : Int), (a1, ((↑(a1.length) : Int), (a0, ())))))) (fun r0 =>
 .sum (r0) (fun r1 =>
 .ite (decide (r1.1 = (-1 : Int))) (
 .grd (decide (a1.length = a1.length)) (
 .ret (r1.2.1, (a1, ())))) (
 .grd (decide (a1.length = a1.length)) (
 .opt ((dfTalk_loop100_5 (wW .i64 (r1.1 + (1 : Int)), (r1.1, (a1, (r1.2.1, ())))))) (fun r2 =>
 .grd (decide ((0 : Int) <= r2.1 /\ r2.1 <= (↑(List.length r2.2.fst) : Int) /\ (↑(List.length r2.2.fst) : Int) <= (↑(List.length r2.2.fst) : Int))) (
 .grd (decide (Int.toNat r2.1 + Int.toNat ((↑(List.length r2.2.fst) : Int) - r2.1) <= List.length r2.2.1)) (
 .grd (decide ((0 : Int) <= r2.1 /\ r2.1 <= (↑(List.length r2.2.fst) : Int))) (
 .grd (decide (Int.toNat r2.1 = List.length (List.take (Int.toNat r2.1) (List.take (Int.toNat r2.1) r2.2.1 ++ List.replicate (Int.toNat ((↑(List.length r2.2.fst) : Int) - r2.1)) (TTalk.mk (0 : Int) (0 : Int) (0 : Int) (0 : Int) (0 : Int) (0 : Int) (0 : Int)) ++ List.drop (Int.toNat r2.1 + List.length (List.replicate (Int.toNat ((↑(List.length r2.2.fst) : Int) - r2.1)) (TTalk.mk (0 : Int) (0 : Int) (0 : Int) (0 : Int) (0 : Int) (0 : Int) (0 : Int)))) r2.2.1)))) (
 .ret (r2.2.2.1, (List.take (Int.toNat r2.1) (List.take (Int.toNat r2.1) r2.2.1 ++ List.replicate (Int.toNat ((↑(List.length r2.2.fst) : Int) - r2.1)) (TTalk.mk (0 : Int) (0 : Int) (0 : Int) (0 : Int) (0 : Int) (0 : Int) (0 : Int)) ++ List.drop (Int.toNat r2.1 + List.length (List.replicate (Int.toNat ((↑(List.length r2.2.fst) : Int) - r2.1)) (TTalk.mk (0 : Int) (0 : Int) (0 : Int) (0 : Int) (0 : Int) (0 : Int) (0 : Int)))) r2.2.1), ())))))))))) (fun r1 =>
 .ite (true) (
 .grd (decide (a1.length = a1.length)) (
 .ret (r1.1, (a1, ())))) (
 .grd (decide (a1.length = a1.length)) (
 .opt ((dfTalk_loop100_5 ((0 : Int), ((-1 : Int), (a1, (r1.1, ())))))) (fun r2 =>
 .grd (decide ((0 : Int) <= r2.1 /\ r2.1 <= (↑(List.length r2.2.fst) : Int) /\ (↑(List.length r2.2.fst) : Int) <= (↑(List.length r2.2.fst) : Int))) (
 .grd (decide (Int.toNat r2.1 + Int.toNat ((↑(List.length r2.2.fst) : Int) - r2.1) <= List.length r2.2.1)) (
 .grd (decide ((0 : Int) <= r2.1 /\ r2.1 <= (↑(List.length r2.2.fst) : Int))) (
 .grd (decide (Int.toNat r2.1 = List.length (List.take (Int.toNat r2.1) (List.take (Int.toNat r2.1) r2.2.1 ++ List.replicate (Int.toNat ((↑(List.length r2.2.fst) : Int) - r2.1)) (TTalk.mk (0 : Int) (0 : Int) (0 : Int) (0 : Int) (0 : Int) (0 : Int) (0 : Int)) ++ List.drop (Int.toNat r2.1 + List.length (List.replicate (Int.toNat ((↑(List.length r2.2.fst) : Int) - r2.1)) (TTalk.mk (0 : Int) (0 : Int) (0 : Int) (0 : Int) (0 : Int) (0 : Int) (0 : Int)))) r2.2.1)))) (
 .ret (r2.2.2.1, (List.take (Int.toNat r2.1) (List.take (Int.toNat r2.1) r2.2.1 ++ List.replicate (Int.toNat ((↑(List.length r2.2.fst) : Int) - r2.1)) (TTalk.mk (0 : Int) (0 : Int) (0 : Int) (0 : Int) (0 : Int) (0 : Int) (0 : Int)) ++ List.drop (Int.toNat r2.1 + List.length (List.replicate (Int.toNat ((↑(List.length r2.2.fst) : Int) - r2.1)) (TTalk.mk (0 : Int) (0 : Int) (0 : Int) (0 : Int) (0 : Int) (0 : Int) (0 : Int)))) r2.2.1), ())))))))))))
noncomputable def gm30 : List (PF Go.Proofs.Tryd.prog) := [clTalk, GS.pf delTalk, FS.pf trTurned, FS.pf trPort, FS.pf trRoad, FS.pf trForm, FS.pf trPlace, FS.pf trCheck, FS.pf trOld]
theorem dfTalk_eq (x : (Int × ((List TTalk) × Unit))) : gsTr Tryd.prog cod gm30 [(100, dfTalk_L100_5), (80, dfTalk_L80_2)] 30 100 dfTalk_ap dfTalk_rp x = dfTalk_tree x := by kernel_rfl
def dfTalk_fn (x : (Int × ((List TTalk) × Unit))) : Option (Int × ((List TTalk) × Unit)) := (dfTalk_tree x).eval
def dfTalk : GS Tryd.prog := ⟨100, [1, 0], dfTalk_ap, dfTalk_rp, dfTalk_fn, fun x r h ys m g he hg => gs_sound (cod := cod) (Γ := gm30) (Λs := [(100, dfTalk_L100_5), (80, dfTalk_L80_2)]) (n := 30) ((congrArg Tr.eval (dfTalk_eq x)).trans h) he hg⟩
def trOpen_ap : SP := ⟨52, [(0, .v (.one (.ptr 1000000 0))), (1, .v (.agg [.b, .b, .b, .b, .b]))], [(1000000, .cells [.i .u32, .i .u32, .i .i64, .i .i64, .i .i64, .i .i64, .i .i64])]⟩
def trOpen_rp : SP := ⟨1, [(0, .v (.one (.b)))], [(1000000, .cells [.i .u32, .i .u32, .i .i64, .i .i64, .i .i64, .i .i64, .i .i64])]⟩
abbrev ty3_ : Type := (Bool × (Bool × (Bool × (Bool × (Bool × (Int × (Int × (Int × (Int × (Int × (Int × (Int × Unit))))))))))))
def trOpen_tree : ty3_ -> Tr (Bool × (Int × (Int × (Int × (Int × (Int × (Int × (Int × Unit)))))))) :=
 fun (a0, a1, a2, a3, a4, a5, a6, a7, a8, a9, a10, a11, _) =>
 .ite (!a1) (
 .ret (false, (a5, (a6, (a7, (a8, (a9, (a10, (a11, ()))))))))) (
 .ite (a0) (
 .ret (false, (a5, (a6, (a7, (a8, (a9, (a10, (a11, ()))))))))) (
 .ite (a2) (
 .ite (a4) (
 .ite (decide (bits BinOp.or IntKind.i64 a10 (1 : Int) = (3 : Int))) (
 .ret (true, (a5, (a6, (a7, (a8, ((4 : Int), (bits BinOp.or IntKind.i64 a10 (1 : Int), (a11, ()))))))))) (
 .ret (true, (a5, (a6, (a7, (a8, (if false = true then if (3 : Int) < a9 then (3 : Int) else a9 else if (3 : Int) > a9 then (3 : Int) else a9, (bits BinOp.or IntKind.i64 a10 (1 : Int), (a11, ())))))))))) (
 .ite (a2) (
 .ite (decide (bits BinOp.or IntKind.i64 a10 (2 : Int) = (3 : Int))) (
 .ret (true, (a5, (a6, (a7, (a8, ((4 : Int), (bits BinOp.or IntKind.i64 a10 (2 : Int), (a11, ()))))))))) (
 .ret (true, (a5, (a6, (a7, (a8, (if false = true then if (3 : Int) < a9 then (3 : Int) else a9 else if (3 : Int) > a9 then (3 : Int) else a9, (bits BinOp.or IntKind.i64 a10 (2 : Int), (a11, ())))))))))) (
 .ite (decide (a10 = (3 : Int))) (
 .ret (true, (a5, (a6, (a7, (a8, ((4 : Int), (a10, (a11, ()))))))))) (
 .ret (true, (a5, (a6, (a7, (a8, (if false = true then if (3 : Int) < a9 then (3 : Int) else a9 else if (3 : Int) > a9 then (3 : Int) else a9, (a10, (a11, ())))))))))))) (
 .ite (a2) (
 .ite (decide (bits BinOp.or IntKind.i64 a10 (2 : Int) = (3 : Int))) (
 .ret (true, (a5, (a6, (a7, (a8, ((4 : Int), (bits BinOp.or IntKind.i64 a10 (2 : Int), (a11, ()))))))))) (
 .ret (true, (a5, (a6, (a7, (a8, (if false = true then if (3 : Int) < a9 then (3 : Int) else a9 else if (3 : Int) > a9 then (3 : Int) else a9, (bits BinOp.or IntKind.i64 a10 (2 : Int), (a11, ())))))))))) (
 .ite (decide (a10 = (3 : Int))) (
 .ret (true, (a5, (a6, (a7, (a8, ((4 : Int), (a10, (a11, ()))))))))) (
 .ret (true, (a5, (a6, (a7, (a8, (if false = true then if (3 : Int) < a9 then (3 : Int) else a9 else if (3 : Int) > a9 then (3 : Int) else a9, (a10, (a11, ())))))))))))))
noncomputable def gm31 : List (PF Go.Proofs.Tryd.prog) := [clTalk, GS.pf delTalk, FS.pf trTurned, FS.pf trPort, FS.pf trRoad, FS.pf trForm, FS.pf trPlace, FS.pf trCheck, FS.pf trOld, GS.pf dfTalk]
theorem trOpen_eq (x : ty3_) : gsTr Tryd.prog cod gm31 [] 30 108 trOpen_ap trOpen_rp x = trOpen_tree x := by kernel_rfl
def trOpen_fn (x : ty3_) : Option (Bool × (Int × (Int × (Int × (Int × (Int × (Int × (Int × Unit)))))))) := (trOpen_tree x).eval
def trOpen : GS Tryd.prog := ⟨108, [0, 0], trOpen_ap, trOpen_rp, trOpen_fn, fun x r h ys m g he hg => gs_sound (cod := cod) (Γ := gm31) (Λs := []) (n := 30) ((congrArg Tr.eval (trOpen_eq x)).trans h) he hg⟩
def trPasses_L102_100002 : LS := ⟨100002, [], ⟨0, [], []⟩, [⟨some 9998, [(1000000, 1000000), (3, 3)], ⟨79, [(0, .v (.one (.ptr 1000000 0))), (3, .v (.one (.ptr 3 0))), (6, .v (.one (.b))), (5, .v (.one (.b)))], [(1000000, .cells [.i .u32, .i .u32, .i .i64, .i .i64, .i .i64, .i .i64, .i .i64]), (3, .cells [.b, .b, .b, .b, .b])]⟩⟩], []⟩
def trPasses_L102_100001 : LS := ⟨100001, [], ⟨0, [], []⟩, [⟨some 9998, [(1000000, 1000000), (3, 3)], ⟨79, [(0, .v (.one (.ptr 1000000 0))), (3, .v (.one (.ptr 3 0))), (5, .v (.one (.b)))], [(1000000, .cells [.i .u32, .i .u32, .i .i64, .i .i64, .i .i64, .i .i64, .i .i64]), (3, .cells [.b, .b, .b, .b, .b])]⟩⟩], []⟩
def trPasses_ap : SP := ⟨79, [(0, .v (.one (.ptr 1000000 0))), (1, .v (.agg [.b, .b, .b, .b, .b]))], [(1000000, .cells [.i .u32, .i .u32, .i .i64, .i .i64, .i .i64, .i .i64, .i .i64])]⟩
def trPasses_rp : SP := ⟨1, [(0, .v (.one (.b)))], [(1000000, .cells [.i .u32, .i .u32, .i .i64, .i .i64, .i .i64, .i .i64, .i .i64])]⟩
abbrev ty4_ : Type := (Bool × (Int × (Int × (Int × (Int × (Int × (Int × (Int × (Bool × (Bool × (Bool × (Bool × (Bool × Unit)))))))))))))
abbrev ty5_ : Type := (Bool × (Bool × (Int × (Int × (Int × (Int × (Int × (Int × (Int × (Bool × (Bool × (Bool × (Bool × (Bool × Unit))))))))))))))
def trPasses_tree : ty3_ -> Tr (Bool × (Int × (Int × (Int × (Int × (Int × (Int × (Int × Unit)))))))) :=
 fun (a0, a1, a2, a3, a4, a5, a6, a7, a8, a9, a10, a11, _) =>
 .opt (Tr.eval (α := ty4_) (
 .ite (a4) (
 .ite (a0) (
 .ite (!a1) (
 .ret (!a2, (a5, (a6, (a7, (a8, (a9, (a10, (a11, (a0, (a1, (a2, (a3, (a4, ())))))))))))))) (
 .ret (false, (a5, (a6, (a7, (a8, (a9, (a10, (a11, (a0, (a1, (a2, (a3, (a4, ()))))))))))))))) (
 .ret (false, (a5, (a6, (a7, (a8, (a9, (a10, (a11, (a0, (a1, (a2, (a3, (a4, ()))))))))))))))) (
 .ret (false, (a5, (a6, (a7, (a8, (a9, (a10, (a11, (a0, (a1, (a2, (a3, (a4, ())))))))))))))))) (fun r0 =>
 .opt (Tr.eval (α := ty5_) (
 .ite (!r0.2.2.2.2.2.2.2.2.2.2.2.2.1) (
 .ite (r0.2.2.2.2.2.2.2.2.1) (
 .ite (r0.2.2.2.2.2.2.2.2.2.1) (
 .ret (!r0.2.2.2.2.2.2.2.2.2.2.1, (r0.1, (r0.2.1, (r0.2.2.1, (r0.2.2.2.1, (r0.2.2.2.2.1, (r0.2.2.2.2.2.1, (r0.2.2.2.2.2.2.1, (r0.2.2.2.2.2.2.2.1, (r0.2.2.2.2.2.2.2.2.1, (r0.2.2.2.2.2.2.2.2.2.1, (r0.2.2.2.2.2.2.2.2.2.2.1, (r0.2.2.2.2.2.2.2.2.2.2.2.1, (r0.2.2.2.2.2.2.2.2.2.2.2.2.1, ()))))))))))))))) (
 .ret (false, (r0.1, (r0.2.1, (r0.2.2.1, (r0.2.2.2.1, (r0.2.2.2.2.1, (r0.2.2.2.2.2.1, (r0.2.2.2.2.2.2.1, (r0.2.2.2.2.2.2.2.1, (r0.2.2.2.2.2.2.2.2.1, (r0.2.2.2.2.2.2.2.2.2.1, (r0.2.2.2.2.2.2.2.2.2.2.1, (r0.2.2.2.2.2.2.2.2.2.2.2.1, (r0.2.2.2.2.2.2.2.2.2.2.2.2.1, ())))))))))))))))) (
 .ret (false, (r0.1, (r0.2.1, (r0.2.2.1, (r0.2.2.2.1, (r0.2.2.2.2.1, (r0.2.2.2.2.2.1, (r0.2.2.2.2.2.2.1, (r0.2.2.2.2.2.2.2.1, (r0.2.2.2.2.2.2.2.2.1, (r0.2.2.2.2.2.2.2.2.2.1, (r0.2.2.2.2.2.2.2.2.2.2.1, (r0.2.2.2.2.2.2.2.2.2.2.2.1, (r0.2.2.2.2.2.2.2.2.2.2.2.2.1, ())))))))))))))))) (
 .ret (false, (r0.1, (r0.2.1, (r0.2.2.1, (r0.2.2.2.1, (r0.2.2.2.2.1, (r0.2.2.2.2.2.1, (r0.2.2.2.2.2.2.1, (r0.2.2.2.2.2.2.2.1, (r0.2.2.2.2.2.2.2.2.1, (r0.2.2.2.2.2.2.2.2.2.1, (r0.2.2.2.2.2.2.2.2.2.2.1, (r0.2.2.2.2.2.2.2.2.2.2.2.1, (r0.2.2.2.2.2.2.2.2.2.2.2.2.1, ()))))))))))))))))) (fun r1 =>
 .ite (decide (r1.2.2.2.2.2.2.1 <= (2 : Int))) (
 .ite (r1.2.1) (
 .ret (true, (r1.2.2.1, (r1.2.2.2.1, (r1.2.2.2.2.1, (r1.2.2.2.2.2.1, (r1.2.2.2.2.2.2.1, (r1.2.2.2.2.2.2.2.1, (r1.2.2.2.2.2.2.2.2.1, ()))))))))) (
 .ite (decide (r1.2.2.2.2.2.2.1 <= (2 : Int))) (
 .ite (r1.1) (
 .ret (true, (r1.2.2.1, (r1.2.2.2.1, (r1.2.2.2.2.1, (r1.2.2.2.2.2.1, ((2 : Int), (r1.2.2.2.2.2.2.2.1, (r1.2.2.2.2.2.2.2.2.1, ()))))))))) (
 .ite (decide (r1.2.2.2.2.2.2.1 = (1 : Int))) (
 .ret (false, (r1.2.2.1, (r1.2.2.2.1, (r1.2.2.2.2.1, (r1.2.2.2.2.2.1, (r1.2.2.2.2.2.2.1, (r1.2.2.2.2.2.2.2.1, (r1.2.2.2.2.2.2.2.2.1, ()))))))))) (
 .ite (decide (r1.2.2.2.2.2.2.1 = (2 : Int))) (
 .ite (!r1.2.2.2.2.2.2.2.2.2.2.2.2.2.1) (
 .ret (false, (r1.2.2.1, (r1.2.2.2.1, (r1.2.2.2.2.1, (r1.2.2.2.2.2.1, (r1.2.2.2.2.2.2.1, (r1.2.2.2.2.2.2.2.1, (r1.2.2.2.2.2.2.2.2.1, ()))))))))) (
 .opt ((trOpen_fn (r1.2.2.2.2.2.2.2.2.2.1, (r1.2.2.2.2.2.2.2.2.2.2.1, (r1.2.2.2.2.2.2.2.2.2.2.2.1, (r1.2.2.2.2.2.2.2.2.2.2.2.2.1, (r1.2.2.2.2.2.2.2.2.2.2.2.2.2.1, (r1.2.2.1, (r1.2.2.2.1, (r1.2.2.2.2.1, (r1.2.2.2.2.2.1, (r1.2.2.2.2.2.2.1, (r1.2.2.2.2.2.2.2.1, (r1.2.2.2.2.2.2.2.2.1, ())))))))))))))) (fun r2 =>
 .ret (r2.1, (r2.2.1, (r2.2.2.1, (r2.2.2.2.1, (r2.2.2.2.2.1, (r2.2.2.2.2.2.1, (r2.2.2.2.2.2.2.1, (r2.2.2.2.2.2.2.2.1, ()))))))))))) (
 .opt ((trOpen_fn (r1.2.2.2.2.2.2.2.2.2.1, (r1.2.2.2.2.2.2.2.2.2.2.1, (r1.2.2.2.2.2.2.2.2.2.2.2.1, (r1.2.2.2.2.2.2.2.2.2.2.2.2.1, (r1.2.2.2.2.2.2.2.2.2.2.2.2.2.1, (r1.2.2.1, (r1.2.2.2.1, (r1.2.2.2.2.1, (r1.2.2.2.2.2.1, (r1.2.2.2.2.2.2.1, (r1.2.2.2.2.2.2.2.1, (r1.2.2.2.2.2.2.2.2.1, ())))))))))))))) (fun r2 =>
 .ret (r2.1, (r2.2.1, (r2.2.2.1, (r2.2.2.2.1, (r2.2.2.2.2.1, (r2.2.2.2.2.2.1, (r2.2.2.2.2.2.2.1, (r2.2.2.2.2.2.2.2.1, ()))))))))))))) (
 .ite (decide (r1.2.2.2.2.2.2.1 = (1 : Int))) (
 .ret (false, (r1.2.2.1, (r1.2.2.2.1, (r1.2.2.2.2.1, (r1.2.2.2.2.2.1, (r1.2.2.2.2.2.2.1, (r1.2.2.2.2.2.2.2.1, (r1.2.2.2.2.2.2.2.2.1, ()))))))))) (
 .ite (decide (r1.2.2.2.2.2.2.1 = (2 : Int))) (
 .ite (!r1.2.2.2.2.2.2.2.2.2.2.2.2.2.1) (
 .ret (false, (r1.2.2.1, (r1.2.2.2.1, (r1.2.2.2.2.1, (r1.2.2.2.2.2.1, (r1.2.2.2.2.2.2.1, (r1.2.2.2.2.2.2.2.1, (r1.2.2.2.2.2.2.2.2.1, ()))))))))) (
 .opt ((trOpen_fn (r1.2.2.2.2.2.2.2.2.2.1, (r1.2.2.2.2.2.2.2.2.2.2.1, (r1.2.2.2.2.2.2.2.2.2.2.2.1, (r1.2.2.2.2.2.2.2.2.2.2.2.2.1, (r1.2.2.2.2.2.2.2.2.2.2.2.2.2.1, (r1.2.2.1, (r1.2.2.2.1, (r1.2.2.2.2.1, (r1.2.2.2.2.2.1, (r1.2.2.2.2.2.2.1, (r1.2.2.2.2.2.2.2.1, (r1.2.2.2.2.2.2.2.2.1, ())))))))))))))) (fun r2 =>
 .ret (r2.1, (r2.2.1, (r2.2.2.1, (r2.2.2.2.1, (r2.2.2.2.2.1, (r2.2.2.2.2.2.1, (r2.2.2.2.2.2.2.1, (r2.2.2.2.2.2.2.2.1, ()))))))))))) (
 .opt ((trOpen_fn (r1.2.2.2.2.2.2.2.2.2.1, (r1.2.2.2.2.2.2.2.2.2.2.1, (r1.2.2.2.2.2.2.2.2.2.2.2.1, (r1.2.2.2.2.2.2.2.2.2.2.2.2.1, (r1.2.2.2.2.2.2.2.2.2.2.2.2.2.1, (r1.2.2.1, (r1.2.2.2.1, (r1.2.2.2.2.1, (r1.2.2.2.2.2.1, (r1.2.2.2.2.2.2.1, (r1.2.2.2.2.2.2.2.1, (r1.2.2.2.2.2.2.2.2.1, ())))))))))))))) (fun r2 =>
 .ret (r2.1, (r2.2.1, (r2.2.2.1, (r2.2.2.2.1, (r2.2.2.2.2.1, (r2.2.2.2.2.2.1, (r2.2.2.2.2.2.2.1, (r2.2.2.2.2.2.2.2.1, ())))))))))))))) (
 .ite (decide (r1.2.2.2.2.2.2.1 <= (2 : Int))) (
 .ite (r1.1) (
 .ret (true, (r1.2.2.1, (r1.2.2.2.1, (r1.2.2.2.2.1, (r1.2.2.2.2.2.1, ((2 : Int), (r1.2.2.2.2.2.2.2.1, (r1.2.2.2.2.2.2.2.2.1, ()))))))))) (
 .ite (decide (r1.2.2.2.2.2.2.1 = (1 : Int))) (
 .ret (false, (r1.2.2.1, (r1.2.2.2.1, (r1.2.2.2.2.1, (r1.2.2.2.2.2.1, (r1.2.2.2.2.2.2.1, (r1.2.2.2.2.2.2.2.1, (r1.2.2.2.2.2.2.2.2.1, ()))))))))) (
 .ite (decide (r1.2.2.2.2.2.2.1 = (2 : Int))) (
 .ite (!r1.2.2.2.2.2.2.2.2.2.2.2.2.2.1) (
 .ret (false, (r1.2.2.1, (r1.2.2.2.1, (r1.2.2.2.2.1, (r1.2.2.2.2.2.1, (r1.2.2.2.2.2.2.1, (r1.2.2.2.2.2.2.2.1, (r1.2.2.2.2.2.2.2.2.1, ()))))))))) (
 .opt ((trOpen_fn (r1.2.2.2.2.2.2.2.2.2.1, (r1.2.2.2.2.2.2.2.2.2.2.1, (r1.2.2.2.2.2.2.2.2.2.2.2.1, (r1.2.2.2.2.2.2.2.2.2.2.2.2.1, (r1.2.2.2.2.2.2.2.2.2.2.2.2.2.1, (r1.2.2.1, (r1.2.2.2.1, (r1.2.2.2.2.1, (r1.2.2.2.2.2.1, (r1.2.2.2.2.2.2.1, (r1.2.2.2.2.2.2.2.1, (r1.2.2.2.2.2.2.2.2.1, ())))))))))))))) (fun r2 =>
 .ret (r2.1, (r2.2.1, (r2.2.2.1, (r2.2.2.2.1, (r2.2.2.2.2.1, (r2.2.2.2.2.2.1, (r2.2.2.2.2.2.2.1, (r2.2.2.2.2.2.2.2.1, ()))))))))))) (
 .opt ((trOpen_fn (r1.2.2.2.2.2.2.2.2.2.1, (r1.2.2.2.2.2.2.2.2.2.2.1, (r1.2.2.2.2.2.2.2.2.2.2.2.1, (r1.2.2.2.2.2.2.2.2.2.2.2.2.1, (r1.2.2.2.2.2.2.2.2.2.2.2.2.2.1, (r1.2.2.1, (r1.2.2.2.1, (r1.2.2.2.2.1, (r1.2.2.2.2.2.1, (r1.2.2.2.2.2.2.1, (r1.2.2.2.2.2.2.2.1, (r1.2.2.2.2.2.2.2.2.1, ())))))))))))))) (fun r2 =>
 .ret (r2.1, (r2.2.1, (r2.2.2.1, (r2.2.2.2.1, (r2.2.2.2.2.1, (r2.2.2.2.2.2.1, (r2.2.2.2.2.2.2.1, (r2.2.2.2.2.2.2.2.1, ()))))))))))))) (
 .ite (decide (r1.2.2.2.2.2.2.1 = (1 : Int))) (
 .ret (false, (r1.2.2.1, (r1.2.2.2.1, (r1.2.2.2.2.1, (r1.2.2.2.2.2.1, (r1.2.2.2.2.2.2.1, (r1.2.2.2.2.2.2.2.1, (r1.2.2.2.2.2.2.2.2.1, ()))))))))) (
 .ite (decide (r1.2.2.2.2.2.2.1 = (2 : Int))) (
 .ite (!r1.2.2.2.2.2.2.2.2.2.2.2.2.2.1) (
 .ret (false, (r1.2.2.1, (r1.2.2.2.1, (r1.2.2.2.2.1, (r1.2.2.2.2.2.1, (r1.2.2.2.2.2.2.1, (r1.2.2.2.2.2.2.2.1, (r1.2.2.2.2.2.2.2.2.1, ()))))))))) (
 .opt ((trOpen_fn (r1.2.2.2.2.2.2.2.2.2.1, (r1.2.2.2.2.2.2.2.2.2.2.1, (r1.2.2.2.2.2.2.2.2.2.2.2.1, (r1.2.2.2.2.2.2.2.2.2.2.2.2.1, (r1.2.2.2.2.2.2.2.2.2.2.2.2.2.1, (r1.2.2.1, (r1.2.2.2.1, (r1.2.2.2.2.1, (r1.2.2.2.2.2.1, (r1.2.2.2.2.2.2.1, (r1.2.2.2.2.2.2.2.1, (r1.2.2.2.2.2.2.2.2.1, ())))))))))))))) (fun r2 =>
 .ret (r2.1, (r2.2.1, (r2.2.2.1, (r2.2.2.2.1, (r2.2.2.2.2.1, (r2.2.2.2.2.2.1, (r2.2.2.2.2.2.2.1, (r2.2.2.2.2.2.2.2.1, ()))))))))))) (
 .opt ((trOpen_fn (r1.2.2.2.2.2.2.2.2.2.1, (r1.2.2.2.2.2.2.2.2.2.2.1, (r1.2.2.2.2.2.2.2.2.2.2.2.1, (r1.2.2.2.2.2.2.2.2.2.2.2.2.1, (r1.2.2.2.2.2.2.2.2.2.2.2.2.2.1, (r1.2.2.1, (r1.2.2.2.1, (r1.2.2.2.2.1, (r1.2.2.2.2.2.1, (r1.2.2.2.2.2.2.1, (r1.2.2.2.2.2.2.2.1, (r1.2.2.2.2.2.2.2.2.1, ())))))))))))))) (fun r2 =>
 .ret (r2.1, (r2.2.1, (r2.2.2.1, (r2.2.2.2.1, (r2.2.2.2.2.1, (r2.2.2.2.2.2.1, (r2.2.2.2.2.2.2.1, (r2.2.2.2.2.2.2.2.1, ())))))))))))))))
noncomputable def gm32 : List (PF Go.Proofs.Tryd.prog) := [clTalk, GS.pf delTalk, FS.pf trTurned, FS.pf trPort, FS.pf trRoad, FS.pf trForm, FS.pf trPlace, FS.pf trCheck, FS.pf trOld, GS.pf dfTalk, GS.pf trOpen]
theorem trPasses_eq (x : ty3_) : gsTr Tryd.prog cod gm32 [(102, trPasses_L102_100002), (102, trPasses_L102_100001)] 30 102 trPasses_ap trPasses_rp x = trPasses_tree x := by kernel_rfl
def trPasses_fn (x : ty3_) : Option (Bool × (Int × (Int × (Int × (Int × (Int × (Int × (Int × Unit)))))))) := (trPasses_tree x).eval
def trPasses : GS Tryd.prog := ⟨102, [0, 0], trPasses_ap, trPasses_rp, trPasses_fn, fun x r h ys m g he hg => gs_sound (cod := cod) (Γ := gm32) (Λs := [(102, trPasses_L102_100002), (102, trPasses_L102_100001)]) (n := 30) ((congrArg Tr.eval (trPasses_eq x)).trans h) he hg⟩
def trHear_ap : List VP1 := [.one (.st 16 false), .agg [.i .u32, .i .u32, .i .i64, .i .i64], .one (.i .i64), .one (.i .i64)]
def trHear_rp : SP := ⟨1, [(0, .tup [.one (.st 16 true), .one (.b), .one (.i .i64)])], []⟩
def trHear_tree : ((List TTalk) × (Int × (Int × (Int × (Int × (Int × (Int × Unit))))))) -> Tr ((List TTalk) × (Bool × (Int × Unit))) :=
 fun (a0, a1, a2, a3, a4, a5, a6, _) =>
 .grd (decide (((0 : Nat) + a0.length) * (48 : Nat) <= (140737488355328 : Nat) /\ (0 : Nat) + a0.length <= (9223372036854775807 : Nat))) (
 .opt ((trCheck_fn (a0, ()))) (fun r0 =>
 .ite (!decide (r0.1 = (0 : Int))) (
 .ret (a0, (false, (r0.1, ())))) (
 .ite (decide ((0 : Int) < (↑(a0.length) : Int))) (
 .grd (decide ((0 : Int) <= wW .i64 ((↑(a0.length) : Int) - (1 : Int)) /\ wW .i64 ((↑(a0.length) : Int) - (1 : Int)) < (↑(a0.length) : Int))) (
 .opt (a0[Int.toNat (wW .i64 ((↑(a0.length) : Int) - (1 : Int)))]?) (fun r1 =>
 .opt ((trRoad_fn (a1, (a2, (a3, (a4, ())))))) (fun r2 =>
 .ite (!r2.1) (
 .ret (a0, (false, ((1 : Int), ())))) (
 .ite (decide (a5 < (0 : Int))) (
 .ret (a0, (false, ((1 : Int), ())))) (
 .ite (decide ((255 : Int) < a5)) (
 .ret (a0, (false, ((1 : Int), ())))) (
 .ite (decide (a6 < r1.at')) (
 .ret (a0, (false, ((1 : Int), ())))) (
 .ite (decide ((1099511627776 : Int) < a6)) (
 .ret (a0, (false, ((1 : Int), ())))) (
 .grd (decide (((0 : Nat) + a0.length) * (48 : Nat) <= (140737488355328 : Nat) /\ (0 : Nat) + a0.length <= (9223372036854775807 : Nat))) (
 .grd (decide (a0.length = a0.length)) (
 .opt ((dfTalk_fn (a6, (a0, ())))) (fun r3 =>
 .opt ((trPlace_fn (r3.2.1, (a1, (a2, (a3, (a4, ()))))))) (fun r4 =>
 .ite (decide (r4.1 < (0 : Int))) (
 .ite (!((!decide (bits .and .i64 a5 (2 : Int) = (0 : Int))) == true && ((!decide (bits .and .i64 a5 (16 : Int) = (0 : Int))) == false && ((!decide (bits .and .i64 a5 (1 : Int) = (0 : Int))) == false && ((!decide (bits .and .i64 a5 (4 : Int) = (0 : Int))) == false && true))))) (
 .ret (r3.2.1, (false, ((0 : Int), ())))) (
 .ite (decide ((↑(List.length r3.2.fst) : Int) = (64 : Int))) (
 .ret (a0, (false, ((6 : Int), ())))) (
 .grd (decide ((List.length r3.2.1 + List.length [TTalk.mk a1 a2 a3 a4 (1 : Int) (0 : Int) r3.1]) * (48 : Nat) <= (140737488355328 : Nat) /\ List.length r3.2.1 + List.length [TTalk.mk a1 a2 a3 a4 (1 : Int) (0 : Int) r3.1] <= (9223372036854775807 : Nat))) (
 .ret (r3.2.1 ++ [TTalk.mk a1 a2 a3 a4 (1 : Int) (0 : Int) r3.1], (true, ((0 : Int), ()))))))) (
 .grd (decide ((0 : Int) <= r4.1 /\ r4.1 < (↑(List.length r3.2.fst) : Int))) (
 .opt (r3.2.1[Int.toNat r4.1]?) (fun r5 =>
 .ite (!!decide (bits .and .i64 a5 (4 : Int) = (0 : Int))) (
 .opt ((trPasses_fn (!decide (bits .and .i64 a5 (2 : Int) = (0 : Int)), (!decide (bits .and .i64 a5 (16 : Int) = (0 : Int)), (!decide (bits .and .i64 a5 (1 : Int) = (0 : Int)), (!decide (bits .and .i64 a5 (4 : Int) = (0 : Int)), (decide (r5.from' = a1) && (decide (r5.to = a2) && (decide (r5.fromPort = a3) && (decide (r5.toPort = a4) && true))), (r5.from', (r5.to, (r5.fromPort, (r5.toPort, (r5.state, (r5.over, (r5.at', ())))))))))))))) (fun r6 =>
 .ite (!r6.1) (
 .ret (r3.2.1, (false, ((0 : Int), ())))) (
 .grd (decide (List.length r3.2.fst = List.length r3.2.1)) (
 .opt ((delTalk_fn (r4.1, (wW .i64 (r4.1 + (1 : Int)), (r3.2.1, ()))))) (fun r7 =>
 .ite (!decide (bits .and .i64 a5 (4 : Int) = (0 : Int))) (
 .ret (r7.1, (true, ((0 : Int), ())))) (
 .grd (decide ((List.length r7.1 + List.length [TTalk.mk r6.2.1 r6.2.2.1 r6.2.2.2.1 r6.2.2.2.2.1 r6.2.2.2.2.2.1 r6.2.2.2.2.2.2.1 r3.1]) * (48 : Nat) <= (140737488355328 : Nat) /\ List.length r7.1 + List.length [TTalk.mk r6.2.1 r6.2.2.1 r6.2.2.2.1 r6.2.2.2.2.1 r6.2.2.2.2.2.1 r6.2.2.2.2.2.2.1 r3.1] <= (9223372036854775807 : Nat))) (
 .ret (r7.1 ++ [TTalk.mk r6.2.1 r6.2.2.1 r6.2.2.2.1 r6.2.2.2.2.1 r6.2.2.2.2.2.1 r6.2.2.2.2.2.2.1 r3.1], (true, ((0 : Int), ())))))))))) (
 .grd (decide (List.length r3.2.fst = List.length r3.2.1)) (
 .opt ((delTalk_fn (r4.1, (wW .i64 (r4.1 + (1 : Int)), (r3.2.1, ()))))) (fun r6 =>
 .ite (!decide (bits .and .i64 a5 (4 : Int) = (0 : Int))) (
 .ret (r6.1, (true, ((0 : Int), ())))) (
 .grd (decide ((List.length r6.1 + List.length [TTalk.mk r5.from' r5.to r5.fromPort r5.toPort r5.state r5.over r3.1]) * (48 : Nat) <= (140737488355328 : Nat) /\ List.length r6.1 + List.length [TTalk.mk r5.from' r5.to r5.fromPort r5.toPort r5.state r5.over r3.1] <= (9223372036854775807 : Nat))) (
 .ret (r6.1 ++ [TTalk.mk r5.from' r5.to r5.fromPort r5.toPort r5.state r5.over r3.1], (true, ((0 : Int), ())))))))))))))))))))))))) (
 .opt ((trRoad_fn (a1, (a2, (a3, (a4, ())))))) (fun r1 =>
 .ite (!r1.1) (
 .ret (a0, (false, ((1 : Int), ())))) (
 .ite (decide (a5 < (0 : Int))) (
 .ret (a0, (false, ((1 : Int), ())))) (
 .ite (decide ((255 : Int) < a5)) (
 .ret (a0, (false, ((1 : Int), ())))) (
 .ite (decide (a6 < (0 : Int))) (
 .ret (a0, (false, ((1 : Int), ())))) (
 .ite (decide ((1099511627776 : Int) < a6)) (
 .ret (a0, (false, ((1 : Int), ())))) (
 .grd (decide (((0 : Nat) + a0.length) * (48 : Nat) <= (140737488355328 : Nat) /\ (0 : Nat) + a0.length <= (9223372036854775807 : Nat))) (
 .grd (decide (a0.length = a0.length)) (
 .opt ((dfTalk_fn (a6, (a0, ())))) (fun r2 =>
 .opt ((trPlace_fn (r2.2.1, (a1, (a2, (a3, (a4, ()))))))) (fun r3 =>
 .ite (decide (r3.1 < (0 : Int))) (
 .ite (!((!decide (bits .and .i64 a5 (2 : Int) = (0 : Int))) == true && ((!decide (bits .and .i64 a5 (16 : Int) = (0 : Int))) == false && ((!decide (bits .and .i64 a5 (1 : Int) = (0 : Int))) == false && ((!decide (bits .and .i64 a5 (4 : Int) = (0 : Int))) == false && true))))) (
 .ret (r2.2.1, (false, ((0 : Int), ())))) (
 .ite (decide ((↑(List.length r2.2.fst) : Int) = (64 : Int))) (
 .ret (a0, (false, ((6 : Int), ())))) (
 .grd (decide ((List.length r2.2.1 + List.length [TTalk.mk a1 a2 a3 a4 (1 : Int) (0 : Int) r2.1]) * (48 : Nat) <= (140737488355328 : Nat) /\ List.length r2.2.1 + List.length [TTalk.mk a1 a2 a3 a4 (1 : Int) (0 : Int) r2.1] <= (9223372036854775807 : Nat))) (
 .ret (r2.2.1 ++ [TTalk.mk a1 a2 a3 a4 (1 : Int) (0 : Int) r2.1], (true, ((0 : Int), ()))))))) (
 .grd (decide ((0 : Int) <= r3.1 /\ r3.1 < (↑(List.length r2.2.fst) : Int))) (
 .opt (r2.2.1[Int.toNat r3.1]?) (fun r4 =>
 .ite (!!decide (bits .and .i64 a5 (4 : Int) = (0 : Int))) (
 .opt ((trPasses_fn (!decide (bits .and .i64 a5 (2 : Int) = (0 : Int)), (!decide (bits .and .i64 a5 (16 : Int) = (0 : Int)), (!decide (bits .and .i64 a5 (1 : Int) = (0 : Int)), (!decide (bits .and .i64 a5 (4 : Int) = (0 : Int)), (decide (r4.from' = a1) && (decide (r4.to = a2) && (decide (r4.fromPort = a3) && (decide (r4.toPort = a4) && true))), (r4.from', (r4.to, (r4.fromPort, (r4.toPort, (r4.state, (r4.over, (r4.at', ())))))))))))))) (fun r5 =>
 .ite (!r5.1) (
 .ret (r2.2.1, (false, ((0 : Int), ())))) (
 .grd (decide (List.length r2.2.fst = List.length r2.2.1)) (
 .opt ((delTalk_fn (r3.1, (wW .i64 (r3.1 + (1 : Int)), (r2.2.1, ()))))) (fun r6 =>
 .ite (!decide (bits .and .i64 a5 (4 : Int) = (0 : Int))) (
 .ret (r6.1, (true, ((0 : Int), ())))) (
 .grd (decide ((List.length r6.1 + List.length [TTalk.mk r5.2.1 r5.2.2.1 r5.2.2.2.1 r5.2.2.2.2.1 r5.2.2.2.2.2.1 r5.2.2.2.2.2.2.1 r2.1]) * (48 : Nat) <= (140737488355328 : Nat) /\ List.length r6.1 + List.length [TTalk.mk r5.2.1 r5.2.2.1 r5.2.2.2.1 r5.2.2.2.2.1 r5.2.2.2.2.2.1 r5.2.2.2.2.2.2.1 r2.1] <= (9223372036854775807 : Nat))) (
 .ret (r6.1 ++ [TTalk.mk r5.2.1 r5.2.2.1 r5.2.2.2.1 r5.2.2.2.2.1 r5.2.2.2.2.2.1 r5.2.2.2.2.2.2.1 r2.1], (true, ((0 : Int), ())))))))))) (
 .grd (decide (List.length r2.2.fst = List.length r2.2.1)) (
 .opt ((delTalk_fn (r3.1, (wW .i64 (r3.1 + (1 : Int)), (r2.2.1, ()))))) (fun r5 =>
 .ite (!decide (bits .and .i64 a5 (4 : Int) = (0 : Int))) (
 .ret (r5.1, (true, ((0 : Int), ())))) (
 .grd (decide ((List.length r5.1 + List.length [TTalk.mk r4.from' r4.to r4.fromPort r4.toPort r4.state r4.over r2.1]) * (48 : Nat) <= (140737488355328 : Nat) /\ List.length r5.1 + List.length [TTalk.mk r4.from' r4.to r4.fromPort r4.toPort r4.state r4.over r2.1] <= (9223372036854775807 : Nat))) (
 .ret (r5.1 ++ [TTalk.mk r4.from' r4.to r4.fromPort r4.toPort r4.state r4.over r2.1], (true, ((0 : Int), ())))))))))))))))))))))))))
noncomputable def gm33 : List (PF Go.Proofs.Tryd.prog) := [clTalk, GS.pf delTalk, FS.pf trTurned, FS.pf trPort, FS.pf trRoad, FS.pf trForm, FS.pf trPlace, FS.pf trCheck, FS.pf trOld, GS.pf dfTalk, GS.pf trOpen, GS.pf trPasses]
theorem trHear_eq (x : ((List TTalk) × (Int × (Int × (Int × (Int × (Int × (Int × Unit)))))))) : fnTr Tryd.prog cod gm33 [] 30 91 trHear_ap trHear_rp x = trHear_tree x := by kernel_rfl
def trHear_fn (x : ((List TTalk) × (Int × (Int × (Int × (Int × (Int × (Int × Unit)))))))) : Option ((List TTalk) × (Bool × (Int × Unit))) := (trHear_tree x).eval
def trHear : FS Tryd.prog := ⟨91, trHear_ap, trHear_rp, trHear_fn, fun x r h => fnTr_sound (cod := cod) (Γ := gm33) (Λs := []) (n := 30) ((congrArg Tr.eval (trHear_eq x)).trans h)⟩
def trFind_ap : List VP1 := [.one (.st 16 false), .agg [.i .u32, .i .u32, .i .i64, .i .i64], .one (.i .i64)]
def trFind_rp : SP := ⟨1, [(0, .tup [.agg [.i .u32, .i .u32, .i .i64, .i .i64, .i .i64, .i .i64, .i .i64], .one (.b), .one (.i .i64)])], []⟩
def trFind_tree : ((List TTalk) × (Int × (Int × (Int × (Int × (Int × Unit)))))) -> Tr (Int × (Int × (Int × (Int × (Int × (Int × (Int × (Bool × (Int × Unit))))))))) :=
 fun (a0, a1, a2, a3, a4, a5, _) =>
 .opt ((trCheck_fn (a0, ()))) (fun r0 =>
 .ite (!decide (r0.1 = (0 : Int))) (
 .ret ((0 : Int), ((0 : Int), ((0 : Int), ((0 : Int), ((0 : Int), ((0 : Int), ((0 : Int), (false, (r0.1, ())))))))))) (
 .ite (decide (a5 < (0 : Int))) (
 .ret ((0 : Int), ((0 : Int), ((0 : Int), ((0 : Int), ((0 : Int), ((0 : Int), ((0 : Int), (false, ((1 : Int), ())))))))))) (
 .ite (decide ((1099511627776 : Int) < a5)) (
 .ret ((0 : Int), ((0 : Int), ((0 : Int), ((0 : Int), ((0 : Int), ((0 : Int), ((0 : Int), (false, ((1 : Int), ())))))))))) (
 .opt ((trPlace_fn (a0, (a1, (a2, (a3, (a4, ()))))))) (fun r1 =>
 .ite (decide (r1.1 < (0 : Int))) (
 .ret ((0 : Int), ((0 : Int), ((0 : Int), ((0 : Int), ((0 : Int), ((0 : Int), ((0 : Int), (false, ((0 : Int), ())))))))))) (
 .grd (decide ((0 : Int) <= r1.1)) (
 .opt (a0[Int.toNat r1.1]?) (fun r2 =>
 .opt ((trOld_fn (r2.from', (r2.to, (r2.fromPort, (r2.toPort, (r2.state, (r2.over, (r2.at', (a5, ())))))))))) (fun r3 =>
 .ite (r3.1) (
 .ret ((0 : Int), ((0 : Int), ((0 : Int), ((0 : Int), ((0 : Int), ((0 : Int), ((0 : Int), (false, ((0 : Int), ())))))))))) (
 .grd (decide ((0 : Int) <= r1.1)) (
 .opt (a0[Int.toNat r1.1]?) (fun r4 =>
 .ret (r4.from', (r4.to, (r4.fromPort, (r4.toPort, (r4.state, (r4.over, (r4.at', (true, ((0 : Int), ())))))))))))))))))))))
noncomputable def gm34 : List (PF Go.Proofs.Tryd.prog) := [clTalk, GS.pf delTalk, FS.pf trTurned, FS.pf trPort, FS.pf trRoad, FS.pf trForm, FS.pf trPlace, FS.pf trCheck, FS.pf trOld, GS.pf dfTalk, GS.pf trOpen, GS.pf trPasses, FS.pf trHear]
theorem trFind_eq (x : ((List TTalk) × (Int × (Int × (Int × (Int × (Int × Unit))))))) : fnTr Tryd.prog cod gm34 [] 30 86 trFind_ap trFind_rp x = trFind_tree x := by kernel_rfl
def trFind_fn (x : ((List TTalk) × (Int × (Int × (Int × (Int × (Int × Unit))))))) : Option (Int × (Int × (Int × (Int × (Int × (Int × (Int × (Bool × (Int × Unit))))))))) := (trFind_tree x).eval
def trFind : FS Tryd.prog := ⟨86, trFind_ap, trFind_rp, trFind_fn, fun x r h => fnTr_sound (cod := cod) (Γ := gm34) (Λs := []) (n := 30) ((congrArg Tr.eval (trFind_eq x)).trans h)⟩
def buCheck_ap : List VP1 := [.agg [.i .i64, .i .i64, .i .i64, .i .i64]]
def buCheck_rp : SP := ⟨1, [(0, .v (.one (.i .i64)))], []⟩
def buCheck_tree : (Int × (Int × (Int × (Int × Unit)))) -> Tr (Int × Unit) :=
 fun (a0, a1, a2, a3, _) =>
 .ite (decide (a0 < (0 : Int))) (
 .ret ((1 : Int), ())) (
 .ite (decide ((1000000 : Int) < a0)) (
 .ret ((1 : Int), ())) (
 .ite (decide (a1 < (1 : Int))) (
 .ret ((1 : Int), ())) (
 .ite (decide ((1000000000 : Int) < a1)) (
 .ret ((1 : Int), ())) (
 .ite (decide (a2 < (0 : Int))) (
 .ret ((4 : Int), ())) (
 .ite (decide (a1 < a2)) (
 .ret ((4 : Int), ())) (
 .ite (decide (a3 < (0 : Int))) (
 .ret ((4 : Int), ())) (
 .ite (decide ((1099511627776 : Int) < a3)) (
 .ret ((4 : Int), ())) (
 .ret ((0 : Int), ())))))))))
theorem buCheck_eq (x : (Int × (Int × (Int × (Int × Unit))))) : fnTr Tryd.prog cod [] [] 30 42 buCheck_ap buCheck_rp x = buCheck_tree x := by kernel_rfl
def buCheck_fn (x : (Int × (Int × (Int × (Int × Unit))))) : Option (Int × Unit) := (buCheck_tree x).eval
def buCheck : FS Tryd.prog := ⟨42, buCheck_ap, buCheck_rp, buCheck_fn, fun x r h => fnTr_sound (cod := cod) (Γ := []) (Λs := []) (n := 30) ((congrArg Tr.eval (buCheck_eq x)).trans h)⟩
def buLev_ap : List VP1 := [.agg [.i .i64, .i .i64, .i .i64, .i .i64], .one (.i .i64)]
def buLev_rp : SP := ⟨1, [(0, .v (.one (.i .i64)))], []⟩
def buLev_tree : (Int × (Int × (Int × (Int × (Int × Unit))))) -> Tr (Int × Unit) :=
 fun (a0, a1, a2, a3, a4, _) =>
 .ret (if true = true then if wW .i64 (a2 + wW .i64 (a0 * if true = true then if (1000000000 : Int) < wW .i64 (a4 - a3) then (1000000000 : Int) else wW .i64 (a4 - a3) else if (1000000000 : Int) > wW .i64 (a4 - a3) then (1000000000 : Int) else wW .i64 (a4 - a3))) < a1 then wW .i64 (a2 + wW .i64 (a0 * if true = true then if (1000000000 : Int) < wW .i64 (a4 - a3) then (1000000000 : Int) else wW .i64 (a4 - a3) else if (1000000000 : Int) > wW .i64 (a4 - a3) then (1000000000 : Int) else wW .i64 (a4 - a3))) else a1 else if wW .i64 (a2 + wW .i64 (a0 * if true = true then if (1000000000 : Int) < wW .i64 (a4 - a3) then (1000000000 : Int) else wW .i64 (a4 - a3) else if (1000000000 : Int) > wW .i64 (a4 - a3) then (1000000000 : Int) else wW .i64 (a4 - a3))) > a1 then wW .i64 (a2 + wW .i64 (a0 * if true = true then if (1000000000 : Int) < wW .i64 (a4 - a3) then (1000000000 : Int) else wW .i64 (a4 - a3) else if (1000000000 : Int) > wW .i64 (a4 - a3) then (1000000000 : Int) else wW .i64 (a4 - a3))) else a1, ())
theorem buLev_eq (x : (Int × (Int × (Int × (Int × (Int × Unit)))))) : fnTr Tryd.prog cod [FS.pf buCheck] [] 30 85 buLev_ap buLev_rp x = buLev_tree x := by kernel_rfl
def buLev_fn (x : (Int × (Int × (Int × (Int × (Int × Unit)))))) : Option (Int × Unit) := (buLev_tree x).eval
def buLev : FS Tryd.prog := ⟨85, buLev_ap, buLev_rp, buLev_fn, fun x r h => fnTr_sound (cod := cod) (Γ := [FS.pf buCheck]) (Λs := []) (n := 30) ((congrArg Tr.eval (buLev_eq x)).trans h)⟩
def buTake_ap : List VP1 := [.agg [.i .i64, .i .i64, .i .i64, .i .i64], .one (.i .i64), .one (.i .i64)]
def buTake_rp : SP := ⟨1, [(0, .tup [.agg [.i .i64, .i .i64, .i .i64, .i .i64], .one (.b), .one (.i .i64)])], []⟩
def buTake_tree : (Int × (Int × (Int × (Int × (Int × (Int × Unit)))))) -> Tr (Int × (Int × (Int × (Int × (Bool × (Int × Unit)))))) :=
 fun (a0, a1, a2, a3, a4, a5, _) =>
 .opt ((buCheck_fn (a0, (a1, (a2, (a3, ())))))) (fun r0 =>
 .ite (!decide (r0.1 = (0 : Int))) (
 .ret ((0 : Int), ((0 : Int), ((0 : Int), ((0 : Int), (false, (r0.1, ()))))))) (
 .ite (decide (a4 < a3)) (
 .ret ((0 : Int), ((0 : Int), ((0 : Int), ((0 : Int), (false, ((1 : Int), ()))))))) (
 .ite (decide ((1099511627776 : Int) < a4)) (
 .ret ((0 : Int), ((0 : Int), ((0 : Int), ((0 : Int), (false, ((1 : Int), ()))))))) (
 .ite (decide (a5 < (0 : Int))) (
 .ret ((0 : Int), ((0 : Int), ((0 : Int), ((0 : Int), (false, ((1 : Int), ()))))))) (
 .ite (decide ((1000000000 : Int) < a5)) (
 .ret ((0 : Int), ((0 : Int), ((0 : Int), ((0 : Int), (false, ((1 : Int), ()))))))) (
 .opt ((buLev_fn (a0, (a1, (a2, (a3, (a4, ()))))))) (fun r1 =>
 .ite (decide (r1.1 < a5)) (
 .ret (a0, (a1, (r1.1, (a4, (false, ((0 : Int), ()))))))) (
 .ret (a0, (a1, (wW .i64 (r1.1 - a5), (a4, (true, ((0 : Int), ()))))))))))))))
theorem buTake_eq (x : (Int × (Int × (Int × (Int × (Int × (Int × Unit))))))) : fnTr Tryd.prog cod [FS.pf buCheck, FS.pf buLev] [] 30 69 buTake_ap buTake_rp x = buTake_tree x := by kernel_rfl
def buTake_fn (x : (Int × (Int × (Int × (Int × (Int × (Int × Unit))))))) : Option (Int × (Int × (Int × (Int × (Bool × (Int × Unit)))))) := (buTake_tree x).eval
def buTake : FS Tryd.prog := ⟨69, buTake_ap, buTake_rp, buTake_fn, fun x r h => fnTr_sound (cod := cod) (Γ := [FS.pf buCheck, FS.pf buLev]) (Λs := []) (n := 30) ((congrArg Tr.eval (buTake_eq x)).trans h)⟩
theorem clRule_h1 (xs : List (τ 10)) : (bodyTr Go.Proofs.Tryd.prog cod 29 [.one (.nn (.st 10 xs))]).eval = (cloneRes 91 10 80 xs).eval := by kernel_rfl
theorem clRule_h2 : (bodyTr Go.Proofs.Tryd.prog cod 29 [.one .nil]).eval = some (.one .nil, []) := by kernel_rfl
def clRule : PF Go.Proofs.Tryd.prog := clonePF Go.Proofs.Tryd.prog cod 29 91 10 80 clRule_h1 clRule_h2
def ruNet_ap : List VP1 := [.agg [.i .u32, .i .i64]]
def ruNet_rp : SP := ⟨1, [(0, .v (.one (.b)))], []⟩
def ruNet_tree : (Int × (Int × Unit)) -> Tr (Bool × Unit) :=
 fun (a0, a1, _) =>
 .ite (decide ((0 : Int) <= a1)) (
 .ite (decide (a1 <= (32 : Int))) (
 .grd (decide ((0 : Int) <= a1)) (
 .ret (decide (wW .u32 (a0 * (2 : Int) ^ min (Int.toNat a1) (32 : Nat)) = (0 : Int)), ()))) (
 .ret (false, ()))) (
 .ret (false, ()))
theorem ruNet_eq (x : (Int × (Int × Unit))) : fnTr Tryd.prog cod [clRule] [] 30 96 ruNet_ap ruNet_rp x = ruNet_tree x := by kernel_rfl
def ruNet_fn (x : (Int × (Int × Unit))) : Option (Bool × Unit) := (ruNet_tree x).eval
def ruNet : FS Tryd.prog := ⟨96, ruNet_ap, ruNet_rp, ruNet_fn, fun x r h => fnTr_sound (cod := cod) (Γ := [clRule]) (Λs := []) (n := 30) ((congrArg Tr.eval (ruNet_eq x)).trans h)⟩
def ruHas_ap : List VP1 := [.agg [.i .u32, .i .i64], .one (.i .u32)]
def ruHas_rp : SP := ⟨1, [(0, .v (.one (.b)))], []⟩
def ruHas_tree : (Int × (Int × (Int × Unit))) -> Tr (Bool × Unit) :=
 fun (a0, a1, a2, _) =>
 .grd (decide ((0 : Int) <= wW .i64 ((32 : Int) - a1))) (
 .ret (decide (Int.fdiv (wW .u64 (bits .xor .u32 a2 a0)) ((2 : Int) ^ min (Int.toNat (wW .i64 ((32 : Int) - a1))) (64 : Nat)) = (0 : Int)), ()))
theorem ruHas_eq (x : (Int × (Int × (Int × Unit)))) : fnTr Tryd.prog cod [clRule, FS.pf ruNet] [] 30 99 ruHas_ap ruHas_rp x = ruHas_tree x := by kernel_rfl
def ruHas_fn (x : (Int × (Int × (Int × Unit)))) : Option (Bool × Unit) := (ruHas_tree x).eval
def ruHas : FS Tryd.prog := ⟨99, ruHas_ap, ruHas_rp, ruHas_fn, fun x r h => fnTr_sound (cod := cod) (Γ := [clRule, FS.pf ruNet]) (Λs := []) (n := 30) ((congrArg Tr.eval (ruHas_eq x)).trans h)⟩
def ruBounds_ap : List VP1 := [.one (.i .i64), .one (.i .i64)]
def ruBounds_rp : SP := ⟨1, [(0, .v (.one (.b)))], []⟩
def ruBounds_tree : (Int × (Int × Unit)) -> Tr (Bool × Unit) :=
 fun (a0, a1, _) =>
 .ite (decide ((0 : Int) <= a0)) (
 .ite (decide (a0 <= a1)) (
 .ret (decide (a1 <= (65535 : Int)), ())) (
 .ret (false, ()))) (
 .ret (false, ()))
theorem ruBounds_eq (x : (Int × (Int × Unit))) : fnTr Tryd.prog cod [clRule, FS.pf ruNet, FS.pf ruHas] [] 30 87 ruBounds_ap ruBounds_rp x = ruBounds_tree x := by kernel_rfl
def ruBounds_fn (x : (Int × (Int × Unit))) : Option (Bool × Unit) := (ruBounds_tree x).eval
def ruBounds : FS Tryd.prog := ⟨87, ruBounds_ap, ruBounds_rp, ruBounds_fn, fun x r h => fnTr_sound (cod := cod) (Γ := [clRule, FS.pf ruNet, FS.pf ruHas]) (Λs := []) (n := 30) ((congrArg Tr.eval (ruBounds_eq x)).trans h)⟩
def ruRight_ap : List VP1 := [.agg [.i .u32, .i .i64, .i .u32, .i .i64, .i .i64, .i .i64, .i .i64, .i .i64, .i .i64, .b]]
def ruRight_rp : SP := ⟨1, [(0, .v (.one (.b)))], []⟩
def ruRight_tree : (Int × (Int × (Int × (Int × (Int × (Int × (Int × (Int × (Int × (Bool × Unit)))))))))) -> Tr (Bool × Unit) :=
 fun (a0, a1, a2, a3, a4, a5, a6, a7, a8, a9, _) =>
 .opt ((ruNet_fn (a0, (a1, ())))) (fun r0 =>
 .ite (r0.1) (
 .opt ((ruNet_fn (a2, (a3, ())))) (fun r1 =>
 .ite (r1.1) (
 .ite (decide ((0 : Int) <= a4)) (
 .ite (decide (a4 <= (255 : Int))) (
 .opt ((ruBounds_fn (a5, (a6, ())))) (fun r2 =>
 .ite (r2.1) (
 .opt ((ruBounds_fn (a7, (a8, ())))) (fun r3 =>
 .ret (r3.1, ()))) (
 .ret (false, ())))) (
 .ret (false, ()))) (
 .ret (false, ()))) (
 .ret (false, ())))) (
 .ret (false, ())))
theorem ruRight_eq (x : (Int × (Int × (Int × (Int × (Int × (Int × (Int × (Int × (Int × (Bool × Unit))))))))))) : fnTr Tryd.prog cod [clRule, FS.pf ruNet, FS.pf ruHas, FS.pf ruBounds] [] 30 77 ruRight_ap ruRight_rp x = ruRight_tree x := by kernel_rfl
def ruRight_fn (x : (Int × (Int × (Int × (Int × (Int × (Int × (Int × (Int × (Int × (Bool × Unit))))))))))) : Option (Bool × Unit) := (ruRight_tree x).eval
def ruRight : FS Tryd.prog := ⟨77, ruRight_ap, ruRight_rp, ruRight_fn, fun x r h => fnTr_sound (cod := cod) (Γ := [clRule, FS.pf ruNet, FS.pf ruHas, FS.pf ruBounds]) (Λs := []) (n := 30) ((congrArg Tr.eval (ruRight_eq x)).trans h)⟩
def ruCheck_L56_4 : LS := ⟨4, [], ⟨18, [(10, .v (.one (.i .i64))), (8, .v (.one (.st 10 false))), (9, .v (.one (.i .i64)))], []⟩, [⟨none, [], ⟨18, [(2, .v (.one (.i .i64)))], []⟩⟩, ⟨some 0, [], ⟨18, [], []⟩⟩], []⟩
def ruCheck_step56_4 : (Int × ((List TRule) × (Int × Unit))) -> Tr ((Int × ((List TRule) × (Int × Unit))) ⊕ ((Int × Unit) ⊕ Unit)) :=
 fun (a0, a1, a2, _) =>
 .ite (decide (a0 < a2)) (
 .grd (decide ((0 : Int) <= a0)) (
 .opt (a1[Int.toNat a0]?) (fun r0 =>
 .opt ((ruRight_fn (r0.fromAddr, (r0.fromLong, (r0.toAddr, (r0.toLong, (r0.proto, (r0.fromLow, (r0.fromHigh, (r0.toLow, (r0.toHigh, (r0.pass, ())))))))))))) (fun r1 =>
 .ite (!r1.1) (
 .ret (Sum.inr (Sum.inl ((4 : Int), ())))) (
 .ret (Sum.inl (wW .i64 (a0 + (1 : Int)), (a1, (a2, ()))))))))) (
 .ret (Sum.inr (Sum.inr ())))
def ruCheck_loop56_4 (x : (Int × ((List TRule) × (Int × Unit)))) : Option ((Int × Unit) ⊕ Unit) := loopO 560004 (fun x => (ruCheck_step56_4 x).eval) 18446744073709551616 x
def ruCheck_ap : List VP1 := [.one (.st 10 false)]
def ruCheck_rp : SP := ⟨1, [(0, .v (.one (.i .i64)))], []⟩
def ruCheck_tree : ((List TRule) × Unit) -> Tr (Int × Unit) :=
 fun (a0, _) =>
 .ite (decide ((64 : Int) < (↑(a0.length) : Int))) (
 .ret ((2 : Int), ())) (
 .opt ((ruCheck_loop56_4 ((0 : Int), (a0, ((↑(a0.length) : Int), ()))))) (fun r0 =>
 .sum (r0) (fun r1 =>
 .ret (r1.1, ())) (fun r1 =>
 .ret ((0 : Int), ()))))
noncomputable def gm35 : List (PF Go.Proofs.Tryd.prog) := [clRule, FS.pf ruNet, FS.pf ruHas, FS.pf ruBounds, FS.pf ruRight]
theorem ruCheck_eq (x : ((List TRule) × Unit)) : fnTr Tryd.prog cod gm35 [(56, ruCheck_L56_4)] 30 56 ruCheck_ap ruCheck_rp x = ruCheck_tree x := by kernel_rfl
def ruCheck_fn (x : ((List TRule) × Unit)) : Option (Int × Unit) := (ruCheck_tree x).eval
def ruCheck : FS Tryd.prog := ⟨56, ruCheck_ap, ruCheck_rp, ruCheck_fn, fun x r h => fnTr_sound (cod := cod) (Γ := gm35) (Λs := [(56, ruCheck_L56_4)]) (n := 30) ((congrArg Tr.eval (ruCheck_eq x)).trans h)⟩
def ruMeets_ap : List VP1 := [.agg [.i .u32, .i .i64, .i .u32, .i .i64, .i .i64, .i .i64, .i .i64, .i .i64, .i .i64, .b], .agg [.i .u32, .i .u32, .i .i64, .i .i64, .i .i64]]
def ruMeets_rp : SP := ⟨1, [(0, .v (.one (.b)))], []⟩
abbrev ty6_ : Type := (Int × (Int × (Int × (Int × (Int × (Int × (Int × (Int × (Int × (Bool × (Int × (Int × (Int × (Int × (Int × Unit)))))))))))))))
def ruMeets_tree : ty6_ -> Tr (Bool × Unit) :=
 fun (a0, a1, a2, a3, a4, a5, a6, a7, a8, a9, a10, a11, a12, a13, a14, _) =>
 .opt ((ruHas_fn (a0, (a1, (a10, ()))))) (fun r0 =>
 .ite (r0.1) (
 .opt ((ruHas_fn (a2, (a3, (a11, ()))))) (fun r1 =>
 .ite (r1.1) (
 .ite (decide (a4 = (0 : Int))) (
 .ite (decide (a5 <= a13)) (
 .ite (decide (a13 <= a6)) (
 .ite (decide (a7 <= a14)) (
 .ret (decide (a14 <= a8), ())) (
 .ret (false, ()))) (
 .ret (false, ()))) (
 .ret (false, ()))) (
 .ite (decide (a4 = a12)) (
 .ite (decide (a5 <= a13)) (
 .ite (decide (a13 <= a6)) (
 .ite (decide (a7 <= a14)) (
 .ret (decide (a14 <= a8), ())) (
 .ret (false, ()))) (
 .ret (false, ()))) (
 .ret (false, ()))) (
 .ret (false, ())))) (
 .ret (false, ())))) (
 .ret (false, ())))
noncomputable def gm36 : List (PF Go.Proofs.Tryd.prog) := [clRule, FS.pf ruNet, FS.pf ruHas, FS.pf ruBounds, FS.pf ruRight, FS.pf ruCheck]
theorem ruMeets_eq (x : ty6_) : fnTr Tryd.prog cod gm36 [] 30 90 ruMeets_ap ruMeets_rp x = ruMeets_tree x := by kernel_rfl
def ruMeets_fn (x : ty6_) : Option (Bool × Unit) := (ruMeets_tree x).eval
def ruMeets : FS Tryd.prog := ⟨90, ruMeets_ap, ruMeets_rp, ruMeets_fn, fun x r h => fnTr_sound (cod := cod) (Γ := gm36) (Λs := []) (n := 30) ((congrArg Tr.eval (ruMeets_eq x)).trans h)⟩
def ruDecide_L88_2 : LS := ⟨2, [(1000200, 1000200)], ⟨19, [(8, .v (.one (.i .i64))), (0, .v (.one (.st 10 false))), (1, .v (.one (.clp 89 [(1000200, 0)]))), (7, .v (.one (.i .i64)))], [(1000200, .cells [.i .u32, .i .u32, .i .i64, .i .i64, .i .i64])]⟩, [⟨none, [(1000200, 1000200)], ⟨19, [(4, .v (.one (.i .i64)))], [(1000200, .cells [.i .u32, .i .u32, .i .i64, .i .i64, .i .i64])]⟩⟩, ⟨some 0, [(1000200, 1000200)], ⟨19, [], [(1000200, .cells [.i .u32, .i .u32, .i .i64, .i .i64, .i .i64])]⟩⟩], []⟩
def ruDecide_step88_2 : (Int × ((List TRule) × (Int × (Int × (Int × (Int × (Int × (Int × Unit)))))))) -> Tr ((Int × ((List TRule) × (Int × (Int × (Int × (Int × (Int × (Int × Unit)))))))) ⊕ ((Int × (Int × (Int × (Int × (Int × (Int × Unit)))))) ⊕ (Int × (Int × (Int × (Int × (Int × Unit))))))) :=
 fun (a0, a1, a2, a3, a4, a5, a6, a7, _) =>
 .ite (decide (a0 < a2)) (
 .grd (decide ((0 : Int) <= a0)) (
 .opt (a1[Int.toNat a0]?) (fun r0 =>
 .opt ((ruMeets_fn (r0.fromAddr, (r0.fromLong, (r0.toAddr, (r0.toLong, (r0.proto, (r0.fromLow, (r0.fromHigh, (r0.toLow, (r0.toHigh, (r0.pass, (a3, (a4, (a5, (a6, (a7, ()))))))))))))))))) (fun r1 =>
 .ite (r1.1) (
 .ret (Sum.inr (Sum.inl (a0, (a3, (a4, (a5, (a6, (a7, ()))))))))) (
 .ret (Sum.inl (wW .i64 (a0 + (1 : Int)), (a1, (a2, (a3, (a4, (a5, (a6, (a7, ())))))))))))))) (
 .ret (Sum.inr (Sum.inr (a3, (a4, (a5, (a6, (a7, ()))))))))
def ruDecide_loop88_2 (x : (Int × ((List TRule) × (Int × (Int × (Int × (Int × (Int × (Int × Unit))))))))) : Option ((Int × (Int × (Int × (Int × (Int × (Int × Unit)))))) ⊕ (Int × (Int × (Int × (Int × (Int × Unit)))))) := loopO 880002 (fun x => (ruDecide_step88_2 x).eval) 18446744073709551616 x
def ruDecide_ap : List VP1 := [.one (.st 10 false), .agg [.i .u32, .i .u32, .i .i64, .i .i64, .i .i64], .one (.b)]
def ruDecide_rp : SP := ⟨1, [(0, .tup [.one (.b), .one (.i .i64), .one (.i .i64)])], []⟩
def ruDecide_tree : ((List TRule) × (Int × (Int × (Int × (Int × (Int × (Bool × Unit))))))) -> Tr (Bool × (Int × (Int × Unit))) :=
 fun (a0, a1, a2, a3, a4, a5, a6, _) =>
 .opt ((ruCheck_fn (a0, ()))) (fun r0 =>
 .ite (!decide (r0.1 = (0 : Int))) (
 .ret (false, ((0 : Int), (r0.1, ())))) (
 .ite (decide (a3 < (0 : Int))) (
 .ret (false, ((0 : Int), ((1 : Int), ())))) (
 .ite (decide ((255 : Int) < a3)) (
 .ret (false, ((0 : Int), ((1 : Int), ())))) (
 .opt ((ruBounds_fn (a4, (a4, ())))) (fun r1 =>
 .ite (!r1.1) (
 .ret (false, ((0 : Int), ((1 : Int), ())))) (
 .opt ((ruBounds_fn (a5, (a5, ())))) (fun r2 =>
 .ite (!r2.1) (
 .ret (false, ((0 : Int), ((1 : Int), ())))) (
 .opt ((ruDecide_loop88_2 ((0 : Int), (a0, ((↑(a0.length) : Int), (a1, (a2, (a3, (a4, (a5, ())))))))))) (fun r3 =>
 .sum (r3) (fun r4 =>
 .ite (decide (r4.1 < (0 : Int))) (
 .ret (a6, (r4.1, ((0 : Int), ())))) (
 .grd (decide ((0 : Int) <= r4.1)) (
 .opt (a0[Int.toNat r4.1]?) (fun r5 =>
 .ret (r5.pass, (r4.1, ((0 : Int), ()))))))) (fun r4 =>
 .ite (true) (
 .ret (a6, ((-1 : Int), ((0 : Int), ())))) (
 .grd (false) (
 .opt (a0[(0 : Nat)]?) (fun r5 =>
 .ret (r5.pass, ((-1 : Int), ((0 : Int), ()))))))))))))))))
noncomputable def gm37 : List (PF Go.Proofs.Tryd.prog) := [clRule, FS.pf ruNet, FS.pf ruHas, FS.pf ruBounds, FS.pf ruRight, FS.pf ruCheck, FS.pf ruMeets]
theorem ruDecide_eq (x : ((List TRule) × (Int × (Int × (Int × (Int × (Int × (Bool × Unit)))))))) : fnTr Tryd.prog cod gm37 [(88, ruDecide_L88_2)] 30 71 ruDecide_ap ruDecide_rp x = ruDecide_tree x := by kernel_rfl
def ruDecide_fn (x : ((List TRule) × (Int × (Int × (Int × (Int × (Int × (Bool × Unit)))))))) : Option (Bool × (Int × (Int × Unit))) := (ruDecide_tree x).eval
def ruDecide : FS Tryd.prog := ⟨71, ruDecide_ap, ruDecide_rp, ruDecide_fn, fun x r h => fnTr_sound (cod := cod) (Γ := gm37) (Λs := [(88, ruDecide_L88_2)]) (n := 30) ((congrArg Tr.eval (ruDecide_eq x)).trans h)⟩
end Go.Proofs.YthkhikdglmaiaaaDoor.X
namespace Go.Proofs.YthkhikdglmaiaaaDoor.X
open Go Go.RowKit Go.Proofs.YthkhikdglmaiaaaDoor.Abs
set_option linter.unusedVariables false
theorem acall_glob {P : Program} {f : FuncId} {ys : List V} {r : V} (hn : ys.length <= 900)
  (h : ∀ (w : World) (U : Nat -> Prop) (β : Nat -> Option Abs.Place) (us : Array Value), us.size = ys.length -> (∀ t, RepV w β U w.heap.size (us.getD t undef) ((Abs.look t (argsEnv 0 ys)).getD (.one .bad))) -> Glob U w ->
   ∃ v, RepV w β U w.heap.size v r /\ Calls P f us w fun e w' => e = .returned v /\ w' = w) : ACall P f ys [] fun r' m'' => r' = r /\ m'' = [] := by
 intro w U0 X β0 us hs
 obtain ⟨v, hv, hc⟩ := h w U0 β0 us hs.n hs.env hs.glob
 refine hc.mono ?_
 rintro e w' ⟨rfl, rfl⟩
 refine ⟨v, r, [], rfl, ⟨rfl, rfl⟩, β0, U0, { hs with n := rfl, small := by simp, defers := rfl, env := fun t => ?_ }⟩
 show RepV w' β0 U0 w'.heap.size (#[v].getD t undef) ((Abs.look t [(0, r)]).getD (.one .bad))
 cases t with
 | zero => exact hv
 | succ t => simp [Abs.look]; exact .bad _
end Go.Proofs.YthkhikdglmaiaaaDoor.X
namespace Go.Proofs
theorem YthkhikdglmaiaaaDoor.X.tz_key (x a : Nat) (hx : x < 18446744073709551616) (hlow : x &&& (18446744073709551616 - x) = a) :
   IntKind.u64.wrap (bits BinOp.and IntKind.u64 (x : Int) (IntKind.u64.wrap (-(x : Int))) * 285870213051353865) / 288230376151711744 = ((a * 285870213051353865 % 18446744073709551616 / 288230376151711744 : Nat) : Int) := by
 by_cases h0 : x = 0
 · subst h0
   simp only [Nat.zero_and] at hlow
   subst hlow
   decide
 · have e1 : IntKind.u64.wrap (-(x : Int)) = ((18446744073709551616 - x : Nat) : Int) := by rw [IntKind.wrap_u64]; omega
   rw [e1, bits_and_u64_nat x _ hx (by omega), hlow, IntKind.wrap_u64]
   omega
set_option maxHeartbeats 1000000 in
set_option maxRecDepth 100000 in
theorem YthkhikdglmaiaaaDoor.X.tz_core (x k idx : Nat) (w : World) (hx0 : ((x : Int) == 0) = false)
  (key : IntKind.u64.wrap (bits BinOp.and IntKind.u64 (x : Int) (IntKind.u64.wrap (-(x : Int))) * 285870213051353865) / 288230376151711744 = (idx : Int))
  (hi : idx < 64) (hk : k < 64) (hcell : w.cell? ⟨0, idx, none⟩ = some (.int .u8 k)) :
  Calls Tryd.prog 104 #[.int .u64 x] w fun e w' => e = .returned (.int .i64 k) /\ w' = w := by
 go_enter Tryd.func104, Tryd.ntmps104
 go_wp2_with (simp only [key])
 go_ret
 exact ⟨rfl, rfl⟩
set_option maxRecDepth 100000 in
theorem YthkhikdglmaiaaaDoor.X.tz_zero (w : World) :
  Calls Tryd.prog 104 #[.int .u64 0] w fun e w' => e = .returned (.int .i64 64) /\ w' = w := by
 go_enter Tryd.func104, Tryd.ntmps104
 go_wp2
 go_ret
 exact ⟨rfl, rfl⟩
end Go.Proofs
namespace Go.Proofs.YthkhikdglmaiaaaDoor.X
open Go Go.RowKit Go.Proofs.YthkhikdglmaiaaaDoor.Abs
set_option linter.unusedVariables false
theorem glob_cell {U : Nat -> Prop} {w : World} (h : Glob U w) (j : Nat) (hj : j < 64) : w.cell? ⟨0, j, none⟩ = some (.int .u8 (Lib.deBruijn64tab.getD j 0 : Nat)) := by
 obtain ⟨_, x, y, hx⟩ := h.1 (0, _) (List.mem_cons_self)
 unfold World.cell?
 simp only
 rw [show w.heap[0]? = _ from hx]
 have hl : j < Lib.deBruijn64tab.length := hj
 show ((Lib.deBruijn64tab.map fun z : Nat => Value.int .u8 (z : Int)).toArray)[j]? = _
 rw [List.getElem?_toArray, List.getElem?_map, List.getD_eq_getElem?_getD, List.getElem?_eq_getElem hl]
 rfl
theorem tz_calls {U : Nat -> Prop} {w : World} (hg : Glob U w) (x : Nat) (hx : x < 18446744073709551616) :
   Calls Tryd.prog 104 #[.int .u64 x] w fun e w' => e = .returned (.int .i64 (Lib.ctz 64 x : Nat)) /\ w' = w := by
 by_cases hx0 : x = 0
 · subst hx0
   exact tz_zero w
 · obtain ⟨hlow, hk⟩ := Lib.lowest_bit 64 x hx0 hx
   obtain ⟨hi, htab⟩ := Lib.deBruijn64_at _ hk
   have hcell := glob_cell hg _ hi
   rw [htab] at hcell
   exact tz_core x _ _ w (by simp <;> omega) (tz_key x _ hx hlow) hi hk hcell
def ctzI (n : Int) : Int := (Lib.ctz 64 n.toNat : Nat)
def tzTr (ys : List V) (m : Mem) : Option (Tr (V × Mem)) :=
 match ys, m with
 | [.one (.d (.i .u64 n))], [] => some (.grd (decide (0 <= n /\ n <= 18446744073709551615)) (.ret (vi .i64 (ctzI n), [])))
 | _, _ => none
def tz64 : PF Tryd.prog where
 f := 104
 own := []
 tr := tzTr
 ok := by
  intro ys m T r m' h hT
  unfold tzTr at h
  split at h
  · rename_i n
    cases h
    have hT' : (Tr.grd (decide (0 <= n /\ n <= 18446744073709551615)) (.ret (vi .i64 (ctzI n), ([] : Mem)))).eval = some (r, m') := hT
    by_cases hn : 0 <= n /\ n <= 18446744073709551615
    case neg => rw [decide_eq_false hn] at hT'; cases hT'
    rw [decide_eq_true hn] at hT'
    cases hT'
    refine ⟨_, [], WkVs_rfl _, trivial, acall_glob (by simp) fun w U β us hsz henv hg => ⟨.int .i64 (ctzI n), .one _ _ (.i .i64 _), ?_⟩⟩
    have h0 : us.getD 0 undef = .int .u64 n := (show RepV w β U w.heap.size (us.getD 0 undef) (vi .u64 n) from henv 0).int
    have e : us = #[.int .u64 n] := by
     obtain ⟨us⟩ := us
     match us, hsz with
     | [a], _ => have ha : a = _ := h0; rw [ha]
    rw [e]
    obtain ⟨x, rfl⟩ := Int.eq_ofNat_of_zero_le hn.1
    exact tz_calls hg x (by omega)
  · cases h
end Go.Proofs.YthkhikdglmaiaaaDoor.X
namespace Go.Proofs.YthkhikdglmaiaaaDoor.X
open Go Go.RowKit Go.Proofs.YthkhikdglmaiaaaDoor.Abs
open Go.IntKind renaming wrap -> wW
set_option maxRecDepth 100000
set_option linter.unusedVariables false
def portsCheck_ap : List VP1 := [.agg [.i .i64, .i .u64]]
def portsCheck_rp : SP := ⟨1, [(0, .v (.one (.i .i64)))], []⟩
def portsCheck_tree : (Int × (Int × Unit)) -> Tr (Int × Unit) :=
 fun (a0, a1, _) =>
 .ite (decide (a0 < (64 : Int))) (
 .ret ((1 : Int), ())) (
 .ite (decide ((65472 : Int) < a0)) (
 .ret ((1 : Int), ())) (
 .grd (true) (
 .ite (!decide (Int.tmod a0 (64 : Int) = (0 : Int))) (
 .ret ((1 : Int), ())) (
 .ret ((0 : Int), ())))))
theorem portsCheck_eq (x : (Int × (Int × Unit))) : fnTr Tryd.prog cod [tz64] [] 30 55 portsCheck_ap portsCheck_rp x = portsCheck_tree x := by kernel_rfl
def portsCheck_fn (x : (Int × (Int × Unit))) : Option (Int × Unit) := (portsCheck_tree x).eval
def portsCheck : FS Tryd.prog := ⟨55, portsCheck_ap, portsCheck_rp, portsCheck_fn, fun x r h => fnTr_sound (cod := cod) (Γ := [tz64]) (Λs := []) (n := 30) ((congrArg Tr.eval (portsCheck_eq x)).trans h)⟩
def portsLet_ap : List VP1 := [.agg [.i .i64, .i .u64], .one (.i .i64)]
def portsLet_rp : SP := ⟨1, [(0, .tup [.agg [.i .i64, .i .u64], .one (.i .i64), .one (.i .i64)])], []⟩
abbrev ab0 : Int := (if IntKind.signed IntKind.u64 = true then (-1 : Int) else IntKind.max IntKind.u64)
abbrev xq0 (a1 : Int) : Int := bits .xor .u64 ab0 a1
abbrev xq1 (a2 : Int) : Int := (wW .u64 ((6148914691236517205 : Int) * (2 : Int) ^ min (Int.toNat (bits .and .i64 a2 (1 : Int))) (64 : Nat)))
abbrev xq2 (a1 a2 : Int) : Int := bits .and .u64 (xq0 a1) (xq1 a2)
def portsLet_tree : (Int × (Int × (Int × Unit))) -> Tr (Int × (Int × (Int × (Int × Unit)))) :=
 fun (a0, a1, a2, _) =>
 .opt ((portsCheck_fn (a0, (a1, ())))) (fun r0 =>
 .ite (!decide (r0.1 = (0 : Int))) (
 .ite (!decide (r0.1 = (0 : Int))) (
 .ret ((0 : Int), ((0 : Int), ((0 : Int), (r0.1, ()))))) (
 .ite (decide (wW .i64 (a2 - a0) < (0 : Int))) (
 .grd (decide ((0 : Int) <= bits .and .i64 a2 (1 : Int))) (
 .ite (decide (xq2 a1 a2 = (0 : Int))) (
 .grd (decide ((0 : Int) <= xq0 a1 /\ xq0 a1 <= (18446744073709551615 : Int))) (
 .grd (decide ((0 : Int) <= ctzI (xq0 a1))) (
 .ret (a0, (bits .or .u64 a1 (wW .u64 ((1 : Int) * (2 : Int) ^ min (Int.toNat (ctzI (xq0 a1))) (64 : Nat))), (wW .i64 (a0 + ctzI (xq0 a1)), ((0 : Int), ()))))))) (
 .grd (decide ((0 : Int) <= xq2 a1 a2 /\ xq2 a1 a2 <= (18446744073709551615 : Int))) (
 .grd (decide ((0 : Int) <= ctzI (xq2 a1 a2))) (
 .ret (a0, (bits .or .u64 a1 (wW .u64 ((1 : Int) * (2 : Int) ^ min (Int.toNat (ctzI (xq2 a1 a2))) (64 : Nat))), (wW .i64 (a0 + ctzI (xq2 a1 a2)), ((0 : Int), ()))))))))) (
 .ite (decide ((63 : Int) < wW .i64 (a2 - a0))) (
 .grd (decide ((0 : Int) <= bits .and .i64 a2 (1 : Int))) (
 .ite (decide (xq2 a1 a2 = (0 : Int))) (
 .grd (decide ((0 : Int) <= xq0 a1 /\ xq0 a1 <= (18446744073709551615 : Int))) (
 .grd (decide ((0 : Int) <= ctzI (xq0 a1))) (
 .ret (a0, (bits .or .u64 a1 (wW .u64 ((1 : Int) * (2 : Int) ^ min (Int.toNat (ctzI (xq0 a1))) (64 : Nat))), (wW .i64 (a0 + ctzI (xq0 a1)), ((0 : Int), ()))))))) (
 .grd (decide ((0 : Int) <= xq2 a1 a2 /\ xq2 a1 a2 <= (18446744073709551615 : Int))) (
 .grd (decide ((0 : Int) <= ctzI (xq2 a1 a2))) (
 .ret (a0, (bits .or .u64 a1 (wW .u64 ((1 : Int) * (2 : Int) ^ min (Int.toNat (ctzI (xq2 a1 a2))) (64 : Nat))), (wW .i64 (a0 + ctzI (xq2 a1 a2)), ((0 : Int), ()))))))))) (
 .grd (decide ((0 : Int) <= wW .i64 (a2 - a0))) (
 .ite (decide (bits .and .u64 (Int.fdiv (xq0 a1) ((2 : Int) ^ min (Int.toNat (wW .i64 (a2 - a0))) (64 : Nat))) (1 : Int) = (0 : Int))) (
 .grd (decide ((0 : Int) <= bits .and .i64 a2 (1 : Int))) (
 .ite (decide (xq2 a1 a2 = (0 : Int))) (
 .grd (decide ((0 : Int) <= xq0 a1 /\ xq0 a1 <= (18446744073709551615 : Int))) (
 .grd (decide ((0 : Int) <= ctzI (xq0 a1))) (
 .ret (a0, (bits .or .u64 a1 (wW .u64 ((1 : Int) * (2 : Int) ^ min (Int.toNat (ctzI (xq0 a1))) (64 : Nat))), (wW .i64 (a0 + ctzI (xq0 a1)), ((0 : Int), ()))))))) (
 .grd (decide ((0 : Int) <= xq2 a1 a2 /\ xq2 a1 a2 <= (18446744073709551615 : Int))) (
 .grd (decide ((0 : Int) <= ctzI (xq2 a1 a2))) (
 .ret (a0, (bits .or .u64 a1 (wW .u64 ((1 : Int) * (2 : Int) ^ min (Int.toNat (ctzI (xq2 a1 a2))) (64 : Nat))), (wW .i64 (a0 + ctzI (xq2 a1 a2)), ((0 : Int), ()))))))))) (
 .grd (decide ((0 : Int) <= wW .i64 (a2 - a0))) (
 .ret (a0, (bits .or .u64 a1 (wW .u64 ((1 : Int) * (2 : Int) ^ min (Int.toNat (wW .i64 (a2 - a0))) (64 : Nat))), (wW .i64 (a0 + wW .i64 (a2 - a0)), ((0 : Int), ()))))))))))) (
 .ite (decide (a2 < (0 : Int))) (
 .ite (true) (
 .ret ((0 : Int), ((0 : Int), ((0 : Int), ((1 : Int), ()))))) (
 .ite (decide (wW .i64 (a2 - a0) < (0 : Int))) (
 .grd (decide ((0 : Int) <= bits .and .i64 a2 (1 : Int))) (
 .ite (decide (xq2 a1 a2 = (0 : Int))) (
 .grd (decide ((0 : Int) <= xq0 a1 /\ xq0 a1 <= (18446744073709551615 : Int))) (
 .grd (decide ((0 : Int) <= ctzI (xq0 a1))) (
 .ret (a0, (bits .or .u64 a1 (wW .u64 ((1 : Int) * (2 : Int) ^ min (Int.toNat (ctzI (xq0 a1))) (64 : Nat))), (wW .i64 (a0 + ctzI (xq0 a1)), ((0 : Int), ()))))))) (
 .grd (decide ((0 : Int) <= xq2 a1 a2 /\ xq2 a1 a2 <= (18446744073709551615 : Int))) (
 .grd (decide ((0 : Int) <= ctzI (xq2 a1 a2))) (
 .ret (a0, (bits .or .u64 a1 (wW .u64 ((1 : Int) * (2 : Int) ^ min (Int.toNat (ctzI (xq2 a1 a2))) (64 : Nat))), (wW .i64 (a0 + ctzI (xq2 a1 a2)), ((0 : Int), ()))))))))) (
 .ite (decide ((63 : Int) < wW .i64 (a2 - a0))) (
 .grd (decide ((0 : Int) <= bits .and .i64 a2 (1 : Int))) (
 .ite (decide (xq2 a1 a2 = (0 : Int))) (
 .grd (decide ((0 : Int) <= xq0 a1 /\ xq0 a1 <= (18446744073709551615 : Int))) (
 .grd (decide ((0 : Int) <= ctzI (xq0 a1))) (
 .ret (a0, (bits .or .u64 a1 (wW .u64 ((1 : Int) * (2 : Int) ^ min (Int.toNat (ctzI (xq0 a1))) (64 : Nat))), (wW .i64 (a0 + ctzI (xq0 a1)), ((0 : Int), ()))))))) (
 .grd (decide ((0 : Int) <= xq2 a1 a2 /\ xq2 a1 a2 <= (18446744073709551615 : Int))) (
 .grd (decide ((0 : Int) <= ctzI (xq2 a1 a2))) (
 .ret (a0, (bits .or .u64 a1 (wW .u64 ((1 : Int) * (2 : Int) ^ min (Int.toNat (ctzI (xq2 a1 a2))) (64 : Nat))), (wW .i64 (a0 + ctzI (xq2 a1 a2)), ((0 : Int), ()))))))))) (
 .grd (decide ((0 : Int) <= wW .i64 (a2 - a0))) (
 .ite (decide (bits .and .u64 (Int.fdiv (xq0 a1) ((2 : Int) ^ min (Int.toNat (wW .i64 (a2 - a0))) (64 : Nat))) (1 : Int) = (0 : Int))) (
 .grd (decide ((0 : Int) <= bits .and .i64 a2 (1 : Int))) (
 .ite (decide (xq2 a1 a2 = (0 : Int))) (
 .grd (decide ((0 : Int) <= xq0 a1 /\ xq0 a1 <= (18446744073709551615 : Int))) (
 .grd (decide ((0 : Int) <= ctzI (xq0 a1))) (
 .ret (a0, (bits .or .u64 a1 (wW .u64 ((1 : Int) * (2 : Int) ^ min (Int.toNat (ctzI (xq0 a1))) (64 : Nat))), (wW .i64 (a0 + ctzI (xq0 a1)), ((0 : Int), ()))))))) (
 .grd (decide ((0 : Int) <= xq2 a1 a2 /\ xq2 a1 a2 <= (18446744073709551615 : Int))) (
 .grd (decide ((0 : Int) <= ctzI (xq2 a1 a2))) (
 .ret (a0, (bits .or .u64 a1 (wW .u64 ((1 : Int) * (2 : Int) ^ min (Int.toNat (ctzI (xq2 a1 a2))) (64 : Nat))), (wW .i64 (a0 + ctzI (xq2 a1 a2)), ((0 : Int), ()))))))))) (
 .grd (decide ((0 : Int) <= wW .i64 (a2 - a0))) (
 .ret (a0, (bits .or .u64 a1 (wW .u64 ((1 : Int) * (2 : Int) ^ min (Int.toNat (wW .i64 (a2 - a0))) (64 : Nat))), (wW .i64 (a0 + wW .i64 (a2 - a0)), ((0 : Int), ()))))))))))) (
 .ite (decide ((65535 : Int) < a2)) (
 .ite (true) (
 .ret ((0 : Int), ((0 : Int), ((0 : Int), ((1 : Int), ()))))) (
 .ite (decide (wW .i64 (a2 - a0) < (0 : Int))) (
 .grd (decide ((0 : Int) <= bits .and .i64 a2 (1 : Int))) (
 .ite (decide (xq2 a1 a2 = (0 : Int))) (
 .grd (decide ((0 : Int) <= xq0 a1 /\ xq0 a1 <= (18446744073709551615 : Int))) (
 .grd (decide ((0 : Int) <= ctzI (xq0 a1))) (
 .ret (a0, (bits .or .u64 a1 (wW .u64 ((1 : Int) * (2 : Int) ^ min (Int.toNat (ctzI (xq0 a1))) (64 : Nat))), (wW .i64 (a0 + ctzI (xq0 a1)), ((0 : Int), ()))))))) (
 .grd (decide ((0 : Int) <= xq2 a1 a2 /\ xq2 a1 a2 <= (18446744073709551615 : Int))) (
 .grd (decide ((0 : Int) <= ctzI (xq2 a1 a2))) (
 .ret (a0, (bits .or .u64 a1 (wW .u64 ((1 : Int) * (2 : Int) ^ min (Int.toNat (ctzI (xq2 a1 a2))) (64 : Nat))), (wW .i64 (a0 + ctzI (xq2 a1 a2)), ((0 : Int), ()))))))))) (
 .ite (decide ((63 : Int) < wW .i64 (a2 - a0))) (
 .grd (decide ((0 : Int) <= bits .and .i64 a2 (1 : Int))) (
 .ite (decide (xq2 a1 a2 = (0 : Int))) (
 .grd (decide ((0 : Int) <= xq0 a1 /\ xq0 a1 <= (18446744073709551615 : Int))) (
 .grd (decide ((0 : Int) <= ctzI (xq0 a1))) (
 .ret (a0, (bits .or .u64 a1 (wW .u64 ((1 : Int) * (2 : Int) ^ min (Int.toNat (ctzI (xq0 a1))) (64 : Nat))), (wW .i64 (a0 + ctzI (xq0 a1)), ((0 : Int), ()))))))) (
 .grd (decide ((0 : Int) <= xq2 a1 a2 /\ xq2 a1 a2 <= (18446744073709551615 : Int))) (
 .grd (decide ((0 : Int) <= ctzI (xq2 a1 a2))) (
 .ret (a0, (bits .or .u64 a1 (wW .u64 ((1 : Int) * (2 : Int) ^ min (Int.toNat (ctzI (xq2 a1 a2))) (64 : Nat))), (wW .i64 (a0 + ctzI (xq2 a1 a2)), ((0 : Int), ()))))))))) (
 .grd (decide ((0 : Int) <= wW .i64 (a2 - a0))) (
 .ite (decide (bits .and .u64 (Int.fdiv (xq0 a1) ((2 : Int) ^ min (Int.toNat (wW .i64 (a2 - a0))) (64 : Nat))) (1 : Int) = (0 : Int))) (
 .grd (decide ((0 : Int) <= bits .and .i64 a2 (1 : Int))) (
 .ite (decide (xq2 a1 a2 = (0 : Int))) (
 .grd (decide ((0 : Int) <= xq0 a1 /\ xq0 a1 <= (18446744073709551615 : Int))) (
 .grd (decide ((0 : Int) <= ctzI (xq0 a1))) (
 .ret (a0, (bits .or .u64 a1 (wW .u64 ((1 : Int) * (2 : Int) ^ min (Int.toNat (ctzI (xq0 a1))) (64 : Nat))), (wW .i64 (a0 + ctzI (xq0 a1)), ((0 : Int), ()))))))) (
 .grd (decide ((0 : Int) <= xq2 a1 a2 /\ xq2 a1 a2 <= (18446744073709551615 : Int))) (
 .grd (decide ((0 : Int) <= ctzI (xq2 a1 a2))) (
 .ret (a0, (bits .or .u64 a1 (wW .u64 ((1 : Int) * (2 : Int) ^ min (Int.toNat (ctzI (xq2 a1 a2))) (64 : Nat))), (wW .i64 (a0 + ctzI (xq2 a1 a2)), ((0 : Int), ()))))))))) (
 .grd (decide ((0 : Int) <= wW .i64 (a2 - a0))) (
 .ret (a0, (bits .or .u64 a1 (wW .u64 ((1 : Int) * (2 : Int) ^ min (Int.toNat (wW .i64 (a2 - a0))) (64 : Nat))), (wW .i64 (a0 + wW .i64 (a2 - a0)), ((0 : Int), ()))))))))))) (
 .ite (decide (a1 = (18446744073709551615 : Int))) (
 .ite (true) (
 .ret ((0 : Int), ((0 : Int), ((0 : Int), ((6 : Int), ()))))) (
 .ite (decide (wW .i64 (a2 - a0) < (0 : Int))) (
 .grd (decide ((0 : Int) <= bits .and .i64 a2 (1 : Int))) (
 .ite (decide (xq2 a1 a2 = (0 : Int))) (
 .grd (decide ((0 : Int) <= xq0 a1 /\ xq0 a1 <= (18446744073709551615 : Int))) (
 .grd (decide ((0 : Int) <= ctzI (xq0 a1))) (
 .ret (a0, (bits .or .u64 a1 (wW .u64 ((1 : Int) * (2 : Int) ^ min (Int.toNat (ctzI (xq0 a1))) (64 : Nat))), (wW .i64 (a0 + ctzI (xq0 a1)), ((0 : Int), ()))))))) (
 .grd (decide ((0 : Int) <= xq2 a1 a2 /\ xq2 a1 a2 <= (18446744073709551615 : Int))) (
 .grd (decide ((0 : Int) <= ctzI (xq2 a1 a2))) (
 .ret (a0, (bits .or .u64 a1 (wW .u64 ((1 : Int) * (2 : Int) ^ min (Int.toNat (ctzI (xq2 a1 a2))) (64 : Nat))), (wW .i64 (a0 + ctzI (xq2 a1 a2)), ((0 : Int), ()))))))))) (
 .ite (decide ((63 : Int) < wW .i64 (a2 - a0))) (
 .grd (decide ((0 : Int) <= bits .and .i64 a2 (1 : Int))) (
 .ite (decide (xq2 a1 a2 = (0 : Int))) (
 .grd (decide ((0 : Int) <= xq0 a1 /\ xq0 a1 <= (18446744073709551615 : Int))) (
 .grd (decide ((0 : Int) <= ctzI (xq0 a1))) (
 .ret (a0, (bits .or .u64 a1 (wW .u64 ((1 : Int) * (2 : Int) ^ min (Int.toNat (ctzI (xq0 a1))) (64 : Nat))), (wW .i64 (a0 + ctzI (xq0 a1)), ((0 : Int), ()))))))) (
 .grd (decide ((0 : Int) <= xq2 a1 a2 /\ xq2 a1 a2 <= (18446744073709551615 : Int))) (
 .grd (decide ((0 : Int) <= ctzI (xq2 a1 a2))) (
 .ret (a0, (bits .or .u64 a1 (wW .u64 ((1 : Int) * (2 : Int) ^ min (Int.toNat (ctzI (xq2 a1 a2))) (64 : Nat))), (wW .i64 (a0 + ctzI (xq2 a1 a2)), ((0 : Int), ()))))))))) (
 .grd (decide ((0 : Int) <= wW .i64 (a2 - a0))) (
 .ite (decide (bits .and .u64 (Int.fdiv (xq0 a1) ((2 : Int) ^ min (Int.toNat (wW .i64 (a2 - a0))) (64 : Nat))) (1 : Int) = (0 : Int))) (
 .grd (decide ((0 : Int) <= bits .and .i64 a2 (1 : Int))) (
 .ite (decide (xq2 a1 a2 = (0 : Int))) (
 .grd (decide ((0 : Int) <= xq0 a1 /\ xq0 a1 <= (18446744073709551615 : Int))) (
 .grd (decide ((0 : Int) <= ctzI (xq0 a1))) (
 .ret (a0, (bits .or .u64 a1 (wW .u64 ((1 : Int) * (2 : Int) ^ min (Int.toNat (ctzI (xq0 a1))) (64 : Nat))), (wW .i64 (a0 + ctzI (xq0 a1)), ((0 : Int), ()))))))) (
 .grd (decide ((0 : Int) <= xq2 a1 a2 /\ xq2 a1 a2 <= (18446744073709551615 : Int))) (
 .grd (decide ((0 : Int) <= ctzI (xq2 a1 a2))) (
 .ret (a0, (bits .or .u64 a1 (wW .u64 ((1 : Int) * (2 : Int) ^ min (Int.toNat (ctzI (xq2 a1 a2))) (64 : Nat))), (wW .i64 (a0 + ctzI (xq2 a1 a2)), ((0 : Int), ()))))))))) (
 .grd (decide ((0 : Int) <= wW .i64 (a2 - a0))) (
 .ret (a0, (bits .or .u64 a1 (wW .u64 ((1 : Int) * (2 : Int) ^ min (Int.toNat (wW .i64 (a2 - a0))) (64 : Nat))), (wW .i64 (a0 + wW .i64 (a2 - a0)), ((0 : Int), ()))))))))))) (
 .ite (!decide (r0.1 = (0 : Int))) (
 .ret ((0 : Int), ((0 : Int), ((0 : Int), (r0.1, ()))))) (
 .ite (decide (wW .i64 (a2 - a0) < (0 : Int))) (
 .grd (decide ((0 : Int) <= bits .and .i64 a2 (1 : Int))) (
 .ite (decide (xq2 a1 a2 = (0 : Int))) (
 .grd (decide ((0 : Int) <= xq0 a1 /\ xq0 a1 <= (18446744073709551615 : Int))) (
 .grd (decide ((0 : Int) <= ctzI (xq0 a1))) (
 .ret (a0, (bits .or .u64 a1 (wW .u64 ((1 : Int) * (2 : Int) ^ min (Int.toNat (ctzI (xq0 a1))) (64 : Nat))), (wW .i64 (a0 + ctzI (xq0 a1)), ((0 : Int), ()))))))) (
 .grd (decide ((0 : Int) <= xq2 a1 a2 /\ xq2 a1 a2 <= (18446744073709551615 : Int))) (
 .grd (decide ((0 : Int) <= ctzI (xq2 a1 a2))) (
 .ret (a0, (bits .or .u64 a1 (wW .u64 ((1 : Int) * (2 : Int) ^ min (Int.toNat (ctzI (xq2 a1 a2))) (64 : Nat))), (wW .i64 (a0 + ctzI (xq2 a1 a2)), ((0 : Int), ()))))))))) (
 .ite (decide ((63 : Int) < wW .i64 (a2 - a0))) (
 .grd (decide ((0 : Int) <= bits .and .i64 a2 (1 : Int))) (
 .ite (decide (xq2 a1 a2 = (0 : Int))) (
 .grd (decide ((0 : Int) <= xq0 a1 /\ xq0 a1 <= (18446744073709551615 : Int))) (
 .grd (decide ((0 : Int) <= ctzI (xq0 a1))) (
 .ret (a0, (bits .or .u64 a1 (wW .u64 ((1 : Int) * (2 : Int) ^ min (Int.toNat (ctzI (xq0 a1))) (64 : Nat))), (wW .i64 (a0 + ctzI (xq0 a1)), ((0 : Int), ()))))))) (
 .grd (decide ((0 : Int) <= xq2 a1 a2 /\ xq2 a1 a2 <= (18446744073709551615 : Int))) (
 .grd (decide ((0 : Int) <= ctzI (xq2 a1 a2))) (
 .ret (a0, (bits .or .u64 a1 (wW .u64 ((1 : Int) * (2 : Int) ^ min (Int.toNat (ctzI (xq2 a1 a2))) (64 : Nat))), (wW .i64 (a0 + ctzI (xq2 a1 a2)), ((0 : Int), ()))))))))) (
 .grd (decide ((0 : Int) <= wW .i64 (a2 - a0))) (
 .ite (decide (bits .and .u64 (Int.fdiv (xq0 a1) ((2 : Int) ^ min (Int.toNat (wW .i64 (a2 - a0))) (64 : Nat))) (1 : Int) = (0 : Int))) (
 .grd (decide ((0 : Int) <= bits .and .i64 a2 (1 : Int))) (
 .ite (decide (xq2 a1 a2 = (0 : Int))) (
 .grd (decide ((0 : Int) <= xq0 a1 /\ xq0 a1 <= (18446744073709551615 : Int))) (
 .grd (decide ((0 : Int) <= ctzI (xq0 a1))) (
 .ret (a0, (bits .or .u64 a1 (wW .u64 ((1 : Int) * (2 : Int) ^ min (Int.toNat (ctzI (xq0 a1))) (64 : Nat))), (wW .i64 (a0 + ctzI (xq0 a1)), ((0 : Int), ()))))))) (
 .grd (decide ((0 : Int) <= xq2 a1 a2 /\ xq2 a1 a2 <= (18446744073709551615 : Int))) (
 .grd (decide ((0 : Int) <= ctzI (xq2 a1 a2))) (
 .ret (a0, (bits .or .u64 a1 (wW .u64 ((1 : Int) * (2 : Int) ^ min (Int.toNat (ctzI (xq2 a1 a2))) (64 : Nat))), (wW .i64 (a0 + ctzI (xq2 a1 a2)), ((0 : Int), ()))))))))) (
 .grd (decide ((0 : Int) <= wW .i64 (a2 - a0))) (
 .ret (a0, (bits .or .u64 a1 (wW .u64 ((1 : Int) * (2 : Int) ^ min (Int.toNat (wW .i64 (a2 - a0))) (64 : Nat))), (wW .i64 (a0 + wW .i64 (a2 - a0)), ((0 : Int), ())))))))))))))))
theorem portsLet_eq (x : (Int × (Int × (Int × Unit)))) : fnTr Tryd.prog cod [tz64, FS.pf portsCheck] [] 30 94 portsLet_ap portsLet_rp x = portsLet_tree x := by kernel_rfl
def portsLet_fn (x : (Int × (Int × (Int × Unit)))) : Option (Int × (Int × (Int × (Int × Unit)))) := (portsLet_tree x).eval
def portsLet : FS Tryd.prog := ⟨94, portsLet_ap, portsLet_rp, portsLet_fn, fun x r h => fnTr_sound (cod := cod) (Γ := [tz64, FS.pf portsCheck]) (Λs := []) (n := 30) ((congrArg Tr.eval (portsLet_eq x)).trans h)⟩
def portsEnd_ap : List VP1 := [.agg [.i .i64, .i .u64], .one (.i .i64)]
def portsEnd_rp : SP := ⟨1, [(0, .tup [.agg [.i .i64, .i .u64], .one (.i .i64)])], []⟩
def portsEnd_tree : (Int × (Int × (Int × Unit))) -> Tr (Int × (Int × (Int × Unit))) :=
 fun (a0, a1, a2, _) =>
 .opt ((portsCheck_fn (a0, (a1, ())))) (fun r0 =>
 .ite (!decide (r0.1 = (0 : Int))) (
 .ret ((0 : Int), ((0 : Int), (r0.1, ())))) (
 .ite (decide (a2 < a0)) (
 .ret ((0 : Int), ((0 : Int), ((7 : Int), ())))) (
 .ite (decide (wW .i64 (a0 + (63 : Int)) < a2)) (
 .ret ((0 : Int), ((0 : Int), ((7 : Int), ())))) (
 .grd (decide ((0 : Int) <= wW .i64 (a2 - a0))) (
 .ite (decide (bits .and .u64 (Int.fdiv a1 ((2 : Int) ^ min (Int.toNat (wW .i64 (a2 - a0))) (64 : Nat))) (1 : Int) = (0 : Int))) (
 .ret ((0 : Int), ((0 : Int), ((7 : Int), ())))) (
 .grd (decide ((0 : Int) <= wW .i64 (a2 - a0))) (
 .ret (a0, (bits .xor .u64 a1 (wW .u64 ((1 : Int) * (2 : Int) ^ min (Int.toNat (wW .i64 (a2 - a0))) (64 : Nat))), ((0 : Int), ()))))))))))
theorem portsEnd_eq (x : (Int × (Int × (Int × Unit)))) : fnTr Tryd.prog cod [tz64, FS.pf portsCheck, FS.pf portsLet] [] 30 64 portsEnd_ap portsEnd_rp x = portsEnd_tree x := by kernel_rfl
def portsEnd_fn (x : (Int × (Int × (Int × Unit)))) : Option (Int × (Int × (Int × Unit))) := (portsEnd_tree x).eval
def portsEnd : FS Tryd.prog := ⟨64, portsEnd_ap, portsEnd_rp, portsEnd_fn, fun x r h => fnTr_sound (cod := cod) (Γ := [tz64, FS.pf portsCheck, FS.pf portsLet]) (Λs := []) (n := 30) ((congrArg Tr.eval (portsEnd_eq x)).trans h)⟩
def confCheck_ap : List VP1 := [.agg [.i .u32, .i .i64, .i .i64, .i .i64, .i .i64, .i .i64, .st 10 false, .b]]
def confCheck_rp : SP := ⟨1, [(0, .v (.one (.i .i64)))], []⟩
def confCheck_tree : (Int × (Int × (Int × (Int × (Int × (Int × ((List TRule) × (Bool × Unit)))))))) -> Tr (Int × Unit) :=
 fun (a0, a1, a2, a3, a4, a5, a6, a7, _) =>
 .opt ((portsCheck_fn (a1, ((0 : Int), ())))) (fun r0 =>
 .ite (!decide (r0.1 = (0 : Int))) (
 .ret ((1 : Int), ())) (
 .opt ((portsCheck_fn (a2, ((0 : Int), ())))) (fun r1 =>
 .ite (!decide (r1.1 = (0 : Int))) (
 .ret ((1 : Int), ())) (
 .ite (decide (a3 < (1 : Int))) (
 .ret ((1 : Int), ())) (
 .ite (decide ((1000000 : Int) < a3)) (
 .ret ((1 : Int), ())) (
 .ite (decide (a4 < (0 : Int))) (
 .ret ((1 : Int), ())) (
 .ite (decide ((1000000 : Int) < a4)) (
 .ret ((1 : Int), ())) (
 .ite (decide (a5 < (1 : Int))) (
 .ret ((1 : Int), ())) (
 .ite (decide ((1000000000 : Int) < a5)) (
 .ret ((1 : Int), ())) (
 .opt ((ruCheck_fn (a6, ()))) (fun r2 =>
 .ret (r2.1, ()))))))))))))
noncomputable def gm38 : List (PF Go.Proofs.Tryd.prog) := [clRule, FS.pf ruNet, FS.pf ruHas, FS.pf ruBounds, FS.pf ruRight, FS.pf ruCheck, FS.pf ruMeets, FS.pf ruDecide, tz64, FS.pf portsCheck, FS.pf portsLet, FS.pf portsEnd]
theorem confCheck_eq (x : (Int × (Int × (Int × (Int × (Int × (Int × ((List TRule) × (Bool × Unit))))))))) : fnTr Tryd.prog cod gm38 [] 30 28 confCheck_ap confCheck_rp x = confCheck_tree x := by kernel_rfl
def confCheck_fn (x : (Int × (Int × (Int × (Int × (Int × (Int × ((List TRule) × (Bool × Unit))))))))) : Option (Int × Unit) := (confCheck_tree x).eval
def confCheck : FS Tryd.prog := ⟨28, confCheck_ap, confCheck_rp, confCheck_fn, fun x r h => fnTr_sound (cod := cod) (Γ := gm38) (Λs := []) (n := 30) ((congrArg Tr.eval (confCheck_eq x)).trans h)⟩
theorem clMap_h1 (xs : List (τ 17)) : (bodyTr Go.Proofs.Tryd.prog cod 39 [.one (.nn (.st 17 xs))]).eval = (cloneRes 112 17 40 xs).eval := by kernel_rfl
theorem clMap_h2 : (bodyTr Go.Proofs.Tryd.prog cod 39 [.one .nil]).eval = some (.one .nil, []) := by kernel_rfl
def clMap : PF Go.Proofs.Tryd.prog := clonePF Go.Proofs.Tryd.prog cod 39 112 17 40 clMap_h1 clMap_h2
def delMap_ap : SP := ⟨33, [(0, .v (.one (.own 1000100))), (1, .v (.one (.i .i64))), (2, .v (.one (.i .i64)))], [(1000100, .row 112 17 true true)]⟩
def delMap_rp : SP := ⟨1, [(0, .v (.one (.own 1000100)))], [(1000100, .row 112 17 true true)]⟩
def delMap_tree : (Int × (Int × ((List TMap) × Unit))) -> Tr ((List TMap) × Unit) :=
 fun (a0, a1, a2, _) =>
 .grd (decide ((0 : Int) <= a0 /\ a0 <= a1 /\ a1 <= (↑(a2.length) : Int) /\ (↑(a2.length) : Int) <= (↑(a2.length) : Int))) (
 .ite (decide (a0 = a1)) (
 .grd (decide (a2.length = a2.length)) (
 .ret (a2, ()))) (
 .grd (decide ((0 : Int) <= a0 /\ a0 <= (↑(a2.length) : Int))) (
 .grd (decide ((0 : Int) <= a1 /\ a1 <= (↑(a2.length) : Int) /\ (↑(a2.length) : Int) <= (↑(a2.length) : Int))) (
 .grd (decide (Int.toNat a1 + Int.toNat ((↑(a2.length) : Int) - a1) <= a2.length)) (
 .grd (decide (Int.toNat a0 + List.length (List.take (Int.toNat ((↑(a2.length) : Int) - a1)) (List.drop (Int.toNat a1) a2)) <= a2.length)) (
 .grd (decide ((0 : Int) <= (↑(Int.toNat a0 + List.length (List.take (Int.toNat ((↑(a2.length) : Int) - a1)) (List.drop (Int.toNat a1) a2))) : Int) /\ (↑(Int.toNat a0 + List.length (List.take (Int.toNat ((↑(a2.length) : Int) - a1)) (List.drop (Int.toNat a1) a2))) : Int) <= (↑(a2.length) : Int) /\ (↑(a2.length) : Int) <= (↑(List.length (List.take (Int.toNat a0) a2 ++ List.take (Int.toNat ((↑(a2.length) : Int) - a1)) (List.drop (Int.toNat a1) a2) ++ List.drop (Int.toNat a0 + List.length (List.take (Int.toNat ((↑(a2.length) : Int) - a1)) (List.drop (Int.toNat a1) a2))) a2)) : Int))) (
 .grd (decide (Int.toNat (↑(Int.toNat a0 + List.length (List.take (Int.toNat ((↑(a2.length) : Int) - a1)) (List.drop (Int.toNat a1) a2))) : Int) + Int.toNat ((↑(a2.length) : Int) - (↑(Int.toNat a0 + List.length (List.take (Int.toNat ((↑(a2.length) : Int) - a1)) (List.drop (Int.toNat a1) a2))) : Int)) <= List.length (List.take (Int.toNat a0) a2 ++ List.take (Int.toNat ((↑(a2.length) : Int) - a1)) (List.drop (Int.toNat a1) a2) ++ List.drop (Int.toNat a0 + List.length (List.take (Int.toNat ((↑(a2.length) : Int) - a1)) (List.drop (Int.toNat a1) a2))) a2))) (
 .grd (decide (Int.toNat a0 + List.length (List.take (Int.toNat ((↑(a2.length) : Int) - a1)) (List.drop (Int.toNat a1) a2)) = List.length (List.take (Int.toNat a0 + List.length (List.take (Int.toNat ((↑(a2.length) : Int) - a1)) (List.drop (Int.toNat a1) a2))) (List.take (Int.toNat (↑(Int.toNat a0 + List.length (List.take (Int.toNat ((↑(a2.length) : Int) - a1)) (List.drop (Int.toNat a1) a2))) : Int)) (List.take (Int.toNat a0) a2 ++ List.take (Int.toNat ((↑(a2.length) : Int) - a1)) (List.drop (Int.toNat a1) a2) ++ List.drop (Int.toNat a0 + List.length (List.take (Int.toNat ((↑(a2.length) : Int) - a1)) (List.drop (Int.toNat a1) a2))) a2) ++ List.replicate (Int.toNat ((↑(a2.length) : Int) - (↑(Int.toNat a0 + List.length (List.take (Int.toNat ((↑(a2.length) : Int) - a1)) (List.drop (Int.toNat a1) a2))) : Int))) (TMap.mk (0 : Int) (0 : Int) (0 : Int) (0 : Int) (0 : Int)) ++ List.drop (Int.toNat (↑(Int.toNat a0 + List.length (List.take (Int.toNat ((↑(a2.length) : Int) - a1)) (List.drop (Int.toNat a1) a2))) : Int) + List.length (List.replicate (Int.toNat ((↑(a2.length) : Int) - (↑(Int.toNat a0 + List.length (List.take (Int.toNat ((↑(a2.length) : Int) - a1)) (List.drop (Int.toNat a1) a2))) : Int))) (TMap.mk (0 : Int) (0 : Int) (0 : Int) (0 : Int) (0 : Int)))) (List.take (Int.toNat a0) a2 ++ List.take (Int.toNat ((↑(a2.length) : Int) - a1)) (List.drop (Int.toNat a1) a2) ++ List.drop (Int.toNat a0 + List.length (List.take (Int.toNat ((↑(a2.length) : Int) - a1)) (List.drop (Int.toNat a1) a2))) a2))))) (
 .ret (List.take (Int.toNat a0 + List.length (List.take (Int.toNat ((↑(a2.length) : Int) - a1)) (List.drop (Int.toNat a1) a2))) (List.take (Int.toNat (↑(Int.toNat a0 + List.length (List.take (Int.toNat ((↑(a2.length) : Int) - a1)) (List.drop (Int.toNat a1) a2))) : Int)) (List.take (Int.toNat a0) a2 ++ List.take (Int.toNat ((↑(a2.length) : Int) - a1)) (List.drop (Int.toNat a1) a2) ++ List.drop (Int.toNat a0 + List.length (List.take (Int.toNat ((↑(a2.length) : Int) - a1)) (List.drop (Int.toNat a1) a2))) a2) ++ List.replicate (Int.toNat ((↑(a2.length) : Int) - (↑(Int.toNat a0 + List.length (List.take (Int.toNat ((↑(a2.length) : Int) - a1)) (List.drop (Int.toNat a1) a2))) : Int))) (TMap.mk (0 : Int) (0 : Int) (0 : Int) (0 : Int) (0 : Int)) ++ List.drop (Int.toNat (↑(Int.toNat a0 + List.length (List.take (Int.toNat ((↑(a2.length) : Int) - a1)) (List.drop (Int.toNat a1) a2))) : Int) + List.length (List.replicate (Int.toNat ((↑(a2.length) : Int) - (↑(Int.toNat a0 + List.length (List.take (Int.toNat ((↑(a2.length) : Int) - a1)) (List.drop (Int.toNat a1) a2))) : Int))) (TMap.mk (0 : Int) (0 : Int) (0 : Int) (0 : Int) (0 : Int)))) (List.take (Int.toNat a0) a2 ++ List.take (Int.toNat ((↑(a2.length) : Int) - a1)) (List.drop (Int.toNat a1) a2) ++ List.drop (Int.toNat a0 + List.length (List.take (Int.toNat ((↑(a2.length) : Int) - a1)) (List.drop (Int.toNat a1) a2))) a2)), ()))))))))))
noncomputable def gm39 : List (PF Go.Proofs.Tryd.prog) := [tz64, FS.pf portsCheck, FS.pf portsLet, FS.pf portsEnd, clMap]
theorem delMap_eq (x : (Int × (Int × ((List TMap) × Unit)))) : gsTr Tryd.prog cod gm39 [] 30 93 delMap_ap delMap_rp x = delMap_tree x := by kernel_rfl
def delMap_fn (x : (Int × (Int × ((List TMap) × Unit)))) : Option ((List TMap) × Unit) := (delMap_tree x).eval
def delMap : GS Tryd.prog := ⟨93, [1, 0, 0], delMap_ap, delMap_rp, delMap_fn, fun x r h ys m g he hg => gs_sound (cod := cod) (Γ := gm39) (Λs := []) (n := 30) ((congrArg Tr.eval (delMap_eq x)).trans h) he hg⟩
def natWithin_L83_2 : LS := ⟨2, [(1000200, 1000200), (1000201, 1000201), (1000202, 1000202)], ⟨19, [(8, .v (.one (.i .i64))), (0, .v (.one (.st 17 false))), (1, .v (.one (.clp 84 [(1000200, 0), (1000201, 0), (1000202, 0)]))), (7, .v (.one (.i .i64)))], [(1000200, .cells [.i .i64]), (1000201, .cells [.i .u32]), (1000202, .cells [.i .i64])]⟩, [⟨none, [(1000200, 1000200), (1000201, 1000201), (1000202, 1000202)], ⟨19, [(4, .v (.one (.i .i64)))], [(1000200, .cells [.i .i64]), (1000201, .cells [.i .u32]), (1000202, .cells [.i .i64])]⟩⟩, ⟨some 0, [(1000200, 1000200), (1000201, 1000201), (1000202, 1000202)], ⟨19, [], [(1000200, .cells [.i .i64]), (1000201, .cells [.i .u32]), (1000202, .cells [.i .i64])]⟩⟩], []⟩
def natWithin_step83_2 : (Int × ((List TMap) × (Int × (Int × (Int × (Int × Unit)))))) -> Tr ((Int × ((List TMap) × (Int × (Int × (Int × (Int × Unit)))))) ⊕ ((Int × (Int × (Int × (Int × Unit)))) ⊕ (Int × (Int × (Int × Unit))))) :=
 fun (a0, a1, a2, a3, a4, a5, _) =>
 .ite (decide (a0 < a2)) (
 .grd (decide ((0 : Int) <= a0)) (
 .opt (a1[Int.toNat a0]?) (fun r0 =>
 .ite (decide (r0.proto = a3)) (
 .ite (decide (r0.addr = a4)) (
 .ite (decide (r0.port = a5)) (
 .ret (Sum.inr (Sum.inl (a0, (a3, (a4, (a5, ()))))))) (
 .ret (Sum.inl (wW .i64 (a0 + (1 : Int)), (a1, (a2, (a3, (a4, (a5, ()))))))))) (
 .ite (false) (
 .ret (Sum.inr (Sum.inl (a0, (a3, (a4, (a5, ()))))))) (
 .ret (Sum.inl (wW .i64 (a0 + (1 : Int)), (a1, (a2, (a3, (a4, (a5, ())))))))))) (
 .ite (false) (
 .ret (Sum.inr (Sum.inl (a0, (a3, (a4, (a5, ()))))))) (
 .ret (Sum.inl (wW .i64 (a0 + (1 : Int)), (a1, (a2, (a3, (a4, (a5, ())))))))))))) (
 .ret (Sum.inr (Sum.inr (a3, (a4, (a5, ()))))))
def natWithin_loop83_2 (x : (Int × ((List TMap) × (Int × (Int × (Int × (Int × Unit))))))) : Option ((Int × (Int × (Int × (Int × Unit)))) ⊕ (Int × (Int × (Int × Unit)))) := loopO 830002 (fun x => (natWithin_step83_2 x).eval) 18446744073709551616 x
def natWithin_ap : List VP1 := [.agg [.i .i64, .i .i64, .i .u64, .i .i64, .i .u64, .st 17 false], .one (.i .i64), .one (.i .u32), .one (.i .i64)]
def natWithin_rp : SP := ⟨1, [(0, .v (.one (.i .i64)))], []⟩
def natWithin_tree : (Int × (Int × (Int × (Int × (Int × ((List TMap) × (Int × (Int × (Int × Unit))))))))) -> Tr (Int × Unit) :=
 fun (a0, a1, a2, a3, a4, a5, a6, a7, a8, _) =>
 .opt ((natWithin_loop83_2 ((0 : Int), (a5, ((↑(a5.length) : Int), (a6, (a7, (a8, ())))))))) (fun r0 =>
 .sum (r0) (fun r1 =>
 .ret (r1.1, ())) (fun r1 =>
 .ret ((-1 : Int), ())))
noncomputable def gm40 : List (PF Go.Proofs.Tryd.prog) := [tz64, FS.pf portsCheck, FS.pf portsLet, FS.pf portsEnd, clMap, GS.pf delMap]
theorem natWithin_eq (x : (Int × (Int × (Int × (Int × (Int × ((List TMap) × (Int × (Int × (Int × Unit)))))))))) : fnTr Tryd.prog cod gm40 [(83, natWithin_L83_2)] 30 63 natWithin_ap natWithin_rp x = natWithin_tree x := by kernel_rfl
def natWithin_fn (x : (Int × (Int × (Int × (Int × (Int × ((List TMap) × (Int × (Int × (Int × Unit)))))))))) : Option (Int × Unit) := (natWithin_tree x).eval
def natWithin : FS Tryd.prog := ⟨63, natWithin_ap, natWithin_rp, natWithin_fn, fun x r h => fnTr_sound (cod := cod) (Γ := gm40) (Λs := [(83, natWithin_L83_2)]) (n := 30) ((congrArg Tr.eval (natWithin_eq x)).trans h)⟩
def natCheck_L41_9 : LS := ⟨9, [(1, 1), (4, 4)], ⟨103, [(33, .v (.one (.i .i64))), (1, .v (.one (.ptr 1 0))), (5, .v (.one (.i .i64))), (4, .v (.one (.ptr 4 0))), (31, .v (.one (.st 17 false))), (32, .v (.one (.i .i64)))], [(1, .cells [.i .i64, .i .i64, .i .u64, .i .i64, .i .u64, .st 17 false]), (4, .cells [.i .i64, .i .i64, .i .u64, .i .i64, .i .u64, .st 17 false])]⟩, [⟨none, [], ⟨103, [(2, .v (.one (.i .i64)))], []⟩⟩, ⟨some 0, [(4, 4)], ⟨103, [(4, .v (.one (.ptr 4 0)))], [(4, .cells [.i .i64, .i .i64, .i .u64, .i .i64, .i .u64, .st 17 false])]⟩⟩], []⟩
abbrev ty8_ : Type := (Int × (Int × ((List TMap) × (Int × (Int × (Int × (Int × (Int × (Int × ((List TMap) × (Int × (Int × (Int × (Int × (Int × ((List TMap) × Unit))))))))))))))))
def natCheck_step41_9 : ty8_ -> Tr (ty8_ ⊕ ((Int × Unit) ⊕ (Int × (Int × (Int × (Int × (Int × ((List TMap) × Unit)))))))) :=
 fun (a0, a1, a2, a3, a4, a5, a6, a7, a8, a9, a10, a11, a12, a13, a14, a15, _) =>
 .ite (decide (a0 < a3)) (
 .grd (decide ((0 : Int) <= a0)) (
 .opt (a2[Int.toNat a0]?) (fun r0 =>
 .ite (decide (r0.proto = (17 : Int))) (
 .ite (false) (
 .ret (Sum.inr (Sum.inl ((4 : Int), ())))) (
 .ite (decide (r0.port < (0 : Int))) (
 .ret (Sum.inr (Sum.inl ((4 : Int), ())))) (
 .ite (decide ((65535 : Int) < r0.port)) (
 .ret (Sum.inr (Sum.inl ((4 : Int), ())))) (
 .ite (decide (r0.at' < a1)) (
 .ret (Sum.inr (Sum.inl ((4 : Int), ())))) (
 .ite (decide ((1099511627776 : Int) < r0.at')) (
 .ret (Sum.inr (Sum.inl ((4 : Int), ())))) (
 .opt ((natWithin_fn (a4, (a5, (a6, (a7, (a8, (a9, (r0.proto, (r0.addr, (r0.port, ()))))))))))) (fun r1 =>
 .ite (!decide (r1.1 = a0)) (
 .ret (Sum.inr (Sum.inl ((4 : Int), ())))) (
 .opt ((portsEnd_fn (a11, (a12, (r0.out, ()))))) (fun r2 =>
 .ite (!decide (r2.2.2.1 = (0 : Int))) (
 .ret (Sum.inr (Sum.inl ((4 : Int), ())))) (
 .ret (Sum.inl (wW .i64 (a0 + (1 : Int)), (r0.at', (a2, (a3, (a4, (a5, (a6, (a7, (a8, (a9, (a10, (r2.1, (r2.2.1, (a13, (a14, (a15, ()))))))))))))))))))))))))))) (
 .ite (decide (r0.proto = (6 : Int))) (
 .ite (false) (
 .ret (Sum.inr (Sum.inl ((4 : Int), ())))) (
 .ite (decide (r0.port < (0 : Int))) (
 .ret (Sum.inr (Sum.inl ((4 : Int), ())))) (
 .ite (decide ((65535 : Int) < r0.port)) (
 .ret (Sum.inr (Sum.inl ((4 : Int), ())))) (
 .ite (decide (r0.at' < a1)) (
 .ret (Sum.inr (Sum.inl ((4 : Int), ())))) (
 .ite (decide ((1099511627776 : Int) < r0.at')) (
 .ret (Sum.inr (Sum.inl ((4 : Int), ())))) (
 .opt ((natWithin_fn (a4, (a5, (a6, (a7, (a8, (a9, (r0.proto, (r0.addr, (r0.port, ()))))))))))) (fun r1 =>
 .ite (!decide (r1.1 = a0)) (
 .ret (Sum.inr (Sum.inl ((4 : Int), ())))) (
 .opt ((portsEnd_fn (a13, (a14, (r0.out, ()))))) (fun r2 =>
 .ite (!decide (r2.2.2.1 = (0 : Int))) (
 .ret (Sum.inr (Sum.inl ((4 : Int), ())))) (
 .ret (Sum.inl (wW .i64 (a0 + (1 : Int)), (r0.at', (a2, (a3, (a4, (a5, (a6, (a7, (a8, (a9, (a10, (a11, (a12, (r2.1, (r2.2.1, (a15, ()))))))))))))))))))))))))))) (
 .ite (true) (
 .ret (Sum.inr (Sum.inl ((4 : Int), ())))) (
 .ite (decide (r0.port < (0 : Int))) (
 .ret (Sum.inr (Sum.inl ((4 : Int), ())))) (
 .ite (decide ((65535 : Int) < r0.port)) (
 .ret (Sum.inr (Sum.inl ((4 : Int), ())))) (
 .ite (decide (r0.at' < a1)) (
 .ret (Sum.inr (Sum.inl ((4 : Int), ())))) (
 .ite (decide ((1099511627776 : Int) < r0.at')) (
 .ret (Sum.inr (Sum.inl ((4 : Int), ())))) (
 .opt ((natWithin_fn (a4, (a5, (a6, (a7, (a8, (a9, (r0.proto, (r0.addr, (r0.port, ()))))))))))) (fun r1 =>
 .ite (!decide (r1.1 = a0)) (
 .ret (Sum.inr (Sum.inl ((4 : Int), ())))) (
 .fail 3)))))))))))) (
 .ret (Sum.inr (Sum.inr (a10, (a11, (a12, (a13, (a14, (a15, ())))))))))
def natCheck_loop41_9 (x : ty8_) : Option ((Int × Unit) ⊕ (Int × (Int × (Int × (Int × (Int × ((List TMap) × Unit))))))) := loopO 410009 (fun x => (natCheck_step41_9 x).eval) 18446744073709551616 x
def natCheck_ap : List VP1 := [.agg [.i .i64, .i .i64, .i .u64, .i .i64, .i .u64, .st 17 false]]
def natCheck_rp : SP := ⟨1, [(0, .v (.one (.i .i64)))], []⟩
def natCheck_tree : (Int × (Int × (Int × (Int × (Int × ((List TMap) × Unit)))))) -> Tr (Int × Unit) :=
 fun (a0, a1, a2, a3, a4, a5, _) =>
 .ite (decide (a0 < (1 : Int))) (
 .ret ((1 : Int), ())) (
 .ite (decide ((1000000 : Int) < a0)) (
 .ret ((1 : Int), ())) (
 .opt ((portsCheck_fn (a1, (a2, ())))) (fun r0 =>
 .opt ((portsCheck_fn (a3, (a4, ())))) (fun r1 =>
 .ite (!decide ((if false = true then if r1.1 < r0.1 then r1.1 else r0.1 else if r1.1 > r0.1 then r1.1 else r0.1) = (0 : Int))) (
 .ret (if false = true then if r1.1 < r0.1 then r1.1 else r0.1 else if r1.1 > r0.1 then r1.1 else r0.1, ())) (
 .opt ((natCheck_loop41_9 ((0 : Int), ((0 : Int), (a5, ((↑(a5.length) : Int), (a0, (a1, (a2, (a3, (a4, (a5, (a0, (a1, (a2, (a3, (a4, (a5, ())))))))))))))))))) (fun r2 =>
 .sum (r2) (fun r3 =>
 .ret (r3.1, ())) (fun r3 =>
 .ite (!decide (r3.2.2.1 = (0 : Int))) (
 .ret ((4 : Int), ())) (
 .ite (!decide (r3.2.2.2.2.1 = (0 : Int))) (
 .ret ((4 : Int), ())) (
 .ret ((0 : Int), ()))))))))))
noncomputable def gm41 : List (PF Go.Proofs.Tryd.prog) := [tz64, FS.pf portsCheck, FS.pf portsLet, FS.pf portsEnd, clMap, GS.pf delMap, FS.pf natWithin]
theorem natCheck_eq (x : (Int × (Int × (Int × (Int × (Int × ((List TMap) × Unit))))))) : fnTr Tryd.prog cod gm41 [(41, natCheck_L41_9)] 30 41 natCheck_ap natCheck_rp x = natCheck_tree x := by kernel_rfl
def natCheck_fn (x : (Int × (Int × (Int × (Int × (Int × ((List TMap) × Unit))))))) : Option (Int × Unit) := (natCheck_tree x).eval
def natCheck : FS Tryd.prog := ⟨41, natCheck_ap, natCheck_rp, natCheck_fn, fun x r h => fnTr_sound (cod := cod) (Γ := gm41) (Λs := [(41, natCheck_L41_9)]) (n := 30) ((congrArg Tr.eval (natCheck_eq x)).trans h)⟩
def natPlace : PF Go.Proofs.Tryd.prog := ⟨62, [1, 0], fun _ _ => none, fun _ _ _ _ _ h _ => by cases h⟩
def natExpire_L92_1 : LS := ⟨1, [(1000000, 1000000), (1000100, 1000100)], ⟨68, [(4, .v (.one (.i .i64))), (0, .v (.one (.ptr 1000000 0))), (1, .v (.one (.i .i64)))], [(1000000, .cells [.i .i64, .i .i64, .i .u64, .i .i64, .i .u64, .own 1000100]), (1000100, .row 112 17 true true)]⟩, [⟨some 0, [(1000000, 1000000), (1000100, 1000100)], ⟨68, [(4, .v (.one (.i .i64))), (0, .v (.one (.ptr 1000000 0)))], [(1000000, .cells [.i .i64, .i .i64, .i .u64, .i .i64, .i .u64, .own 1000100]), (1000100, .row 112 17 true true)]⟩⟩], []⟩
def natExpire_step92_1 : (Int × (Int × (Int × (Int × (Int × (Int × (Int × ((List TMap) × Unit)))))))) -> Tr ((Int × (Int × (Int × (Int × (Int × (Int × (Int × ((List TMap) × Unit)))))))) ⊕ (Int × (Int × (Int × (Int × (Int × (Int × ((List TMap) × Unit)))))))) :=
 fun (a0, a1, a2, a3, a4, a5, a6, a7, _) =>
 .ite (decide (a0 < (↑(a7.length) : Int))) (
 .grd (decide ((0 : Int) <= a0 /\ a0 < (↑(a7.length) : Int))) (
 .opt (a7[Int.toNat a0]?) (fun r0 =>
 .ite (decide (a2 < wW .i64 (a1 - r0.at'))) (
 .grd (decide ((0 : Int) <= a0 /\ a0 < (↑(a7.length) : Int))) (
 .opt (a7[Int.toNat a0]?) (fun r1 =>
 .ite (decide (r1.proto = (17 : Int))) (
 .grd (decide ((0 : Int) <= a0 /\ a0 < (↑(a7.length) : Int))) (
 .opt (a7[Int.toNat a0]?) (fun r2 =>
 .opt ((portsEnd_fn (a3, (a4, (r2.out, ()))))) (fun r3 =>
 .grd (decide (a7.length = a7.length)) (
 .ret (Sum.inl (wW .i64 (a0 + (1 : Int)), (a1, (a2, (r3.1, (r3.2.1, (a5, (a6, (a7, ())))))))))))))) (
 .ite (decide (r1.proto = (6 : Int))) (
 .grd (decide ((0 : Int) <= a0 /\ a0 < (↑(a7.length) : Int))) (
 .opt (a7[Int.toNat a0]?) (fun r2 =>
 .opt ((portsEnd_fn (a5, (a6, (r2.out, ()))))) (fun r3 =>
 .grd (decide (a7.length = a7.length)) (
 .ret (Sum.inl (wW .i64 (a0 + (1 : Int)), (a1, (a2, (a3, (a4, (r3.1, (r3.2.1, (a7, ())))))))))))))) (
 .fail 3))))) (
 .grd (decide (a7.length = a7.length)) (
 .ret (Sum.inr (a0, (a2, (a3, (a4, (a5, (a6, (a7, ()))))))))))))) (
 .grd (decide (a7.length = a7.length)) (
 .ret (Sum.inr (a0, (a2, (a3, (a4, (a5, (a6, (a7, ()))))))))))
def natExpire_loop92_1 (x : (Int × (Int × (Int × (Int × (Int × (Int × (Int × ((List TMap) × Unit))))))))) : Option (Int × (Int × (Int × (Int × (Int × (Int × ((List TMap) × Unit))))))) := loopO 920001 (fun x => (natExpire_step92_1 x).eval) 18446744073709551616 x
def natExpire_ap : SP := ⟨68, [(0, .v (.one (.ptr 1000000 0))), (1, .v (.one (.i .i64)))], [(1000000, .cells [.i .i64, .i .i64, .i .u64, .i .i64, .i .u64, .own 1000100]), (1000100, .row 112 17 true true)]⟩
def natExpire_rp : SP := ⟨1, [(0, .tup [])], [(1000000, .cells [.i .i64, .i .i64, .i .u64, .i .i64, .i .u64, .own 1000100]), (1000100, .row 112 17 true true)]⟩
def natExpire_tree : (Int × (Int × (Int × (Int × (Int × (Int × ((List TMap) × Unit))))))) -> Tr (Int × (Int × (Int × (Int × (Int × ((List TMap) × Unit)))))) :=
 fun (a0, a1, a2, a3, a4, a5, a6, _) =>
 .grd (decide (a6.length = a6.length)) (
 .opt ((natExpire_loop92_1 ((0 : Int), (a0, (a1, (a2, (a3, (a4, (a5, (a6, ())))))))))) (fun r0 =>
 .grd (decide (List.length r0.2.2.2.2.2.2.fst = List.length r0.2.2.2.2.2.2.1)) (
 .opt ((delMap_fn ((0 : Int), (r0.1, (r0.2.2.2.2.2.2.1, ()))))) (fun r1 =>
 .grd (decide (List.length r1.fst = List.length r1.1)) (
 .ret (r0.2.1, (r0.2.2.1, (r0.2.2.2.1, (r0.2.2.2.2.1, (r0.2.2.2.2.2.1, (r1.1, ())))))))))))
noncomputable def gm42 : List (PF Go.Proofs.Tryd.prog) := [tz64, FS.pf portsCheck, FS.pf portsLet, FS.pf portsEnd, clMap, GS.pf delMap, FS.pf natWithin, FS.pf natCheck, natPlace]
theorem natExpire_eq (x : (Int × (Int × (Int × (Int × (Int × (Int × ((List TMap) × Unit)))))))) : gsTr Tryd.prog cod gm42 [(92, natExpire_L92_1)] 30 92 natExpire_ap natExpire_rp x = natExpire_tree x := by kernel_rfl
def natExpire_fn (x : (Int × (Int × (Int × (Int × (Int × (Int × ((List TMap) × Unit)))))))) : Option (Int × (Int × (Int × (Int × (Int × ((List TMap) × Unit)))))) := (natExpire_tree x).eval
def natExpire : GS Tryd.prog := ⟨92, [1, 0], natExpire_ap, natExpire_rp, natExpire_fn, fun x r h ys m g he hg => gs_sound (cod := cod) (Γ := gm42) (Λs := [(92, natExpire_L92_1)]) (n := 30) ((congrArg Tr.eval (natExpire_eq x)).trans h) he hg⟩
def natOut_ap : List VP1 := [.agg [.i .i64, .i .i64, .i .u64, .i .i64, .i .u64, .st 17 false], .one (.i .i64), .one (.i .u32), .one (.i .i64), .one (.i .i64)]
def natOut_rp : SP := ⟨1, [(0, .tup [.agg [.i .i64, .i .i64, .i .u64, .i .i64, .i .u64, .st 17 true], .one (.i .i64), .one (.i .i64)])], []⟩
abbrev ty9_ : Type := (Int × (Int × (Int × (Int × (Int × ((List TMap) × (Int × (Int × (Int × (Int × Unit))))))))))
def natOut_tree : ty9_ -> Tr (Int × (Int × (Int × (Int × (Int × ((List TMap) × (Int × (Int × Unit)))))))) :=
 fun (a0, a1, a2, a3, a4, a5, a6, a7, a8, a9, _) =>
 .grd (decide (((0 : Nat) + a5.length) * (40 : Nat) <= (140737488355328 : Nat) /\ (0 : Nat) + a5.length <= (9223372036854775807 : Nat))) (
 .opt ((natCheck_fn (a0, (a1, (a2, (a3, (a4, (a5, ())))))))) (fun r0 =>
 .ite (!decide (r0.1 = (0 : Int))) (
 .ret (a0, (a1, (a2, (a3, (a4, (a5, ((0 : Int), (r0.1, ()))))))))) (
 .ite (decide ((0 : Int) < (↑(a5.length) : Int))) (
 .grd (decide ((0 : Int) <= wW .i64 ((↑(a5.length) : Int) - (1 : Int)) /\ wW .i64 ((↑(a5.length) : Int) - (1 : Int)) < (↑(a5.length) : Int))) (
 .opt (a5[Int.toNat (wW .i64 ((↑(a5.length) : Int) - (1 : Int)))]?) (fun r1 =>
 .ite (!decide (a6 = (6 : Int))) (
 .ite (!decide (a6 = (17 : Int))) (
 .ret (a0, (a1, (a2, (a3, (a4, (a5, ((0 : Int), ((7 : Int), ()))))))))) (
 .ite (decide (a8 < (0 : Int))) (
 .ret (a0, (a1, (a2, (a3, (a4, (a5, ((0 : Int), ((1 : Int), ()))))))))) (
 .ite (decide ((65535 : Int) < a8)) (
 .ret (a0, (a1, (a2, (a3, (a4, (a5, ((0 : Int), ((1 : Int), ()))))))))) (
 .ite (decide (a9 < r1.at')) (
 .ret (a0, (a1, (a2, (a3, (a4, (a5, ((0 : Int), ((1 : Int), ()))))))))) (
 .ite (decide ((1099511627776 : Int) < a9)) (
 .ret (a0, (a1, (a2, (a3, (a4, (a5, ((0 : Int), ((1 : Int), ()))))))))) (
 .grd (decide (((0 : Nat) + a5.length) * (40 : Nat) <= (140737488355328 : Nat) /\ (0 : Nat) + a5.length <= (9223372036854775807 : Nat))) (
 .grd (decide (a5.length = a5.length)) (
 .opt ((natExpire_fn (a9, (a0, (a1, (a2, (a3, (a4, (a5, ()))))))))) (fun r2 =>
 .opt ((natWithin_fn (r2.1, (r2.2.1, (r2.2.2.1, (r2.2.2.2.1, (r2.2.2.2.2.1, (r2.2.2.2.2.2.1, (a6, (a7, (a8, ()))))))))))) (fun r3 =>
 .ite (decide ((0 : Int) <= r3.1)) (
 .grd (decide ((0 : Int) <= r3.1 /\ r3.1 < (↑(List.length r2.2.2.2.2.2.fst) : Int))) (
 .opt (r2.2.2.2.2.2.1[Int.toNat r3.1]?) (fun r4 =>
 .grd (decide (List.length r2.2.2.2.2.2.fst = List.length r2.2.2.2.2.2.1)) (
 .opt ((delMap_fn (r3.1, (wW .i64 (r3.1 + (1 : Int)), (r2.2.2.2.2.2.1, ()))))) (fun r5 =>
 .grd (decide ((List.length r5.1 + List.length [TMap.mk a6 a7 a8 r4.out a9]) * (40 : Nat) <= (140737488355328 : Nat) /\ List.length r5.1 + List.length [TMap.mk a6 a7 a8 r4.out a9] <= (9223372036854775807 : Nat))) (
 .ret (r2.1, (r2.2.1, (r2.2.2.1, (r2.2.2.2.1, (r2.2.2.2.2.1, (r5.1 ++ [TMap.mk a6 a7 a8 r4.out a9], (r4.out, ((0 : Int), ())))))))))))))) (
 .ite (decide (a6 = (17 : Int))) (
 .opt ((portsLet_fn (r2.2.1, (r2.2.2.1, (a8, ()))))) (fun r4 =>
 .ite (!decide (r4.2.2.2.1 = (0 : Int))) (
 .ret (a0, (a1, (a2, (a3, (a4, (a5, ((0 : Int), (r4.2.2.2.1, ()))))))))) (
 .grd (decide ((List.length r2.2.2.2.2.2.1 + List.length [TMap.mk a6 a7 a8 r4.2.2.1 a9]) * (40 : Nat) <= (140737488355328 : Nat) /\ List.length r2.2.2.2.2.2.1 + List.length [TMap.mk a6 a7 a8 r4.2.2.1 a9] <= (9223372036854775807 : Nat))) (
 .ret (r2.1, (r4.1, (r4.2.1, (r2.2.2.2.1, (r2.2.2.2.2.1, (r2.2.2.2.2.2.1 ++ [TMap.mk a6 a7 a8 r4.2.2.1 a9], (r4.2.2.1, ((0 : Int), ())))))))))))) (
 .ite (decide (a6 = (6 : Int))) (
 .opt ((portsLet_fn (r2.2.2.2.1, (r2.2.2.2.2.1, (a8, ()))))) (fun r4 =>
 .ite (!decide (r4.2.2.2.1 = (0 : Int))) (
 .ret (a0, (a1, (a2, (a3, (a4, (a5, ((0 : Int), (r4.2.2.2.1, ()))))))))) (
 .grd (decide ((List.length r2.2.2.2.2.2.1 + List.length [TMap.mk a6 a7 a8 r4.2.2.1 a9]) * (40 : Nat) <= (140737488355328 : Nat) /\ List.length r2.2.2.2.2.2.1 + List.length [TMap.mk a6 a7 a8 r4.2.2.1 a9] <= (9223372036854775807 : Nat))) (
 .ret (r2.1, (r2.2.1, (r2.2.2.1, (r4.1, (r4.2.1, (r2.2.2.2.2.2.1 ++ [TMap.mk a6 a7 a8 r4.2.2.1 a9], (r4.2.2.1, ((0 : Int), ())))))))))))) (
 .fail 3))))))))))))) (
 .ite (decide (a8 < (0 : Int))) (
 .ret (a0, (a1, (a2, (a3, (a4, (a5, ((0 : Int), ((1 : Int), ()))))))))) (
 .ite (decide ((65535 : Int) < a8)) (
 .ret (a0, (a1, (a2, (a3, (a4, (a5, ((0 : Int), ((1 : Int), ()))))))))) (
 .ite (decide (a9 < r1.at')) (
 .ret (a0, (a1, (a2, (a3, (a4, (a5, ((0 : Int), ((1 : Int), ()))))))))) (
 .ite (decide ((1099511627776 : Int) < a9)) (
 .ret (a0, (a1, (a2, (a3, (a4, (a5, ((0 : Int), ((1 : Int), ()))))))))) (
 .grd (decide (((0 : Nat) + a5.length) * (40 : Nat) <= (140737488355328 : Nat) /\ (0 : Nat) + a5.length <= (9223372036854775807 : Nat))) (
 .grd (decide (a5.length = a5.length)) (
 .opt ((natExpire_fn (a9, (a0, (a1, (a2, (a3, (a4, (a5, ()))))))))) (fun r2 =>
 .opt ((natWithin_fn (r2.1, (r2.2.1, (r2.2.2.1, (r2.2.2.2.1, (r2.2.2.2.2.1, (r2.2.2.2.2.2.1, (a6, (a7, (a8, ()))))))))))) (fun r3 =>
 .ite (decide ((0 : Int) <= r3.1)) (
 .grd (decide ((0 : Int) <= r3.1 /\ r3.1 < (↑(List.length r2.2.2.2.2.2.fst) : Int))) (
 .opt (r2.2.2.2.2.2.1[Int.toNat r3.1]?) (fun r4 =>
 .grd (decide (List.length r2.2.2.2.2.2.fst = List.length r2.2.2.2.2.2.1)) (
 .opt ((delMap_fn (r3.1, (wW .i64 (r3.1 + (1 : Int)), (r2.2.2.2.2.2.1, ()))))) (fun r5 =>
 .grd (decide ((List.length r5.1 + List.length [TMap.mk a6 a7 a8 r4.out a9]) * (40 : Nat) <= (140737488355328 : Nat) /\ List.length r5.1 + List.length [TMap.mk a6 a7 a8 r4.out a9] <= (9223372036854775807 : Nat))) (
 .ret (r2.1, (r2.2.1, (r2.2.2.1, (r2.2.2.2.1, (r2.2.2.2.2.1, (r5.1 ++ [TMap.mk a6 a7 a8 r4.out a9], (r4.out, ((0 : Int), ())))))))))))))) (
 .ite (decide (a6 = (17 : Int))) (
 .opt ((portsLet_fn (r2.2.1, (r2.2.2.1, (a8, ()))))) (fun r4 =>
 .ite (!decide (r4.2.2.2.1 = (0 : Int))) (
 .ret (a0, (a1, (a2, (a3, (a4, (a5, ((0 : Int), (r4.2.2.2.1, ()))))))))) (
 .grd (decide ((List.length r2.2.2.2.2.2.1 + List.length [TMap.mk a6 a7 a8 r4.2.2.1 a9]) * (40 : Nat) <= (140737488355328 : Nat) /\ List.length r2.2.2.2.2.2.1 + List.length [TMap.mk a6 a7 a8 r4.2.2.1 a9] <= (9223372036854775807 : Nat))) (
 .ret (r2.1, (r4.1, (r4.2.1, (r2.2.2.2.1, (r2.2.2.2.2.1, (r2.2.2.2.2.2.1 ++ [TMap.mk a6 a7 a8 r4.2.2.1 a9], (r4.2.2.1, ((0 : Int), ())))))))))))) (
 .ite (decide (a6 = (6 : Int))) (
 .opt ((portsLet_fn (r2.2.2.2.1, (r2.2.2.2.2.1, (a8, ()))))) (fun r4 =>
 .ite (!decide (r4.2.2.2.1 = (0 : Int))) (
 .ret (a0, (a1, (a2, (a3, (a4, (a5, ((0 : Int), (r4.2.2.2.1, ()))))))))) (
 .grd (decide ((List.length r2.2.2.2.2.2.1 + List.length [TMap.mk a6 a7 a8 r4.2.2.1 a9]) * (40 : Nat) <= (140737488355328 : Nat) /\ List.length r2.2.2.2.2.2.1 + List.length [TMap.mk a6 a7 a8 r4.2.2.1 a9] <= (9223372036854775807 : Nat))) (
 .ret (r2.1, (r2.2.1, (r2.2.2.1, (r4.1, (r4.2.1, (r2.2.2.2.2.2.1 ++ [TMap.mk a6 a7 a8 r4.2.2.1 a9], (r4.2.2.1, ((0 : Int), ())))))))))))) (
 .fail 3))))))))))))))) (
 .ite (!decide (a6 = (6 : Int))) (
 .ite (!decide (a6 = (17 : Int))) (
 .ret (a0, (a1, (a2, (a3, (a4, (a5, ((0 : Int), ((7 : Int), ()))))))))) (
 .ite (decide (a8 < (0 : Int))) (
 .ret (a0, (a1, (a2, (a3, (a4, (a5, ((0 : Int), ((1 : Int), ()))))))))) (
 .ite (decide ((65535 : Int) < a8)) (
 .ret (a0, (a1, (a2, (a3, (a4, (a5, ((0 : Int), ((1 : Int), ()))))))))) (
 .ite (decide (a9 < (0 : Int))) (
 .ret (a0, (a1, (a2, (a3, (a4, (a5, ((0 : Int), ((1 : Int), ()))))))))) (
 .ite (decide ((1099511627776 : Int) < a9)) (
 .ret (a0, (a1, (a2, (a3, (a4, (a5, ((0 : Int), ((1 : Int), ()))))))))) (
 .grd (decide (((0 : Nat) + a5.length) * (40 : Nat) <= (140737488355328 : Nat) /\ (0 : Nat) + a5.length <= (9223372036854775807 : Nat))) (
 .grd (decide (a5.length = a5.length)) (
 .opt ((natExpire_fn (a9, (a0, (a1, (a2, (a3, (a4, (a5, ()))))))))) (fun r1 =>
 .opt ((natWithin_fn (r1.1, (r1.2.1, (r1.2.2.1, (r1.2.2.2.1, (r1.2.2.2.2.1, (r1.2.2.2.2.2.1, (a6, (a7, (a8, ()))))))))))) (fun r2 =>
 .ite (decide ((0 : Int) <= r2.1)) (
 .grd (decide ((0 : Int) <= r2.1 /\ r2.1 < (↑(List.length r1.2.2.2.2.2.fst) : Int))) (
 .opt (r1.2.2.2.2.2.1[Int.toNat r2.1]?) (fun r3 =>
 .grd (decide (List.length r1.2.2.2.2.2.fst = List.length r1.2.2.2.2.2.1)) (
 .opt ((delMap_fn (r2.1, (wW .i64 (r2.1 + (1 : Int)), (r1.2.2.2.2.2.1, ()))))) (fun r4 =>
 .grd (decide ((List.length r4.1 + List.length [TMap.mk a6 a7 a8 r3.out a9]) * (40 : Nat) <= (140737488355328 : Nat) /\ List.length r4.1 + List.length [TMap.mk a6 a7 a8 r3.out a9] <= (9223372036854775807 : Nat))) (
 .ret (r1.1, (r1.2.1, (r1.2.2.1, (r1.2.2.2.1, (r1.2.2.2.2.1, (r4.1 ++ [TMap.mk a6 a7 a8 r3.out a9], (r3.out, ((0 : Int), ())))))))))))))) (
 .ite (decide (a6 = (17 : Int))) (
 .opt ((portsLet_fn (r1.2.1, (r1.2.2.1, (a8, ()))))) (fun r3 =>
 .ite (!decide (r3.2.2.2.1 = (0 : Int))) (
 .ret (a0, (a1, (a2, (a3, (a4, (a5, ((0 : Int), (r3.2.2.2.1, ()))))))))) (
 .grd (decide ((List.length r1.2.2.2.2.2.1 + List.length [TMap.mk a6 a7 a8 r3.2.2.1 a9]) * (40 : Nat) <= (140737488355328 : Nat) /\ List.length r1.2.2.2.2.2.1 + List.length [TMap.mk a6 a7 a8 r3.2.2.1 a9] <= (9223372036854775807 : Nat))) (
 .ret (r1.1, (r3.1, (r3.2.1, (r1.2.2.2.1, (r1.2.2.2.2.1, (r1.2.2.2.2.2.1 ++ [TMap.mk a6 a7 a8 r3.2.2.1 a9], (r3.2.2.1, ((0 : Int), ())))))))))))) (
 .ite (decide (a6 = (6 : Int))) (
 .opt ((portsLet_fn (r1.2.2.2.1, (r1.2.2.2.2.1, (a8, ()))))) (fun r3 =>
 .ite (!decide (r3.2.2.2.1 = (0 : Int))) (
 .ret (a0, (a1, (a2, (a3, (a4, (a5, ((0 : Int), (r3.2.2.2.1, ()))))))))) (
 .grd (decide ((List.length r1.2.2.2.2.2.1 + List.length [TMap.mk a6 a7 a8 r3.2.2.1 a9]) * (40 : Nat) <= (140737488355328 : Nat) /\ List.length r1.2.2.2.2.2.1 + List.length [TMap.mk a6 a7 a8 r3.2.2.1 a9] <= (9223372036854775807 : Nat))) (
 .ret (r1.1, (r1.2.1, (r1.2.2.1, (r3.1, (r3.2.1, (r1.2.2.2.2.2.1 ++ [TMap.mk a6 a7 a8 r3.2.2.1 a9], (r3.2.2.1, ((0 : Int), ())))))))))))) (
 .fail 3))))))))))))) (
 .ite (decide (a8 < (0 : Int))) (
 .ret (a0, (a1, (a2, (a3, (a4, (a5, ((0 : Int), ((1 : Int), ()))))))))) (
 .ite (decide ((65535 : Int) < a8)) (
 .ret (a0, (a1, (a2, (a3, (a4, (a5, ((0 : Int), ((1 : Int), ()))))))))) (
 .ite (decide (a9 < (0 : Int))) (
 .ret (a0, (a1, (a2, (a3, (a4, (a5, ((0 : Int), ((1 : Int), ()))))))))) (
 .ite (decide ((1099511627776 : Int) < a9)) (
 .ret (a0, (a1, (a2, (a3, (a4, (a5, ((0 : Int), ((1 : Int), ()))))))))) (
 .grd (decide (((0 : Nat) + a5.length) * (40 : Nat) <= (140737488355328 : Nat) /\ (0 : Nat) + a5.length <= (9223372036854775807 : Nat))) (
 .grd (decide (a5.length = a5.length)) (
 .opt ((natExpire_fn (a9, (a0, (a1, (a2, (a3, (a4, (a5, ()))))))))) (fun r1 =>
 .opt ((natWithin_fn (r1.1, (r1.2.1, (r1.2.2.1, (r1.2.2.2.1, (r1.2.2.2.2.1, (r1.2.2.2.2.2.1, (a6, (a7, (a8, ()))))))))))) (fun r2 =>
 .ite (decide ((0 : Int) <= r2.1)) (
 .grd (decide ((0 : Int) <= r2.1 /\ r2.1 < (↑(List.length r1.2.2.2.2.2.fst) : Int))) (
 .opt (r1.2.2.2.2.2.1[Int.toNat r2.1]?) (fun r3 =>
 .grd (decide (List.length r1.2.2.2.2.2.fst = List.length r1.2.2.2.2.2.1)) (
 .opt ((delMap_fn (r2.1, (wW .i64 (r2.1 + (1 : Int)), (r1.2.2.2.2.2.1, ()))))) (fun r4 =>
 .grd (decide ((List.length r4.1 + List.length [TMap.mk a6 a7 a8 r3.out a9]) * (40 : Nat) <= (140737488355328 : Nat) /\ List.length r4.1 + List.length [TMap.mk a6 a7 a8 r3.out a9] <= (9223372036854775807 : Nat))) (
 .ret (r1.1, (r1.2.1, (r1.2.2.1, (r1.2.2.2.1, (r1.2.2.2.2.1, (r4.1 ++ [TMap.mk a6 a7 a8 r3.out a9], (r3.out, ((0 : Int), ())))))))))))))) (
 .ite (decide (a6 = (17 : Int))) (
 .opt ((portsLet_fn (r1.2.1, (r1.2.2.1, (a8, ()))))) (fun r3 =>
 .ite (!decide (r3.2.2.2.1 = (0 : Int))) (
 .ret (a0, (a1, (a2, (a3, (a4, (a5, ((0 : Int), (r3.2.2.2.1, ()))))))))) (
 .grd (decide ((List.length r1.2.2.2.2.2.1 + List.length [TMap.mk a6 a7 a8 r3.2.2.1 a9]) * (40 : Nat) <= (140737488355328 : Nat) /\ List.length r1.2.2.2.2.2.1 + List.length [TMap.mk a6 a7 a8 r3.2.2.1 a9] <= (9223372036854775807 : Nat))) (
 .ret (r1.1, (r3.1, (r3.2.1, (r1.2.2.2.1, (r1.2.2.2.2.1, (r1.2.2.2.2.2.1 ++ [TMap.mk a6 a7 a8 r3.2.2.1 a9], (r3.2.2.1, ((0 : Int), ())))))))))))) (
 .ite (decide (a6 = (6 : Int))) (
 .opt ((portsLet_fn (r1.2.2.2.1, (r1.2.2.2.2.1, (a8, ()))))) (fun r3 =>
 .ite (!decide (r3.2.2.2.1 = (0 : Int))) (
 .ret (a0, (a1, (a2, (a3, (a4, (a5, ((0 : Int), (r3.2.2.2.1, ()))))))))) (
 .grd (decide ((List.length r1.2.2.2.2.2.1 + List.length [TMap.mk a6 a7 a8 r3.2.2.1 a9]) * (40 : Nat) <= (140737488355328 : Nat) /\ List.length r1.2.2.2.2.2.1 + List.length [TMap.mk a6 a7 a8 r3.2.2.1 a9] <= (9223372036854775807 : Nat))) (
 .ret (r1.1, (r1.2.1, (r1.2.2.1, (r3.1, (r3.2.1, (r1.2.2.2.2.2.1 ++ [TMap.mk a6 a7 a8 r3.2.2.1 a9], (r3.2.2.1, ((0 : Int), ())))))))))))) (
 .fail 3))))))))))))))))
noncomputable def gm43 : List (PF Go.Proofs.Tryd.prog) := [tz64, FS.pf portsCheck, FS.pf portsLet, FS.pf portsEnd, clMap, GS.pf delMap, FS.pf natWithin, FS.pf natCheck, natPlace, GS.pf natExpire]
theorem natOut_eq (x : ty9_) : fnTr Tryd.prog cod gm43 [] 30 73 natOut_ap natOut_rp x = natOut_tree x := by kernel_rfl
def natOut_fn (x : ty9_) : Option (Int × (Int × (Int × (Int × (Int × ((List TMap) × (Int × (Int × Unit)))))))) := (natOut_tree x).eval
def natOut : FS Tryd.prog := ⟨73, natOut_ap, natOut_rp, natOut_fn, fun x r h => fnTr_sound (cod := cod) (Γ := gm43) (Λs := []) (n := 30) ((congrArg Tr.eval (natOut_eq x)).trans h)⟩
def natIn_L75_9 : LS := ⟨9, [(4, 4)], ⟨62, [(34, .v (.one (.i .i64))), (4, .v (.one (.ptr 4 0))), (3, .v (.one (.i .i64))), (2, .v (.one (.i .i64))), (1, .v (.one (.i .i64))), (32, .v (.one (.st 17 false))), (33, .v (.one (.i .i64)))], [(4, .cells [.i .i64, .i .i64, .i .u64, .i .i64, .i .u64, .st 17 false])]⟩, [⟨none, [], ⟨62, [(8, .v (.one (.i .u32))), (9, .v (.one (.i .i64))), (10, .v (.one (.i .i64)))], []⟩⟩, ⟨some 0, [], ⟨62, [], []⟩⟩], []⟩
abbrev ty10_ : Type := (Int × (Int × (Int × (Int × ((List TMap) × (Int × (Int × (Int × (Int × (Int × (Int × ((List TMap) × Unit))))))))))))
def natIn_step75_9 : ty10_ -> Tr (ty10_ ⊕ ((Int × (Int × (Int × Unit))) ⊕ Unit)) :=
 fun (a0, a1, a2, a3, a4, a5, a6, a7, a8, a9, a10, a11, _) =>
 .ite (decide (a0 < a5)) (
 .grd (decide ((0 : Int) <= a0)) (
 .opt (a4[Int.toNat a0]?) (fun r0 =>
 .ite (decide (r0.proto = a3)) (
 .ite (decide (r0.out = a2)) (
 .ite (decide (wW .i64 (a1 - r0.at') <= a6)) (
 .ret (Sum.inr (Sum.inl (r0.addr, (r0.port, ((0 : Int), ())))))) (
 .ret (Sum.inl (wW .i64 (a0 + (1 : Int)), (a1, (a2, (a3, (a4, (a5, (a6, (a7, (a8, (a9, (a10, (a11, ()))))))))))))))) (
 .ret (Sum.inl (wW .i64 (a0 + (1 : Int)), (a1, (a2, (a3, (a4, (a5, (a6, (a7, (a8, (a9, (a10, (a11, ()))))))))))))))) (
 .ret (Sum.inl (wW .i64 (a0 + (1 : Int)), (a1, (a2, (a3, (a4, (a5, (a6, (a7, (a8, (a9, (a10, (a11, ()))))))))))))))))) (
 .ret (Sum.inr (Sum.inr ())))
def natIn_loop75_9 (x : ty10_) : Option ((Int × (Int × (Int × Unit))) ⊕ Unit) := loopO 750009 (fun x => (natIn_step75_9 x).eval) 18446744073709551616 x
def natIn_ap : List VP1 := [.agg [.i .i64, .i .i64, .i .u64, .i .i64, .i .u64, .st 17 false], .one (.i .i64), .one (.i .i64), .one (.i .i64)]
def natIn_rp : SP := ⟨1, [(0, .tup [.one (.i .u32), .one (.i .i64), .one (.i .i64)])], []⟩
def natIn_tree : (Int × (Int × (Int × (Int × (Int × ((List TMap) × (Int × (Int × (Int × Unit))))))))) -> Tr (Int × (Int × (Int × Unit))) :=
 fun (a0, a1, a2, a3, a4, a5, a6, a7, a8, _) =>
 .opt ((natCheck_fn (a0, (a1, (a2, (a3, (a4, (a5, ())))))))) (fun r0 =>
 .ite (!decide (r0.1 = (0 : Int))) (
 .ret ((0 : Int), ((0 : Int), (r0.1, ())))) (
 .ite (!decide (a6 = (6 : Int))) (
 .ite (!decide (a6 = (17 : Int))) (
 .ret ((0 : Int), ((0 : Int), ((7 : Int), ())))) (
 .ite (decide (a8 < (0 : Int))) (
 .ret ((0 : Int), ((0 : Int), ((1 : Int), ())))) (
 .ite (decide ((1099511627776 : Int) < a8)) (
 .ret ((0 : Int), ((0 : Int), ((1 : Int), ())))) (
 .opt ((natIn_loop75_9 ((0 : Int), (a8, (a7, (a6, (a5, ((↑(a5.length) : Int), (a0, (a1, (a2, (a3, (a4, (a5, ())))))))))))))) (fun r1 =>
 .sum (r1) (fun r2 =>
 .ret (r2.1, (r2.2.1, (r2.2.2.1, ())))) (fun r2 =>
 .ret ((0 : Int), ((0 : Int), ((7 : Int), ()))))))))) (
 .ite (decide (a8 < (0 : Int))) (
 .ret ((0 : Int), ((0 : Int), ((1 : Int), ())))) (
 .ite (decide ((1099511627776 : Int) < a8)) (
 .ret ((0 : Int), ((0 : Int), ((1 : Int), ())))) (
 .opt ((natIn_loop75_9 ((0 : Int), (a8, (a7, (a6, (a5, ((↑(a5.length) : Int), (a0, (a1, (a2, (a3, (a4, (a5, ())))))))))))))) (fun r1 =>
 .sum (r1) (fun r2 =>
 .ret (r2.1, (r2.2.1, (r2.2.2.1, ())))) (fun r2 =>
 .ret ((0 : Int), ((0 : Int), ((7 : Int), ()))))))))))
noncomputable def gm44 : List (PF Go.Proofs.Tryd.prog) := [tz64, FS.pf portsCheck, FS.pf portsLet, FS.pf portsEnd, clMap, GS.pf delMap, FS.pf natWithin, FS.pf natCheck, natPlace, GS.pf natExpire, FS.pf natOut]
theorem natIn_eq (x : (Int × (Int × (Int × (Int × (Int × ((List TMap) × (Int × (Int × (Int × Unit)))))))))) : fnTr Tryd.prog cod gm44 [(75, natIn_L75_9)] 30 75 natIn_ap natIn_rp x = natIn_tree x := by kernel_rfl
def natIn_fn (x : (Int × (Int × (Int × (Int × (Int × ((List TMap) × (Int × (Int × (Int × Unit)))))))))) : Option (Int × (Int × (Int × Unit))) := (natIn_tree x).eval
def natIn : FS Tryd.prog := ⟨75, natIn_ap, natIn_rp, natIn_fn, fun x r h => fnTr_sound (cod := cod) (Γ := gm44) (Λs := [(75, natIn_L75_9)]) (n := 30) ((congrArg Tr.eval (natIn_eq x)).trans h)⟩
theorem clMeter_h1 (xs : List (τ 19)) : (bodyTr Go.Proofs.Tryd.prog cod 37 [.one (.nn (.st 19 xs))]).eval = (cloneRes 104 19 40 xs).eval := by kernel_rfl
theorem clMeter_h2 : (bodyTr Go.Proofs.Tryd.prog cod 37 [.one .nil]).eval = some (.one .nil, []) := by kernel_rfl
def clMeter : PF Go.Proofs.Tryd.prog := clonePF Go.Proofs.Tryd.prog cod 37 104 19 40 clMeter_h1 clMeter_h2
def delMeter_ap : SP := ⟨33, [(0, .v (.one (.own 1000100))), (1, .v (.one (.i .i64))), (2, .v (.one (.i .i64)))], [(1000100, .row 104 19 true true)]⟩
def delMeter_rp : SP := ⟨1, [(0, .v (.one (.own 1000100)))], [(1000100, .row 104 19 true true)]⟩
def delMeter_tree : (Int × (Int × ((List TMeter) × Unit))) -> Tr ((List TMeter) × Unit) :=
 fun (a0, a1, a2, _) =>
 .grd (decide ((0 : Int) <= a0 /\ a0 <= a1 /\ a1 <= (↑(a2.length) : Int) /\ (↑(a2.length) : Int) <= (↑(a2.length) : Int))) (
 .ite (decide (a0 = a1)) (
 .grd (decide (a2.length = a2.length)) (
 .ret (a2, ()))) (
 .grd (decide ((0 : Int) <= a0 /\ a0 <= (↑(a2.length) : Int))) (
 .grd (decide ((0 : Int) <= a1 /\ a1 <= (↑(a2.length) : Int) /\ (↑(a2.length) : Int) <= (↑(a2.length) : Int))) (
 .grd (decide (Int.toNat a1 + Int.toNat ((↑(a2.length) : Int) - a1) <= a2.length)) (
 .grd (decide (Int.toNat a0 + List.length (List.take (Int.toNat ((↑(a2.length) : Int) - a1)) (List.drop (Int.toNat a1) a2)) <= a2.length)) (
 .grd (decide ((0 : Int) <= (↑(Int.toNat a0 + List.length (List.take (Int.toNat ((↑(a2.length) : Int) - a1)) (List.drop (Int.toNat a1) a2))) : Int) /\ (↑(Int.toNat a0 + List.length (List.take (Int.toNat ((↑(a2.length) : Int) - a1)) (List.drop (Int.toNat a1) a2))) : Int) <= (↑(a2.length) : Int) /\ (↑(a2.length) : Int) <= (↑(List.length (List.take (Int.toNat a0) a2 ++ List.take (Int.toNat ((↑(a2.length) : Int) - a1)) (List.drop (Int.toNat a1) a2) ++ List.drop (Int.toNat a0 + List.length (List.take (Int.toNat ((↑(a2.length) : Int) - a1)) (List.drop (Int.toNat a1) a2))) a2)) : Int))) (
 .grd (decide (Int.toNat (↑(Int.toNat a0 + List.length (List.take (Int.toNat ((↑(a2.length) : Int) - a1)) (List.drop (Int.toNat a1) a2))) : Int) + Int.toNat ((↑(a2.length) : Int) - (↑(Int.toNat a0 + List.length (List.take (Int.toNat ((↑(a2.length) : Int) - a1)) (List.drop (Int.toNat a1) a2))) : Int)) <= List.length (List.take (Int.toNat a0) a2 ++ List.take (Int.toNat ((↑(a2.length) : Int) - a1)) (List.drop (Int.toNat a1) a2) ++ List.drop (Int.toNat a0 + List.length (List.take (Int.toNat ((↑(a2.length) : Int) - a1)) (List.drop (Int.toNat a1) a2))) a2))) (
 .grd (decide (Int.toNat a0 + List.length (List.take (Int.toNat ((↑(a2.length) : Int) - a1)) (List.drop (Int.toNat a1) a2)) = List.length (List.take (Int.toNat a0 + List.length (List.take (Int.toNat ((↑(a2.length) : Int) - a1)) (List.drop (Int.toNat a1) a2))) (List.take (Int.toNat (↑(Int.toNat a0 + List.length (List.take (Int.toNat ((↑(a2.length) : Int) - a1)) (List.drop (Int.toNat a1) a2))) : Int)) (List.take (Int.toNat a0) a2 ++ List.take (Int.toNat ((↑(a2.length) : Int) - a1)) (List.drop (Int.toNat a1) a2) ++ List.drop (Int.toNat a0 + List.length (List.take (Int.toNat ((↑(a2.length) : Int) - a1)) (List.drop (Int.toNat a1) a2))) a2) ++ List.replicate (Int.toNat ((↑(a2.length) : Int) - (↑(Int.toNat a0 + List.length (List.take (Int.toNat ((↑(a2.length) : Int) - a1)) (List.drop (Int.toNat a1) a2))) : Int))) (TMeter.mk (0 : Int) (0 : Int) (0 : Int) (0 : Int) (0 : Int)) ++ List.drop (Int.toNat (↑(Int.toNat a0 + List.length (List.take (Int.toNat ((↑(a2.length) : Int) - a1)) (List.drop (Int.toNat a1) a2))) : Int) + List.length (List.replicate (Int.toNat ((↑(a2.length) : Int) - (↑(Int.toNat a0 + List.length (List.take (Int.toNat ((↑(a2.length) : Int) - a1)) (List.drop (Int.toNat a1) a2))) : Int))) (TMeter.mk (0 : Int) (0 : Int) (0 : Int) (0 : Int) (0 : Int)))) (List.take (Int.toNat a0) a2 ++ List.take (Int.toNat ((↑(a2.length) : Int) - a1)) (List.drop (Int.toNat a1) a2) ++ List.drop (Int.toNat a0 + List.length (List.take (Int.toNat ((↑(a2.length) : Int) - a1)) (List.drop (Int.toNat a1) a2))) a2))))) (
 .ret (List.take (Int.toNat a0 + List.length (List.take (Int.toNat ((↑(a2.length) : Int) - a1)) (List.drop (Int.toNat a1) a2))) (List.take (Int.toNat (↑(Int.toNat a0 + List.length (List.take (Int.toNat ((↑(a2.length) : Int) - a1)) (List.drop (Int.toNat a1) a2))) : Int)) (List.take (Int.toNat a0) a2 ++ List.take (Int.toNat ((↑(a2.length) : Int) - a1)) (List.drop (Int.toNat a1) a2) ++ List.drop (Int.toNat a0 + List.length (List.take (Int.toNat ((↑(a2.length) : Int) - a1)) (List.drop (Int.toNat a1) a2))) a2) ++ List.replicate (Int.toNat ((↑(a2.length) : Int) - (↑(Int.toNat a0 + List.length (List.take (Int.toNat ((↑(a2.length) : Int) - a1)) (List.drop (Int.toNat a1) a2))) : Int))) (TMeter.mk (0 : Int) (0 : Int) (0 : Int) (0 : Int) (0 : Int)) ++ List.drop (Int.toNat (↑(Int.toNat a0 + List.length (List.take (Int.toNat ((↑(a2.length) : Int) - a1)) (List.drop (Int.toNat a1) a2))) : Int) + List.length (List.replicate (Int.toNat ((↑(a2.length) : Int) - (↑(Int.toNat a0 + List.length (List.take (Int.toNat ((↑(a2.length) : Int) - a1)) (List.drop (Int.toNat a1) a2))) : Int))) (TMeter.mk (0 : Int) (0 : Int) (0 : Int) (0 : Int) (0 : Int)))) (List.take (Int.toNat a0) a2 ++ List.take (Int.toNat ((↑(a2.length) : Int) - a1)) (List.drop (Int.toNat a1) a2) ++ List.drop (Int.toNat a0 + List.length (List.take (Int.toNat ((↑(a2.length) : Int) - a1)) (List.drop (Int.toNat a1) a2))) a2)), ()))))))))))
noncomputable def gm45 : List (PF Go.Proofs.Tryd.prog) := [FS.pf sumFold, FS.pf sumAdd, FS.pf sumOf, FS.pf sumRight, FS.pf sumFix, FS.pf dgWord, FS.pf dgLong, FS.pf dgWordAt, FS.pf dgUnder, FS.pf dgPort, FS.pf dgWrite, FS.pf dgRead, FS.pf ipWordAt, FS.pf ipLongAt, FS.pf ipByt, FS.pf ipRefused, FS.pf ipWord, FS.pf ipLong, FS.pf ipWrite, FS.pf ipRead, FS.pf ipHop, FS.pf tcWordAt, FS.pf tcLongAt, FS.pf tcParse, FS.pf tcRead, FS.pf swEnds, FS.pf swWord, GS.pf swPut, GS.pf swChange, FS.pf swSwapped, FS.pf swFrom, FS.pf swTo, clTalk, GS.pf delTalk, FS.pf trTurned, FS.pf trPort, FS.pf trRoad, FS.pf trForm, FS.pf trPlace, FS.pf trCheck, FS.pf trOld, GS.pf dfTalk, GS.pf trOpen, GS.pf trPasses, FS.pf trHear, FS.pf trFind, FS.pf buCheck, FS.pf buLev, FS.pf buTake, clRule, FS.pf ruNet, FS.pf ruHas, FS.pf ruBounds, FS.pf ruRight, FS.pf ruCheck, FS.pf ruMeets, FS.pf ruDecide, tz64, FS.pf portsCheck, FS.pf portsLet, FS.pf portsEnd, FS.pf confCheck, clMap, GS.pf delMap, FS.pf natWithin, FS.pf natCheck, natPlace, GS.pf natExpire, FS.pf natOut, FS.pf natIn, clMeter]
theorem delMeter_eq (x : (Int × (Int × ((List TMeter) × Unit)))) : gsTr Tryd.prog cod gm45 [] 30 68 delMeter_ap delMeter_rp x = delMeter_tree x := by kernel_rfl
def delMeter_fn (x : (Int × (Int × ((List TMeter) × Unit)))) : Option ((List TMeter) × Unit) := (delMeter_tree x).eval
def delMeter : GS Tryd.prog := ⟨68, [1, 0, 0], delMeter_ap, delMeter_rp, delMeter_fn, fun x r h ys m g he hg => gs_sound (cod := cod) (Γ := gm45) (Λs := []) (n := 30) ((congrArg Tr.eval (delMeter_eq x)).trans h) he hg⟩
def hsMeter_L65_2 : LS := ⟨2, [(1000200, 1000200)], ⟨19, [(8, .v (.one (.i .i64))), (0, .v (.one (.st 19 false))), (1, .v (.one (.clp 66 [(1000200, 0)]))), (7, .v (.one (.i .i64)))], [(1000200, .cells [.i .u32])]⟩, [⟨none, [(1000200, 1000200)], ⟨19, [(4, .v (.one (.i .i64)))], [(1000200, .cells [.i .u32])]⟩⟩, ⟨some 0, [(1000200, 1000200)], ⟨19, [], [(1000200, .cells [.i .u32])]⟩⟩], []⟩
def hsMeter_step65_2 : (Int × ((List TMeter) × (Int × (Int × Unit)))) -> Tr ((Int × ((List TMeter) × (Int × (Int × Unit)))) ⊕ ((Int × (Int × Unit)) ⊕ (Int × Unit))) :=
 fun (a0, a1, a2, a3, _) =>
 .ite (decide (a0 < a2)) (
 .grd (decide ((0 : Int) <= a0)) (
 .opt (a1[Int.toNat a0]?) (fun r0 =>
 .ite (decide (r0.addr = a3)) (
 .ret (Sum.inr (Sum.inl (a0, (a3, ()))))) (
 .ret (Sum.inl (wW .i64 (a0 + (1 : Int)), (a1, (a2, (a3, ()))))))))) (
 .ret (Sum.inr (Sum.inr (a3, ()))))
def hsMeter_loop65_2 (x : (Int × ((List TMeter) × (Int × (Int × Unit))))) : Option ((Int × (Int × Unit)) ⊕ (Int × Unit)) := loopO 650002 (fun x => (hsMeter_step65_2 x).eval) 18446744073709551616 x
def hsMeter_ap : List VP1 := [.agg [.i .u32, .i .i64, .i .i64, .i .i64, .i .i64, .i .i64, .st 10 false, .b, .st 19 false, .st 16 false, .i .i64, .i .i64, .i .u64, .i .i64, .i .u64, .st 17 false], .one (.i .u32)]
def hsMeter_rp : SP := ⟨1, [(0, .v (.one (.i .i64)))], []⟩
abbrev ty11_ : Type := (Int × (Int × (Int × (Int × (Int × (Int × ((List TRule) × (Bool × ((List TMeter) × ((List TTalk) × (Int × (Int × (Int × (Int × (Int × ((List TMap) × (Int × Unit)))))))))))))))))
def hsMeter_tree : ty11_ -> Tr (Int × Unit) :=
 fun (a0, a1, a2, a3, a4, a5, a6, a7, a8, a9, a10, a11, a12, a13, a14, a15, a16, _) =>
 .opt ((hsMeter_loop65_2 ((0 : Int), (a8, ((↑(a8.length) : Int), (a16, ())))))) (fun r0 =>
 .sum (r0) (fun r1 =>
 .ret (r1.1, ())) (fun r1 =>
 .ret ((-1 : Int), ())))
noncomputable def gm46 : List (PF Go.Proofs.Tryd.prog) := [FS.pf sumFold, FS.pf sumAdd, FS.pf sumOf, FS.pf sumRight, FS.pf sumFix, FS.pf dgWord, FS.pf dgLong, FS.pf dgWordAt, FS.pf dgUnder, FS.pf dgPort, FS.pf dgWrite, FS.pf dgRead, FS.pf ipWordAt, FS.pf ipLongAt, FS.pf ipByt, FS.pf ipRefused, FS.pf ipWord, FS.pf ipLong, FS.pf ipWrite, FS.pf ipRead, FS.pf ipHop, FS.pf tcWordAt, FS.pf tcLongAt, FS.pf tcParse, FS.pf tcRead, FS.pf swEnds, FS.pf swWord, GS.pf swPut, GS.pf swChange, FS.pf swSwapped, FS.pf swFrom, FS.pf swTo, clTalk, GS.pf delTalk, FS.pf trTurned, FS.pf trPort, FS.pf trRoad, FS.pf trForm, FS.pf trPlace, FS.pf trCheck, FS.pf trOld, GS.pf dfTalk, GS.pf trOpen, GS.pf trPasses, FS.pf trHear, FS.pf trFind, FS.pf buCheck, FS.pf buLev, FS.pf buTake, clRule, FS.pf ruNet, FS.pf ruHas, FS.pf ruBounds, FS.pf ruRight, FS.pf ruCheck, FS.pf ruMeets, FS.pf ruDecide, tz64, FS.pf portsCheck, FS.pf portsLet, FS.pf portsEnd, FS.pf confCheck, clMap, GS.pf delMap, FS.pf natWithin, FS.pf natCheck, natPlace, GS.pf natExpire, FS.pf natOut, FS.pf natIn, clMeter, GS.pf delMeter]
theorem hsMeter_eq (x : ty11_) : fnTr Tryd.prog cod gm46 [(65, hsMeter_L65_2)] 30 43 hsMeter_ap hsMeter_rp x = hsMeter_tree x := by kernel_rfl
def hsMeter_fn (x : ty11_) : Option (Int × Unit) := (hsMeter_tree x).eval
def hsMeter : FS Tryd.prog := ⟨43, hsMeter_ap, hsMeter_rp, hsMeter_fn, fun x r h => fnTr_sound (cod := cod) (Γ := gm46) (Λs := [(65, hsMeter_L65_2)]) (n := 30) ((congrArg Tr.eval (hsMeter_eq x)).trans h)⟩
def hsLast_ap : List VP1 := [.agg [.i .u32, .i .i64, .i .i64, .i .i64, .i .i64, .i .i64, .st 10 false, .b, .st 19 false, .st 16 false, .i .i64, .i .i64, .i .u64, .i .i64, .i .u64, .st 17 false]]
def hsLast_rp : SP := ⟨1, [(0, .v (.one (.i .i64)))], []⟩
abbrev ty12_ : Type := (Int × (Int × (Int × (Int × (Int × (Int × ((List TRule) × (Bool × ((List TMeter) × ((List TTalk) × (Int × (Int × (Int × (Int × (Int × ((List TMap) × Unit))))))))))))))))
def hsLast_tree : ty12_ -> Tr (Int × Unit) :=
 fun (a0, a1, a2, a3, a4, a5, a6, a7, a8, a9, a10, a11, a12, a13, a14, a15, _) =>
 .ite (decide ((0 : Int) < (↑(a8.length) : Int))) (
 .grd (decide ((0 : Int) <= wW .i64 ((↑(a8.length) : Int) - (1 : Int)))) (
 .opt (a8[Int.toNat (wW .i64 ((↑(a8.length) : Int) - (1 : Int)))]?) (fun r0 =>
 .ite (decide ((0 : Int) < (↑(a9.length) : Int))) (
 .grd (decide ((0 : Int) <= wW .i64 ((↑(a9.length) : Int) - (1 : Int)))) (
 .opt (a9[Int.toNat (wW .i64 ((↑(a9.length) : Int) - (1 : Int)))]?) (fun r1 =>
 .ite (decide ((0 : Int) < (↑(a15.length) : Int))) (
 .grd (decide ((0 : Int) <= wW .i64 ((↑(a15.length) : Int) - (1 : Int)))) (
 .opt (a15[Int.toNat (wW .i64 ((↑(a15.length) : Int) - (1 : Int)))]?) (fun r2 =>
 .ret (if false = true then if r2.at' < if false = true then if r1.at' < r0.at' then r1.at' else r0.at' else if r1.at' > r0.at' then r1.at' else r0.at' then r2.at' else if false = true then if r1.at' < r0.at' then r1.at' else r0.at' else if r1.at' > r0.at' then r1.at' else r0.at' else if r2.at' > if false = true then if r1.at' < r0.at' then r1.at' else r0.at' else if r1.at' > r0.at' then r1.at' else r0.at' then r2.at' else if false = true then if r1.at' < r0.at' then r1.at' else r0.at' else if r1.at' > r0.at' then r1.at' else r0.at', ())))) (
 .ret (if false = true then if r1.at' < r0.at' then r1.at' else r0.at' else if r1.at' > r0.at' then r1.at' else r0.at', ()))))) (
 .ite (decide ((0 : Int) < (↑(a15.length) : Int))) (
 .grd (decide ((0 : Int) <= wW .i64 ((↑(a15.length) : Int) - (1 : Int)))) (
 .opt (a15[Int.toNat (wW .i64 ((↑(a15.length) : Int) - (1 : Int)))]?) (fun r1 =>
 .ret (if false = true then if r1.at' < r0.at' then r1.at' else r0.at' else if r1.at' > r0.at' then r1.at' else r0.at', ())))) (
 .ret (r0.at', ())))))) (
 .ite (decide ((0 : Int) < (↑(a9.length) : Int))) (
 .grd (decide ((0 : Int) <= wW .i64 ((↑(a9.length) : Int) - (1 : Int)))) (
 .opt (a9[Int.toNat (wW .i64 ((↑(a9.length) : Int) - (1 : Int)))]?) (fun r0 =>
 .ite (decide ((0 : Int) < (↑(a15.length) : Int))) (
 .grd (decide ((0 : Int) <= wW .i64 ((↑(a15.length) : Int) - (1 : Int)))) (
 .opt (a15[Int.toNat (wW .i64 ((↑(a15.length) : Int) - (1 : Int)))]?) (fun r1 =>
 .ret (if false = true then if r1.at' < if false = true then if r0.at' < (0 : Int) then r0.at' else (0 : Int) else if r0.at' > (0 : Int) then r0.at' else (0 : Int) then r1.at' else if false = true then if r0.at' < (0 : Int) then r0.at' else (0 : Int) else if r0.at' > (0 : Int) then r0.at' else (0 : Int) else if r1.at' > if false = true then if r0.at' < (0 : Int) then r0.at' else (0 : Int) else if r0.at' > (0 : Int) then r0.at' else (0 : Int) then r1.at' else if false = true then if r0.at' < (0 : Int) then r0.at' else (0 : Int) else if r0.at' > (0 : Int) then r0.at' else (0 : Int), ())))) (
 .ret (if false = true then if r0.at' < (0 : Int) then r0.at' else (0 : Int) else if r0.at' > (0 : Int) then r0.at' else (0 : Int), ()))))) (
 .ite (decide ((0 : Int) < (↑(a15.length) : Int))) (
 .grd (decide ((0 : Int) <= wW .i64 ((↑(a15.length) : Int) - (1 : Int)))) (
 .opt (a15[Int.toNat (wW .i64 ((↑(a15.length) : Int) - (1 : Int)))]?) (fun r0 =>
 .ret (if false = true then if r0.at' < (0 : Int) then r0.at' else (0 : Int) else if r0.at' > (0 : Int) then r0.at' else (0 : Int), ())))) (
 .ret ((0 : Int), ()))))
noncomputable def gm47 : List (PF Go.Proofs.Tryd.prog) := [FS.pf sumFold, FS.pf sumAdd, FS.pf sumOf, FS.pf sumRight, FS.pf sumFix, FS.pf dgWord, FS.pf dgLong, FS.pf dgWordAt, FS.pf dgUnder, FS.pf dgPort, FS.pf dgWrite, FS.pf dgRead, FS.pf ipWordAt, FS.pf ipLongAt, FS.pf ipByt, FS.pf ipRefused, FS.pf ipWord, FS.pf ipLong, FS.pf ipWrite, FS.pf ipRead, FS.pf ipHop, FS.pf tcWordAt, FS.pf tcLongAt, FS.pf tcParse, FS.pf tcRead, FS.pf swEnds, FS.pf swWord, GS.pf swPut, GS.pf swChange, FS.pf swSwapped, FS.pf swFrom, FS.pf swTo, clTalk, GS.pf delTalk, FS.pf trTurned, FS.pf trPort, FS.pf trRoad, FS.pf trForm, FS.pf trPlace, FS.pf trCheck, FS.pf trOld, GS.pf dfTalk, GS.pf trOpen, GS.pf trPasses, FS.pf trHear, FS.pf trFind, FS.pf buCheck, FS.pf buLev, FS.pf buTake, clRule, FS.pf ruNet, FS.pf ruHas, FS.pf ruBounds, FS.pf ruRight, FS.pf ruCheck, FS.pf ruMeets, FS.pf ruDecide, tz64, FS.pf portsCheck, FS.pf portsLet, FS.pf portsEnd, FS.pf confCheck, clMap, GS.pf delMap, FS.pf natWithin, FS.pf natCheck, natPlace, GS.pf natExpire, FS.pf natOut, FS.pf natIn, clMeter, GS.pf delMeter, FS.pf hsMeter]
theorem hsLast_eq (x : ty12_) : fnTr Tryd.prog cod gm47 [] 30 22 hsLast_ap hsLast_rp x = hsLast_tree x := by kernel_rfl
def hsLast_fn (x : ty12_) : Option (Int × Unit) := (hsLast_tree x).eval
def hsLast : FS Tryd.prog := ⟨22, hsLast_ap, hsLast_rp, hsLast_fn, fun x r h => fnTr_sound (cod := cod) (Γ := gm47) (Λs := []) (n := 30) ((congrArg Tr.eval (hsLast_eq x)).trans h)⟩
def hsCheck_L21_12 : LS := ⟨12, [(1, 1), (5, 5)], ⟨103, [(62, .v (.one (.i .i64))), (1, .v (.one (.ptr 1 0))), (7, .v (.one (.i .i64))), (5, .v (.one (.ptr 5 0))), (60, .v (.one (.st 19 false))), (61, .v (.one (.i .i64)))], [(1, .cells [.i .u32, .i .i64, .i .i64, .i .i64, .i .i64, .i .i64, .st 10 false, .b, .st 19 false, .st 16 false, .i .i64, .i .i64, .i .u64, .i .i64, .i .u64, .st 17 false]), (5, .cells [.i .u32, .i .i64, .i .i64, .i .i64, .i .i64, .i .i64, .st 10 false, .b])]⟩, [⟨none, [], ⟨103, [(2, .v (.one (.i .i64)))], []⟩⟩, ⟨some 2, [], ⟨103, [], []⟩⟩], []⟩
abbrev ty13_ : Type := (Int × (Int × ((List TMeter) × (Int × (Int × (Int × (Int × (Int × (Int × (Int × ((List TRule) × (Bool × ((List TMeter) × ((List TTalk) × (Int × (Int × (Int × (Int × (Int × ((List TMap) × (Int × (Int × (Int × (Int × (Int × (Int × ((List TRule) × (Bool × Unit))))))))))))))))))))))))))))
def hsCheck_step21_12 : ty13_ -> Tr (ty13_ ⊕ ((Int × Unit) ⊕ Unit)) :=
 fun (a0, a1, a2, a3, a4, a5, a6, a7, a8, a9, a10, a11, a12, a13, a14, a15, a16, a17, a18, a19, a20, a21, a22, a23, a24, a25, a26, a27, _) =>
 .ite (decide (a0 < a3)) (
 .grd (decide ((0 : Int) <= a0)) (
 .opt (a2[Int.toNat a0]?) (fun r0 =>
 .opt ((buCheck_fn (r0.rate, (r0.most, (r0.has, (r0.at', ())))))) (fun r1 =>
 .ite (!decide (r1.1 = (0 : Int))) (
 .ret (Sum.inr (Sum.inl ((4 : Int), ())))) (
 .ite (!decide (r0.rate = a24)) (
 .ret (Sum.inr (Sum.inl ((4 : Int), ())))) (
 .ite (!decide (r0.most = a25)) (
 .ret (Sum.inr (Sum.inl ((4 : Int), ())))) (
 .ite (decide (r0.at' < a1)) (
 .ret (Sum.inr (Sum.inl ((4 : Int), ())))) (
 .opt ((hsMeter_fn (a4, (a5, (a6, (a7, (a8, (a9, (a10, (a11, (a12, (a13, (a14, (a15, (a16, (a17, (a18, (a19, (r0.addr, ()))))))))))))))))))) (fun r2 =>
 .ite (!decide (r2.1 = a0)) (
 .ret (Sum.inr (Sum.inl ((4 : Int), ())))) (
 .ret (Sum.inl (wW .i64 (a0 + (1 : Int)), (r0.at', (a2, (a3, (a4, (a5, (a6, (a7, (a8, (a9, (a10, (a11, (a12, (a13, (a14, (a15, (a16, (a17, (a18, (a19, (a20, (a21, (a22, (a23, (a24, (a25, (a26, (a27, ()))))))))))))))))))))))))))))))))))))))) (
 .ret (Sum.inr (Sum.inr ())))
def hsCheck_loop21_12 (x : ty13_) : Option ((Int × Unit) ⊕ Unit) := loopO 210012 (fun x => (hsCheck_step21_12 x).eval) 18446744073709551616 x
def hsCheck_L21_2 : LS := ⟨2, [(1, 1)], ⟨103, [(21, .v (.one (.i .i64))), (20, .v (.agg [.i .i64, .i .i64, .i .i64])), (1, .v (.one (.ptr 1 0)))], [(1, .cells [.i .u32, .i .i64, .i .i64, .i .i64, .i .i64, .i .i64, .st 10 false, .b, .st 19 false, .st 16 false, .i .i64, .i .i64, .i .u64, .i .i64, .i .u64, .st 17 false])]⟩, [⟨none, [], ⟨103, [(2, .v (.one (.i .i64)))], []⟩⟩, ⟨some 0, [(1, 1)], ⟨103, [(1, .v (.one (.ptr 1 0)))], [(1, .cells [.i .u32, .i .i64, .i .i64, .i .i64, .i .i64, .i .i64, .st 10 false, .b, .st 19 false, .st 16 false, .i .i64, .i .i64, .i .u64, .i .i64, .i .u64, .st 17 false])]⟩⟩], []⟩
abbrev ty14_ : Type := (Int × (Int × (Int × (Int × (Int × (Int × (Int × (Int × (Int × (Int × ((List TRule) × (Bool × ((List TMeter) × ((List TTalk) × (Int × (Int × (Int × (Int × (Int × ((List TMap) × Unit))))))))))))))))))))
def hsCheck_step21_2 : ty14_ -> Tr (ty14_ ⊕ ((Int × Unit) ⊕ ty12_)) :=
 fun (a0, a1, a2, a3, a4, a5, a6, a7, a8, a9, a10, a11, a12, a13, a14, a15, a16, a17, a18, a19, _) =>
 .ite (decide (a0 < (3 : Int))) (
 .grd (decide ((0 : Int) <= a0)) (
 .opt ([a1, a2, a3][Int.toNat a0]?) (fun r0 =>
 .ite (!decide (r0 = (0 : Int))) (
 .ret (Sum.inr (Sum.inl (r0, ())))) (
 .ret (Sum.inl (wW .i64 (a0 + (1 : Int)), (a1, (a2, (a3, (a4, (a5, (a6, (a7, (a8, (a9, (a10, (a11, (a12, (a13, (a14, (a15, (a16, (a17, (a18, (a19, ()))))))))))))))))))))))))) (
 .ret (Sum.inr (Sum.inr (a4, (a5, (a6, (a7, (a8, (a9, (a10, (a11, (a12, (a13, (a14, (a15, (a16, (a17, (a18, (a19, ())))))))))))))))))))
def hsCheck_loop21_2 (x : ty14_) : Option ((Int × Unit) ⊕ ty12_) := loopO 210002 (fun x => (hsCheck_step21_2 x).eval) 18446744073709551616 x
def hsCheck_ap : List VP1 := [.agg [.i .u32, .i .i64, .i .i64, .i .i64, .i .i64, .i .i64, .st 10 false, .b, .st 19 false, .st 16 false, .i .i64, .i .i64, .i .u64, .i .i64, .i .u64, .st 17 false]]
def hsCheck_rp : SP := ⟨1, [(0, .v (.one (.i .i64)))], []⟩
def hsCheck_tree : ty12_ -> Tr (Int × Unit) :=
 fun (a0, a1, a2, a3, a4, a5, a6, a7, a8, a9, a10, a11, a12, a13, a14, a15, _) =>
 .opt ((confCheck_fn (a0, (a1, (a2, (a3, (a4, (a5, (a6, (a7, ())))))))))) (fun r0 =>
 .opt ((trCheck_fn (a9, ()))) (fun r1 =>
 .opt ((natCheck_fn (a10, (a11, (a12, (a13, (a14, (a15, ())))))))) (fun r2 =>
 .opt ((hsCheck_loop21_2 ((0 : Int), (r0.1, (r1.1, (r2.1, (a0, (a1, (a2, (a3, (a4, (a5, (a6, (a7, (a8, (a9, (a10, (a11, (a12, (a13, (a14, (a15, ())))))))))))))))))))))) (fun r3 =>
 .sum (r3) (fun r4 =>
 .ret (r4.1, ())) (fun r4 =>
 .ite (decide ((64 : Int) < (↑(List.length r4.2.2.2.2.2.2.2.2.1) : Int))) (
 .ret ((4 : Int), ())) (
 .ite (!decide (r4.2.2.2.2.2.2.2.2.2.2.1 = r4.2.2.2.1)) (
 .ret ((4 : Int), ())) (
 .ite (!decide (r4.2.2.2.2.2.2.2.2.2.2.2.1 = r4.2.1)) (
 .ret ((4 : Int), ())) (
 .ite (!decide (r4.2.2.2.2.2.2.2.2.2.2.2.2.2.1 = r4.2.2.1)) (
 .ret ((4 : Int), ())) (
 .opt ((hsCheck_loop21_12 ((0 : Int), ((0 : Int), (r4.2.2.2.2.2.2.2.2.1, ((↑(List.length r4.2.2.2.2.2.2.2.2.1) : Int), (r4.1, (r4.2.1, (r4.2.2.1, (r4.2.2.2.1, (r4.2.2.2.2.1, (r4.2.2.2.2.2.1, (r4.2.2.2.2.2.2.1, (r4.2.2.2.2.2.2.2.1, (r4.2.2.2.2.2.2.2.2.1, (r4.2.2.2.2.2.2.2.2.2.1, (r4.2.2.2.2.2.2.2.2.2.2.1, (r4.2.2.2.2.2.2.2.2.2.2.2.1, (r4.2.2.2.2.2.2.2.2.2.2.2.2.1, (r4.2.2.2.2.2.2.2.2.2.2.2.2.2.1, (r4.2.2.2.2.2.2.2.2.2.2.2.2.2.2.1, (r4.2.2.2.2.2.2.2.2.2.2.2.2.2.2.2.1, (r4.1, (r4.2.1, (r4.2.2.1, (r4.2.2.2.1, (r4.2.2.2.2.1, (r4.2.2.2.2.2.1, (r4.2.2.2.2.2.2.1, (r4.2.2.2.2.2.2.2.1, ())))))))))))))))))))))))))))))) (fun r5 =>
 .sum (r5) (fun r6 =>
 .ret (r6.1, ())) (fun r6 =>
 .ret ((0 : Int), ()))))))))))))
noncomputable def gm48 : List (PF Go.Proofs.Tryd.prog) := [FS.pf sumFold, FS.pf sumAdd, FS.pf sumOf, FS.pf sumRight, FS.pf sumFix, FS.pf dgWord, FS.pf dgLong, FS.pf dgWordAt, FS.pf dgUnder, FS.pf dgPort, FS.pf dgWrite, FS.pf dgRead, FS.pf ipWordAt, FS.pf ipLongAt, FS.pf ipByt, FS.pf ipRefused, FS.pf ipWord, FS.pf ipLong, FS.pf ipWrite, FS.pf ipRead, FS.pf ipHop, FS.pf tcWordAt, FS.pf tcLongAt, FS.pf tcParse, FS.pf tcRead, FS.pf swEnds, FS.pf swWord, GS.pf swPut, GS.pf swChange, FS.pf swSwapped, FS.pf swFrom, FS.pf swTo, clTalk, GS.pf delTalk, FS.pf trTurned, FS.pf trPort, FS.pf trRoad, FS.pf trForm, FS.pf trPlace, FS.pf trCheck, FS.pf trOld, GS.pf dfTalk, GS.pf trOpen, GS.pf trPasses, FS.pf trHear, FS.pf trFind, FS.pf buCheck, FS.pf buLev, FS.pf buTake, clRule, FS.pf ruNet, FS.pf ruHas, FS.pf ruBounds, FS.pf ruRight, FS.pf ruCheck, FS.pf ruMeets, FS.pf ruDecide, tz64, FS.pf portsCheck, FS.pf portsLet, FS.pf portsEnd, FS.pf confCheck, clMap, GS.pf delMap, FS.pf natWithin, FS.pf natCheck, natPlace, GS.pf natExpire, FS.pf natOut, FS.pf natIn, clMeter, GS.pf delMeter, FS.pf hsMeter, FS.pf hsLast]
theorem hsCheck_eq (x : ty12_) : fnTr Tryd.prog cod gm48 [(21, hsCheck_L21_12), (21, hsCheck_L21_2)] 30 21 hsCheck_ap hsCheck_rp x = hsCheck_tree x := by kernel_rfl
def hsCheck_fn (x : ty12_) : Option (Int × Unit) := (hsCheck_tree x).eval
def hsCheck : FS Tryd.prog := ⟨21, hsCheck_ap, hsCheck_rp, hsCheck_fn, fun x r h => fnTr_sound (cod := cod) (Γ := gm48) (Λs := [(21, hsCheck_L21_12), (21, hsCheck_L21_2)]) (n := 30) ((congrArg Tr.eval (hsCheck_eq x)).trans h)⟩
def hsNew_ap : List VP1 := [.agg [.i .u32, .i .i64, .i .i64, .i .i64, .i .i64, .i .i64, .st 10 false, .b]]
def hsNew_rp : SP := ⟨1, [(0, .tup [.agg [.i .u32, .i .i64, .i .i64, .i .i64, .i .i64, .i .i64, .st 10 true, .b, .st 19 true, .st 16 true, .i .i64, .i .i64, .i .u64, .i .i64, .i .u64, .st 17 true], .one (.i .i64)])], []⟩
def hsNew_tree : (Int × (Int × (Int × (Int × (Int × (Int × ((List TRule) × (Bool × Unit)))))))) -> Tr ty11_ :=
 fun (a0, a1, a2, a3, a4, a5, a6, a7, _) =>
 .opt ((confCheck_fn (a0, (a1, (a2, (a3, (a4, (a5, (a6, (a7, ())))))))))) (fun r0 =>
 .ite (!decide (r0.1 = (0 : Int))) (
 .ret ((0 : Int), ((0 : Int), ((0 : Int), ((0 : Int), ((0 : Int), ((0 : Int), ([], (false, ([], ([], ((0 : Int), ((0 : Int), ((0 : Int), ((0 : Int), ((0 : Int), ([], (r0.1, ())))))))))))))))))) (
 .grd (decide (((0 : Nat) + a6.length) * (80 : Nat) <= (140737488355328 : Nat) /\ (0 : Nat) + a6.length <= (9223372036854775807 : Nat))) (
 .ret (a0, (a1, (a2, (a3, (a4, (a5, (a6, (a7, ([], ([], (a3, (a1, ((0 : Int), (a2, ((0 : Int), ([], ((0 : Int), ()))))))))))))))))))))
noncomputable def gm49 : List (PF Go.Proofs.Tryd.prog) := [FS.pf sumFold, FS.pf sumAdd, FS.pf sumOf, FS.pf sumRight, FS.pf sumFix, FS.pf dgWord, FS.pf dgLong, FS.pf dgWordAt, FS.pf dgUnder, FS.pf dgPort, FS.pf dgWrite, FS.pf dgRead, FS.pf ipWordAt, FS.pf ipLongAt, FS.pf ipByt, FS.pf ipRefused, FS.pf ipWord, FS.pf ipLong, FS.pf ipWrite, FS.pf ipRead, FS.pf ipHop, FS.pf tcWordAt, FS.pf tcLongAt, FS.pf tcParse, FS.pf tcRead, FS.pf swEnds, FS.pf swWord, GS.pf swPut, GS.pf swChange, FS.pf swSwapped, FS.pf swFrom, FS.pf swTo, clTalk, GS.pf delTalk, FS.pf trTurned, FS.pf trPort, FS.pf trRoad, FS.pf trForm, FS.pf trPlace, FS.pf trCheck, FS.pf trOld, GS.pf dfTalk, GS.pf trOpen, GS.pf trPasses, FS.pf trHear, FS.pf trFind, FS.pf buCheck, FS.pf buLev, FS.pf buTake, clRule, FS.pf ruNet, FS.pf ruHas, FS.pf ruBounds, FS.pf ruRight, FS.pf ruCheck, FS.pf ruMeets, FS.pf ruDecide, tz64, FS.pf portsCheck, FS.pf portsLet, FS.pf portsEnd, FS.pf confCheck, clMap, GS.pf delMap, FS.pf natWithin, FS.pf natCheck, natPlace, GS.pf natExpire, FS.pf natOut, FS.pf natIn, clMeter, GS.pf delMeter, FS.pf hsMeter, FS.pf hsLast, FS.pf hsCheck]
theorem hsNew_eq (x : (Int × (Int × (Int × (Int × (Int × (Int × ((List TRule) × (Bool × Unit))))))))) : fnTr Tryd.prog cod gm49 [] 30 11 hsNew_ap hsNew_rp x = hsNew_tree x := by kernel_rfl
def hsNew_fn (x : (Int × (Int × (Int × (Int × (Int × (Int × ((List TRule) × (Bool × Unit))))))))) : Option ty11_ := (hsNew_tree x).eval
def hsNew : FS Tryd.prog := ⟨11, hsNew_ap, hsNew_rp, hsNew_fn, fun x r h => fnTr_sound (cod := cod) (Γ := gm49) (Λs := []) (n := 30) ((congrArg Tr.eval (hsNew_eq x)).trans h)⟩
def wMeasured_ap : SP := ⟨115, [(0, .v (.one (.ptr 1000000 0)))], [(1000000, .cells [.i .u32, .i .i64, .i .i64, .i .i64, .i .i64, .i .i64, .st 10 false, .b, .own 1000100, .st 16 false, .i .i64, .i .i64, .i .u64, .i .i64, .i .u64, .st 17 false, .i .u32, .i .u32, .i .i64, .i .i64, .i .i64, .s, .i .i64]), (1000100, .row 104 19 true true)]⟩
def wMeasured_rp : SP := ⟨1, [(0, .v (.one (.b)))], [(1000000, .cells [.i .u32, .i .i64, .i .i64, .i .i64, .i .i64, .i .i64, .st 10 false, .b, .own 1000100, .st 16 false, .i .i64, .i .i64, .i .u64, .i .i64, .i .u64, .st 17 false, .i .u32, .i .u32, .i .i64, .i .i64, .i .i64, .s, .i .i64]), (1000100, .row 104 19 true true)]⟩
abbrev ty15_ : Type := (Int × (Int × (Int × (Int × (Int × (Int × ((List TRule) × (Bool × ((List TTalk) × (Int × (Int × (Int × (Int × (Int × ((List TMap) × (Int × (Int × (Int × (Int × (Int × ((List UInt8) × (Int × ((List TMeter) × Unit)))))))))))))))))))))))
abbrev ty16_ : Type := (Bool × (Int × (Int × (Int × (Int × (Int × (Int × ((List TRule) × (Bool × ((List TTalk) × (Int × (Int × (Int × (Int × (Int × ((List TMap) × (Int × (Int × (Int × (Int × (Int × ((List UInt8) × (Int × ((List TMeter) × Unit))))))))))))))))))))))))
def wMeasured_tree : ty15_ -> Tr ty16_ :=
 fun (a0, a1, a2, a3, a4, a5, a6, a7, a8, a9, a10, a11, a12, a13, a14, a15, a16, a17, a18, a19, a20, a21, a22, _) =>
 .opt ((hsMeter_fn (a0, (a1, (a2, (a3, (a4, (a5, (a6, (a7, (a22, (a8, (a9, (a10, (a11, (a12, (a13, (a14, (a15, ()))))))))))))))))))) (fun r0 =>
 .ite (decide ((0 : Int) <= r0.1)) (
 .grd (decide ((0 : Int) <= r0.1 /\ r0.1 < (↑(a22.length) : Int))) (
 .opt (a22[Int.toNat r0.1]?) (fun r1 =>
 .grd (decide (a22.length = a22.length)) (
 .opt ((delMeter_fn (r0.1, (wW .i64 (r0.1 + (1 : Int)), (a22, ()))))) (fun r2 =>
 .opt ((buTake_fn (r1.rate, (r1.most, (r1.has, (r1.at', (a21, ((↑(a20.length) : Int), ())))))))) (fun r3 =>
 .grd (decide ((List.length r2.1 + List.length [TMeter.mk a15 r3.1 r3.2.1 r3.2.2.1 r3.2.2.2.1]) * (40 : Nat) <= (140737488355328 : Nat) /\ List.length r2.1 + List.length [TMeter.mk a15 r3.1 r3.2.1 r3.2.2.1 r3.2.2.2.1] <= (9223372036854775807 : Nat))) (
 .grd (decide (List.length (r2.1 ++ [TMeter.mk a15 r3.1 r3.2.1 r3.2.2.1 r3.2.2.2.1]) = List.length (r2.1 ++ [TMeter.mk a15 r3.1 r3.2.1 r3.2.2.1 r3.2.2.2.1]))) (
 .ret (r3.2.2.2.2.1, (a0, (a1, (a2, (a3, (a4, (a5, (a6, (a7, (a8, (a9, (a10, (a11, (a12, (a13, (a14, (a15, (a16, (a17, (a18, (a19, (a20, (a21, (r2.1 ++ [TMeter.mk a15 r3.1 r3.2.1 r3.2.2.1 r3.2.2.2.1], ())))))))))))))))))))))))))))))))) (
 .ite (decide ((↑(a22.length) : Int) = (64 : Int))) (
 .grd (decide (a22.length = a22.length)) (
 .opt ((delMeter_fn ((0 : Int), ((1 : Int), (a22, ()))))) (fun r1 =>
 .opt ((buTake_fn (a4, (a5, (a5, (a21, (a21, ((↑(a20.length) : Int), ())))))))) (fun r2 =>
 .grd (decide ((List.length r1.1 + List.length [TMeter.mk a15 r2.1 r2.2.1 r2.2.2.1 r2.2.2.2.1]) * (40 : Nat) <= (140737488355328 : Nat) /\ List.length r1.1 + List.length [TMeter.mk a15 r2.1 r2.2.1 r2.2.2.1 r2.2.2.2.1] <= (9223372036854775807 : Nat))) (
 .grd (decide (List.length (r1.1 ++ [TMeter.mk a15 r2.1 r2.2.1 r2.2.2.1 r2.2.2.2.1]) = List.length (r1.1 ++ [TMeter.mk a15 r2.1 r2.2.1 r2.2.2.1 r2.2.2.2.1]))) (
 .ret (r2.2.2.2.2.1, (a0, (a1, (a2, (a3, (a4, (a5, (a6, (a7, (a8, (a9, (a10, (a11, (a12, (a13, (a14, (a15, (a16, (a17, (a18, (a19, (a20, (a21, (r1.1 ++ [TMeter.mk a15 r2.1 r2.2.1 r2.2.2.1 r2.2.2.2.1], ())))))))))))))))))))))))))))))) (
 .opt ((buTake_fn (a4, (a5, (a5, (a21, (a21, ((↑(a20.length) : Int), ())))))))) (fun r1 =>
 .grd (decide ((a22.length + List.length [TMeter.mk a15 r1.1 r1.2.1 r1.2.2.1 r1.2.2.2.1]) * (40 : Nat) <= (140737488355328 : Nat) /\ a22.length + List.length [TMeter.mk a15 r1.1 r1.2.1 r1.2.2.1 r1.2.2.2.1] <= (9223372036854775807 : Nat))) (
 .grd (decide (List.length (a22 ++ [TMeter.mk a15 r1.1 r1.2.1 r1.2.2.1 r1.2.2.2.1]) = List.length (a22 ++ [TMeter.mk a15 r1.1 r1.2.1 r1.2.2.1 r1.2.2.2.1]))) (
 .ret (r1.2.2.2.2.1, (a0, (a1, (a2, (a3, (a4, (a5, (a6, (a7, (a8, (a9, (a10, (a11, (a12, (a13, (a14, (a15, (a16, (a17, (a18, (a19, (a20, (a21, (a22 ++ [TMeter.mk a15 r1.1 r1.2.1 r1.2.2.1 r1.2.2.2.1], ()))))))))))))))))))))))))))))))
noncomputable def gm50 : List (PF Go.Proofs.Tryd.prog) := [FS.pf sumFold, FS.pf sumAdd, FS.pf sumOf, FS.pf sumRight, FS.pf sumFix, FS.pf dgWord, FS.pf dgLong, FS.pf dgWordAt, FS.pf dgUnder, FS.pf dgPort, FS.pf dgWrite, FS.pf dgRead, FS.pf ipWordAt, FS.pf ipLongAt, FS.pf ipByt, FS.pf ipRefused, FS.pf ipWord, FS.pf ipLong, FS.pf ipWrite, FS.pf ipRead, FS.pf ipHop, FS.pf tcWordAt, FS.pf tcLongAt, FS.pf tcParse, FS.pf tcRead, FS.pf swEnds, FS.pf swWord, GS.pf swPut, GS.pf swChange, FS.pf swSwapped, FS.pf swFrom, FS.pf swTo, clTalk, GS.pf delTalk, FS.pf trTurned, FS.pf trPort, FS.pf trRoad, FS.pf trForm, FS.pf trPlace, FS.pf trCheck, FS.pf trOld, GS.pf dfTalk, GS.pf trOpen, GS.pf trPasses, FS.pf trHear, FS.pf trFind, FS.pf buCheck, FS.pf buLev, FS.pf buTake, clRule, FS.pf ruNet, FS.pf ruHas, FS.pf ruBounds, FS.pf ruRight, FS.pf ruCheck, FS.pf ruMeets, FS.pf ruDecide, tz64, FS.pf portsCheck, FS.pf portsLet, FS.pf portsEnd, FS.pf confCheck, clMap, GS.pf delMap, FS.pf natWithin, FS.pf natCheck, natPlace, GS.pf natExpire, FS.pf natOut, FS.pf natIn, clMeter, GS.pf delMeter, FS.pf hsMeter, FS.pf hsLast, FS.pf hsCheck, FS.pf hsNew]
theorem wMeasured_eq (x : ty15_) : gsTr Tryd.prog cod gm50 [] 30 45 wMeasured_ap wMeasured_rp x = wMeasured_tree x := by kernel_rfl
def wMeasured_fn (x : ty15_) : Option ty16_ := (wMeasured_tree x).eval
def wMeasured : GS Tryd.prog := ⟨45, [1], wMeasured_ap, wMeasured_rp, wMeasured_fn, fun x r h ys m g he hg => gs_sound (cod := cod) (Γ := gm50) (Λs := []) (n := 30) ((congrArg Tr.eval (wMeasured_eq x)).trans h) he hg⟩
def wKnown_ap : SP := ⟨24, [(0, .v (.one (.ptr 1000000 0))), (1, .v (.agg [.i .u32, .i .u32, .i .i64, .i .i64]))], [(1000000, .cells [.i .u32, .i .i64, .i .i64, .i .i64, .i .i64, .i .i64, .st 10 false, .b, .own 1000100, .st 16 false, .i .i64, .i .i64, .i .u64, .i .i64, .i .u64, .st 17 false, .i .u32, .i .u32, .i .i64, .i .i64, .i .i64, .s, .i .i64]), (1000100, .row 104 19 true true)]⟩
def wKnown_rp : SP := ⟨1, [(0, .v (.one (.b)))], [(1000000, .cells [.i .u32, .i .i64, .i .i64, .i .i64, .i .i64, .i .i64, .st 10 false, .b, .own 1000100, .st 16 false, .i .i64, .i .i64, .i .u64, .i .i64, .i .u64, .st 17 false, .i .u32, .i .u32, .i .i64, .i .i64, .i .i64, .s, .i .i64]), (1000100, .row 104 19 true true)]⟩
abbrev ty17_ : Type := (Int × (Int × (Int × (Int × (Int × (Int × (Int × (Int × (Int × (Int × ((List TRule) × (Bool × ((List TTalk) × (Int × (Int × (Int × (Int × (Int × ((List TMap) × (Int × (Int × (Int × (Int × (Int × ((List UInt8) × (Int × ((List TMeter) × Unit)))))))))))))))))))))))))))
def wKnown_tree : ty17_ -> Tr ty16_ :=
 fun (a0, a1, a2, a3, a4, a5, a6, a7, a8, a9, a10, a11, a12, a13, a14, a15, a16, a17, a18, a19, a20, a21, a22, a23, a24, a25, a26, _) =>
 .opt ((trFind_fn (a12, (a0, (a1, (a2, (a3, (a25, ())))))))) (fun r0 =>
 .grd (decide (a26.length = a26.length)) (
 .ret (r0.2.2.2.2.2.2.2.1, (a4, (a5, (a6, (a7, (a8, (a9, (a10, (a11, (a12, (a13, (a14, (a15, (a16, (a17, (a18, (a19, (a20, (a21, (a22, (a23, (a24, (a25, (a26, ()))))))))))))))))))))))))))
noncomputable def gm51 : List (PF Go.Proofs.Tryd.prog) := [FS.pf sumFold, FS.pf sumAdd, FS.pf sumOf, FS.pf sumRight, FS.pf sumFix, FS.pf dgWord, FS.pf dgLong, FS.pf dgWordAt, FS.pf dgUnder, FS.pf dgPort, FS.pf dgWrite, FS.pf dgRead, FS.pf ipWordAt, FS.pf ipLongAt, FS.pf ipByt, FS.pf ipRefused, FS.pf ipWord, FS.pf ipLong, FS.pf ipWrite, FS.pf ipRead, FS.pf ipHop, FS.pf tcWordAt, FS.pf tcLongAt, FS.pf tcParse, FS.pf tcRead, FS.pf swEnds, FS.pf swWord, GS.pf swPut, GS.pf swChange, FS.pf swSwapped, FS.pf swFrom, FS.pf swTo, clTalk, GS.pf delTalk, FS.pf trTurned, FS.pf trPort, FS.pf trRoad, FS.pf trForm, FS.pf trPlace, FS.pf trCheck, FS.pf trOld, GS.pf dfTalk, GS.pf trOpen, GS.pf trPasses, FS.pf trHear, FS.pf trFind, FS.pf buCheck, FS.pf buLev, FS.pf buTake, clRule, FS.pf ruNet, FS.pf ruHas, FS.pf ruBounds, FS.pf ruRight, FS.pf ruCheck, FS.pf ruMeets, FS.pf ruDecide, tz64, FS.pf portsCheck, FS.pf portsLet, FS.pf portsEnd, FS.pf confCheck, clMap, GS.pf delMap, FS.pf natWithin, FS.pf natCheck, natPlace, GS.pf natExpire, FS.pf natOut, FS.pf natIn, clMeter, GS.pf delMeter, FS.pf hsMeter, FS.pf hsLast, FS.pf hsCheck, FS.pf hsNew, GS.pf wMeasured]
theorem wKnown_eq (x : ty17_) : gsTr Tryd.prog cod gm51 [] 30 70 wKnown_ap wKnown_rp x = wKnown_tree x := by kernel_rfl
def wKnown_fn (x : ty17_) : Option ty16_ := (wKnown_tree x).eval
def wKnown : GS Tryd.prog := ⟨70, [1, 0], wKnown_ap, wKnown_rp, wKnown_fn, fun x r h ys m g he hg => gs_sound (cod := cod) (Γ := gm51) (Λs := []) (n := 30) ((congrArg Tr.eval (wKnown_eq x)).trans h) he hg⟩
def wTalked_ap : SP := ⟨59, [(0, .v (.one (.ptr 1000000 0))), (1, .v (.agg [.i .u32, .i .u32, .i .i64, .i .i64]))], [(1000000, .cells [.i .u32, .i .i64, .i .i64, .i .i64, .i .i64, .i .i64, .st 10 false, .b, .own 1000100, .st 16 false, .i .i64, .i .i64, .i .u64, .i .i64, .i .u64, .st 17 false, .i .u32, .i .u32, .i .i64, .i .i64, .i .i64, .s, .i .i64]), (1000100, .row 104 19 true true)]⟩
def wTalked_rp : SP := ⟨1, [(0, .v (.one (.b)))], [(1000000, .cells [.i .u32, .i .i64, .i .i64, .i .i64, .i .i64, .i .i64, .st 10 false, .b, .own 1000100, .st 16 false, .i .i64, .i .i64, .i .u64, .i .i64, .i .u64, .st 17 false, .i .u32, .i .u32, .i .i64, .i .i64, .i .i64, .s, .i .i64]), (1000100, .row 104 19 true true)]⟩
def wTalked_tree : ty17_ -> Tr ty16_ :=
 fun (a0, a1, a2, a3, a4, a5, a6, a7, a8, a9, a10, a11, a12, a13, a14, a15, a16, a17, a18, a19, a20, a21, a22, a23, a24, a25, a26, _) =>
 .opt ((ipRead_fn (a24, ()))) (fun r0 =>
 .opt ((tcRead_fn (r0.2.2.2.2.2.2.2.2.2.2.1, (r0.2.2.2.2.2.2.2.1, (r0.2.2.2.2.2.2.2.2.1, ()))))) (fun r1 =>
 .opt ((trHear_fn (a12, (a0, (a1, (a2, (a3, (r1.2.2.2.2.1, (a25, ()))))))))) (fun r2 =>
 .ite (decide (r2.2.2.1 = (0 : Int))) (
 .ite (decide (r2.2.2.1 = (0 : Int))) (
 .grd (decide (a26.length = a26.length)) (
 .ret (r2.2.1, (a4, (a5, (a6, (a7, (a8, (a9, (a10, (a11, (r2.1, (a13, (a14, (a15, (a16, (a17, (a18, (a19, (a20, (a21, (a22, (a23, (a24, (a25, (a26, ())))))))))))))))))))))))))) (
 .grd (decide (a26.length = a26.length)) (
 .ret (false, (a4, (a5, (a6, (a7, (a8, (a9, (a10, (a11, (r2.1, (a13, (a14, (a15, (a16, (a17, (a18, (a19, (a20, (a21, (a22, (a23, (a24, (a25, (a26, ()))))))))))))))))))))))))))) (
 .ite (decide (r2.2.2.1 = (0 : Int))) (
 .grd (decide (a26.length = a26.length)) (
 .ret (r2.2.1, (a4, (a5, (a6, (a7, (a8, (a9, (a10, (a11, (a12, (a13, (a14, (a15, (a16, (a17, (a18, (a19, (a20, (a21, (a22, (a23, (a24, (a25, (a26, ())))))))))))))))))))))))))) (
 .grd (decide (a26.length = a26.length)) (
 .ret (false, (a4, (a5, (a6, (a7, (a8, (a9, (a10, (a11, (a12, (a13, (a14, (a15, (a16, (a17, (a18, (a19, (a20, (a21, (a22, (a23, (a24, (a25, (a26, ()))))))))))))))))))))))))))))))
noncomputable def gm52 : List (PF Go.Proofs.Tryd.prog) := [FS.pf sumFold, FS.pf sumAdd, FS.pf sumOf, FS.pf sumRight, FS.pf sumFix, FS.pf dgWord, FS.pf dgLong, FS.pf dgWordAt, FS.pf dgUnder, FS.pf dgPort, FS.pf dgWrite, FS.pf dgRead, FS.pf ipWordAt, FS.pf ipLongAt, FS.pf ipByt, FS.pf ipRefused, FS.pf ipWord, FS.pf ipLong, FS.pf ipWrite, FS.pf ipRead, FS.pf ipHop, FS.pf tcWordAt, FS.pf tcLongAt, FS.pf tcParse, FS.pf tcRead, FS.pf swEnds, FS.pf swWord, GS.pf swPut, GS.pf swChange, FS.pf swSwapped, FS.pf swFrom, FS.pf swTo, clTalk, GS.pf delTalk, FS.pf trTurned, FS.pf trPort, FS.pf trRoad, FS.pf trForm, FS.pf trPlace, FS.pf trCheck, FS.pf trOld, GS.pf dfTalk, GS.pf trOpen, GS.pf trPasses, FS.pf trHear, FS.pf trFind, FS.pf buCheck, FS.pf buLev, FS.pf buTake, clRule, FS.pf ruNet, FS.pf ruHas, FS.pf ruBounds, FS.pf ruRight, FS.pf ruCheck, FS.pf ruMeets, FS.pf ruDecide, tz64, FS.pf portsCheck, FS.pf portsLet, FS.pf portsEnd, FS.pf confCheck, clMap, GS.pf delMap, FS.pf natWithin, FS.pf natCheck, natPlace, GS.pf natExpire, FS.pf natOut, FS.pf natIn, clMeter, GS.pf delMeter, FS.pf hsMeter, FS.pf hsLast, FS.pf hsCheck, FS.pf hsNew, GS.pf wMeasured, GS.pf wKnown]
theorem wTalked_eq (x : ty17_) : gsTr Tryd.prog cod gm52 [] 30 72 wTalked_ap wTalked_rp x = wTalked_tree x := by kernel_rfl
def wTalked_fn (x : ty17_) : Option ty16_ := (wTalked_tree x).eval
def wTalked : GS Tryd.prog := ⟨72, [1, 0], wTalked_ap, wTalked_rp, wTalked_fn, fun x r h ys m g he hg => gs_sound (cod := cod) (Γ := gm52) (Λs := []) (n := 30) ((congrArg Tr.eval (wTalked_eq x)).trans h) he hg⟩
def wLeaves_ap : SP := ⟨108, [(0, .v (.one (.ptr 1000000 0)))], [(1000000, .cells [.i .u32, .i .i64, .i .i64, .i .i64, .i .i64, .i .i64, .st 10 false, .b, .own 1000100, .st 16 false, .i .i64, .i .i64, .i .u64, .i .i64, .i .u64, .st 17 false, .i .u32, .i .u32, .i .i64, .i .i64, .i .i64, .s, .i .i64]), (1000100, .row 104 19 true true)]⟩
def wLeaves_rp : SP := ⟨1, [(0, .tup [.one (.s), .one (.i .i64)])], [(1000000, .cells [.i .u32, .i .i64, .i .i64, .i .i64, .i .i64, .i .i64, .st 10 false, .b, .own 1000100, .st 16 false, .i .i64, .i .i64, .i .u64, .i .i64, .i .u64, .st 17 false, .i .u32, .i .u32, .i .i64, .i .i64, .i .i64, .s, .i .i64]), (1000100, .row 104 19 true true)]⟩
abbrev ty18_ : Type := ((List UInt8) × (Int × (Int × (Int × (Int × (Int × (Int × (Int × ((List TRule) × (Bool × ((List TTalk) × (Int × (Int × (Int × (Int × (Int × ((List TMap) × (Int × (Int × (Int × (Int × (Int × ((List UInt8) × (Int × ((List TMeter) × Unit)))))))))))))))))))))))))
def wLeaves_tree : ty15_ -> Tr ty18_ :=
 fun (a0, a1, a2, a3, a4, a5, a6, a7, a8, a9, a10, a11, a12, a13, a14, a15, a16, a17, a18, a19, a20, a21, a22, _) =>
 .ite (!decide (a17 = (6 : Int))) (
 .opt ((ruDecide_fn (a6, (a15, (a16, (a17, (a18, (a19, (a7, ()))))))))) (fun r0 =>
 .ite (!r0.1) (
 .grd (decide (a22.length = a22.length)) (
 .ret ([], ((4 : Int), (a0, (a1, (a2, (a3, (a4, (a5, (a6, (a7, (a8, (a9, (a10, (a11, (a12, (a13, (a14, (a15, (a16, (a17, (a18, (a19, (a20, (a21, (a22, ()))))))))))))))))))))))))))) (
 .ite (decide (a17 = (6 : Int))) (
 .grd (decide (a22.length = a22.length)) (
 .opt ((wTalked_fn (a15, (a16, (a18, (a19, (a0, (a1, (a2, (a3, (a4, (a5, (a6, (a7, (a8, (a9, (a10, (a11, (a12, (a13, (a14, (a15, (a16, (a17, (a18, (a19, (a20, (a21, (a22, ()))))))))))))))))))))))))))))) (fun r1 =>
 .ite (!r1.1) (
 .grd (decide (List.length r1.2.2.2.2.2.2.2.2.2.2.2.2.2.2.2.2.2.2.2.2.2.2.2.fst = List.length r1.2.2.2.2.2.2.2.2.2.2.2.2.2.2.2.2.2.2.2.2.2.2.2.1)) (
 .ret ([], ((4 : Int), (r1.2.1, (r1.2.2.1, (r1.2.2.2.1, (r1.2.2.2.2.1, (r1.2.2.2.2.2.1, (r1.2.2.2.2.2.2.1, (r1.2.2.2.2.2.2.2.1, (r1.2.2.2.2.2.2.2.2.1, (r1.2.2.2.2.2.2.2.2.2.1, (r1.2.2.2.2.2.2.2.2.2.2.1, (r1.2.2.2.2.2.2.2.2.2.2.2.1, (r1.2.2.2.2.2.2.2.2.2.2.2.2.1, (r1.2.2.2.2.2.2.2.2.2.2.2.2.2.1, (r1.2.2.2.2.2.2.2.2.2.2.2.2.2.2.1, (r1.2.2.2.2.2.2.2.2.2.2.2.2.2.2.2.1, (r1.2.2.2.2.2.2.2.2.2.2.2.2.2.2.2.2.1, (r1.2.2.2.2.2.2.2.2.2.2.2.2.2.2.2.2.2.1, (r1.2.2.2.2.2.2.2.2.2.2.2.2.2.2.2.2.2.2.1, (r1.2.2.2.2.2.2.2.2.2.2.2.2.2.2.2.2.2.2.2.1, (r1.2.2.2.2.2.2.2.2.2.2.2.2.2.2.2.2.2.2.2.2.1, (r1.2.2.2.2.2.2.2.2.2.2.2.2.2.2.2.2.2.2.2.2.2.1, (r1.2.2.2.2.2.2.2.2.2.2.2.2.2.2.2.2.2.2.2.2.2.2.1, (r1.2.2.2.2.2.2.2.2.2.2.2.2.2.2.2.2.2.2.2.2.2.2.2.1, ()))))))))))))))))))))))))))) (
 .opt ((natOut_fn (r1.2.2.2.2.2.2.2.2.2.2.1, (r1.2.2.2.2.2.2.2.2.2.2.2.1, (r1.2.2.2.2.2.2.2.2.2.2.2.2.1, (r1.2.2.2.2.2.2.2.2.2.2.2.2.2.1, (r1.2.2.2.2.2.2.2.2.2.2.2.2.2.2.1, (r1.2.2.2.2.2.2.2.2.2.2.2.2.2.2.2.1, (a17, (a15, (a18, (r1.2.2.2.2.2.2.2.2.2.2.2.2.2.2.2.2.2.2.2.2.2.2.1, ())))))))))))) (fun r2 =>
 .ite (!decide (r2.2.2.2.2.2.2.2.1 = (0 : Int))) (
 .grd (decide (List.length r1.2.2.2.2.2.2.2.2.2.2.2.2.2.2.2.2.2.2.2.2.2.2.2.fst = List.length r1.2.2.2.2.2.2.2.2.2.2.2.2.2.2.2.2.2.2.2.2.2.2.2.1)) (
 .ret ([], ((5 : Int), (r1.2.1, (r1.2.2.1, (r1.2.2.2.1, (r1.2.2.2.2.1, (r1.2.2.2.2.2.1, (r1.2.2.2.2.2.2.1, (r1.2.2.2.2.2.2.2.1, (r1.2.2.2.2.2.2.2.2.1, (r1.2.2.2.2.2.2.2.2.2.1, (r1.2.2.2.2.2.2.2.2.2.2.1, (r1.2.2.2.2.2.2.2.2.2.2.2.1, (r1.2.2.2.2.2.2.2.2.2.2.2.2.1, (r1.2.2.2.2.2.2.2.2.2.2.2.2.2.1, (r1.2.2.2.2.2.2.2.2.2.2.2.2.2.2.1, (r1.2.2.2.2.2.2.2.2.2.2.2.2.2.2.2.1, (r1.2.2.2.2.2.2.2.2.2.2.2.2.2.2.2.2.1, (r1.2.2.2.2.2.2.2.2.2.2.2.2.2.2.2.2.2.1, (r1.2.2.2.2.2.2.2.2.2.2.2.2.2.2.2.2.2.2.1, (r1.2.2.2.2.2.2.2.2.2.2.2.2.2.2.2.2.2.2.2.1, (r1.2.2.2.2.2.2.2.2.2.2.2.2.2.2.2.2.2.2.2.2.1, (r1.2.2.2.2.2.2.2.2.2.2.2.2.2.2.2.2.2.2.2.2.2.1, (r1.2.2.2.2.2.2.2.2.2.2.2.2.2.2.2.2.2.2.2.2.2.2.1, (r1.2.2.2.2.2.2.2.2.2.2.2.2.2.2.2.2.2.2.2.2.2.2.2.1, ()))))))))))))))))))))))))))) (
 .opt ((swFrom_fn (r1.2.2.2.2.2.2.2.2.2.2.2.2.2.2.2.2.2.2.2.2.2.1, (r1.2.1, (r2.2.2.2.2.2.2.1, ()))))) (fun r3 =>
 .grd (decide (List.length r1.2.2.2.2.2.2.2.2.2.2.2.2.2.2.2.2.2.2.2.2.2.2.2.fst = List.length r1.2.2.2.2.2.2.2.2.2.2.2.2.2.2.2.2.2.2.2.2.2.2.2.1)) (
 .ret (r3.1, ((0 : Int), (r1.2.1, (r1.2.2.1, (r1.2.2.2.1, (r1.2.2.2.2.1, (r1.2.2.2.2.2.1, (r1.2.2.2.2.2.2.1, (r1.2.2.2.2.2.2.2.1, (r1.2.2.2.2.2.2.2.2.1, (r1.2.2.2.2.2.2.2.2.2.1, (r2.1, (r2.2.1, (r2.2.2.1, (r2.2.2.2.1, (r2.2.2.2.2.1, (r2.2.2.2.2.2.1, (r1.2.2.2.2.2.2.2.2.2.2.2.2.2.2.2.2.1, (r1.2.2.2.2.2.2.2.2.2.2.2.2.2.2.2.2.2.1, (r1.2.2.2.2.2.2.2.2.2.2.2.2.2.2.2.2.2.2.1, (r1.2.2.2.2.2.2.2.2.2.2.2.2.2.2.2.2.2.2.2.1, (r1.2.2.2.2.2.2.2.2.2.2.2.2.2.2.2.2.2.2.2.2.1, (r1.2.2.2.2.2.2.2.2.2.2.2.2.2.2.2.2.2.2.2.2.2.1, (r1.2.2.2.2.2.2.2.2.2.2.2.2.2.2.2.2.2.2.2.2.2.2.1, (r1.2.2.2.2.2.2.2.2.2.2.2.2.2.2.2.2.2.2.2.2.2.2.2.1, ()))))))))))))))))))))))))))))))))) (
 .opt ((natOut_fn (a9, (a10, (a11, (a12, (a13, (a14, (a17, (a15, (a18, (a21, ())))))))))))) (fun r1 =>
 .ite (!decide (r1.2.2.2.2.2.2.2.1 = (0 : Int))) (
 .grd (decide (a22.length = a22.length)) (
 .ret ([], ((5 : Int), (a0, (a1, (a2, (a3, (a4, (a5, (a6, (a7, (a8, (a9, (a10, (a11, (a12, (a13, (a14, (a15, (a16, (a17, (a18, (a19, (a20, (a21, (a22, ()))))))))))))))))))))))))))) (
 .opt ((swFrom_fn (a20, (a0, (r1.2.2.2.2.2.2.1, ()))))) (fun r2 =>
 .grd (decide (a22.length = a22.length)) (
 .ret (r2.1, ((0 : Int), (a0, (a1, (a2, (a3, (a4, (a5, (a6, (a7, (a8, (r1.1, (r1.2.1, (r1.2.2.1, (r1.2.2.2.1, (r1.2.2.2.2.1, (r1.2.2.2.2.2.1, (a15, (a16, (a17, (a18, (a19, (a20, (a21, (a22, ()))))))))))))))))))))))))))))))))) (
 .grd (decide (a22.length = a22.length)) (
 .opt ((wKnown_fn (a15, (a16, (a18, (a19, (a0, (a1, (a2, (a3, (a4, (a5, (a6, (a7, (a8, (a9, (a10, (a11, (a12, (a13, (a14, (a15, (a16, (a17, (a18, (a19, (a20, (a21, (a22, ()))))))))))))))))))))))))))))) (fun r0 =>
 .ite (!r0.1) (
 .opt ((ruDecide_fn (r0.2.2.2.2.2.2.2.1, (a15, (a16, (a17, (a18, (a19, (r0.2.2.2.2.2.2.2.2.1, ()))))))))) (fun r1 =>
 .ite (!r1.1) (
 .grd (decide (List.length r0.2.2.2.2.2.2.2.2.2.2.2.2.2.2.2.2.2.2.2.2.2.2.2.fst = List.length r0.2.2.2.2.2.2.2.2.2.2.2.2.2.2.2.2.2.2.2.2.2.2.2.1)) (
 .ret ([], ((4 : Int), (r0.2.1, (r0.2.2.1, (r0.2.2.2.1, (r0.2.2.2.2.1, (r0.2.2.2.2.2.1, (r0.2.2.2.2.2.2.1, (r0.2.2.2.2.2.2.2.1, (r0.2.2.2.2.2.2.2.2.1, (r0.2.2.2.2.2.2.2.2.2.1, (r0.2.2.2.2.2.2.2.2.2.2.1, (r0.2.2.2.2.2.2.2.2.2.2.2.1, (r0.2.2.2.2.2.2.2.2.2.2.2.2.1, (r0.2.2.2.2.2.2.2.2.2.2.2.2.2.1, (r0.2.2.2.2.2.2.2.2.2.2.2.2.2.2.1, (r0.2.2.2.2.2.2.2.2.2.2.2.2.2.2.2.1, (r0.2.2.2.2.2.2.2.2.2.2.2.2.2.2.2.2.1, (r0.2.2.2.2.2.2.2.2.2.2.2.2.2.2.2.2.2.1, (r0.2.2.2.2.2.2.2.2.2.2.2.2.2.2.2.2.2.2.1, (r0.2.2.2.2.2.2.2.2.2.2.2.2.2.2.2.2.2.2.2.1, (r0.2.2.2.2.2.2.2.2.2.2.2.2.2.2.2.2.2.2.2.2.1, (r0.2.2.2.2.2.2.2.2.2.2.2.2.2.2.2.2.2.2.2.2.2.1, (r0.2.2.2.2.2.2.2.2.2.2.2.2.2.2.2.2.2.2.2.2.2.2.1, (r0.2.2.2.2.2.2.2.2.2.2.2.2.2.2.2.2.2.2.2.2.2.2.2.1, ()))))))))))))))))))))))))))) (
 .ite (decide (a17 = (6 : Int))) (
 .grd (decide (List.length r0.2.2.2.2.2.2.2.2.2.2.2.2.2.2.2.2.2.2.2.2.2.2.2.fst = List.length r0.2.2.2.2.2.2.2.2.2.2.2.2.2.2.2.2.2.2.2.2.2.2.2.1)) (
 .opt ((wTalked_fn (a15, (a16, (a18, (a19, (r0.2.1, (r0.2.2.1, (r0.2.2.2.1, (r0.2.2.2.2.1, (r0.2.2.2.2.2.1, (r0.2.2.2.2.2.2.1, (r0.2.2.2.2.2.2.2.1, (r0.2.2.2.2.2.2.2.2.1, (r0.2.2.2.2.2.2.2.2.2.1, (r0.2.2.2.2.2.2.2.2.2.2.1, (r0.2.2.2.2.2.2.2.2.2.2.2.1, (r0.2.2.2.2.2.2.2.2.2.2.2.2.1, (r0.2.2.2.2.2.2.2.2.2.2.2.2.2.1, (r0.2.2.2.2.2.2.2.2.2.2.2.2.2.2.1, (r0.2.2.2.2.2.2.2.2.2.2.2.2.2.2.2.1, (r0.2.2.2.2.2.2.2.2.2.2.2.2.2.2.2.2.1, (r0.2.2.2.2.2.2.2.2.2.2.2.2.2.2.2.2.2.1, (r0.2.2.2.2.2.2.2.2.2.2.2.2.2.2.2.2.2.2.1, (r0.2.2.2.2.2.2.2.2.2.2.2.2.2.2.2.2.2.2.2.1, (r0.2.2.2.2.2.2.2.2.2.2.2.2.2.2.2.2.2.2.2.2.1, (r0.2.2.2.2.2.2.2.2.2.2.2.2.2.2.2.2.2.2.2.2.2.1, (r0.2.2.2.2.2.2.2.2.2.2.2.2.2.2.2.2.2.2.2.2.2.2.1, (r0.2.2.2.2.2.2.2.2.2.2.2.2.2.2.2.2.2.2.2.2.2.2.2.1, ()))))))))))))))))))))))))))))) (fun r2 =>
 .ite (!r2.1) (
 .grd (decide (List.length r2.2.2.2.2.2.2.2.2.2.2.2.2.2.2.2.2.2.2.2.2.2.2.2.fst = List.length r2.2.2.2.2.2.2.2.2.2.2.2.2.2.2.2.2.2.2.2.2.2.2.2.1)) (
 .ret ([], ((4 : Int), (r2.2.1, (r2.2.2.1, (r2.2.2.2.1, (r2.2.2.2.2.1, (r2.2.2.2.2.2.1, (r2.2.2.2.2.2.2.1, (r2.2.2.2.2.2.2.2.1, (r2.2.2.2.2.2.2.2.2.1, (r2.2.2.2.2.2.2.2.2.2.1, (r2.2.2.2.2.2.2.2.2.2.2.1, (r2.2.2.2.2.2.2.2.2.2.2.2.1, (r2.2.2.2.2.2.2.2.2.2.2.2.2.1, (r2.2.2.2.2.2.2.2.2.2.2.2.2.2.1, (r2.2.2.2.2.2.2.2.2.2.2.2.2.2.2.1, (r2.2.2.2.2.2.2.2.2.2.2.2.2.2.2.2.1, (r2.2.2.2.2.2.2.2.2.2.2.2.2.2.2.2.2.1, (r2.2.2.2.2.2.2.2.2.2.2.2.2.2.2.2.2.2.1, (r2.2.2.2.2.2.2.2.2.2.2.2.2.2.2.2.2.2.2.1, (r2.2.2.2.2.2.2.2.2.2.2.2.2.2.2.2.2.2.2.2.1, (r2.2.2.2.2.2.2.2.2.2.2.2.2.2.2.2.2.2.2.2.2.1, (r2.2.2.2.2.2.2.2.2.2.2.2.2.2.2.2.2.2.2.2.2.2.1, (r2.2.2.2.2.2.2.2.2.2.2.2.2.2.2.2.2.2.2.2.2.2.2.1, (r2.2.2.2.2.2.2.2.2.2.2.2.2.2.2.2.2.2.2.2.2.2.2.2.1, ()))))))))))))))))))))))))))) (
 .opt ((natOut_fn (r2.2.2.2.2.2.2.2.2.2.2.1, (r2.2.2.2.2.2.2.2.2.2.2.2.1, (r2.2.2.2.2.2.2.2.2.2.2.2.2.1, (r2.2.2.2.2.2.2.2.2.2.2.2.2.2.1, (r2.2.2.2.2.2.2.2.2.2.2.2.2.2.2.1, (r2.2.2.2.2.2.2.2.2.2.2.2.2.2.2.2.1, (a17, (a15, (a18, (r2.2.2.2.2.2.2.2.2.2.2.2.2.2.2.2.2.2.2.2.2.2.2.1, ())))))))))))) (fun r3 =>
 .ite (!decide (r3.2.2.2.2.2.2.2.1 = (0 : Int))) (
 .grd (decide (List.length r2.2.2.2.2.2.2.2.2.2.2.2.2.2.2.2.2.2.2.2.2.2.2.2.fst = List.length r2.2.2.2.2.2.2.2.2.2.2.2.2.2.2.2.2.2.2.2.2.2.2.2.1)) (
 .ret ([], ((5 : Int), (r2.2.1, (r2.2.2.1, (r2.2.2.2.1, (r2.2.2.2.2.1, (r2.2.2.2.2.2.1, (r2.2.2.2.2.2.2.1, (r2.2.2.2.2.2.2.2.1, (r2.2.2.2.2.2.2.2.2.1, (r2.2.2.2.2.2.2.2.2.2.1, (r2.2.2.2.2.2.2.2.2.2.2.1, (r2.2.2.2.2.2.2.2.2.2.2.2.1, (r2.2.2.2.2.2.2.2.2.2.2.2.2.1, (r2.2.2.2.2.2.2.2.2.2.2.2.2.2.1, (r2.2.2.2.2.2.2.2.2.2.2.2.2.2.2.1, (r2.2.2.2.2.2.2.2.2.2.2.2.2.2.2.2.1, (r2.2.2.2.2.2.2.2.2.2.2.2.2.2.2.2.2.1, (r2.2.2.2.2.2.2.2.2.2.2.2.2.2.2.2.2.2.1, (r2.2.2.2.2.2.2.2.2.2.2.2.2.2.2.2.2.2.2.1, (r2.2.2.2.2.2.2.2.2.2.2.2.2.2.2.2.2.2.2.2.1, (r2.2.2.2.2.2.2.2.2.2.2.2.2.2.2.2.2.2.2.2.2.1, (r2.2.2.2.2.2.2.2.2.2.2.2.2.2.2.2.2.2.2.2.2.2.1, (r2.2.2.2.2.2.2.2.2.2.2.2.2.2.2.2.2.2.2.2.2.2.2.1, (r2.2.2.2.2.2.2.2.2.2.2.2.2.2.2.2.2.2.2.2.2.2.2.2.1, ()))))))))))))))))))))))))))) (
 .opt ((swFrom_fn (r2.2.2.2.2.2.2.2.2.2.2.2.2.2.2.2.2.2.2.2.2.2.1, (r2.2.1, (r3.2.2.2.2.2.2.1, ()))))) (fun r4 =>
 .grd (decide (List.length r2.2.2.2.2.2.2.2.2.2.2.2.2.2.2.2.2.2.2.2.2.2.2.2.fst = List.length r2.2.2.2.2.2.2.2.2.2.2.2.2.2.2.2.2.2.2.2.2.2.2.2.1)) (
 .ret (r4.1, ((0 : Int), (r2.2.1, (r2.2.2.1, (r2.2.2.2.1, (r2.2.2.2.2.1, (r2.2.2.2.2.2.1, (r2.2.2.2.2.2.2.1, (r2.2.2.2.2.2.2.2.1, (r2.2.2.2.2.2.2.2.2.1, (r2.2.2.2.2.2.2.2.2.2.1, (r3.1, (r3.2.1, (r3.2.2.1, (r3.2.2.2.1, (r3.2.2.2.2.1, (r3.2.2.2.2.2.1, (r2.2.2.2.2.2.2.2.2.2.2.2.2.2.2.2.2.1, (r2.2.2.2.2.2.2.2.2.2.2.2.2.2.2.2.2.2.1, (r2.2.2.2.2.2.2.2.2.2.2.2.2.2.2.2.2.2.2.1, (r2.2.2.2.2.2.2.2.2.2.2.2.2.2.2.2.2.2.2.2.1, (r2.2.2.2.2.2.2.2.2.2.2.2.2.2.2.2.2.2.2.2.2.1, (r2.2.2.2.2.2.2.2.2.2.2.2.2.2.2.2.2.2.2.2.2.2.1, (r2.2.2.2.2.2.2.2.2.2.2.2.2.2.2.2.2.2.2.2.2.2.2.1, (r2.2.2.2.2.2.2.2.2.2.2.2.2.2.2.2.2.2.2.2.2.2.2.2.1, ()))))))))))))))))))))))))))))))))) (
 .opt ((natOut_fn (r0.2.2.2.2.2.2.2.2.2.2.1, (r0.2.2.2.2.2.2.2.2.2.2.2.1, (r0.2.2.2.2.2.2.2.2.2.2.2.2.1, (r0.2.2.2.2.2.2.2.2.2.2.2.2.2.1, (r0.2.2.2.2.2.2.2.2.2.2.2.2.2.2.1, (r0.2.2.2.2.2.2.2.2.2.2.2.2.2.2.2.1, (a17, (a15, (a18, (r0.2.2.2.2.2.2.2.2.2.2.2.2.2.2.2.2.2.2.2.2.2.2.1, ())))))))))))) (fun r2 =>
 .ite (!decide (r2.2.2.2.2.2.2.2.1 = (0 : Int))) (
 .grd (decide (List.length r0.2.2.2.2.2.2.2.2.2.2.2.2.2.2.2.2.2.2.2.2.2.2.2.fst = List.length r0.2.2.2.2.2.2.2.2.2.2.2.2.2.2.2.2.2.2.2.2.2.2.2.1)) (
 .ret ([], ((5 : Int), (r0.2.1, (r0.2.2.1, (r0.2.2.2.1, (r0.2.2.2.2.1, (r0.2.2.2.2.2.1, (r0.2.2.2.2.2.2.1, (r0.2.2.2.2.2.2.2.1, (r0.2.2.2.2.2.2.2.2.1, (r0.2.2.2.2.2.2.2.2.2.1, (r0.2.2.2.2.2.2.2.2.2.2.1, (r0.2.2.2.2.2.2.2.2.2.2.2.1, (r0.2.2.2.2.2.2.2.2.2.2.2.2.1, (r0.2.2.2.2.2.2.2.2.2.2.2.2.2.1, (r0.2.2.2.2.2.2.2.2.2.2.2.2.2.2.1, (r0.2.2.2.2.2.2.2.2.2.2.2.2.2.2.2.1, (r0.2.2.2.2.2.2.2.2.2.2.2.2.2.2.2.2.1, (r0.2.2.2.2.2.2.2.2.2.2.2.2.2.2.2.2.2.1, (r0.2.2.2.2.2.2.2.2.2.2.2.2.2.2.2.2.2.2.1, (r0.2.2.2.2.2.2.2.2.2.2.2.2.2.2.2.2.2.2.2.1, (r0.2.2.2.2.2.2.2.2.2.2.2.2.2.2.2.2.2.2.2.2.1, (r0.2.2.2.2.2.2.2.2.2.2.2.2.2.2.2.2.2.2.2.2.2.1, (r0.2.2.2.2.2.2.2.2.2.2.2.2.2.2.2.2.2.2.2.2.2.2.1, (r0.2.2.2.2.2.2.2.2.2.2.2.2.2.2.2.2.2.2.2.2.2.2.2.1, ()))))))))))))))))))))))))))) (
 .opt ((swFrom_fn (r0.2.2.2.2.2.2.2.2.2.2.2.2.2.2.2.2.2.2.2.2.2.1, (r0.2.1, (r2.2.2.2.2.2.2.1, ()))))) (fun r3 =>
 .grd (decide (List.length r0.2.2.2.2.2.2.2.2.2.2.2.2.2.2.2.2.2.2.2.2.2.2.2.fst = List.length r0.2.2.2.2.2.2.2.2.2.2.2.2.2.2.2.2.2.2.2.2.2.2.2.1)) (
 .ret (r3.1, ((0 : Int), (r0.2.1, (r0.2.2.1, (r0.2.2.2.1, (r0.2.2.2.2.1, (r0.2.2.2.2.2.1, (r0.2.2.2.2.2.2.1, (r0.2.2.2.2.2.2.2.1, (r0.2.2.2.2.2.2.2.2.1, (r0.2.2.2.2.2.2.2.2.2.1, (r2.1, (r2.2.1, (r2.2.2.1, (r2.2.2.2.1, (r2.2.2.2.2.1, (r2.2.2.2.2.2.1, (r0.2.2.2.2.2.2.2.2.2.2.2.2.2.2.2.2.1, (r0.2.2.2.2.2.2.2.2.2.2.2.2.2.2.2.2.2.1, (r0.2.2.2.2.2.2.2.2.2.2.2.2.2.2.2.2.2.2.1, (r0.2.2.2.2.2.2.2.2.2.2.2.2.2.2.2.2.2.2.2.1, (r0.2.2.2.2.2.2.2.2.2.2.2.2.2.2.2.2.2.2.2.2.1, (r0.2.2.2.2.2.2.2.2.2.2.2.2.2.2.2.2.2.2.2.2.2.1, (r0.2.2.2.2.2.2.2.2.2.2.2.2.2.2.2.2.2.2.2.2.2.2.1, (r0.2.2.2.2.2.2.2.2.2.2.2.2.2.2.2.2.2.2.2.2.2.2.2.1, ()))))))))))))))))))))))))))))))))) (
 .ite (decide (a17 = (6 : Int))) (
 .grd (decide (List.length r0.2.2.2.2.2.2.2.2.2.2.2.2.2.2.2.2.2.2.2.2.2.2.2.fst = List.length r0.2.2.2.2.2.2.2.2.2.2.2.2.2.2.2.2.2.2.2.2.2.2.2.1)) (
 .opt ((wTalked_fn (a15, (a16, (a18, (a19, (r0.2.1, (r0.2.2.1, (r0.2.2.2.1, (r0.2.2.2.2.1, (r0.2.2.2.2.2.1, (r0.2.2.2.2.2.2.1, (r0.2.2.2.2.2.2.2.1, (r0.2.2.2.2.2.2.2.2.1, (r0.2.2.2.2.2.2.2.2.2.1, (r0.2.2.2.2.2.2.2.2.2.2.1, (r0.2.2.2.2.2.2.2.2.2.2.2.1, (r0.2.2.2.2.2.2.2.2.2.2.2.2.1, (r0.2.2.2.2.2.2.2.2.2.2.2.2.2.1, (r0.2.2.2.2.2.2.2.2.2.2.2.2.2.2.1, (r0.2.2.2.2.2.2.2.2.2.2.2.2.2.2.2.1, (r0.2.2.2.2.2.2.2.2.2.2.2.2.2.2.2.2.1, (r0.2.2.2.2.2.2.2.2.2.2.2.2.2.2.2.2.2.1, (r0.2.2.2.2.2.2.2.2.2.2.2.2.2.2.2.2.2.2.1, (r0.2.2.2.2.2.2.2.2.2.2.2.2.2.2.2.2.2.2.2.1, (r0.2.2.2.2.2.2.2.2.2.2.2.2.2.2.2.2.2.2.2.2.1, (r0.2.2.2.2.2.2.2.2.2.2.2.2.2.2.2.2.2.2.2.2.2.1, (r0.2.2.2.2.2.2.2.2.2.2.2.2.2.2.2.2.2.2.2.2.2.2.1, (r0.2.2.2.2.2.2.2.2.2.2.2.2.2.2.2.2.2.2.2.2.2.2.2.1, ()))))))))))))))))))))))))))))) (fun r1 =>
 .ite (!r1.1) (
 .grd (decide (List.length r1.2.2.2.2.2.2.2.2.2.2.2.2.2.2.2.2.2.2.2.2.2.2.2.fst = List.length r1.2.2.2.2.2.2.2.2.2.2.2.2.2.2.2.2.2.2.2.2.2.2.2.1)) (
 .ret ([], ((4 : Int), (r1.2.1, (r1.2.2.1, (r1.2.2.2.1, (r1.2.2.2.2.1, (r1.2.2.2.2.2.1, (r1.2.2.2.2.2.2.1, (r1.2.2.2.2.2.2.2.1, (r1.2.2.2.2.2.2.2.2.1, (r1.2.2.2.2.2.2.2.2.2.1, (r1.2.2.2.2.2.2.2.2.2.2.1, (r1.2.2.2.2.2.2.2.2.2.2.2.1, (r1.2.2.2.2.2.2.2.2.2.2.2.2.1, (r1.2.2.2.2.2.2.2.2.2.2.2.2.2.1, (r1.2.2.2.2.2.2.2.2.2.2.2.2.2.2.1, (r1.2.2.2.2.2.2.2.2.2.2.2.2.2.2.2.1, (r1.2.2.2.2.2.2.2.2.2.2.2.2.2.2.2.2.1, (r1.2.2.2.2.2.2.2.2.2.2.2.2.2.2.2.2.2.1, (r1.2.2.2.2.2.2.2.2.2.2.2.2.2.2.2.2.2.2.1, (r1.2.2.2.2.2.2.2.2.2.2.2.2.2.2.2.2.2.2.2.1, (r1.2.2.2.2.2.2.2.2.2.2.2.2.2.2.2.2.2.2.2.2.1, (r1.2.2.2.2.2.2.2.2.2.2.2.2.2.2.2.2.2.2.2.2.2.1, (r1.2.2.2.2.2.2.2.2.2.2.2.2.2.2.2.2.2.2.2.2.2.2.1, (r1.2.2.2.2.2.2.2.2.2.2.2.2.2.2.2.2.2.2.2.2.2.2.2.1, ()))))))))))))))))))))))))))) (
 .opt ((natOut_fn (r1.2.2.2.2.2.2.2.2.2.2.1, (r1.2.2.2.2.2.2.2.2.2.2.2.1, (r1.2.2.2.2.2.2.2.2.2.2.2.2.1, (r1.2.2.2.2.2.2.2.2.2.2.2.2.2.1, (r1.2.2.2.2.2.2.2.2.2.2.2.2.2.2.1, (r1.2.2.2.2.2.2.2.2.2.2.2.2.2.2.2.1, (a17, (a15, (a18, (r1.2.2.2.2.2.2.2.2.2.2.2.2.2.2.2.2.2.2.2.2.2.2.1, ())))))))))))) (fun r2 =>
 .ite (!decide (r2.2.2.2.2.2.2.2.1 = (0 : Int))) (
 .grd (decide (List.length r1.2.2.2.2.2.2.2.2.2.2.2.2.2.2.2.2.2.2.2.2.2.2.2.fst = List.length r1.2.2.2.2.2.2.2.2.2.2.2.2.2.2.2.2.2.2.2.2.2.2.2.1)) (
 .ret ([], ((5 : Int), (r1.2.1, (r1.2.2.1, (r1.2.2.2.1, (r1.2.2.2.2.1, (r1.2.2.2.2.2.1, (r1.2.2.2.2.2.2.1, (r1.2.2.2.2.2.2.2.1, (r1.2.2.2.2.2.2.2.2.1, (r1.2.2.2.2.2.2.2.2.2.1, (r1.2.2.2.2.2.2.2.2.2.2.1, (r1.2.2.2.2.2.2.2.2.2.2.2.1, (r1.2.2.2.2.2.2.2.2.2.2.2.2.1, (r1.2.2.2.2.2.2.2.2.2.2.2.2.2.1, (r1.2.2.2.2.2.2.2.2.2.2.2.2.2.2.1, (r1.2.2.2.2.2.2.2.2.2.2.2.2.2.2.2.1, (r1.2.2.2.2.2.2.2.2.2.2.2.2.2.2.2.2.1, (r1.2.2.2.2.2.2.2.2.2.2.2.2.2.2.2.2.2.1, (r1.2.2.2.2.2.2.2.2.2.2.2.2.2.2.2.2.2.2.1, (r1.2.2.2.2.2.2.2.2.2.2.2.2.2.2.2.2.2.2.2.1, (r1.2.2.2.2.2.2.2.2.2.2.2.2.2.2.2.2.2.2.2.2.1, (r1.2.2.2.2.2.2.2.2.2.2.2.2.2.2.2.2.2.2.2.2.2.1, (r1.2.2.2.2.2.2.2.2.2.2.2.2.2.2.2.2.2.2.2.2.2.2.1, (r1.2.2.2.2.2.2.2.2.2.2.2.2.2.2.2.2.2.2.2.2.2.2.2.1, ()))))))))))))))))))))))))))) (
 .opt ((swFrom_fn (r1.2.2.2.2.2.2.2.2.2.2.2.2.2.2.2.2.2.2.2.2.2.1, (r1.2.1, (r2.2.2.2.2.2.2.1, ()))))) (fun r3 =>
 .grd (decide (List.length r1.2.2.2.2.2.2.2.2.2.2.2.2.2.2.2.2.2.2.2.2.2.2.2.fst = List.length r1.2.2.2.2.2.2.2.2.2.2.2.2.2.2.2.2.2.2.2.2.2.2.2.1)) (
 .ret (r3.1, ((0 : Int), (r1.2.1, (r1.2.2.1, (r1.2.2.2.1, (r1.2.2.2.2.1, (r1.2.2.2.2.2.1, (r1.2.2.2.2.2.2.1, (r1.2.2.2.2.2.2.2.1, (r1.2.2.2.2.2.2.2.2.1, (r1.2.2.2.2.2.2.2.2.2.1, (r2.1, (r2.2.1, (r2.2.2.1, (r2.2.2.2.1, (r2.2.2.2.2.1, (r2.2.2.2.2.2.1, (r1.2.2.2.2.2.2.2.2.2.2.2.2.2.2.2.2.1, (r1.2.2.2.2.2.2.2.2.2.2.2.2.2.2.2.2.2.1, (r1.2.2.2.2.2.2.2.2.2.2.2.2.2.2.2.2.2.2.1, (r1.2.2.2.2.2.2.2.2.2.2.2.2.2.2.2.2.2.2.2.1, (r1.2.2.2.2.2.2.2.2.2.2.2.2.2.2.2.2.2.2.2.2.1, (r1.2.2.2.2.2.2.2.2.2.2.2.2.2.2.2.2.2.2.2.2.2.1, (r1.2.2.2.2.2.2.2.2.2.2.2.2.2.2.2.2.2.2.2.2.2.2.1, (r1.2.2.2.2.2.2.2.2.2.2.2.2.2.2.2.2.2.2.2.2.2.2.2.1, ()))))))))))))))))))))))))))))))))) (
 .opt ((natOut_fn (r0.2.2.2.2.2.2.2.2.2.2.1, (r0.2.2.2.2.2.2.2.2.2.2.2.1, (r0.2.2.2.2.2.2.2.2.2.2.2.2.1, (r0.2.2.2.2.2.2.2.2.2.2.2.2.2.1, (r0.2.2.2.2.2.2.2.2.2.2.2.2.2.2.1, (r0.2.2.2.2.2.2.2.2.2.2.2.2.2.2.2.1, (a17, (a15, (a18, (r0.2.2.2.2.2.2.2.2.2.2.2.2.2.2.2.2.2.2.2.2.2.2.1, ())))))))))))) (fun r1 =>
 .ite (!decide (r1.2.2.2.2.2.2.2.1 = (0 : Int))) (
 .grd (decide (List.length r0.2.2.2.2.2.2.2.2.2.2.2.2.2.2.2.2.2.2.2.2.2.2.2.fst = List.length r0.2.2.2.2.2.2.2.2.2.2.2.2.2.2.2.2.2.2.2.2.2.2.2.1)) (
 .ret ([], ((5 : Int), (r0.2.1, (r0.2.2.1, (r0.2.2.2.1, (r0.2.2.2.2.1, (r0.2.2.2.2.2.1, (r0.2.2.2.2.2.2.1, (r0.2.2.2.2.2.2.2.1, (r0.2.2.2.2.2.2.2.2.1, (r0.2.2.2.2.2.2.2.2.2.1, (r0.2.2.2.2.2.2.2.2.2.2.1, (r0.2.2.2.2.2.2.2.2.2.2.2.1, (r0.2.2.2.2.2.2.2.2.2.2.2.2.1, (r0.2.2.2.2.2.2.2.2.2.2.2.2.2.1, (r0.2.2.2.2.2.2.2.2.2.2.2.2.2.2.1, (r0.2.2.2.2.2.2.2.2.2.2.2.2.2.2.2.1, (r0.2.2.2.2.2.2.2.2.2.2.2.2.2.2.2.2.1, (r0.2.2.2.2.2.2.2.2.2.2.2.2.2.2.2.2.2.1, (r0.2.2.2.2.2.2.2.2.2.2.2.2.2.2.2.2.2.2.1, (r0.2.2.2.2.2.2.2.2.2.2.2.2.2.2.2.2.2.2.2.1, (r0.2.2.2.2.2.2.2.2.2.2.2.2.2.2.2.2.2.2.2.2.1, (r0.2.2.2.2.2.2.2.2.2.2.2.2.2.2.2.2.2.2.2.2.2.1, (r0.2.2.2.2.2.2.2.2.2.2.2.2.2.2.2.2.2.2.2.2.2.2.1, (r0.2.2.2.2.2.2.2.2.2.2.2.2.2.2.2.2.2.2.2.2.2.2.2.1, ()))))))))))))))))))))))))))) (
 .opt ((swFrom_fn (r0.2.2.2.2.2.2.2.2.2.2.2.2.2.2.2.2.2.2.2.2.2.1, (r0.2.1, (r1.2.2.2.2.2.2.1, ()))))) (fun r2 =>
 .grd (decide (List.length r0.2.2.2.2.2.2.2.2.2.2.2.2.2.2.2.2.2.2.2.2.2.2.2.fst = List.length r0.2.2.2.2.2.2.2.2.2.2.2.2.2.2.2.2.2.2.2.2.2.2.2.1)) (
 .ret (r2.1, ((0 : Int), (r0.2.1, (r0.2.2.1, (r0.2.2.2.1, (r0.2.2.2.2.1, (r0.2.2.2.2.2.1, (r0.2.2.2.2.2.2.1, (r0.2.2.2.2.2.2.2.1, (r0.2.2.2.2.2.2.2.2.1, (r0.2.2.2.2.2.2.2.2.2.1, (r1.1, (r1.2.1, (r1.2.2.1, (r1.2.2.2.1, (r1.2.2.2.2.1, (r1.2.2.2.2.2.1, (r0.2.2.2.2.2.2.2.2.2.2.2.2.2.2.2.2.1, (r0.2.2.2.2.2.2.2.2.2.2.2.2.2.2.2.2.2.1, (r0.2.2.2.2.2.2.2.2.2.2.2.2.2.2.2.2.2.2.1, (r0.2.2.2.2.2.2.2.2.2.2.2.2.2.2.2.2.2.2.2.1, (r0.2.2.2.2.2.2.2.2.2.2.2.2.2.2.2.2.2.2.2.2.1, (r0.2.2.2.2.2.2.2.2.2.2.2.2.2.2.2.2.2.2.2.2.2.1, (r0.2.2.2.2.2.2.2.2.2.2.2.2.2.2.2.2.2.2.2.2.2.2.1, (r0.2.2.2.2.2.2.2.2.2.2.2.2.2.2.2.2.2.2.2.2.2.2.2.1, ()))))))))))))))))))))))))))))))))))
noncomputable def gm53 : List (PF Go.Proofs.Tryd.prog) := [FS.pf sumFold, FS.pf sumAdd, FS.pf sumOf, FS.pf sumRight, FS.pf sumFix, FS.pf dgWord, FS.pf dgLong, FS.pf dgWordAt, FS.pf dgUnder, FS.pf dgPort, FS.pf dgWrite, FS.pf dgRead, FS.pf ipWordAt, FS.pf ipLongAt, FS.pf ipByt, FS.pf ipRefused, FS.pf ipWord, FS.pf ipLong, FS.pf ipWrite, FS.pf ipRead, FS.pf ipHop, FS.pf tcWordAt, FS.pf tcLongAt, FS.pf tcParse, FS.pf tcRead, FS.pf swEnds, FS.pf swWord, GS.pf swPut, GS.pf swChange, FS.pf swSwapped, FS.pf swFrom, FS.pf swTo, clTalk, GS.pf delTalk, FS.pf trTurned, FS.pf trPort, FS.pf trRoad, FS.pf trForm, FS.pf trPlace, FS.pf trCheck, FS.pf trOld, GS.pf dfTalk, GS.pf trOpen, GS.pf trPasses, FS.pf trHear, FS.pf trFind, FS.pf buCheck, FS.pf buLev, FS.pf buTake, clRule, FS.pf ruNet, FS.pf ruHas, FS.pf ruBounds, FS.pf ruRight, FS.pf ruCheck, FS.pf ruMeets, FS.pf ruDecide, tz64, FS.pf portsCheck, FS.pf portsLet, FS.pf portsEnd, FS.pf confCheck, clMap, GS.pf delMap, FS.pf natWithin, FS.pf natCheck, natPlace, GS.pf natExpire, FS.pf natOut, FS.pf natIn, clMeter, GS.pf delMeter, FS.pf hsMeter, FS.pf hsLast, FS.pf hsCheck, FS.pf hsNew, GS.pf wMeasured, GS.pf wKnown, GS.pf wTalked]
theorem wLeaves_eq (x : ty15_) : gsTr Tryd.prog cod gm53 [] 30 46 wLeaves_ap wLeaves_rp x = wLeaves_tree x := by kernel_rfl
def wLeaves_fn (x : ty15_) : Option ty18_ := (wLeaves_tree x).eval
def wLeaves : GS Tryd.prog := ⟨46, [1], wLeaves_ap, wLeaves_rp, wLeaves_fn, fun x r h ys m g he hg => gs_sound (cod := cod) (Γ := gm53) (Λs := []) (n := 30) ((congrArg Tr.eval (wLeaves_eq x)).trans h) he hg⟩
def wEnters_ap : SP := ⟨68, [(0, .v (.one (.ptr 1000000 0)))], [(1000000, .cells [.i .u32, .i .i64, .i .i64, .i .i64, .i .i64, .i .i64, .st 10 false, .b, .own 1000100, .st 16 false, .i .i64, .i .i64, .i .u64, .i .i64, .i .u64, .st 17 false, .i .u32, .i .u32, .i .i64, .i .i64, .i .i64, .s, .i .i64]), (1000100, .row 104 19 true true)]⟩
def wEnters_rp : SP := ⟨1, [(0, .tup [.one (.s), .one (.i .i64)])], [(1000000, .cells [.i .u32, .i .i64, .i .i64, .i .i64, .i .i64, .i .i64, .st 10 false, .b, .own 1000100, .st 16 false, .i .i64, .i .i64, .i .u64, .i .i64, .i .u64, .st 17 false, .i .u32, .i .u32, .i .i64, .i .i64, .i .i64, .s, .i .i64]), (1000100, .row 104 19 true true)]⟩
def wEnters_tree : ty15_ -> Tr ty18_ :=
 fun (a0, a1, a2, a3, a4, a5, a6, a7, a8, a9, a10, a11, a12, a13, a14, a15, a16, a17, a18, a19, a20, a21, a22, _) =>
 .opt ((natIn_fn (a9, (a10, (a11, (a12, (a13, (a14, (a17, (a19, (a21, ()))))))))))) (fun r0 =>
 .ite (!decide (r0.2.2.1 = (0 : Int))) (
 .grd (decide (a22.length = a22.length)) (
 .ret ([], ((4 : Int), (a0, (a1, (a2, (a3, (a4, (a5, (a6, (a7, (a8, (a9, (a10, (a11, (a12, (a13, (a14, (a15, (a16, (a17, (a18, (a19, (a20, (a21, (a22, ()))))))))))))))))))))))))))) (
 .ite (decide (a17 = (6 : Int))) (
 .grd (decide (a22.length = a22.length)) (
 .opt ((wKnown_fn (a15, (r0.1, (a18, (r0.2.1, (a0, (a1, (a2, (a3, (a4, (a5, (a6, (a7, (a8, (a9, (a10, (a11, (a12, (a13, (a14, (a15, (a16, (a17, (a18, (a19, (a20, (a21, (a22, ()))))))))))))))))))))))))))))) (fun r1 =>
 .ite (!r1.1) (
 .grd (decide (List.length r1.2.2.2.2.2.2.2.2.2.2.2.2.2.2.2.2.2.2.2.2.2.2.2.fst = List.length r1.2.2.2.2.2.2.2.2.2.2.2.2.2.2.2.2.2.2.2.2.2.2.2.1)) (
 .ret ([], ((4 : Int), (r1.2.1, (r1.2.2.1, (r1.2.2.2.1, (r1.2.2.2.2.1, (r1.2.2.2.2.2.1, (r1.2.2.2.2.2.2.1, (r1.2.2.2.2.2.2.2.1, (r1.2.2.2.2.2.2.2.2.1, (r1.2.2.2.2.2.2.2.2.2.1, (r1.2.2.2.2.2.2.2.2.2.2.1, (r1.2.2.2.2.2.2.2.2.2.2.2.1, (r1.2.2.2.2.2.2.2.2.2.2.2.2.1, (r1.2.2.2.2.2.2.2.2.2.2.2.2.2.1, (r1.2.2.2.2.2.2.2.2.2.2.2.2.2.2.1, (r1.2.2.2.2.2.2.2.2.2.2.2.2.2.2.2.1, (r1.2.2.2.2.2.2.2.2.2.2.2.2.2.2.2.2.1, (r1.2.2.2.2.2.2.2.2.2.2.2.2.2.2.2.2.2.1, (r1.2.2.2.2.2.2.2.2.2.2.2.2.2.2.2.2.2.2.1, (r1.2.2.2.2.2.2.2.2.2.2.2.2.2.2.2.2.2.2.2.1, (r1.2.2.2.2.2.2.2.2.2.2.2.2.2.2.2.2.2.2.2.2.1, (r1.2.2.2.2.2.2.2.2.2.2.2.2.2.2.2.2.2.2.2.2.2.1, (r1.2.2.2.2.2.2.2.2.2.2.2.2.2.2.2.2.2.2.2.2.2.2.1, (r1.2.2.2.2.2.2.2.2.2.2.2.2.2.2.2.2.2.2.2.2.2.2.2.1, ()))))))))))))))))))))))))))) (
 .grd (decide (List.length r1.2.2.2.2.2.2.2.2.2.2.2.2.2.2.2.2.2.2.2.2.2.2.2.fst = List.length r1.2.2.2.2.2.2.2.2.2.2.2.2.2.2.2.2.2.2.2.2.2.2.2.1)) (
 .opt ((wTalked_fn (a15, (r0.1, (a18, (r0.2.1, (r1.2.1, (r1.2.2.1, (r1.2.2.2.1, (r1.2.2.2.2.1, (r1.2.2.2.2.2.1, (r1.2.2.2.2.2.2.1, (r1.2.2.2.2.2.2.2.1, (r1.2.2.2.2.2.2.2.2.1, (r1.2.2.2.2.2.2.2.2.2.1, (r1.2.2.2.2.2.2.2.2.2.2.1, (r1.2.2.2.2.2.2.2.2.2.2.2.1, (r1.2.2.2.2.2.2.2.2.2.2.2.2.1, (r1.2.2.2.2.2.2.2.2.2.2.2.2.2.1, (r1.2.2.2.2.2.2.2.2.2.2.2.2.2.2.1, (r1.2.2.2.2.2.2.2.2.2.2.2.2.2.2.2.1, (r1.2.2.2.2.2.2.2.2.2.2.2.2.2.2.2.2.1, (r1.2.2.2.2.2.2.2.2.2.2.2.2.2.2.2.2.2.1, (r1.2.2.2.2.2.2.2.2.2.2.2.2.2.2.2.2.2.2.1, (r1.2.2.2.2.2.2.2.2.2.2.2.2.2.2.2.2.2.2.2.1, (r1.2.2.2.2.2.2.2.2.2.2.2.2.2.2.2.2.2.2.2.2.1, (r1.2.2.2.2.2.2.2.2.2.2.2.2.2.2.2.2.2.2.2.2.2.1, (r1.2.2.2.2.2.2.2.2.2.2.2.2.2.2.2.2.2.2.2.2.2.2.1, (r1.2.2.2.2.2.2.2.2.2.2.2.2.2.2.2.2.2.2.2.2.2.2.2.1, ()))))))))))))))))))))))))))))) (fun r2 =>
 .ite (!r2.1) (
 .grd (decide (List.length r2.2.2.2.2.2.2.2.2.2.2.2.2.2.2.2.2.2.2.2.2.2.2.2.fst = List.length r2.2.2.2.2.2.2.2.2.2.2.2.2.2.2.2.2.2.2.2.2.2.2.2.1)) (
 .ret ([], ((4 : Int), (r2.2.1, (r2.2.2.1, (r2.2.2.2.1, (r2.2.2.2.2.1, (r2.2.2.2.2.2.1, (r2.2.2.2.2.2.2.1, (r2.2.2.2.2.2.2.2.1, (r2.2.2.2.2.2.2.2.2.1, (r2.2.2.2.2.2.2.2.2.2.1, (r2.2.2.2.2.2.2.2.2.2.2.1, (r2.2.2.2.2.2.2.2.2.2.2.2.1, (r2.2.2.2.2.2.2.2.2.2.2.2.2.1, (r2.2.2.2.2.2.2.2.2.2.2.2.2.2.1, (r2.2.2.2.2.2.2.2.2.2.2.2.2.2.2.1, (r2.2.2.2.2.2.2.2.2.2.2.2.2.2.2.2.1, (r2.2.2.2.2.2.2.2.2.2.2.2.2.2.2.2.2.1, (r2.2.2.2.2.2.2.2.2.2.2.2.2.2.2.2.2.2.1, (r2.2.2.2.2.2.2.2.2.2.2.2.2.2.2.2.2.2.2.1, (r2.2.2.2.2.2.2.2.2.2.2.2.2.2.2.2.2.2.2.2.1, (r2.2.2.2.2.2.2.2.2.2.2.2.2.2.2.2.2.2.2.2.2.1, (r2.2.2.2.2.2.2.2.2.2.2.2.2.2.2.2.2.2.2.2.2.2.1, (r2.2.2.2.2.2.2.2.2.2.2.2.2.2.2.2.2.2.2.2.2.2.2.1, (r2.2.2.2.2.2.2.2.2.2.2.2.2.2.2.2.2.2.2.2.2.2.2.2.1, ()))))))))))))))))))))))))))) (
 .opt ((swTo_fn (r2.2.2.2.2.2.2.2.2.2.2.2.2.2.2.2.2.2.2.2.2.2.1, (r0.1, (r0.2.1, ()))))) (fun r3 =>
 .grd (decide (List.length r2.2.2.2.2.2.2.2.2.2.2.2.2.2.2.2.2.2.2.2.2.2.2.2.fst = List.length r2.2.2.2.2.2.2.2.2.2.2.2.2.2.2.2.2.2.2.2.2.2.2.2.1)) (
 .ret (r3.1, ((0 : Int), (r2.2.1, (r2.2.2.1, (r2.2.2.2.1, (r2.2.2.2.2.1, (r2.2.2.2.2.2.1, (r2.2.2.2.2.2.2.1, (r2.2.2.2.2.2.2.2.1, (r2.2.2.2.2.2.2.2.2.1, (r2.2.2.2.2.2.2.2.2.2.1, (r2.2.2.2.2.2.2.2.2.2.2.1, (r2.2.2.2.2.2.2.2.2.2.2.2.1, (r2.2.2.2.2.2.2.2.2.2.2.2.2.1, (r2.2.2.2.2.2.2.2.2.2.2.2.2.2.1, (r2.2.2.2.2.2.2.2.2.2.2.2.2.2.2.1, (r2.2.2.2.2.2.2.2.2.2.2.2.2.2.2.2.1, (r2.2.2.2.2.2.2.2.2.2.2.2.2.2.2.2.2.1, (r2.2.2.2.2.2.2.2.2.2.2.2.2.2.2.2.2.2.1, (r2.2.2.2.2.2.2.2.2.2.2.2.2.2.2.2.2.2.2.1, (r2.2.2.2.2.2.2.2.2.2.2.2.2.2.2.2.2.2.2.2.1, (r2.2.2.2.2.2.2.2.2.2.2.2.2.2.2.2.2.2.2.2.2.1, (r2.2.2.2.2.2.2.2.2.2.2.2.2.2.2.2.2.2.2.2.2.2.1, (r2.2.2.2.2.2.2.2.2.2.2.2.2.2.2.2.2.2.2.2.2.2.2.1, (r2.2.2.2.2.2.2.2.2.2.2.2.2.2.2.2.2.2.2.2.2.2.2.2.1, ())))))))))))))))))))))))))))))))))) (
 .opt ((swTo_fn (a20, (r0.1, (r0.2.1, ()))))) (fun r1 =>
 .grd (decide (a22.length = a22.length)) (
 .ret (r1.1, ((0 : Int), (a0, (a1, (a2, (a3, (a4, (a5, (a6, (a7, (a8, (a9, (a10, (a11, (a12, (a13, (a14, (a15, (a16, (a17, (a18, (a19, (a20, (a21, (a22, ()))))))))))))))))))))))))))))))
noncomputable def gm54 : List (PF Go.Proofs.Tryd.prog) := [FS.pf sumFold, FS.pf sumAdd, FS.pf sumOf, FS.pf sumRight, FS.pf sumFix, FS.pf dgWord, FS.pf dgLong, FS.pf dgWordAt, FS.pf dgUnder, FS.pf dgPort, FS.pf dgWrite, FS.pf dgRead, FS.pf ipWordAt, FS.pf ipLongAt, FS.pf ipByt, FS.pf ipRefused, FS.pf ipWord, FS.pf ipLong, FS.pf ipWrite, FS.pf ipRead, FS.pf ipHop, FS.pf tcWordAt, FS.pf tcLongAt, FS.pf tcParse, FS.pf tcRead, FS.pf swEnds, FS.pf swWord, GS.pf swPut, GS.pf swChange, FS.pf swSwapped, FS.pf swFrom, FS.pf swTo, clTalk, GS.pf delTalk, FS.pf trTurned, FS.pf trPort, FS.pf trRoad, FS.pf trForm, FS.pf trPlace, FS.pf trCheck, FS.pf trOld, GS.pf dfTalk, GS.pf trOpen, GS.pf trPasses, FS.pf trHear, FS.pf trFind, FS.pf buCheck, FS.pf buLev, FS.pf buTake, clRule, FS.pf ruNet, FS.pf ruHas, FS.pf ruBounds, FS.pf ruRight, FS.pf ruCheck, FS.pf ruMeets, FS.pf ruDecide, tz64, FS.pf portsCheck, FS.pf portsLet, FS.pf portsEnd, FS.pf confCheck, clMap, GS.pf delMap, FS.pf natWithin, FS.pf natCheck, natPlace, GS.pf natExpire, FS.pf natOut, FS.pf natIn, clMeter, GS.pf delMeter, FS.pf hsMeter, FS.pf hsLast, FS.pf hsCheck, FS.pf hsNew, GS.pf wMeasured, GS.pf wKnown, GS.pf wTalked, GS.pf wLeaves]
theorem wEnters_eq (x : ty15_) : gsTr Tryd.prog cod gm54 [] 30 47 wEnters_ap wEnters_rp x = wEnters_tree x := by kernel_rfl
def wEnters_fn (x : ty15_) : Option ty18_ := (wEnters_tree x).eval
def wEnters : GS Tryd.prog := ⟨47, [1], wEnters_ap, wEnters_rp, wEnters_fn, fun x r h ys m g he hg => gs_sound (cod := cod) (Γ := gm54) (Λs := []) (n := 30) ((congrArg Tr.eval (wEnters_eq x)).trans h) he hg⟩
def wGoes_ap : SP := ⟨57, [(0, .v (.one (.ptr 1000000 0))), (1, .v (.one (.b))), (2, .v (.one (.s)))], [(1000000, .cells [.i .u32, .i .i64, .i .i64, .i .i64, .i .i64, .i .i64, .st 10 false, .b, .own 1000100, .st 16 false, .i .i64, .i .i64, .i .u64, .i .i64, .i .u64, .st 17 false, .i .u32, .i .u32, .i .i64, .i .i64, .i .i64, .s, .i .i64]), (1000100, .row 104 19 true true)]⟩
def wGoes_rp : SP := ⟨1, [(0, .tup [.one (.s), .one (.i .i64)])], [(1000000, .cells [.i .u32, .i .i64, .i .i64, .i .i64, .i .i64, .i .i64, .st 10 false, .b, .own 1000100, .st 16 false, .i .i64, .i .i64, .i .u64, .i .i64, .i .u64, .st 17 false, .i .u32, .i .u32, .i .i64, .i .i64, .i .i64, .s, .i .i64]), (1000100, .row 104 19 true true)]⟩
abbrev ty19_ : Type := (Bool × ((List UInt8) × (Int × (Int × (Int × (Int × (Int × (Int × ((List TRule) × (Bool × ((List TTalk) × (Int × (Int × (Int × (Int × (Int × ((List TMap) × (Int × (Int × (Int × (Int × (Int × ((List UInt8) × (Int × ((List TMeter) × Unit)))))))))))))))))))))))))
def wGoes_tree : ty19_ -> Tr ty18_ :=
 fun (a0, a1, a2, a3, a4, a5, a6, a7, a8, a9, a10, a11, a12, a13, a14, a15, a16, a17, a18, a19, a20, a21, a22, a23, a24, _) =>
 .opt ((swEnds_fn (a1, ()))) (fun r0 =>
 .ite (!decide (r0.2.2.2.2.2.1 = (0 : Int))) (
 .grd (decide (a24.length = a24.length)) (
 .ret ([], ((1 : Int), (a2, (a3, (a4, (a5, (a6, (a7, (a8, (a9, (a10, (a11, (a12, (a13, (a14, (a15, (a16, (r0.1, (r0.2.1, (r0.2.2.1, (r0.2.2.2.1, (r0.2.2.2.2.1, (a22, (a23, (a24, ()))))))))))))))))))))))))))) (
 .ite (!a0) (
 .ite (!decide (r0.2.1 = a2)) (
 .grd (decide (a24.length = a24.length)) (
 .ret ([], ((4 : Int), (a2, (a3, (a4, (a5, (a6, (a7, (a8, (a9, (a10, (a11, (a12, (a13, (a14, (a15, (a16, (r0.1, (r0.2.1, (r0.2.2.1, (r0.2.2.2.1, (r0.2.2.2.2.1, (a22, (a23, (a24, ()))))))))))))))))))))))))))) (
 .opt ((ipHop_fn (a1, ()))) (fun r1 =>
 .ite (!decide (r1.2.1 = (0 : Int))) (
 .grd (decide (a24.length = a24.length)) (
 .ret ([], ((2 : Int), (a2, (a3, (a4, (a5, (a6, (a7, (a8, (a9, (a10, (a11, (a12, (a13, (a14, (a15, (a16, (r0.1, (r0.2.1, (r0.2.2.1, (r0.2.2.2.1, (r0.2.2.2.2.1, (r1.1, (a23, (a24, ()))))))))))))))))))))))))))) (
 .grd (decide (a24.length = a24.length)) (
 .opt ((wMeasured_fn (a2, (a3, (a4, (a5, (a6, (a7, (a8, (a9, (a10, (a11, (a12, (a13, (a14, (a15, (a16, (r0.1, (r0.2.1, (r0.2.2.1, (r0.2.2.2.1, (r0.2.2.2.2.1, (r1.1, (a23, (a24, ()))))))))))))))))))))))))) (fun r2 =>
 .ite (!r2.1) (
 .grd (decide (List.length r2.2.2.2.2.2.2.2.2.2.2.2.2.2.2.2.2.2.2.2.2.2.2.2.fst = List.length r2.2.2.2.2.2.2.2.2.2.2.2.2.2.2.2.2.2.2.2.2.2.2.2.1)) (
 .ret ([], ((3 : Int), (r2.2.1, (r2.2.2.1, (r2.2.2.2.1, (r2.2.2.2.2.1, (r2.2.2.2.2.2.1, (r2.2.2.2.2.2.2.1, (r2.2.2.2.2.2.2.2.1, (r2.2.2.2.2.2.2.2.2.1, (r2.2.2.2.2.2.2.2.2.2.1, (r2.2.2.2.2.2.2.2.2.2.2.1, (r2.2.2.2.2.2.2.2.2.2.2.2.1, (r2.2.2.2.2.2.2.2.2.2.2.2.2.1, (r2.2.2.2.2.2.2.2.2.2.2.2.2.2.1, (r2.2.2.2.2.2.2.2.2.2.2.2.2.2.2.1, (r2.2.2.2.2.2.2.2.2.2.2.2.2.2.2.2.1, (r2.2.2.2.2.2.2.2.2.2.2.2.2.2.2.2.2.1, (r2.2.2.2.2.2.2.2.2.2.2.2.2.2.2.2.2.2.1, (r2.2.2.2.2.2.2.2.2.2.2.2.2.2.2.2.2.2.2.1, (r2.2.2.2.2.2.2.2.2.2.2.2.2.2.2.2.2.2.2.2.1, (r2.2.2.2.2.2.2.2.2.2.2.2.2.2.2.2.2.2.2.2.2.1, (r2.2.2.2.2.2.2.2.2.2.2.2.2.2.2.2.2.2.2.2.2.2.1, (r2.2.2.2.2.2.2.2.2.2.2.2.2.2.2.2.2.2.2.2.2.2.2.1, (r2.2.2.2.2.2.2.2.2.2.2.2.2.2.2.2.2.2.2.2.2.2.2.2.1, ()))))))))))))))))))))))))))) (
 .ite (a0) (
 .grd (decide (List.length r2.2.2.2.2.2.2.2.2.2.2.2.2.2.2.2.2.2.2.2.2.2.2.2.fst = List.length r2.2.2.2.2.2.2.2.2.2.2.2.2.2.2.2.2.2.2.2.2.2.2.2.1)) (
 .opt ((wLeaves_fn (r2.2.1, (r2.2.2.1, (r2.2.2.2.1, (r2.2.2.2.2.1, (r2.2.2.2.2.2.1, (r2.2.2.2.2.2.2.1, (r2.2.2.2.2.2.2.2.1, (r2.2.2.2.2.2.2.2.2.1, (r2.2.2.2.2.2.2.2.2.2.1, (r2.2.2.2.2.2.2.2.2.2.2.1, (r2.2.2.2.2.2.2.2.2.2.2.2.1, (r2.2.2.2.2.2.2.2.2.2.2.2.2.1, (r2.2.2.2.2.2.2.2.2.2.2.2.2.2.1, (r2.2.2.2.2.2.2.2.2.2.2.2.2.2.2.1, (r2.2.2.2.2.2.2.2.2.2.2.2.2.2.2.2.1, (r2.2.2.2.2.2.2.2.2.2.2.2.2.2.2.2.2.1, (r2.2.2.2.2.2.2.2.2.2.2.2.2.2.2.2.2.2.1, (r2.2.2.2.2.2.2.2.2.2.2.2.2.2.2.2.2.2.2.1, (r2.2.2.2.2.2.2.2.2.2.2.2.2.2.2.2.2.2.2.2.1, (r2.2.2.2.2.2.2.2.2.2.2.2.2.2.2.2.2.2.2.2.2.1, (r2.2.2.2.2.2.2.2.2.2.2.2.2.2.2.2.2.2.2.2.2.2.1, (r2.2.2.2.2.2.2.2.2.2.2.2.2.2.2.2.2.2.2.2.2.2.2.1, (r2.2.2.2.2.2.2.2.2.2.2.2.2.2.2.2.2.2.2.2.2.2.2.2.1, ()))))))))))))))))))))))))) (fun r3 =>
 .grd (decide (List.length r3.2.2.2.2.2.2.2.2.2.2.2.2.2.2.2.2.2.2.2.2.2.2.2.2.fst = List.length r3.2.2.2.2.2.2.2.2.2.2.2.2.2.2.2.2.2.2.2.2.2.2.2.2.1)) (
 .ret (r3.1, (r3.2.1, (r3.2.2.1, (r3.2.2.2.1, (r3.2.2.2.2.1, (r3.2.2.2.2.2.1, (r3.2.2.2.2.2.2.1, (r3.2.2.2.2.2.2.2.1, (r3.2.2.2.2.2.2.2.2.1, (r3.2.2.2.2.2.2.2.2.2.1, (r3.2.2.2.2.2.2.2.2.2.2.1, (r3.2.2.2.2.2.2.2.2.2.2.2.1, (r3.2.2.2.2.2.2.2.2.2.2.2.2.1, (r3.2.2.2.2.2.2.2.2.2.2.2.2.2.1, (r3.2.2.2.2.2.2.2.2.2.2.2.2.2.2.1, (r3.2.2.2.2.2.2.2.2.2.2.2.2.2.2.2.1, (r3.2.2.2.2.2.2.2.2.2.2.2.2.2.2.2.2.1, (r3.2.2.2.2.2.2.2.2.2.2.2.2.2.2.2.2.2.1, (r3.2.2.2.2.2.2.2.2.2.2.2.2.2.2.2.2.2.2.1, (r3.2.2.2.2.2.2.2.2.2.2.2.2.2.2.2.2.2.2.2.1, (r3.2.2.2.2.2.2.2.2.2.2.2.2.2.2.2.2.2.2.2.2.1, (r3.2.2.2.2.2.2.2.2.2.2.2.2.2.2.2.2.2.2.2.2.2.1, (r3.2.2.2.2.2.2.2.2.2.2.2.2.2.2.2.2.2.2.2.2.2.2.1, (r3.2.2.2.2.2.2.2.2.2.2.2.2.2.2.2.2.2.2.2.2.2.2.2.1, (r3.2.2.2.2.2.2.2.2.2.2.2.2.2.2.2.2.2.2.2.2.2.2.2.2.1, ()))))))))))))))))))))))))))))) (
 .grd (decide (List.length r2.2.2.2.2.2.2.2.2.2.2.2.2.2.2.2.2.2.2.2.2.2.2.2.fst = List.length r2.2.2.2.2.2.2.2.2.2.2.2.2.2.2.2.2.2.2.2.2.2.2.2.1)) (
 .opt ((wEnters_fn (r2.2.1, (r2.2.2.1, (r2.2.2.2.1, (r2.2.2.2.2.1, (r2.2.2.2.2.2.1, (r2.2.2.2.2.2.2.1, (r2.2.2.2.2.2.2.2.1, (r2.2.2.2.2.2.2.2.2.1, (r2.2.2.2.2.2.2.2.2.2.1, (r2.2.2.2.2.2.2.2.2.2.2.1, (r2.2.2.2.2.2.2.2.2.2.2.2.1, (r2.2.2.2.2.2.2.2.2.2.2.2.2.1, (r2.2.2.2.2.2.2.2.2.2.2.2.2.2.1, (r2.2.2.2.2.2.2.2.2.2.2.2.2.2.2.1, (r2.2.2.2.2.2.2.2.2.2.2.2.2.2.2.2.1, (r2.2.2.2.2.2.2.2.2.2.2.2.2.2.2.2.2.1, (r2.2.2.2.2.2.2.2.2.2.2.2.2.2.2.2.2.2.1, (r2.2.2.2.2.2.2.2.2.2.2.2.2.2.2.2.2.2.2.1, (r2.2.2.2.2.2.2.2.2.2.2.2.2.2.2.2.2.2.2.2.1, (r2.2.2.2.2.2.2.2.2.2.2.2.2.2.2.2.2.2.2.2.2.1, (r2.2.2.2.2.2.2.2.2.2.2.2.2.2.2.2.2.2.2.2.2.2.1, (r2.2.2.2.2.2.2.2.2.2.2.2.2.2.2.2.2.2.2.2.2.2.2.1, (r2.2.2.2.2.2.2.2.2.2.2.2.2.2.2.2.2.2.2.2.2.2.2.2.1, ()))))))))))))))))))))))))) (fun r3 =>
 .grd (decide (List.length r3.2.2.2.2.2.2.2.2.2.2.2.2.2.2.2.2.2.2.2.2.2.2.2.2.fst = List.length r3.2.2.2.2.2.2.2.2.2.2.2.2.2.2.2.2.2.2.2.2.2.2.2.2.1)) (
 .ret (r3.1, (r3.2.1, (r3.2.2.1, (r3.2.2.2.1, (r3.2.2.2.2.1, (r3.2.2.2.2.2.1, (r3.2.2.2.2.2.2.1, (r3.2.2.2.2.2.2.2.1, (r3.2.2.2.2.2.2.2.2.1, (r3.2.2.2.2.2.2.2.2.2.1, (r3.2.2.2.2.2.2.2.2.2.2.1, (r3.2.2.2.2.2.2.2.2.2.2.2.1, (r3.2.2.2.2.2.2.2.2.2.2.2.2.1, (r3.2.2.2.2.2.2.2.2.2.2.2.2.2.1, (r3.2.2.2.2.2.2.2.2.2.2.2.2.2.2.1, (r3.2.2.2.2.2.2.2.2.2.2.2.2.2.2.2.1, (r3.2.2.2.2.2.2.2.2.2.2.2.2.2.2.2.2.1, (r3.2.2.2.2.2.2.2.2.2.2.2.2.2.2.2.2.2.1, (r3.2.2.2.2.2.2.2.2.2.2.2.2.2.2.2.2.2.2.1, (r3.2.2.2.2.2.2.2.2.2.2.2.2.2.2.2.2.2.2.2.1, (r3.2.2.2.2.2.2.2.2.2.2.2.2.2.2.2.2.2.2.2.2.1, (r3.2.2.2.2.2.2.2.2.2.2.2.2.2.2.2.2.2.2.2.2.2.1, (r3.2.2.2.2.2.2.2.2.2.2.2.2.2.2.2.2.2.2.2.2.2.2.1, (r3.2.2.2.2.2.2.2.2.2.2.2.2.2.2.2.2.2.2.2.2.2.2.2.1, (r3.2.2.2.2.2.2.2.2.2.2.2.2.2.2.2.2.2.2.2.2.2.2.2.2.1, ())))))))))))))))))))))))))))))))))))) (
 .opt ((ipHop_fn (a1, ()))) (fun r1 =>
 .ite (!decide (r1.2.1 = (0 : Int))) (
 .grd (decide (a24.length = a24.length)) (
 .ret ([], ((2 : Int), (a2, (a3, (a4, (a5, (a6, (a7, (a8, (a9, (a10, (a11, (a12, (a13, (a14, (a15, (a16, (r0.1, (r0.2.1, (r0.2.2.1, (r0.2.2.2.1, (r0.2.2.2.2.1, (r1.1, (a23, (a24, ()))))))))))))))))))))))))))) (
 .grd (decide (a24.length = a24.length)) (
 .opt ((wMeasured_fn (a2, (a3, (a4, (a5, (a6, (a7, (a8, (a9, (a10, (a11, (a12, (a13, (a14, (a15, (a16, (r0.1, (r0.2.1, (r0.2.2.1, (r0.2.2.2.1, (r0.2.2.2.2.1, (r1.1, (a23, (a24, ()))))))))))))))))))))))))) (fun r2 =>
 .ite (!r2.1) (
 .grd (decide (List.length r2.2.2.2.2.2.2.2.2.2.2.2.2.2.2.2.2.2.2.2.2.2.2.2.fst = List.length r2.2.2.2.2.2.2.2.2.2.2.2.2.2.2.2.2.2.2.2.2.2.2.2.1)) (
 .ret ([], ((3 : Int), (r2.2.1, (r2.2.2.1, (r2.2.2.2.1, (r2.2.2.2.2.1, (r2.2.2.2.2.2.1, (r2.2.2.2.2.2.2.1, (r2.2.2.2.2.2.2.2.1, (r2.2.2.2.2.2.2.2.2.1, (r2.2.2.2.2.2.2.2.2.2.1, (r2.2.2.2.2.2.2.2.2.2.2.1, (r2.2.2.2.2.2.2.2.2.2.2.2.1, (r2.2.2.2.2.2.2.2.2.2.2.2.2.1, (r2.2.2.2.2.2.2.2.2.2.2.2.2.2.1, (r2.2.2.2.2.2.2.2.2.2.2.2.2.2.2.1, (r2.2.2.2.2.2.2.2.2.2.2.2.2.2.2.2.1, (r2.2.2.2.2.2.2.2.2.2.2.2.2.2.2.2.2.1, (r2.2.2.2.2.2.2.2.2.2.2.2.2.2.2.2.2.2.1, (r2.2.2.2.2.2.2.2.2.2.2.2.2.2.2.2.2.2.2.1, (r2.2.2.2.2.2.2.2.2.2.2.2.2.2.2.2.2.2.2.2.1, (r2.2.2.2.2.2.2.2.2.2.2.2.2.2.2.2.2.2.2.2.2.1, (r2.2.2.2.2.2.2.2.2.2.2.2.2.2.2.2.2.2.2.2.2.2.1, (r2.2.2.2.2.2.2.2.2.2.2.2.2.2.2.2.2.2.2.2.2.2.2.1, (r2.2.2.2.2.2.2.2.2.2.2.2.2.2.2.2.2.2.2.2.2.2.2.2.1, ()))))))))))))))))))))))))))) (
 .ite (a0) (
 .grd (decide (List.length r2.2.2.2.2.2.2.2.2.2.2.2.2.2.2.2.2.2.2.2.2.2.2.2.fst = List.length r2.2.2.2.2.2.2.2.2.2.2.2.2.2.2.2.2.2.2.2.2.2.2.2.1)) (
 .opt ((wLeaves_fn (r2.2.1, (r2.2.2.1, (r2.2.2.2.1, (r2.2.2.2.2.1, (r2.2.2.2.2.2.1, (r2.2.2.2.2.2.2.1, (r2.2.2.2.2.2.2.2.1, (r2.2.2.2.2.2.2.2.2.1, (r2.2.2.2.2.2.2.2.2.2.1, (r2.2.2.2.2.2.2.2.2.2.2.1, (r2.2.2.2.2.2.2.2.2.2.2.2.1, (r2.2.2.2.2.2.2.2.2.2.2.2.2.1, (r2.2.2.2.2.2.2.2.2.2.2.2.2.2.1, (r2.2.2.2.2.2.2.2.2.2.2.2.2.2.2.1, (r2.2.2.2.2.2.2.2.2.2.2.2.2.2.2.2.1, (r2.2.2.2.2.2.2.2.2.2.2.2.2.2.2.2.2.1, (r2.2.2.2.2.2.2.2.2.2.2.2.2.2.2.2.2.2.1, (r2.2.2.2.2.2.2.2.2.2.2.2.2.2.2.2.2.2.2.1, (r2.2.2.2.2.2.2.2.2.2.2.2.2.2.2.2.2.2.2.2.1, (r2.2.2.2.2.2.2.2.2.2.2.2.2.2.2.2.2.2.2.2.2.1, (r2.2.2.2.2.2.2.2.2.2.2.2.2.2.2.2.2.2.2.2.2.2.1, (r2.2.2.2.2.2.2.2.2.2.2.2.2.2.2.2.2.2.2.2.2.2.2.1, (r2.2.2.2.2.2.2.2.2.2.2.2.2.2.2.2.2.2.2.2.2.2.2.2.1, ()))))))))))))))))))))))))) (fun r3 =>
 .grd (decide (List.length r3.2.2.2.2.2.2.2.2.2.2.2.2.2.2.2.2.2.2.2.2.2.2.2.2.fst = List.length r3.2.2.2.2.2.2.2.2.2.2.2.2.2.2.2.2.2.2.2.2.2.2.2.2.1)) (
 .ret (r3.1, (r3.2.1, (r3.2.2.1, (r3.2.2.2.1, (r3.2.2.2.2.1, (r3.2.2.2.2.2.1, (r3.2.2.2.2.2.2.1, (r3.2.2.2.2.2.2.2.1, (r3.2.2.2.2.2.2.2.2.1, (r3.2.2.2.2.2.2.2.2.2.1, (r3.2.2.2.2.2.2.2.2.2.2.1, (r3.2.2.2.2.2.2.2.2.2.2.2.1, (r3.2.2.2.2.2.2.2.2.2.2.2.2.1, (r3.2.2.2.2.2.2.2.2.2.2.2.2.2.1, (r3.2.2.2.2.2.2.2.2.2.2.2.2.2.2.1, (r3.2.2.2.2.2.2.2.2.2.2.2.2.2.2.2.1, (r3.2.2.2.2.2.2.2.2.2.2.2.2.2.2.2.2.1, (r3.2.2.2.2.2.2.2.2.2.2.2.2.2.2.2.2.2.1, (r3.2.2.2.2.2.2.2.2.2.2.2.2.2.2.2.2.2.2.1, (r3.2.2.2.2.2.2.2.2.2.2.2.2.2.2.2.2.2.2.2.1, (r3.2.2.2.2.2.2.2.2.2.2.2.2.2.2.2.2.2.2.2.2.1, (r3.2.2.2.2.2.2.2.2.2.2.2.2.2.2.2.2.2.2.2.2.2.1, (r3.2.2.2.2.2.2.2.2.2.2.2.2.2.2.2.2.2.2.2.2.2.2.1, (r3.2.2.2.2.2.2.2.2.2.2.2.2.2.2.2.2.2.2.2.2.2.2.2.1, (r3.2.2.2.2.2.2.2.2.2.2.2.2.2.2.2.2.2.2.2.2.2.2.2.2.1, ()))))))))))))))))))))))))))))) (
 .grd (decide (List.length r2.2.2.2.2.2.2.2.2.2.2.2.2.2.2.2.2.2.2.2.2.2.2.2.fst = List.length r2.2.2.2.2.2.2.2.2.2.2.2.2.2.2.2.2.2.2.2.2.2.2.2.1)) (
 .opt ((wEnters_fn (r2.2.1, (r2.2.2.1, (r2.2.2.2.1, (r2.2.2.2.2.1, (r2.2.2.2.2.2.1, (r2.2.2.2.2.2.2.1, (r2.2.2.2.2.2.2.2.1, (r2.2.2.2.2.2.2.2.2.1, (r2.2.2.2.2.2.2.2.2.2.1, (r2.2.2.2.2.2.2.2.2.2.2.1, (r2.2.2.2.2.2.2.2.2.2.2.2.1, (r2.2.2.2.2.2.2.2.2.2.2.2.2.1, (r2.2.2.2.2.2.2.2.2.2.2.2.2.2.1, (r2.2.2.2.2.2.2.2.2.2.2.2.2.2.2.1, (r2.2.2.2.2.2.2.2.2.2.2.2.2.2.2.2.1, (r2.2.2.2.2.2.2.2.2.2.2.2.2.2.2.2.2.1, (r2.2.2.2.2.2.2.2.2.2.2.2.2.2.2.2.2.2.1, (r2.2.2.2.2.2.2.2.2.2.2.2.2.2.2.2.2.2.2.1, (r2.2.2.2.2.2.2.2.2.2.2.2.2.2.2.2.2.2.2.2.1, (r2.2.2.2.2.2.2.2.2.2.2.2.2.2.2.2.2.2.2.2.2.1, (r2.2.2.2.2.2.2.2.2.2.2.2.2.2.2.2.2.2.2.2.2.2.1, (r2.2.2.2.2.2.2.2.2.2.2.2.2.2.2.2.2.2.2.2.2.2.2.1, (r2.2.2.2.2.2.2.2.2.2.2.2.2.2.2.2.2.2.2.2.2.2.2.2.1, ()))))))))))))))))))))))))) (fun r3 =>
 .grd (decide (List.length r3.2.2.2.2.2.2.2.2.2.2.2.2.2.2.2.2.2.2.2.2.2.2.2.2.fst = List.length r3.2.2.2.2.2.2.2.2.2.2.2.2.2.2.2.2.2.2.2.2.2.2.2.2.1)) (
 .ret (r3.1, (r3.2.1, (r3.2.2.1, (r3.2.2.2.1, (r3.2.2.2.2.1, (r3.2.2.2.2.2.1, (r3.2.2.2.2.2.2.1, (r3.2.2.2.2.2.2.2.1, (r3.2.2.2.2.2.2.2.2.1, (r3.2.2.2.2.2.2.2.2.2.1, (r3.2.2.2.2.2.2.2.2.2.2.1, (r3.2.2.2.2.2.2.2.2.2.2.2.1, (r3.2.2.2.2.2.2.2.2.2.2.2.2.1, (r3.2.2.2.2.2.2.2.2.2.2.2.2.2.1, (r3.2.2.2.2.2.2.2.2.2.2.2.2.2.2.1, (r3.2.2.2.2.2.2.2.2.2.2.2.2.2.2.2.1, (r3.2.2.2.2.2.2.2.2.2.2.2.2.2.2.2.2.1, (r3.2.2.2.2.2.2.2.2.2.2.2.2.2.2.2.2.2.1, (r3.2.2.2.2.2.2.2.2.2.2.2.2.2.2.2.2.2.2.1, (r3.2.2.2.2.2.2.2.2.2.2.2.2.2.2.2.2.2.2.2.1, (r3.2.2.2.2.2.2.2.2.2.2.2.2.2.2.2.2.2.2.2.2.1, (r3.2.2.2.2.2.2.2.2.2.2.2.2.2.2.2.2.2.2.2.2.2.1, (r3.2.2.2.2.2.2.2.2.2.2.2.2.2.2.2.2.2.2.2.2.2.2.1, (r3.2.2.2.2.2.2.2.2.2.2.2.2.2.2.2.2.2.2.2.2.2.2.2.1, (r3.2.2.2.2.2.2.2.2.2.2.2.2.2.2.2.2.2.2.2.2.2.2.2.2.1, ())))))))))))))))))))))))))))))))))))))
noncomputable def gm55 : List (PF Go.Proofs.Tryd.prog) := [FS.pf sumFold, FS.pf sumAdd, FS.pf sumOf, FS.pf sumRight, FS.pf sumFix, FS.pf dgWord, FS.pf dgLong, FS.pf dgWordAt, FS.pf dgUnder, FS.pf dgPort, FS.pf dgWrite, FS.pf dgRead, FS.pf ipWordAt, FS.pf ipLongAt, FS.pf ipByt, FS.pf ipRefused, FS.pf ipWord, FS.pf ipLong, FS.pf ipWrite, FS.pf ipRead, FS.pf ipHop, FS.pf tcWordAt, FS.pf tcLongAt, FS.pf tcParse, FS.pf tcRead, FS.pf swEnds, FS.pf swWord, GS.pf swPut, GS.pf swChange, FS.pf swSwapped, FS.pf swFrom, FS.pf swTo, clTalk, GS.pf delTalk, FS.pf trTurned, FS.pf trPort, FS.pf trRoad, FS.pf trForm, FS.pf trPlace, FS.pf trCheck, FS.pf trOld, GS.pf dfTalk, GS.pf trOpen, GS.pf trPasses, FS.pf trHear, FS.pf trFind, FS.pf buCheck, FS.pf buLev, FS.pf buTake, clRule, FS.pf ruNet, FS.pf ruHas, FS.pf ruBounds, FS.pf ruRight, FS.pf ruCheck, FS.pf ruMeets, FS.pf ruDecide, tz64, FS.pf portsCheck, FS.pf portsLet, FS.pf portsEnd, FS.pf confCheck, clMap, GS.pf delMap, FS.pf natWithin, FS.pf natCheck, natPlace, GS.pf natExpire, FS.pf natOut, FS.pf natIn, clMeter, GS.pf delMeter, FS.pf hsMeter, FS.pf hsLast, FS.pf hsCheck, FS.pf hsNew, GS.pf wMeasured, GS.pf wKnown, GS.pf wTalked, GS.pf wLeaves, GS.pf wEnters]
theorem wGoes_eq (x : ty19_) : gsTr Tryd.prog cod gm55 [] 30 23 wGoes_ap wGoes_rp x = wGoes_tree x := by kernel_rfl
def wGoes_fn (x : ty19_) : Option ty18_ := (wGoes_tree x).eval
def wGoes : GS Tryd.prog := ⟨23, [1, 0, 0], wGoes_ap, wGoes_rp, wGoes_fn, fun x r h ys m g he hg => gs_sound (cod := cod) (Γ := gm55) (Λs := []) (n := 30) ((congrArg Tr.eval (wGoes_eq x)).trans h) he hg⟩
def hsHear_ap : List VP1 := [.agg [.i .u32, .i .i64, .i .i64, .i .i64, .i .i64, .i .i64, .st 10 false, .b, .st 19 false, .st 16 false, .i .i64, .i .i64, .i .u64, .i .i64, .i .u64, .st 17 false], .one (.b), .one (.s), .one (.i .i64)]
def hsHear_rp : SP := ⟨1, [(0, .tup [.agg [.i .u32, .i .i64, .i .i64, .i .i64, .i .i64, .i .i64, .st 10 false, .b, .st 19 false, .st 16 false, .i .i64, .i .i64, .i .u64, .i .i64, .i .u64, .st 17 false], .one (.s), .one (.i .i64), .one (.i .i64)])], []⟩
abbrev ty20_ : Type := (Int × (Int × (Int × (Int × (Int × (Int × ((List TRule) × (Bool × ((List TMeter) × ((List TTalk) × (Int × (Int × (Int × (Int × (Int × ((List TMap) × (Bool × ((List UInt8) × (Int × Unit)))))))))))))))))))
abbrev ty21_ : Type := (Int × (Int × (Int × (Int × (Int × (Int × ((List TRule) × (Bool × ((List TMeter) × ((List TTalk) × (Int × (Int × (Int × (Int × (Int × ((List TMap) × ((List UInt8) × (Int × (Int × Unit)))))))))))))))))))
def hsHear_tree : ty20_ -> Tr ty21_ :=
 fun (a0, a1, a2, a3, a4, a5, a6, a7, a8, a9, a10, a11, a12, a13, a14, a15, a16, a17, a18, _) =>
 .grd (decide (((0 : Nat) + a6.length) * (80 : Nat) <= (140737488355328 : Nat) /\ (0 : Nat) + a6.length <= (9223372036854775807 : Nat))) (
 .grd (decide (((0 : Nat) + a8.length) * (40 : Nat) <= (140737488355328 : Nat) /\ (0 : Nat) + a8.length <= (9223372036854775807 : Nat))) (
 .grd (decide (((0 : Nat) + a9.length) * (48 : Nat) <= (140737488355328 : Nat) /\ (0 : Nat) + a9.length <= (9223372036854775807 : Nat))) (
 .grd (decide (((0 : Nat) + a15.length) * (40 : Nat) <= (140737488355328 : Nat) /\ (0 : Nat) + a15.length <= (9223372036854775807 : Nat))) (
 .opt ((hsCheck_fn (a0, (a1, (a2, (a3, (a4, (a5, (a6, (a7, (a8, (a9, (a10, (a11, (a12, (a13, (a14, (a15, ())))))))))))))))))) (fun r0 =>
 .ite (!decide (r0.1 = (0 : Int))) (
 .ret (a0, (a1, (a2, (a3, (a4, (a5, (a6, (a7, (a8, (a9, (a10, (a11, (a12, (a13, (a14, (a15, ([], ((0 : Int), (r0.1, ())))))))))))))))))))) (
 .opt ((hsLast_fn (a0, (a1, (a2, (a3, (a4, (a5, (a6, (a7, (a8, (a9, (a10, (a11, (a12, (a13, (a14, (a15, ())))))))))))))))))) (fun r1 =>
 .ite (decide (a18 < r1.1)) (
 .ret (a0, (a1, (a2, (a3, (a4, (a5, (a6, (a7, (a8, (a9, (a10, (a11, (a12, (a13, (a14, (a15, ([], ((0 : Int), ((1 : Int), ())))))))))))))))))))) (
 .ite (decide ((1099511627776 : Int) < a18)) (
 .ret (a0, (a1, (a2, (a3, (a4, (a5, (a6, (a7, (a8, (a9, (a10, (a11, (a12, (a13, (a14, (a15, ([], ((0 : Int), ((1 : Int), ())))))))))))))))))))) (
 .grd (decide (a8.length = a8.length)) (
 .opt ((wGoes_fn (a16, (a17, (a0, (a1, (a2, (a3, (a4, (a5, (a6, (a7, (a9, (a10, (a11, (a12, (a13, (a14, (a15, ((0 : Int), ((0 : Int), ((0 : Int), ((0 : Int), ((0 : Int), ([], (a18, (a8, ()))))))))))))))))))))))))))) (fun r2 =>
 .ret (r2.2.2.1, (r2.2.2.2.1, (r2.2.2.2.2.1, (r2.2.2.2.2.2.1, (r2.2.2.2.2.2.2.1, (r2.2.2.2.2.2.2.2.1, (r2.2.2.2.2.2.2.2.2.1, (r2.2.2.2.2.2.2.2.2.2.1, (r2.2.2.2.2.2.2.2.2.2.2.2.2.2.2.2.2.2.2.2.2.2.2.2.2.1, (r2.2.2.2.2.2.2.2.2.2.2.1, (r2.2.2.2.2.2.2.2.2.2.2.2.1, (r2.2.2.2.2.2.2.2.2.2.2.2.2.1, (r2.2.2.2.2.2.2.2.2.2.2.2.2.2.1, (r2.2.2.2.2.2.2.2.2.2.2.2.2.2.2.1, (r2.2.2.2.2.2.2.2.2.2.2.2.2.2.2.2.1, (r2.2.2.2.2.2.2.2.2.2.2.2.2.2.2.2.2.1, (r2.1, (r2.2.1, ((0 : Int), ()))))))))))))))))))))))))))))))
noncomputable def gm56 : List (PF Go.Proofs.Tryd.prog) := [cdRule, cdTalk, cdMap, FS.pf sumFold, FS.pf sumAdd, FS.pf sumOf, FS.pf sumRight, FS.pf sumFix, FS.pf dgWord, FS.pf dgLong, FS.pf dgWordAt, FS.pf dgUnder, FS.pf dgPort, FS.pf dgWrite, FS.pf dgRead, FS.pf ipWordAt, FS.pf ipLongAt, FS.pf ipByt, FS.pf ipRefused, FS.pf ipWord, FS.pf ipLong, FS.pf ipWrite, FS.pf ipRead, FS.pf ipHop, FS.pf tcWordAt, FS.pf tcLongAt, FS.pf tcParse, FS.pf tcRead, FS.pf swEnds, FS.pf swWord, GS.pf swPut, GS.pf swChange, FS.pf swSwapped, FS.pf swFrom, FS.pf swTo, clTalk, GS.pf delTalk, FS.pf trTurned, FS.pf trPort, FS.pf trRoad, FS.pf trForm, FS.pf trPlace, FS.pf trCheck, FS.pf trOld, GS.pf dfTalk, GS.pf trOpen, GS.pf trPasses, FS.pf trHear, FS.pf trFind, FS.pf buCheck, FS.pf buLev, FS.pf buTake, clRule, FS.pf ruNet, FS.pf ruHas, FS.pf ruBounds, FS.pf ruRight, FS.pf ruCheck, FS.pf ruMeets, FS.pf ruDecide, tz64, FS.pf portsCheck, FS.pf portsLet, FS.pf portsEnd, FS.pf confCheck, clMap, GS.pf delMap, FS.pf natWithin, FS.pf natCheck, natPlace, GS.pf natExpire, FS.pf natOut, FS.pf natIn, clMeter, GS.pf delMeter, FS.pf hsMeter, FS.pf hsLast, FS.pf hsCheck, FS.pf hsNew, GS.pf wMeasured, GS.pf wKnown, GS.pf wTalked, GS.pf wLeaves, GS.pf wEnters, GS.pf wGoes]
theorem hsHear_eq (x : ty20_) : fnTr Tryd.prog cod gm56 [] 30 8 hsHear_ap hsHear_rp x = hsHear_tree x := by kernel_rfl
def hsHear_fn (x : ty20_) : Option ty21_ := (hsHear_tree x).eval
def hsHear : FS Tryd.prog := ⟨8, hsHear_ap, hsHear_rp, hsHear_fn, fun x r h => fnTr_sound (cod := cod) (Γ := gm56) (Λs := []) (n := 30) ((congrArg Tr.eval (hsHear_eq x)).trans h)⟩
def hsRun_L13_6 : LS := ⟨6, [(7, 7), (2, 2), (4, 4)], ⟨46, [(19, .v (.one (.i .i64))), (7, .v (.one (.own 7))), (2, .v (.one (.ptr 2 0))), (17, .v (.one (.st 24 false))), (4, .v (.one (.ptr 4 0))), (18, .v (.one (.i .i64)))], [(7, .row 60 25 true true), (2, .cells [.i .u32, .i .i64, .i .i64, .i .i64, .i .i64, .i .i64, .st 10 false, .b, .st 19 false, .st 16 false, .i .i64, .i .i64, .i .u64, .i .i64, .i .u64, .st 17 false]), (4, .cells [.i .u32, .i .i64, .i .i64, .i .i64, .i .i64, .i .i64, .nil, .b, .nil, .nil, .i .i64, .i .i64, .i .u64, .i .i64, .i .u64, .nil])]⟩, [⟨some 0, [(4, 4), (7, 7), (2, 2)], ⟨46, [(4, .v (.one (.ptr 4 0))), (7, .v (.one (.own 7))), (2, .v (.one (.ptr 2 0)))], [(4, .cells [.i .u32, .i .i64, .i .i64, .i .i64, .i .i64, .i .i64, .nil, .b, .nil, .nil, .i .i64, .i .i64, .i .u64, .i .i64, .i .u64, .nil]), (7, .row 60 25 true true), (2, .cells [.i .u32, .i .i64, .i .i64, .i .i64, .i .i64, .i .i64, .st 10 false, .b, .st 19 false, .st 16 false, .i .i64, .i .i64, .i .u64, .i .i64, .i .u64, .st 17 false])]⟩⟩], [(7, 60, 25)]⟩
abbrev ty22_ : Type := (Int × ((List TCame) × (Int × ((List TWent) × (Int × (Int × (Int × (Int × (Int × (Int × ((List TRule) × (Bool × ((List TMeter) × ((List TTalk) × (Int × (Int × (Int × (Int × (Int × ((List TMap) × (Int × (Int × (Int × (Int × (Int × (Int × (Bool × (Int × (Int × (Int × (Int × (Int × Unit))))))))))))))))))))))))))))))))
abbrev ty23_ : Type := (Int × (Int × (Int × (Int × (Int × (Int × (Bool × (Int × (Int × (Int × (Int × (Int × ((List TWent) × (Int × (Int × (Int × (Int × (Int × (Int × ((List TRule) × (Bool × ((List TMeter) × ((List TTalk) × (Int × (Int × (Int × (Int × (Int × ((List TMap) × Unit)))))))))))))))))))))))))))))
def hsRun_step13_6 : ty22_ -> Tr (ty22_ ⊕ ty23_) :=
 fun (a0, a1, a2, a3, a4, a5, a6, a7, a8, a9, a10, a11, a12, a13, a14, a15, a16, a17, a18, a19, a20, a21, a22, a23, a24, a25, a26, a27, a28, a29, a30, a31, _) =>
 .ite (decide (a0 < a2)) (
 .grd (decide ((0 : Int) <= a0)) (
 .opt (a1[Int.toNat a0]?) (fun r0 =>
 .opt ((hsHear_fn (a4, (a5, (a6, (a7, (a8, (a9, (a10, (a11, (a12, (a13, (a14, (a15, (a16, (a17, (a18, (a19, (r0.inside, (r0.data, (r0.at', ()))))))))))))))))))))) (fun r1 =>
 .grd (decide ((a3.length + List.length [TWent.mk r1.2.2.2.2.2.2.2.2.2.2.2.2.2.2.2.2.1 r1.2.2.2.2.2.2.2.2.2.2.2.2.2.2.2.2.2.1 r1.2.2.2.2.2.2.2.2.2.2.2.2.2.2.2.2.2.2.1]) * (32 : Nat) <= (140737488355328 : Nat) /\ a3.length + List.length [TWent.mk r1.2.2.2.2.2.2.2.2.2.2.2.2.2.2.2.2.1 r1.2.2.2.2.2.2.2.2.2.2.2.2.2.2.2.2.2.1 r1.2.2.2.2.2.2.2.2.2.2.2.2.2.2.2.2.2.2.1] <= (9223372036854775807 : Nat))) (
 .grd (decide (List.length (a3 ++ [TWent.mk r1.2.2.2.2.2.2.2.2.2.2.2.2.2.2.2.2.1 r1.2.2.2.2.2.2.2.2.2.2.2.2.2.2.2.2.2.1 r1.2.2.2.2.2.2.2.2.2.2.2.2.2.2.2.2.2.2.1]) = List.length (a3 ++ [TWent.mk r1.2.2.2.2.2.2.2.2.2.2.2.2.2.2.2.2.1 r1.2.2.2.2.2.2.2.2.2.2.2.2.2.2.2.2.2.1 r1.2.2.2.2.2.2.2.2.2.2.2.2.2.2.2.2.2.2.1]))) (
 .ret (Sum.inl (wW .i64 (a0 + (1 : Int)), (a1, (a2, (a3 ++ [TWent.mk r1.2.2.2.2.2.2.2.2.2.2.2.2.2.2.2.2.1 r1.2.2.2.2.2.2.2.2.2.2.2.2.2.2.2.2.2.1 r1.2.2.2.2.2.2.2.2.2.2.2.2.2.2.2.2.2.2.1], (r1.1, (r1.2.1, (r1.2.2.1, (r1.2.2.2.1, (r1.2.2.2.2.1, (r1.2.2.2.2.2.1, (r1.2.2.2.2.2.2.1, (r1.2.2.2.2.2.2.2.1, (r1.2.2.2.2.2.2.2.2.1, (r1.2.2.2.2.2.2.2.2.2.1, (r1.2.2.2.2.2.2.2.2.2.2.1, (r1.2.2.2.2.2.2.2.2.2.2.2.1, (r1.2.2.2.2.2.2.2.2.2.2.2.2.1, (r1.2.2.2.2.2.2.2.2.2.2.2.2.2.1, (r1.2.2.2.2.2.2.2.2.2.2.2.2.2.2.1, (r1.2.2.2.2.2.2.2.2.2.2.2.2.2.2.2.1, (a20, (a21, (a22, (a23, (a24, (a25, (a26, (a27, (a28, (a29, (a30, (a31, ()))))))))))))))))))))))))))))))))))))))) (
 .grd (decide (a3.length = a3.length)) (
 .ret (Sum.inr (a20, (a21, (a22, (a23, (a24, (a25, (a26, (a27, (a28, (a29, (a30, (a31, (a3, (a4, (a5, (a6, (a7, (a8, (a9, (a10, (a11, (a12, (a13, (a14, (a15, (a16, (a17, (a18, (a19, ()))))))))))))))))))))))))))))))))
def hsRun_loop13_6 (x : ty22_) : Option ty23_ := loopO 130006 (fun x => (hsRun_step13_6 x).eval) 18446744073709551616 x
def hsRun_ap : List VP1 := [.agg [.i .u32, .i .i64, .i .i64, .i .i64, .i .i64, .i .i64, .st 10 false, .b, .st 19 false, .st 16 false, .i .i64, .i .i64, .i .u64, .i .i64, .i .u64, .st 17 false], .one (.st 24 false)]
def hsRun_rp : SP := ⟨1, [(0, .tup [.agg [.i .u32, .i .i64, .i .i64, .i .i64, .i .i64, .i .i64, .st 10 false, .b, .st 19 false, .st 16 false, .i .i64, .i .i64, .i .u64, .i .i64, .i .u64, .st 17 false], .one (.st 25 false), .one (.i .i64)])], []⟩
abbrev ty24_ : Type := (Int × (Int × (Int × (Int × (Int × (Int × ((List TRule) × (Bool × ((List TMeter) × ((List TTalk) × (Int × (Int × (Int × (Int × (Int × ((List TMap) × ((List TCame) × Unit)))))))))))))))))
abbrev ty25_ : Type := (Int × (Int × (Int × (Int × (Int × (Int × ((List TRule) × (Bool × ((List TMeter) × ((List TTalk) × (Int × (Int × (Int × (Int × (Int × ((List TMap) × ((List TWent) × (Int × Unit))))))))))))))))))
def hsRun_tree : ty24_ -> Tr ty25_ :=
 fun (a0, a1, a2, a3, a4, a5, a6, a7, a8, a9, a10, a11, a12, a13, a14, a15, a16, _) =>
 .ite (decide ((300 : Int) < (↑(a16.length) : Int))) (
 .ret ((0 : Int), ((0 : Int), ((0 : Int), ((0 : Int), ((0 : Int), ((0 : Int), ([], (false, ([], ([], ((0 : Int), ((0 : Int), ((0 : Int), ((0 : Int), ((0 : Int), ([], ([], ((2 : Int), ()))))))))))))))))))) (
 .grd (decide (((0 : Nat) + a6.length) * (80 : Nat) <= (140737488355328 : Nat) /\ (0 : Nat) + a6.length <= (9223372036854775807 : Nat))) (
 .grd (decide (((0 : Nat) + a8.length) * (40 : Nat) <= (140737488355328 : Nat) /\ (0 : Nat) + a8.length <= (9223372036854775807 : Nat))) (
 .grd (decide (((0 : Nat) + a9.length) * (48 : Nat) <= (140737488355328 : Nat) /\ (0 : Nat) + a9.length <= (9223372036854775807 : Nat))) (
 .grd (decide (((0 : Nat) + a15.length) * (40 : Nat) <= (140737488355328 : Nat) /\ (0 : Nat) + a15.length <= (9223372036854775807 : Nat))) (
 .grd (true) (
 .opt ((hsRun_loop13_6 ((0 : Int), (a16, ((↑(a16.length) : Int), ([], (a0, (a1, (a2, (a3, (a4, (a5, (a6, (a7, (a8, (a9, (a10, (a11, (a12, (a13, (a14, (a15, ((0 : Int), ((0 : Int), ((0 : Int), ((0 : Int), ((0 : Int), ((0 : Int), (false, ((0 : Int), ((0 : Int), ((0 : Int), ((0 : Int), ((0 : Int), ())))))))))))))))))))))))))))))))))) (fun r0 =>
 .ret (r0.2.2.2.2.2.2.2.2.2.2.2.2.2.1, (r0.2.2.2.2.2.2.2.2.2.2.2.2.2.2.1, (r0.2.2.2.2.2.2.2.2.2.2.2.2.2.2.2.1, (r0.2.2.2.2.2.2.2.2.2.2.2.2.2.2.2.2.1, (r0.2.2.2.2.2.2.2.2.2.2.2.2.2.2.2.2.2.1, (r0.2.2.2.2.2.2.2.2.2.2.2.2.2.2.2.2.2.2.1, (r0.2.2.2.2.2.2.2.2.2.2.2.2.2.2.2.2.2.2.2.1, (r0.2.2.2.2.2.2.2.2.2.2.2.2.2.2.2.2.2.2.2.2.1, (r0.2.2.2.2.2.2.2.2.2.2.2.2.2.2.2.2.2.2.2.2.2.1, (r0.2.2.2.2.2.2.2.2.2.2.2.2.2.2.2.2.2.2.2.2.2.2.1, (r0.2.2.2.2.2.2.2.2.2.2.2.2.2.2.2.2.2.2.2.2.2.2.2.1, (r0.2.2.2.2.2.2.2.2.2.2.2.2.2.2.2.2.2.2.2.2.2.2.2.2.1, (r0.2.2.2.2.2.2.2.2.2.2.2.2.2.2.2.2.2.2.2.2.2.2.2.2.2.1, (r0.2.2.2.2.2.2.2.2.2.2.2.2.2.2.2.2.2.2.2.2.2.2.2.2.2.2.1, (r0.2.2.2.2.2.2.2.2.2.2.2.2.2.2.2.2.2.2.2.2.2.2.2.2.2.2.2.1, (r0.2.2.2.2.2.2.2.2.2.2.2.2.2.2.2.2.2.2.2.2.2.2.2.2.2.2.2.2.1, (r0.2.2.2.2.2.2.2.2.2.2.2.2.1, ((0 : Int), ())))))))))))))))))))))))))
noncomputable def gm57 : List (PF Go.Proofs.Tryd.prog) := [cdMeter, cdRule, cdTalk, cdMap, FS.pf sumFold, FS.pf sumAdd, FS.pf sumOf, FS.pf sumRight, FS.pf sumFix, FS.pf dgWord, FS.pf dgLong, FS.pf dgWordAt, FS.pf dgUnder, FS.pf dgPort, FS.pf dgWrite, FS.pf dgRead, FS.pf ipWordAt, FS.pf ipLongAt, FS.pf ipByt, FS.pf ipRefused, FS.pf ipWord, FS.pf ipLong, FS.pf ipWrite, FS.pf ipRead, FS.pf ipHop, FS.pf tcWordAt, FS.pf tcLongAt, FS.pf tcParse, FS.pf tcRead, FS.pf swEnds, FS.pf swWord, GS.pf swPut, GS.pf swChange, FS.pf swSwapped, FS.pf swFrom, FS.pf swTo, clTalk, GS.pf delTalk, FS.pf trTurned, FS.pf trPort, FS.pf trRoad, FS.pf trForm, FS.pf trPlace, FS.pf trCheck, FS.pf trOld, GS.pf dfTalk, GS.pf trOpen, GS.pf trPasses, FS.pf trHear, FS.pf trFind, FS.pf buCheck, FS.pf buLev, FS.pf buTake, clRule, FS.pf ruNet, FS.pf ruHas, FS.pf ruBounds, FS.pf ruRight, FS.pf ruCheck, FS.pf ruMeets, FS.pf ruDecide, tz64, FS.pf portsCheck, FS.pf portsLet, FS.pf portsEnd, FS.pf confCheck, clMap, GS.pf delMap, FS.pf natWithin, FS.pf natCheck, natPlace, GS.pf natExpire, FS.pf natOut, FS.pf natIn, clMeter, GS.pf delMeter, FS.pf hsMeter, FS.pf hsLast, FS.pf hsCheck, FS.pf hsNew, GS.pf wMeasured, GS.pf wKnown, GS.pf wTalked, GS.pf wLeaves, GS.pf wEnters, GS.pf wGoes, FS.pf hsHear]
theorem hsRun_eq (x : ty24_) : fnTr Tryd.prog cod gm57 [(13, hsRun_L13_6)] 30 13 hsRun_ap hsRun_rp x = hsRun_tree x := by kernel_rfl
def hsRun_fn (x : ty24_) : Option ty25_ := (hsRun_tree x).eval
def hsRun : FS Tryd.prog := ⟨13, hsRun_ap, hsRun_rp, hsRun_fn, fun x r h => fnTr_sound (cod := cod) (Γ := gm57) (Λs := [(13, hsRun_L13_6)]) (n := 30) ((congrArg Tr.eval (hsRun_eq x)).trans h)⟩
def letterPacket_ap : List VP1 := [.agg [.i .i64, .i .i64, .s], .one (.i .u32), .one (.i .u32)]
def letterPacket_rp : SP := ⟨1, [(0, .tup [.one (.s), .one (.b)])], []⟩
def letterPacket_tree : (Int × (Int × ((List UInt8) × (Int × (Int × Unit))))) -> Tr ((List UInt8) × (Bool × Unit)) :=
 fun (a0, a1, a2, a3, a4, _) =>
 .opt ((dgWrite_fn (a0, (a1, (a2, (a3, (a4, ()))))))) (fun r0 =>
 .opt ((ipWrite_fn ((0 : Int), ((0 : Int), (false, (false, ((0 : Int), ((9 : Int), ((17 : Int), (a3, (a4, ([], (r0.1, ()))))))))))))) (fun r1 =>
 .ite (decide (r0.2.1 = (0 : Int))) (
 .ret (r1.1, (decide (r1.2.1 = (0 : Int)), ()))) (
 .ret (r1.1, (false, ())))))
noncomputable def gm58 : List (PF Go.Proofs.Tryd.prog) := [FS.pf sumFold, FS.pf sumAdd, FS.pf sumOf, FS.pf sumRight, FS.pf sumFix, FS.pf dgWord, FS.pf dgLong, FS.pf dgWordAt, FS.pf dgUnder, FS.pf dgPort, FS.pf dgWrite, FS.pf dgRead, FS.pf ipWordAt, FS.pf ipLongAt, FS.pf ipByt, FS.pf ipRefused, FS.pf ipWord, FS.pf ipLong, FS.pf ipWrite, FS.pf ipRead, FS.pf ipHop, FS.pf tcWordAt, FS.pf tcLongAt, FS.pf tcParse, FS.pf tcRead, FS.pf swEnds, FS.pf swWord, GS.pf swPut, GS.pf swChange, FS.pf swSwapped, FS.pf swFrom, FS.pf swTo]
theorem letterPacket_eq (x : (Int × (Int × ((List UInt8) × (Int × (Int × Unit)))))) : fnTr Tryd.prog cod gm58 [] 30 7 letterPacket_ap letterPacket_rp x = letterPacket_tree x := by kernel_rfl
def letterPacket_fn (x : (Int × (Int × ((List UInt8) × (Int × (Int × Unit)))))) : Option ((List UInt8) × (Bool × Unit)) := (letterPacket_tree x).eval
def letterPacket : FS Tryd.prog := ⟨7, letterPacket_ap, letterPacket_rp, letterPacket_fn, fun x r h => fnTr_sound (cod := cod) (Γ := gm58) (Λs := []) (n := 30) ((congrArg Tr.eval (letterPacket_eq x)).trans h)⟩
end Go.Proofs.YthkhikdglmaiaaaDoor.X
