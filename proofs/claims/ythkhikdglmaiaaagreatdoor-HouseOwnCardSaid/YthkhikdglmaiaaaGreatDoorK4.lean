/- Texts towards the law HouseOwn, put together (part 4): an abstract walk and its proof, functions of the program as trees, and plain laws. Conditions: none. -/
import Derived.KernelRfl
import Derived.Lib.TrailingZeros
import Derived.Laws.Bits64b
import Derived.WalkKit
import Derived.Test.YthkhikdglmaiaaaGreatDoorK3
namespace Go.Proofs.YthkhikdglmaiaaaGreatDoor.X
open Go Go.RowKit Go.Proofs.YthkhikdglmaiaaaGreatDoor.Abs
open Go.IntKind renaming wrap -> wW
set_option maxRecDepth 100000
set_option linter.unusedVariables false
def tcWord_ap : List VP1 := [.one (.i .i64)]
def tcWord_rp : SP := ⟨1, [(0, .v (.one (.s)))], []⟩
def tcWord_tree : (Int × Unit) -> Tr ((List UInt8) × Unit) :=
 fun (a0, _) =>
 .grd (true) (
 .grd (decide (0 <= wW .u8 (Int.fdiv a0 ((2 : Int) ^ (8 : Nat))) /\ wW .u8 (Int.fdiv a0 ((2 : Int) ^ (8 : Nat))) < 256)) (
 .grd (decide (0 <= wW .u8 a0 /\ wW .u8 a0 < 256)) (
 .ret ([UInt8.ofNat (Int.toNat (wW .u8 (Int.fdiv a0 ((2 : Int) ^ (8 : Nat))))), UInt8.ofNat (Int.toNat (wW .u8 a0))], ()))))
theorem tcWord_eq (x : (Int × Unit)) : fnTr Tryz.prog cod gm7 [] 30 108 tcWord_ap tcWord_rp x = tcWord_tree x := by kernel_rfl
def tcWord_fn (x : (Int × Unit)) : Option ((List UInt8) × Unit) := (tcWord_tree x).eval
def tcWord : FS Tryz.prog := ⟨108, tcWord_ap, tcWord_rp, tcWord_fn, fun x r h => fnTr_sound (cod := cod) (Γ := gm7) (Λs := []) (n := 30) ((congrArg Tr.eval (tcWord_eq x)).trans h)⟩
def tcLong_ap : List VP1 := [.one (.i .u32)]
def tcLong_rp : SP := ⟨1, [(0, .v (.one (.s)))], []⟩
def tcLong_tree : (Int × Unit) -> Tr ((List UInt8) × Unit) :=
 fun (a0, _) =>
 .grd (true) (
 .opt ((tcWord_fn (wW .i64 (Int.fdiv a0 ((2 : Int) ^ (16 : Nat))), ()))) (fun r0 =>
 .opt ((tcWord_fn (wW .i64 a0, ()))) (fun r1 =>
 .grd (decide (List.length r0.1 + List.length r1.1 <= (9223372036854775807 : Nat))) (
 .ret (r0.1 ++ r1.1, ())))))
noncomputable def gm16 : List (PF Go.Proofs.Tryz.prog) := gm7 ++ [FS.pf tcWord]
theorem tcLong_eq (x : (Int × Unit)) : fnTr Tryz.prog cod gm16 [] 30 109 tcLong_ap tcLong_rp x = tcLong_tree x := by kernel_rfl
def tcLong_fn (x : (Int × Unit)) : Option ((List UInt8) × Unit) := (tcLong_tree x).eval
def tcLong : FS Tryz.prog := ⟨109, tcLong_ap, tcLong_rp, tcLong_fn, fun x r h => fnTr_sound (cod := cod) (Γ := gm16) (Λs := []) (n := 30) ((congrArg Tr.eval (tcLong_eq x)).trans h)⟩
def tcWordAt_ap : List VP1 := [.one (.s), .one (.i .i64)]
def tcWordAt_rp : SP := ⟨1, [(0, .v (.one (.i .i64)))], []⟩
def tcWordAt_tree : ((List UInt8) × (Int × Unit)) -> Tr (Int × Unit) :=
 fun (a0, a1, _) =>
 .grd (decide (0 <= a1 /\ a1 < (↑(a0.length) : Int))) (
 .grd (true) (
 .grd (decide (0 <= wW .i64 (a1 + 1) /\ wW .i64 (a1 + 1) < (↑(a0.length) : Int))) (
 .ret (bits .or .i64 (wW .i64 (wW .i64 (↑(UInt8.toNat (List.getD a0 (Int.toNat a1) (0 : UInt8))) : Int) * (2 : Int) ^ (8 : Nat))) (wW .i64 (↑(UInt8.toNat (List.getD a0 (Int.toNat (wW .i64 (a1 + 1))) (0 : UInt8))) : Int)), ()))))
noncomputable def gm17 : List (PF Go.Proofs.Tryz.prog) := gm16 ++ [FS.pf tcLong]
theorem tcWordAt_eq (x : ((List UInt8) × (Int × Unit))) : fnTr Tryz.prog cod gm17 [] 30 66 tcWordAt_ap tcWordAt_rp x = tcWordAt_tree x := by kernel_rfl
def tcWordAt_fn (x : ((List UInt8) × (Int × Unit))) : Option (Int × Unit) := (tcWordAt_tree x).eval
def tcWordAt : FS Tryz.prog := ⟨66, tcWordAt_ap, tcWordAt_rp, tcWordAt_fn, fun x r h => fnTr_sound (cod := cod) (Γ := gm17) (Λs := []) (n := 30) ((congrArg Tr.eval (tcWordAt_eq x)).trans h)⟩
def tcLongAt_ap : List VP1 := [.one (.s), .one (.i .i64)]
def tcLongAt_rp : SP := ⟨1, [(0, .v (.one (.i .u32)))], []⟩
def tcLongAt_tree : ((List UInt8) × (Int × Unit)) -> Tr (Int × Unit) :=
 fun (a0, a1, _) =>
 .opt ((tcWordAt_fn (a0, (a1, ())))) (fun r0 =>
 .grd (true) (
 .opt ((tcWordAt_fn (a0, (wW .i64 (a1 + 2), ())))) (fun r1 =>
 .ret (bits .or .u32 (wW .u32 (wW .u32 r0.1 * (2 : Int) ^ (16 : Nat))) (wW .u32 r1.1), ()))))
noncomputable def gm18 : List (PF Go.Proofs.Tryz.prog) := gm17 ++ [FS.pf tcWordAt]
theorem tcLongAt_eq (x : ((List UInt8) × (Int × Unit))) : fnTr Tryz.prog cod gm18 [] 30 67 tcLongAt_ap tcLongAt_rp x = tcLongAt_tree x := by kernel_rfl
def tcLongAt_fn (x : ((List UInt8) × (Int × Unit))) : Option (Int × Unit) := (tcLongAt_tree x).eval
def tcLongAt : FS Tryz.prog := ⟨67, tcLongAt_ap, tcLongAt_rp, tcLongAt_fn, fun x r h => fnTr_sound (cod := cod) (Γ := gm18) (Λs := []) (n := 30) ((congrArg Tr.eval (tcLongAt_eq x)).trans h)⟩
def tcWords_L179_2 : LS := ⟨2, [], ⟨19, [(8, .v (.one (.i .i64))), (0, .v (.one (.st 0 false))), (1, .v (.one (.clo 151 []))), (7, .v (.one (.i .i64)))], []⟩, [⟨none, [], ⟨19, [(4, .v (.one (.i .i64)))], []⟩⟩, ⟨some 0, [], ⟨19, [], []⟩⟩], []⟩
def tcWords_step179_2 : (Int × ((List Int) × (Int × Unit))) -> Tr ((Int × ((List Int) × (Int × Unit))) ⊕ ((Int × Unit) ⊕ Unit)) :=
 fun (a0, a1, a2, _) =>
 .ite (decide (a0 < a2)) (
 .grd (decide (0 <= a0)) (
 .opt (a1[Int.toNat a0]?) (fun r0 =>
 .ite (decide (r0 < 0)) (
 .ite (true) (
 .ret (Sum.inr (Sum.inl (a0, ())))) (
 .ret (Sum.inl (wW .i64 (a0 + 1), (a1, (a2, ())))))) (
 .ite (decide (65535 < r0)) (
 .ret (Sum.inr (Sum.inl (a0, ())))) (
 .ret (Sum.inl (wW .i64 (a0 + 1), (a1, (a2, ()))))))))) (
 .ret (Sum.inr (Sum.inr ())))
def tcWords_loop179_2 (x : (Int × ((List Int) × (Int × Unit)))) : Option ((Int × Unit) ⊕ Unit) := loopO 1790002 (fun x => (tcWords_step179_2 x).eval) 18446744073709551616 x
def tcWords_ap : List VP1 := [.one (.st 0 false)]
def tcWords_rp : SP := ⟨1, [(0, .v (.one (.b)))], []⟩
def tcWords_tree : ((List Int) × Unit) -> Tr (Bool × Unit) :=
 fun (a0, _) =>
 .opt ((tcWords_loop179_2 (0, (a0, ((↑(a0.length) : Int), ()))))) (fun r0 =>
 .sum (r0) (fun r1 =>
 .ret (!decide (0 <= r1.1), ())) (fun r1 =>
 .ret (true, ())))
noncomputable def gm19 : List (PF Go.Proofs.Tryz.prog) := gm18 ++ [FS.pf tcLongAt]
theorem tcWords_eq (x : ((List Int) × Unit)) : fnTr Tryz.prog cod gm19 [(179, tcWords_L179_2)] 30 106 tcWords_ap tcWords_rp x = tcWords_tree x := by kernel_rfl
def tcWords_fn (x : ((List Int) × Unit)) : Option (Bool × Unit) := (tcWords_tree x).eval
def tcWords : FS Tryz.prog := ⟨106, tcWords_ap, tcWords_rp, tcWords_fn, fun x r h => fnTr_sound (cod := cod) (Γ := gm19) (Λs := [(179, tcWords_L179_2)]) (n := 30) ((congrArg Tr.eval (tcWords_eq x)).trans h)⟩
def tcOptions_L107_3 : LS := ⟨3, [(4, 4)], ⟨60, [(9, .v (.one (.i .i64))), (4, .v (.one (.own 4))), (7, .v (.one (.st 4 false))), (8, .v (.one (.i .i64)))], [(4, .row 5 2 true true)]⟩, [⟨none, [], ⟨60, [(2, .v (.one (.s))), (3, .v (.one (.b)))], []⟩⟩, ⟨some 0, [(4, 4)], ⟨60, [(4, .v (.one (.own 4)))], [(4, .row 5 2 true true)]⟩⟩], [(4, 5, 2)]⟩
def tcOptions_step107_3 : (Int × ((List TOption) × (Int × ((List UInt8) × Unit)))) -> Tr ((Int × ((List TOption) × (Int × ((List UInt8) × Unit)))) ⊕ (((List UInt8) × (Bool × Unit)) ⊕ ((List UInt8) × Unit))) :=
 fun (a0, a1, a2, a3, _) =>
 .ite (decide (a0 < a2)) (
 .grd (decide (0 <= a0)) (
 .opt (a1[Int.toNat a0]?) (fun r0 =>
 .ite (decide (r0.kind < 1)) (
 .ret (Sum.inr (Sum.inl ([], (false, ()))))) (
 .ite (decide (255 < r0.kind)) (
 .ret (Sum.inr (Sum.inl ([], (false, ()))))) (
 .ite (decide (38 < (↑(List.length r0.data) : Int))) (
 .ret (Sum.inr (Sum.inl ([], (false, ()))))) (
 .ite (decide (r0.kind = 1)) (
 .ite (!decide (r0.data = [])) (
 .ret (Sum.inr (Sum.inl ([], (false, ()))))) (
 .grd (decide (0 <= wW .u8 r0.kind /\ wW .u8 r0.kind < 256)) (
 .grd (decide ((a3.length + List.length [UInt8.ofNat (Int.toNat (wW .u8 r0.kind))]) * (1 : Nat) <= (140737488355328 : Nat) /\ a3.length + List.length [UInt8.ofNat (Int.toNat (wW .u8 r0.kind))] <= (9223372036854775807 : Nat))) (
 .ite (decide (1 < r0.kind)) (
 .grd (decide (0 <= wW .u8 (wW .i64 ((↑(List.length r0.data) : Int) + 2)) /\ wW .u8 (wW .i64 ((↑(List.length r0.data) : Int) + 2)) < 256)) (
 .grd (decide ((List.length (a3 ++ [UInt8.ofNat (Int.toNat (wW .u8 r0.kind))]) + List.length [UInt8.ofNat (Int.toNat (wW .u8 (wW .i64 ((↑(List.length r0.data) : Int) + 2))))]) * (1 : Nat) <= (140737488355328 : Nat) /\ List.length (a3 ++ [UInt8.ofNat (Int.toNat (wW .u8 r0.kind))]) + List.length [UInt8.ofNat (Int.toNat (wW .u8 (wW .i64 ((↑(List.length r0.data) : Int) + 2))))] <= (9223372036854775807 : Nat))) (
 .grd (decide ((List.length (a3 ++ [UInt8.ofNat (Int.toNat (wW .u8 r0.kind))] ++ [UInt8.ofNat (Int.toNat (wW .u8 (wW .i64 ((↑(List.length r0.data) : Int) + 2))))]) + List.length r0.data) * (1 : Nat) <= (140737488355328 : Nat) /\ List.length (a3 ++ [UInt8.ofNat (Int.toNat (wW .u8 r0.kind))] ++ [UInt8.ofNat (Int.toNat (wW .u8 (wW .i64 ((↑(List.length r0.data) : Int) + 2))))]) + List.length r0.data <= (9223372036854775807 : Nat))) (
 .grd (decide (List.length (a3 ++ [UInt8.ofNat (Int.toNat (wW .u8 r0.kind))] ++ [UInt8.ofNat (Int.toNat (wW .u8 (wW .i64 ((↑(List.length r0.data) : Int) + 2))))] ++ r0.data) = List.length (a3 ++ [UInt8.ofNat (Int.toNat (wW .u8 r0.kind))] ++ [UInt8.ofNat (Int.toNat (wW .u8 (wW .i64 ((↑(List.length r0.data) : Int) + 2))))] ++ r0.data))) (
 .ret (Sum.inl (wW .i64 (a0 + 1), (a1, (a2, (a3 ++ [UInt8.ofNat (Int.toNat (wW .u8 r0.kind))] ++ [UInt8.ofNat (Int.toNat (wW .u8 (wW .i64 ((↑(List.length r0.data) : Int) + 2))))] ++ r0.data, ())))))))))) (
 .grd (decide (List.length (a3 ++ [UInt8.ofNat (Int.toNat (wW .u8 r0.kind))]) = List.length (a3 ++ [UInt8.ofNat (Int.toNat (wW .u8 r0.kind))]))) (
 .ret (Sum.inl (wW .i64 (a0 + 1), (a1, (a2, (a3 ++ [UInt8.ofNat (Int.toNat (wW .u8 r0.kind))], ()))))))))))) (
 .grd (decide (0 <= wW .u8 r0.kind /\ wW .u8 r0.kind < 256)) (
 .grd (decide ((a3.length + List.length [UInt8.ofNat (Int.toNat (wW .u8 r0.kind))]) * (1 : Nat) <= (140737488355328 : Nat) /\ a3.length + List.length [UInt8.ofNat (Int.toNat (wW .u8 r0.kind))] <= (9223372036854775807 : Nat))) (
 .ite (decide (1 < r0.kind)) (
 .grd (decide (0 <= wW .u8 (wW .i64 ((↑(List.length r0.data) : Int) + 2)) /\ wW .u8 (wW .i64 ((↑(List.length r0.data) : Int) + 2)) < 256)) (
 .grd (decide ((List.length (a3 ++ [UInt8.ofNat (Int.toNat (wW .u8 r0.kind))]) + List.length [UInt8.ofNat (Int.toNat (wW .u8 (wW .i64 ((↑(List.length r0.data) : Int) + 2))))]) * (1 : Nat) <= (140737488355328 : Nat) /\ List.length (a3 ++ [UInt8.ofNat (Int.toNat (wW .u8 r0.kind))]) + List.length [UInt8.ofNat (Int.toNat (wW .u8 (wW .i64 ((↑(List.length r0.data) : Int) + 2))))] <= (9223372036854775807 : Nat))) (
 .grd (decide ((List.length (a3 ++ [UInt8.ofNat (Int.toNat (wW .u8 r0.kind))] ++ [UInt8.ofNat (Int.toNat (wW .u8 (wW .i64 ((↑(List.length r0.data) : Int) + 2))))]) + List.length r0.data) * (1 : Nat) <= (140737488355328 : Nat) /\ List.length (a3 ++ [UInt8.ofNat (Int.toNat (wW .u8 r0.kind))] ++ [UInt8.ofNat (Int.toNat (wW .u8 (wW .i64 ((↑(List.length r0.data) : Int) + 2))))]) + List.length r0.data <= (9223372036854775807 : Nat))) (
 .grd (decide (List.length (a3 ++ [UInt8.ofNat (Int.toNat (wW .u8 r0.kind))] ++ [UInt8.ofNat (Int.toNat (wW .u8 (wW .i64 ((↑(List.length r0.data) : Int) + 2))))] ++ r0.data) = List.length (a3 ++ [UInt8.ofNat (Int.toNat (wW .u8 r0.kind))] ++ [UInt8.ofNat (Int.toNat (wW .u8 (wW .i64 ((↑(List.length r0.data) : Int) + 2))))] ++ r0.data))) (
 .ret (Sum.inl (wW .i64 (a0 + 1), (a1, (a2, (a3 ++ [UInt8.ofNat (Int.toNat (wW .u8 r0.kind))] ++ [UInt8.ofNat (Int.toNat (wW .u8 (wW .i64 ((↑(List.length r0.data) : Int) + 2))))] ++ r0.data, ())))))))))) (
 .grd (decide (List.length (a3 ++ [UInt8.ofNat (Int.toNat (wW .u8 r0.kind))]) = List.length (a3 ++ [UInt8.ofNat (Int.toNat (wW .u8 r0.kind))]))) (
 .ret (Sum.inl (wW .i64 (a0 + 1), (a1, (a2, (a3 ++ [UInt8.ofNat (Int.toNat (wW .u8 r0.kind))], ())))))))))))))))) (
 .grd (decide (a3.length = a3.length)) (
 .ret (Sum.inr (Sum.inr (a3, ())))))
def tcOptions_loop107_3 (x : (Int × ((List TOption) × (Int × ((List UInt8) × Unit))))) : Option (((List UInt8) × (Bool × Unit)) ⊕ ((List UInt8) × Unit)) := loopO 1070003 (fun x => (tcOptions_step107_3 x).eval) 18446744073709551616 x
def tcOptions_ap : List VP1 := [.one (.st 4 false)]
def tcOptions_rp : SP := ⟨1, [(0, .tup [.one (.s), .one (.b)])], []⟩
def tcOptions_tree : ((List TOption) × Unit) -> Tr ((List UInt8) × (Bool × Unit)) :=
 fun (a0, _) =>
 .grd (true) (
 .opt ((tcOptions_loop107_3 (0, (a0, ((↑(a0.length) : Int), ([], ())))))) (fun r0 =>
 .sum (r0) (fun r1 =>
 .ret (r1.1, (r1.2.1, ()))) (fun r1 =>
 .ret (r1.1, (true, ())))))
noncomputable def gm20 : List (PF Go.Proofs.Tryz.prog) := gm19 ++ [FS.pf tcWords]
theorem tcOptions_eq (x : ((List TOption) × Unit)) : fnTr Tryz.prog cod gm20 [(107, tcOptions_L107_3)] 30 107 tcOptions_ap tcOptions_rp x = tcOptions_tree x := by kernel_rfl
def tcOptions_fn (x : ((List TOption) × Unit)) : Option ((List UInt8) × (Bool × Unit)) := (tcOptions_tree x).eval
def tcOptions : FS Tryz.prog := ⟨107, tcOptions_ap, tcOptions_rp, tcOptions_fn, fun x r h => fnTr_sound (cod := cod) (Γ := gm20) (Λs := [(107, tcOptions_L107_3)]) (n := 30) ((congrArg Tr.eval (tcOptions_eq x)).trans h)⟩
def tcWrite_L59_8 : LS := ⟨8, [(3, 3)], ⟨117, [(8, .v (.one (.s))), (3, .v (.one (.ptr 3 0))), (2, .v (.one (.i .u32))), (1, .v (.one (.i .u32)))], [(3, .cells [.i .i64, .i .i64, .i .u32, .i .u32, .i .i64, .i .i64, .i .i64, .st 4 false, .s])]⟩, [⟨some 0, [(3, 3)], ⟨117, [(3, .v (.one (.ptr 3 0))), (2, .v (.one (.i .u32))), (1, .v (.one (.i .u32))), (8, .v (.one (.s)))], [(3, .cells [.i .i64, .i .i64, .i .u32, .i .u32, .i .i64, .i .i64, .i .i64, .st 4 false, .s])]⟩⟩], []⟩
abbrev ty2_ : Type := ((List UInt8) × (Int × (Int × (Int × (Int × (Int × (Int × (Int × (Int × (Int × ((List TOption) × ((List UInt8) × Unit))))))))))))
abbrev ty3_ : Type := (Int × (Int × ((List UInt8) × (Int × (Int × (Int × (Int × (Int × (Int × (Int × ((List TOption) × ((List UInt8) × Unit))))))))))))
def tcWrite_step59_8 : ty2_ -> Tr (ty2_ ⊕ ty3_) :=
 fun (a0, a1, a2, a3, a4, a5, a6, a7, a8, a9, a10, a11, _) =>
 .grd (true) (
 .ite (!decide (Int.tmod (↑(a0.length) : Int) (4 : Int) = (0 : Int))) (
 .grd (decide (a0.length + List.length [(0 : UInt8)] <= (9223372036854775807 : Nat))) (
 .ret (Sum.inl (a0 ++ [(0 : UInt8)], (a1, (a2, (a3, (a4, (a5, (a6, (a7, (a8, (a9, (a10, (a11, ()))))))))))))))) (
 .ret (Sum.inr (a1, (a2, (a0, (a3, (a4, (a5, (a6, (a7, (a8, (a9, (a10, (a11, ())))))))))))))))
def tcWrite_loop59_8 (x : ty2_) : Option ty3_ := loopO 590008 (fun x => (tcWrite_step59_8 x).eval) 18446744073709551616 x
def tcWrite_ap : List VP1 := [.agg [.i .i64, .i .i64, .i .u32, .i .u32, .i .i64, .i .i64, .i .i64, .st 4 false, .s], .one (.i .u32), .one (.i .u32)]
def tcWrite_rp : SP := ⟨1, [(0, .tup [.one (.s), .one (.i .i64)])], []⟩
abbrev ty4_ : Type := (Int × (Int × (Int × (Int × (Int × (Int × (Int × ((List TOption) × ((List UInt8) × (Int × (Int × Unit)))))))))))
def tcWrite_tree : ty4_ -> Tr ((List UInt8) × (Int × Unit)) :=
 fun (a0, a1, a2, a3, a4, a5, a6, a7, a8, a9, a10, _) =>
 .opt ((tcWords_fn ([a0, a1, a5, a6], ()))) (fun r0 =>
 .ite (!r0.1) (
 .ret ([], (1, ()))) (
 .ite (decide (a4 < 0)) (
 .ret ([], (1, ()))) (
 .ite (decide (255 < a4)) (
 .ret ([], (1, ()))) (
 .opt ((tcOptions_fn (a7, ()))) (fun r1 =>
 .ite (!r1.2.1) (
 .ret ([], (4, ()))) (
 .ite (decide (40 < (↑(List.length r1.1) : Int))) (
 .ret ([], (2, ()))) (
 .ite (decide (65455 < (↑(a8.length) : Int))) (
 .ret ([], (2, ()))) (
 .opt ((tcWrite_loop59_8 (r1.1, (a10, (a9, (a0, (a1, (a2, (a3, (a4, (a5, (a6, (a7, (a8, ())))))))))))))) (fun r2 =>
 .opt ((tcWord_fn (r2.2.2.2.1, ()))) (fun r3 =>
 .opt ((tcWord_fn (r2.2.2.2.2.1, ()))) (fun r4 =>
 .grd (decide (List.length r3.1 + List.length r4.1 <= (9223372036854775807 : Nat))) (
 .opt ((tcLong_fn (r2.2.2.2.2.2.1, ()))) (fun r5 =>
 .grd (decide (List.length (r3.1 ++ r4.1) + List.length r5.1 <= (9223372036854775807 : Nat))) (
 .opt ((tcLong_fn (r2.2.2.2.2.2.2.1, ()))) (fun r6 =>
 .grd (decide (List.length (r3.1 ++ r4.1 ++ r5.1) + List.length r6.1 <= (9223372036854775807 : Nat))) (
 .grd (decide (0 <= wW .u8 (wW .i64 (wW .i64 ((20 : Int) + (↑(List.length r2.2.2.1) : Int)) * (4 : Int))) /\ wW .u8 (wW .i64 (wW .i64 ((20 : Int) + (↑(List.length r2.2.2.1) : Int)) * (4 : Int))) < 256)) (
 .grd (decide (0 <= wW .u8 r2.2.2.2.2.2.2.2.1 /\ wW .u8 r2.2.2.2.2.2.2.2.1 < 256)) (
 .grd (decide (List.length (r3.1 ++ r4.1 ++ r5.1 ++ r6.1) + List.length [UInt8.ofNat (Int.toNat (wW .u8 (wW .i64 (wW .i64 ((20 : Int) + (↑(List.length r2.2.2.1) : Int)) * (4 : Int))))), UInt8.ofNat (Int.toNat (wW .u8 r2.2.2.2.2.2.2.2.1))] <= (9223372036854775807 : Nat))) (
 .opt ((tcWord_fn (r2.2.2.2.2.2.2.2.2.1, ()))) (fun r7 =>
 .grd (decide (List.length (r3.1 ++ r4.1 ++ r5.1 ++ r6.1 ++ [UInt8.ofNat (Int.toNat (wW .u8 (wW .i64 (wW .i64 ((20 : Int) + (↑(List.length r2.2.2.1) : Int)) * (4 : Int))))), UInt8.ofNat (Int.toNat (wW .u8 r2.2.2.2.2.2.2.2.1))]) + List.length r7.1 <= (9223372036854775807 : Nat))) (
 .opt ((tcWord_fn (r2.2.2.2.2.2.2.2.2.2.1, ()))) (fun r8 =>
 .grd (decide (List.length r8.1 + List.length r2.2.2.1 <= (9223372036854775807 : Nat))) (
 .grd (decide (List.length (r8.1 ++ r2.2.2.1) + List.length r2.2.2.2.2.2.2.2.2.2.2.2.1 <= (9223372036854775807 : Nat))) (
 .opt ((dgUnder_fn (r2.2.1, (r2.1, (6, (wW .i64 (wW .i64 ((20 : Int) + (↑(List.length r2.2.2.1) : Int)) + (↑(List.length r2.2.2.2.2.2.2.2.2.2.2.2.1) : Int)), ())))))) (fun r9 =>
 .grd (decide (List.length r9.1 + List.length (r3.1 ++ r4.1 ++ r5.1 ++ r6.1 ++ [UInt8.ofNat (Int.toNat (wW .u8 (wW .i64 (wW .i64 ((20 : Int) + (↑(List.length r2.2.2.1) : Int)) * (4 : Int))))), UInt8.ofNat (Int.toNat (wW .u8 r2.2.2.2.2.2.2.2.1))] ++ r7.1) <= (9223372036854775807 : Nat))) (
 .grd (decide (List.length (r9.1 ++ (r3.1 ++ r4.1 ++ r5.1 ++ r6.1 ++ [UInt8.ofNat (Int.toNat (wW .u8 (wW .i64 (wW .i64 ((20 : Int) + (↑(List.length r2.2.2.1) : Int)) * (4 : Int))))), UInt8.ofNat (Int.toNat (wW .u8 r2.2.2.2.2.2.2.2.1))] ++ r7.1)) + List.length (r8.1 ++ r2.2.2.1 ++ r2.2.2.2.2.2.2.2.2.2.2.2.1) <= (9223372036854775807 : Nat))) (
 .opt ((sumOf_fn (r9.1 ++ (r3.1 ++ r4.1 ++ r5.1 ++ r6.1 ++ [UInt8.ofNat (Int.toNat (wW .u8 (wW .i64 (wW .i64 ((20 : Int) + (↑(List.length r2.2.2.1) : Int)) * (4 : Int))))), UInt8.ofNat (Int.toNat (wW .u8 r2.2.2.2.2.2.2.2.1))] ++ r7.1) ++ (r8.1 ++ r2.2.2.1 ++ r2.2.2.2.2.2.2.2.2.2.2.2.1), ()))) (fun r10 =>
 .opt ((tcWord_fn (wW .i64 r10.1, ()))) (fun r11 =>
 .grd (decide (List.length (r3.1 ++ r4.1 ++ r5.1 ++ r6.1 ++ [UInt8.ofNat (Int.toNat (wW .u8 (wW .i64 (wW .i64 ((20 : Int) + (↑(List.length r2.2.2.1) : Int)) * (4 : Int))))), UInt8.ofNat (Int.toNat (wW .u8 r2.2.2.2.2.2.2.2.1))] ++ r7.1) + List.length r11.1 <= (9223372036854775807 : Nat))) (
 .grd (decide (List.length (r3.1 ++ r4.1 ++ r5.1 ++ r6.1 ++ [UInt8.ofNat (Int.toNat (wW .u8 (wW .i64 (wW .i64 ((20 : Int) + (↑(List.length r2.2.2.1) : Int)) * (4 : Int))))), UInt8.ofNat (Int.toNat (wW .u8 r2.2.2.2.2.2.2.2.1))] ++ r7.1 ++ r11.1) + List.length (r8.1 ++ r2.2.2.1 ++ r2.2.2.2.2.2.2.2.2.2.2.2.1) <= (9223372036854775807 : Nat))) (
 .ret (r3.1 ++ r4.1 ++ r5.1 ++ r6.1 ++ [UInt8.ofNat (Int.toNat (wW .u8 (wW .i64 (wW .i64 ((20 : Int) + (↑(List.length r2.2.2.1) : Int)) * (4 : Int))))), UInt8.ofNat (Int.toNat (wW .u8 r2.2.2.2.2.2.2.2.1))] ++ r7.1 ++ r11.1 ++ (r8.1 ++ r2.2.2.1 ++ r2.2.2.2.2.2.2.2.2.2.2.2.1), (0, ())))))))))))))))))))))))))))))))))
noncomputable def gm21 : List (PF Go.Proofs.Tryz.prog) := gm20 ++ [FS.pf tcOptions]
theorem tcWrite_eq (x : ty4_) : fnTr Tryz.prog cod gm21 [(59, tcWrite_L59_8)] 30 59 tcWrite_ap tcWrite_rp x = tcWrite_tree x := by kernel_rfl
def tcWrite_fn (x : ty4_) : Option ((List UInt8) × (Int × Unit)) := (tcWrite_tree x).eval
def tcWrite : FS Tryz.prog := ⟨59, tcWrite_ap, tcWrite_rp, tcWrite_fn, fun x r h => fnTr_sound (cod := cod) (Γ := gm21) (Λs := [(59, tcWrite_L59_8)]) (n := 30) ((congrArg Tr.eval (tcWrite_eq x)).trans h)⟩
def tcParse_L64_10 : LS := ⟨10, [(4, 4)], ⟨66, [(57, .v (.one (.i .i64))), (0, .v (.one (.s))), (4, .v (.one (.own 4))), (56, .v (.one (.i .i64)))], [(4, .row 130 4 true true)]⟩, [⟨none, [], ⟨66, [(2, .v (.one (.nil))), (3, .v (.one (.b)))], []⟩⟩, ⟨some 2, [(4, 4)], ⟨66, [(4, .v (.one (.own 4)))], [(4, .row 130 4 true true)]⟩⟩], []⟩
def tcParse_step64_10 : (Int × ((List UInt8) × (Int × ((List TOption) × Unit)))) -> Tr ((Int × ((List UInt8) × (Int × ((List TOption) × Unit)))) ⊕ ((Bool × Unit) ⊕ ((List TOption) × Unit))) :=
 fun (a0, a1, a2, a3, _) =>
 .ite (decide (a0 < a2)) (
 .grd (decide (0 <= a0 /\ a0 < (↑(a1.length) : Int))) (
 .ite (!decide ((↑(UInt8.toNat (List.getD a1 (Int.toNat a0) (0 : UInt8))) : Int) = 0)) (
 .ret (Sum.inr (Sum.inl (false, ())))) (
 .grd (decide (a3.length = a3.length)) (
 .ret (Sum.inl (wW .i64 (a0 + 1), (a1, (a2, (a3, ()))))))))) (
 .grd (decide (a3.length = a3.length)) (
 .ret (Sum.inr (Sum.inr (a3, ())))))
def tcParse_loop64_10 (x : (Int × ((List UInt8) × (Int × ((List TOption) × Unit))))) : Option ((Bool × Unit) ⊕ ((List TOption) × Unit)) := loopO 640010 (fun x => (tcParse_step64_10 x).eval) 18446744073709551616 x
def tcParse_L64_2 : LS := ⟨2, [(4, 4)], ⟨66, [(0, .v (.one (.s))), (4, .v (.one (.own 4)))], [(4, .row 130 4 true true)]⟩, [⟨none, [], ⟨66, [(2, .v (.one (.nil))), (3, .v (.one (.b)))], []⟩⟩, ⟨some 0, [(4, 4)], ⟨66, [(0, .v (.one (.s))), (4, .v (.one (.own 4)))], [(4, .row 130 4 true true)]⟩⟩], [(4, 130, 4)]⟩
def tcParse_step64_2 : ((List UInt8) × ((List TOption) × Unit)) -> Tr (((List UInt8) × ((List TOption) × Unit)) ⊕ ((Bool × Unit) ⊕ ((List UInt8) × ((List TOption) × Unit)))) :=
 fun (a0, a1, _) =>
 .ite (!decide (a0 = [])) (
 .grd (decide ((0 : Int) <= (0 : Int) /\ 0 < (↑(a0.length) : Int))) (
 .ite (!decide ((↑(UInt8.toNat (List.getD a0 (0 : Nat) (0 : UInt8))) : Int) = 0)) (
 .grd (decide ((0 : Int) <= (0 : Int) /\ 0 < (↑(a0.length) : Int))) (
 .ite (decide ((↑(UInt8.toNat (List.getD a0 (0 : Nat) (0 : UInt8))) : Int) = 1)) (
 .grd (decide ((a1.length + List.length [TOption.mk (1 : Int) []]) * (24 : Nat) <= (140737488355328 : Nat) /\ a1.length + List.length [TOption.mk (1 : Int) []] <= (9223372036854775807 : Nat))) (
 .grd (decide ((0 : Int) <= (1 : Int) /\ 1 <= (↑(a0.length) : Int) /\ (↑(a0.length) : Int) <= (↑(a0.length) : Int))) (
 .grd (decide (List.length (a1 ++ [TOption.mk (1 : Int) []]) = List.length (a1 ++ [TOption.mk (1 : Int) []]))) (
 .ret (Sum.inl (List.drop (1 : Nat) (List.take (Int.toNat (↑(a0.length) : Int)) a0), (a1 ++ [TOption.mk (1 : Int) []], ()))))))) (
 .ite (decide ((↑(a0.length) : Int) < 2)) (
 .ret (Sum.inr (Sum.inl (false, ())))) (
 .grd (decide ((0 : Int) <= (1 : Int) /\ 1 < (↑(a0.length) : Int))) (
 .ite (decide ((↑(UInt8.toNat (List.getD a0 (1 : Nat) (0 : UInt8))) : Int) < 2)) (
 .ret (Sum.inr (Sum.inl (false, ())))) (
 .grd (decide ((0 : Int) <= (1 : Int) /\ 1 < (↑(a0.length) : Int))) (
 .ite (decide ((↑(a0.length) : Int) < wW .i64 (↑(UInt8.toNat (List.getD a0 (1 : Nat) (0 : UInt8))) : Int))) (
 .ret (Sum.inr (Sum.inl (false, ())))) (
 .grd (decide ((0 : Int) <= (1 : Int) /\ 1 < (↑(a0.length) : Int))) (
 .grd (decide ((0 : Int) <= (0 : Int) /\ 0 < (↑(a0.length) : Int))) (
 .grd (decide ((0 : Int) <= (2 : Int) /\ 2 <= wW .i64 (↑(UInt8.toNat (List.getD a0 (1 : Nat) (0 : UInt8))) : Int) /\ wW .i64 (↑(UInt8.toNat (List.getD a0 (1 : Nat) (0 : UInt8))) : Int) <= (↑(a0.length) : Int))) (
 .grd (decide ((a1.length + List.length [TOption.mk (wW .i64 (↑(UInt8.toNat (List.getD a0 (0 : Nat) (0 : UInt8))) : Int)) (List.drop (2 : Nat) (List.take (Int.toNat (wW .i64 (↑(UInt8.toNat (List.getD a0 (1 : Nat) (0 : UInt8))) : Int))) a0))]) * (24 : Nat) <= (140737488355328 : Nat) /\ a1.length + List.length [TOption.mk (wW .i64 (↑(UInt8.toNat (List.getD a0 (0 : Nat) (0 : UInt8))) : Int)) (List.drop (2 : Nat) (List.take (Int.toNat (wW .i64 (↑(UInt8.toNat (List.getD a0 (1 : Nat) (0 : UInt8))) : Int))) a0))] <= (9223372036854775807 : Nat))) (
 .grd (decide (0 <= wW .i64 (↑(UInt8.toNat (List.getD a0 (1 : Nat) (0 : UInt8))) : Int) /\ wW .i64 (↑(UInt8.toNat (List.getD a0 (1 : Nat) (0 : UInt8))) : Int) <= (↑(a0.length) : Int) /\ (↑(a0.length) : Int) <= (↑(a0.length) : Int))) (
 .grd (decide (List.length (a1 ++ [TOption.mk (wW .i64 (↑(UInt8.toNat (List.getD a0 (0 : Nat) (0 : UInt8))) : Int)) (List.drop (2 : Nat) (List.take (Int.toNat (wW .i64 (↑(UInt8.toNat (List.getD a0 (1 : Nat) (0 : UInt8))) : Int))) a0))]) = List.length (a1 ++ [TOption.mk (wW .i64 (↑(UInt8.toNat (List.getD a0 (0 : Nat) (0 : UInt8))) : Int)) (List.drop (2 : Nat) (List.take (Int.toNat (wW .i64 (↑(UInt8.toNat (List.getD a0 (1 : Nat) (0 : UInt8))) : Int))) a0))]))) (
 .ret (Sum.inl (List.drop (Int.toNat (wW .i64 (↑(UInt8.toNat (List.getD a0 (1 : Nat) (0 : UInt8))) : Int))) (List.take (Int.toNat (↑(a0.length) : Int)) a0), (a1 ++ [TOption.mk (wW .i64 (↑(UInt8.toNat (List.getD a0 (0 : Nat) (0 : UInt8))) : Int)) (List.drop (2 : Nat) (List.take (Int.toNat (wW .i64 (↑(UInt8.toNat (List.getD a0 (1 : Nat) (0 : UInt8))) : Int))) a0))], ()))))))))))))))))) (
 .grd (decide (a1.length = a1.length)) (
 .ret (Sum.inr (Sum.inr (a0, (a1, ())))))))) (
 .grd (decide (a1.length = a1.length)) (
 .ret (Sum.inr (Sum.inr (a0, (a1, ()))))))
def tcParse_loop64_2 (x : ((List UInt8) × ((List TOption) × Unit))) : Option ((Bool × Unit) ⊕ ((List UInt8) × ((List TOption) × Unit))) := loopO 640002 (fun x => (tcParse_step64_2 x).eval) 18446744073709551616 x
def tcParse_ap : List VP1 := [.one (.s)]
def tcParse_rp : SP := ⟨1, [(0, .tup [.one (.st 4 true), .one (.b)])], []⟩
def tcParse_tree : ((List UInt8) × Unit) -> Tr ((List TOption) × (Bool × Unit)) :=
 fun (a0, _) =>
 .grd (true) (
 .opt ((tcParse_loop64_2 (a0, ([], ())))) (fun r0 =>
 .sum (r0) (fun r1 =>
 .ret ([], (r1.1, ()))) (fun r1 =>
 .grd (decide (List.length r1.2.fst = List.length r1.2.1)) (
 .opt ((tcParse_loop64_10 (0, (r1.1, ((↑(List.length r1.1) : Int), (r1.2.1, ())))))) (fun r2 =>
 .sum (r2) (fun r3 =>
 .ret ([], (r3.1, ()))) (fun r3 =>
 .ret (r3.1, (true, ()))))))))
noncomputable def gm22 : List (PF Go.Proofs.Tryz.prog) := gm21 ++ [FS.pf tcWrite]
theorem tcParse_eq (x : ((List UInt8) × Unit)) : fnTr Tryz.prog cod gm22 [(64, tcParse_L64_10), (64, tcParse_L64_2)] 30 64 tcParse_ap tcParse_rp x = tcParse_tree x := by kernel_rfl
def tcParse_fn (x : ((List UInt8) × Unit)) : Option ((List TOption) × (Bool × Unit)) := (tcParse_tree x).eval
def tcParse : FS Tryz.prog := ⟨64, tcParse_ap, tcParse_rp, tcParse_fn, fun x r h => fnTr_sound (cod := cod) (Γ := gm22) (Λs := [(64, tcParse_L64_10), (64, tcParse_L64_2)]) (n := 30) ((congrArg Tr.eval (tcParse_eq x)).trans h)⟩
def tcRead_ap : List VP1 := [.one (.s), .one (.i .u32), .one (.i .u32)]
def tcRead_rp : SP := ⟨1, [(0, .tup [.agg [.i .i64, .i .i64, .i .u32, .i .u32, .i .i64, .i .i64, .i .i64, .st 4 true, .s], .one (.i .i64)])], []⟩
abbrev ty5_ : Type := (Int × (Int × (Int × (Int × (Int × (Int × (Int × ((List TOption) × ((List UInt8) × (Int × Unit))))))))))
def tcRead_tree : ((List UInt8) × (Int × (Int × Unit))) -> Tr ty5_ :=
 fun (a0, a1, a2, _) =>
 .ite (decide ((↑(a0.length) : Int) < 20)) (
 .ret (0, (0, (0, (0, (0, (0, (0, ([], ([], (3, ()))))))))))) (
 .grd (decide ((0 : Int) <= (12 : Int) /\ 12 < (↑(a0.length) : Int))) (
 .grd (true) (
 .ite (decide ((↑(a0.length) : Int) < wW .i64 (wW .i64 (Int.tdiv (wW .i64 (↑(UInt8.toNat (List.getD a0 (12 : Nat) (0 : UInt8))) : Int)) (16 : Int)) * (4 : Int)))) (
 .ret (0, (0, (0, (0, (0, (0, (0, ([], ([], (3, ()))))))))))) (
 .ite (decide (wW .i64 (wW .i64 (Int.tdiv (wW .i64 (↑(UInt8.toNat (List.getD a0 (12 : Nat) (0 : UInt8))) : Int)) (16 : Int)) * (4 : Int)) < 20)) (
 .ret (0, (0, (0, (0, (0, (0, (0, ([], ([], (4, ()))))))))))) (
 .grd (decide ((0 : Int) <= (12 : Int) /\ 12 < (↑(a0.length) : Int))) (
 .grd (true) (
 .ite (!decide (Int.tmod (↑(UInt8.toNat (List.getD a0 (12 : Nat) (0 : UInt8))) : Int) (16 : Int) = (0 : Int))) (
 .ret (0, (0, (0, (0, (0, (0, (0, ([], ([], (4, ()))))))))))) (
 .ite (decide (65455 < wW .i64 ((↑(a0.length) : Int) - wW .i64 (wW .i64 (Int.tdiv (wW .i64 (↑(UInt8.toNat (List.getD a0 (12 : Nat) (0 : UInt8))) : Int)) (16 : Int)) * (4 : Int))))) (
 .ret (0, (0, (0, (0, (0, (0, (0, ([], ([], (2, ()))))))))))) (
 .grd (decide ((0 : Int) <= (20 : Int) /\ 20 <= wW .i64 (wW .i64 (Int.tdiv (wW .i64 (↑(UInt8.toNat (List.getD a0 (12 : Nat) (0 : UInt8))) : Int)) (16 : Int)) * (4 : Int)) /\ wW .i64 (wW .i64 (Int.tdiv (wW .i64 (↑(UInt8.toNat (List.getD a0 (12 : Nat) (0 : UInt8))) : Int)) (16 : Int)) * (4 : Int)) <= (↑(a0.length) : Int))) (
 .opt ((tcParse_fn (List.drop (20 : Nat) (List.take (Int.toNat (wW .i64 (wW .i64 (Int.tdiv (wW .i64 (↑(UInt8.toNat (List.getD a0 (12 : Nat) (0 : UInt8))) : Int)) (16 : Int)) * (4 : Int)))) a0), ()))) (fun r0 =>
 .ite (!r0.2.1) (
 .ret (0, (0, (0, (0, (0, (0, (0, ([], ([], (4, ()))))))))))) (
 .opt ((dgUnder_fn (a1, (a2, (6, ((↑(a0.length) : Int), ())))))) (fun r1 =>
 .grd (decide (List.length r1.1 + a0.length <= (9223372036854775807 : Nat))) (
 .opt ((sumRight_fn (r1.1 ++ a0, ()))) (fun r2 =>
 .ite (!r2.1) (
 .ret (0, (0, (0, (0, (0, (0, (0, ([], ([], (5, ()))))))))))) (
 .opt ((tcWordAt_fn (a0, (0, ())))) (fun r3 =>
 .opt ((tcWordAt_fn (a0, (2, ())))) (fun r4 =>
 .opt ((tcLongAt_fn (a0, (4, ())))) (fun r5 =>
 .opt ((tcLongAt_fn (a0, (8, ())))) (fun r6 =>
 .grd (decide ((0 : Int) <= (13 : Int) /\ 13 < (↑(a0.length) : Int))) (
 .opt ((tcWordAt_fn (a0, (14, ())))) (fun r7 =>
 .opt ((tcWordAt_fn (a0, (18, ())))) (fun r8 =>
 .grd (decide (0 <= wW .i64 (wW .i64 (Int.tdiv (wW .i64 (↑(UInt8.toNat (List.getD a0 (12 : Nat) (0 : UInt8))) : Int)) (16 : Int)) * (4 : Int)) /\ wW .i64 (wW .i64 (Int.tdiv (wW .i64 (↑(UInt8.toNat (List.getD a0 (12 : Nat) (0 : UInt8))) : Int)) (16 : Int)) * (4 : Int)) <= (↑(a0.length) : Int) /\ (↑(a0.length) : Int) <= (↑(a0.length) : Int))) (
 .ret (r3.1, (r4.1, (r5.1, (r6.1, (wW .i64 (↑(UInt8.toNat (List.getD a0 (13 : Nat) (0 : UInt8))) : Int), (r7.1, (r8.1, (r0.1, (List.drop (Int.toNat (wW .i64 (wW .i64 (Int.tdiv (wW .i64 (↑(UInt8.toNat (List.getD a0 (12 : Nat) (0 : UInt8))) : Int)) (16 : Int)) * (4 : Int)))) (List.take (Int.toNat (↑(a0.length) : Int)) a0), (0, ()))))))))))))))))))))))))))))))))))
noncomputable def gm23 : List (PF Go.Proofs.Tryz.prog) := gm22 ++ [FS.pf tcParse]
theorem tcRead_eq (x : ((List UInt8) × (Int × (Int × Unit)))) : fnTr Tryz.prog cod gm23 [] 30 31 tcRead_ap tcRead_rp x = tcRead_tree x := by kernel_rfl
def tcRead_fn (x : ((List UInt8) × (Int × (Int × Unit)))) : Option ty5_ := (tcRead_tree x).eval
def tcRead : FS Tryz.prog := ⟨31, tcRead_ap, tcRead_rp, tcRead_fn, fun x r h => fnTr_sound (cod := cod) (Γ := gm23) (Λs := []) (n := 30) ((congrArg Tr.eval (tcRead_eq x)).trans h)⟩
def swEnds_ap : List VP1 := [.one (.s)]
def swEnds_rp : SP := ⟨1, [(0, .tup [.agg [.i .u32, .i .u32, .i .i64, .i .i64, .i .i64], .one (.i .i64)])], []⟩
def swEnds_tree : ((List UInt8) × Unit) -> Tr (Int × (Int × (Int × (Int × (Int × (Int × Unit)))))) :=
 fun (a0, _) =>
 .opt ((ipRead_fn (a0, ()))) (fun r0 =>
 .ite (!decide (r0.2.2.2.2.2.2.2.2.2.2.2.1 = 0)) (
 .ret (0, (0, (0, (0, (0, (r0.2.2.2.2.2.2.2.2.2.2.2.1, ()))))))) (
 .ite (!decide (r0.2.2.2.2.2.2.1 = 6)) (
 .ite (!decide (r0.2.2.2.2.2.2.1 = 17)) (
 .ret (0, (0, (0, (0, (0, (7, ()))))))) (
 .ite (r0.2.2.2.1) (
 .ret (0, (0, (0, (0, (0, (9, ()))))))) (
 .ite (!decide (r0.2.2.2.2.1 = 0)) (
 .ret (0, (0, (0, (0, (0, (9, ()))))))) (
 .ite (decide (r0.2.2.2.2.2.2.1 = 6)) (
 .opt ((tcRead_fn (r0.2.2.2.2.2.2.2.2.2.2.1, (r0.2.2.2.2.2.2.2.1, (r0.2.2.2.2.2.2.2.2.1, ()))))) (fun r1 =>
 .ite (!decide (r1.2.2.2.2.2.2.2.2.2.1 = 0)) (
 .ret (0, (0, (0, (0, (0, (r1.2.2.2.2.2.2.2.2.2.1, ()))))))) (
 .ret (r0.2.2.2.2.2.2.2.1, (r0.2.2.2.2.2.2.2.2.1, (r0.2.2.2.2.2.2.1, (r1.1, (r1.2.1, (0, ()))))))))) (
 .opt ((dgRead_fn (r0.2.2.2.2.2.2.2.2.2.2.1, (r0.2.2.2.2.2.2.2.1, (r0.2.2.2.2.2.2.2.2.1, ()))))) (fun r1 =>
 .ite (!decide (r1.2.2.2.1 = 0)) (
 .ret (0, (0, (0, (0, (0, (r1.2.2.2.1, ()))))))) (
 .ret (r0.2.2.2.2.2.2.2.1, (r0.2.2.2.2.2.2.2.2.1, (r0.2.2.2.2.2.2.1, (r1.1, (r1.2.1, (0, ()))))))))))))) (
 .ite (r0.2.2.2.1) (
 .ret (0, (0, (0, (0, (0, (9, ()))))))) (
 .ite (!decide (r0.2.2.2.2.1 = 0)) (
 .ret (0, (0, (0, (0, (0, (9, ()))))))) (
 .ite (decide (r0.2.2.2.2.2.2.1 = 6)) (
 .opt ((tcRead_fn (r0.2.2.2.2.2.2.2.2.2.2.1, (r0.2.2.2.2.2.2.2.1, (r0.2.2.2.2.2.2.2.2.1, ()))))) (fun r1 =>
 .ite (!decide (r1.2.2.2.2.2.2.2.2.2.1 = 0)) (
 .ret (0, (0, (0, (0, (0, (r1.2.2.2.2.2.2.2.2.2.1, ()))))))) (
 .ret (r0.2.2.2.2.2.2.2.1, (r0.2.2.2.2.2.2.2.2.1, (r0.2.2.2.2.2.2.1, (r1.1, (r1.2.1, (0, ()))))))))) (
 .opt ((dgRead_fn (r0.2.2.2.2.2.2.2.2.2.2.1, (r0.2.2.2.2.2.2.2.1, (r0.2.2.2.2.2.2.2.2.1, ()))))) (fun r1 =>
 .ite (!decide (r1.2.2.2.1 = 0)) (
 .ret (0, (0, (0, (0, (0, (r1.2.2.2.1, ()))))))) (
 .ret (r0.2.2.2.2.2.2.2.1, (r0.2.2.2.2.2.2.2.2.1, (r0.2.2.2.2.2.2.1, (r1.1, (r1.2.1, (0, ()))))))))))))))
noncomputable def gm24 : List (PF Go.Proofs.Tryz.prog) := gm15 ++ [FS.pf ipHop, FS.pf tcWord, FS.pf tcLong, FS.pf tcWordAt, FS.pf tcLongAt, FS.pf tcWords, FS.pf tcOptions, FS.pf tcWrite, FS.pf tcParse, FS.pf tcRead]
theorem swEnds_eq (x : ((List UInt8) × Unit)) : fnTr Tryz.prog cod gm24 [] 30 10 swEnds_ap swEnds_rp x = swEnds_tree x := by kernel_rfl
def swEnds_fn (x : ((List UInt8) × Unit)) : Option (Int × (Int × (Int × (Int × (Int × (Int × Unit)))))) := (swEnds_tree x).eval
def swEnds : FS Tryz.prog := ⟨10, swEnds_ap, swEnds_rp, swEnds_fn, fun x r h => fnTr_sound (cod := cod) (Γ := gm24) (Λs := []) (n := 30) ((congrArg Tr.eval (swEnds_eq x)).trans h)⟩
def swWord_ap : List VP1 := [.one (.st 2 false), .one (.i .i64)]
def swWord_rp : SP := ⟨1, [(0, .v (.one (.i .u16)))], []⟩
def swWord_tree : ((List UInt8) × (Int × Unit)) -> Tr (Int × Unit) :=
 fun (a0, a1, _) =>
 .grd (decide (0 <= a1)) (
 .opt (a0[Int.toNat a1]?) (fun r0 =>
 .grd (true) (
 .grd (decide (0 <= wW .i64 (a1 + 1))) (
 .opt (a0[Int.toNat (wW .i64 (a1 + 1))]?) (fun r1 =>
 .ret (bits .or .u16 (wW .u16 (wW .u16 (↑(UInt8.toNat r0) : Int) * (2 : Int) ^ (8 : Nat))) (wW .u16 (↑(UInt8.toNat r1) : Int)), ()))))))
noncomputable def gm25 : List (PF Go.Proofs.Tryz.prog) := gm24 ++ [FS.pf swEnds]
theorem swWord_eq (x : ((List UInt8) × (Int × Unit))) : fnTr Tryz.prog cod gm25 [] 30 124 swWord_ap swWord_rp x = swWord_tree x := by kernel_rfl
def swWord_fn (x : ((List UInt8) × (Int × Unit))) : Option (Int × Unit) := (swWord_tree x).eval
def swWord : FS Tryz.prog := ⟨124, swWord_ap, swWord_rp, swWord_fn, fun x r h => fnTr_sound (cod := cod) (Γ := gm25) (Λs := []) (n := 30) ((congrArg Tr.eval (swWord_eq x)).trans h)⟩
def swPut_ap : SP := ⟨18, [(0, .v (.one (.pre 1500100 1))), (1, .v (.one (.i .i64))), (2, .v (.one (.i .u16)))], [(1500100, .row 5 2 false true)]⟩
def swPut_rp : SP := ⟨1, [(0, .tup [])], [(1500100, .row 5 2 false true)]⟩
def swPut_tree : (Nat × (Int × (Int × ((List UInt8) × Unit)))) -> Tr ((List UInt8) × Unit) :=
 fun (a0, a1, a2, a3, _) =>
 .grd (true) (
 .grd (decide (0 <= a1 /\ a1 < (↑a0 : Int))) (
 .opt (a3[(0 : Nat) + Int.toNat a1]?) (fun r0 =>
 .grd (decide (0 <= wW .u8 (Int.fdiv a2 ((2 : Int) ^ (8 : Nat))) /\ wW .u8 (Int.fdiv a2 ((2 : Int) ^ (8 : Nat))) < 256)) (
 .grd (decide (0 <= wW .i64 (a1 + 1) /\ wW .i64 (a1 + 1) < (↑a0 : Int))) (
 .opt ((List.set a3 ((0 : Nat) + Int.toNat a1) (UInt8.ofNat (Int.toNat (wW .u8 (Int.fdiv a2 ((2 : Int) ^ (8 : Nat)))))))[(0 : Nat) + Int.toNat (wW .i64 (a1 + 1))]?) (fun r1 =>
 .grd (decide (0 <= wW .u8 a2 /\ wW .u8 a2 < 256)) (
 .ret (List.set (List.set a3 ((0 : Nat) + Int.toNat a1) (UInt8.ofNat (Int.toNat (wW .u8 (Int.fdiv a2 ((2 : Int) ^ (8 : Nat))))))) ((0 : Nat) + Int.toNat (wW .i64 (a1 + 1))) (UInt8.ofNat (Int.toNat (wW .u8 a2))), ()))))))))
noncomputable def gm26 : List (PF Go.Proofs.Tryz.prog) := gm25 ++ [FS.pf swWord]
theorem swPut_eq (x : (Nat × (Int × (Int × ((List UInt8) × Unit))))) : gsTr Tryz.prog cod gm26 [] 30 126 swPut_ap swPut_rp x = swPut_tree x := by kernel_rfl
def swPut_fn (x : (Nat × (Int × (Int × ((List UInt8) × Unit))))) : Option ((List UInt8) × Unit) := (swPut_tree x).eval
def swPut : GS Tryz.prog := ⟨126, [2, 0, 0], swPut_ap, swPut_rp, swPut_fn, fun x r h ys m g he hg => gs_sound (cod := cod) (Γ := gm26) (Λs := []) (n := 30) ((congrArg Tr.eval (swPut_eq x)).trans h) he hg⟩
def swChange_L125_3 : LS := ⟨3, [(1500100, 1500100)], ⟨34, [(20, .v (.one (.i .i64))), (2, .v (.one (.i .u16))), (8, .v (.one (.i .u16))), (0, .v (.one (.pre 1500100 1))), (18, .v (.one (.st 0 false))), (19, .v (.one (.i .i64)))], [(1500100, .row 5 2 false true)]⟩, [⟨some 0, [(1500100, 1500100)], ⟨34, [], [(1500100, .row 5 2 false true)]⟩⟩], []⟩
def swChange_step125_3 : (Int × (Int × (Int × (Nat × ((List Int) × (Int × ((List UInt8) × Unit))))))) -> Tr ((Int × (Int × (Int × (Nat × ((List Int) × (Int × ((List UInt8) × Unit))))))) ⊕ ((List UInt8) × Unit)) :=
 fun (a0, a1, a2, a3, a4, a5, a6, _) =>
 .ite (decide (a0 < a5)) (
 .grd (decide (0 <= a0)) (
 .opt (a4[Int.toNat a0]?) (fun r0 =>
 .opt ((swWord_fn (List.take a3 a6, (r0, ())))) (fun r1 =>
 .opt ((sumFix_fn (r1.1, (a2, (a1, ()))))) (fun r2 =>
 .opt ((swPut_fn (a3, (r0, (r2.1, (a6, ())))))) (fun r3 =>
 .ret (Sum.inl (wW .i64 (a0 + 1), (a1, (a2, (a3, (a4, (a5, (r3.1, ())))))))))))))) (
 .ret (Sum.inr (a6, ())))
def swChange_loop125_3 (x : (Int × (Int × (Int × (Nat × ((List Int) × (Int × ((List UInt8) × Unit)))))))) : Option ((List UInt8) × Unit) := loopO 1250003 (fun x => (swChange_step125_3 x).eval) 18446744073709551616 x
def swChange_ap : SP := ⟨34, [(0, .v (.one (.pre 1500100 1))), (1, .v (.one (.i .i64))), (2, .v (.one (.i .u16))), (3, .v (.one (.st 0 false)))], [(1500100, .row 5 2 false true)]⟩
def swChange_rp : SP := ⟨1, [(0, .tup [])], [(1500100, .row 5 2 false true)]⟩
def swChange_tree : (Nat × (Int × (Int × ((List Int) × ((List UInt8) × Unit))))) -> Tr ((List UInt8) × Unit) :=
 fun (a0, a1, a2, a3, a4, _) =>
 .opt ((swWord_fn (List.take a0 a4, (a1, ())))) (fun r0 =>
 .opt ((swPut_fn (a0, (a1, (a2, (a4, ())))))) (fun r1 =>
 .opt ((swChange_loop125_3 (0, (a2, (r0.1, (a0, (a3, ((↑(a3.length) : Int), (r1.1, ()))))))))) (fun r2 =>
 .ret (r2.1, ()))))
noncomputable def gm27 : List (PF Go.Proofs.Tryz.prog) := gm26 ++ [GS.pf swPut]
theorem swChange_eq (x : (Nat × (Int × (Int × ((List Int) × ((List UInt8) × Unit)))))) : gsTr Tryz.prog cod gm27 [(125, swChange_L125_3)] 30 125 swChange_ap swChange_rp x = swChange_tree x := by kernel_rfl
def swChange_fn (x : (Nat × (Int × (Int × ((List Int) × ((List UInt8) × Unit)))))) : Option ((List UInt8) × Unit) := (swChange_tree x).eval
def swChange : GS Tryz.prog := ⟨125, [2, 0, 0, 0], swChange_ap, swChange_rp, swChange_fn, fun x r h ys m g he hg => gs_sound (cod := cod) (Γ := gm27) (Λs := [(125, swChange_L125_3)]) (n := 30) ((congrArg Tr.eval (swChange_eq x)).trans h) he hg⟩
def swSwapped_ap : List VP1 := [.one (.s), .one (.i .u32), .one (.i .i64), .one (.i .i64), .one (.i .i64)]
def swSwapped_rp : SP := ⟨1, [(0, .tup [.one (.s), .one (.i .i64)])], []⟩
def swSwapped_tree : ((List UInt8) × (Int × (Int × (Int × (Int × Unit))))) -> Tr ((List UInt8) × (Int × Unit)) :=
 fun (a0, a1, a2, a3, a4, _) =>
 .opt ((swEnds_fn (a0, ()))) (fun r0 =>
 .ite (!decide (r0.2.2.2.2.2.1 = 0)) (
 .ret ([], (r0.2.2.2.2.2.1, ()))) (
 .ite (decide (a2 < 0)) (
 .ret ([], (1, ()))) (
 .ite (decide (65535 < a2)) (
 .ret ([], (1, ()))) (
 .grd (decide (a0.length <= (9223372036854775807 : Nat))) (
 .opt ((swWord_fn (a0, (2, ())))) (fun r1 =>
 .grd (decide (0 <= r1.1 /\ r1.1 <= (↑(a0.length) : Int))) (
 .grd (decide ((0 : Int) <= (0 : Int) /\ 0 < (↑(Int.toNat r1.1) : Int))) (
 .opt (a0[(0 : Nat) + (0 : Nat)]?) (fun r2 =>
 .ite (decide (r0.2.2.1 = 17)) (
 .ite (decide (r0.2.2.1 = 17)) (
 .opt ((swWord_fn (List.take (Int.toNat r1.1) a0, (wW .i64 (wW .i64 (wW .i64 (bits .and .u8 (↑(UInt8.toNat r2) : Int) (15 : Int)) * (4 : Int)) + 6), ())))) (fun r3 =>
 .ite (decide (r3.1 = 0)) (
 .grd (true) (
 .grd (true) (
 .opt ((swChange_fn (Int.toNat r1.1, (a3, (wW .u16 (Int.fdiv a1 ((2 : Int) ^ (16 : Nat))), (List.take (1 : Nat) [10, wW .i64 (wW .i64 (wW .i64 (bits .and .u8 (↑(UInt8.toNat r2) : Int) (15 : Int)) * (4 : Int)) + 6)], (a0, ()))))))) (fun r4 =>
 .opt ((swChange_fn (Int.toNat r1.1, (wW .i64 (a3 + 2), (wW .u16 a1, (List.take (1 : Nat) [10, wW .i64 (wW .i64 (wW .i64 (bits .and .u8 (↑(UInt8.toNat r2) : Int) (15 : Int)) * (4 : Int)) + 6)], (r4.1, ()))))))) (fun r5 =>
 .grd (decide ((0 : Int) <= (1 : Int) /\ 1 <= (↑(1 : Nat) : Int) /\ (↑(1 : Nat) : Int) <= (↑(List.length [10, wW .i64 (wW .i64 (wW .i64 (bits .and .u8 (↑(UInt8.toNat r2) : Int) (15 : Int)) * (4 : Int)) + 6)]) : Int))) (
 .opt ((swChange_fn (Int.toNat r1.1, (wW .i64 (wW .i64 (wW .i64 (bits .and .u8 (↑(UInt8.toNat r2) : Int) (15 : Int)) * (4 : Int)) + a4), (wW .u16 a2, (List.take (0 : Nat) (List.drop (1 : Nat) [10, wW .i64 (wW .i64 (wW .i64 (bits .and .u8 (↑(UInt8.toNat r2) : Int) (15 : Int)) * (4 : Int)) + 6)]), (r5.1, ()))))))) (fun r6 =>
 .ite (decide (r0.2.2.1 = 17)) (
 .ite (!decide (r3.1 = 0)) (
 .opt ((swWord_fn (List.take (Int.toNat r1.1) r6.1, (wW .i64 (wW .i64 (wW .i64 (bits .and .u8 (↑(UInt8.toNat r2) : Int) (15 : Int)) * (4 : Int)) + 6), ())))) (fun r7 =>
 .ite (decide (r7.1 = 0)) (
 .opt ((swPut_fn (Int.toNat r1.1, (wW .i64 (wW .i64 (wW .i64 (bits .and .u8 (↑(UInt8.toNat r2) : Int) (15 : Int)) * (4 : Int)) + 6), (65535, (r6.1, ())))))) (fun r8 =>
 .ret (List.take (Int.toNat r1.1) r8.1, (0, ())))) (
 .ret (List.take (Int.toNat r1.1) r6.1, (0, ()))))) (
 .ret (List.take (Int.toNat r1.1) r6.1, (0, ())))) (
 .ret (List.take (Int.toNat r1.1) r6.1, (0, ())))))))))) (
 .grd (true) (
 .opt ((swChange_fn (Int.toNat r1.1, (a3, (wW .u16 (Int.fdiv a1 ((2 : Int) ^ (16 : Nat))), ([10, wW .i64 (wW .i64 (wW .i64 (bits .and .u8 (↑(UInt8.toNat r2) : Int) (15 : Int)) * (4 : Int)) + 6)], (a0, ()))))))) (fun r4 =>
 .opt ((swChange_fn (Int.toNat r1.1, (wW .i64 (a3 + 2), (wW .u16 a1, ([10, wW .i64 (wW .i64 (wW .i64 (bits .and .u8 (↑(UInt8.toNat r2) : Int) (15 : Int)) * (4 : Int)) + 6)], (r4.1, ()))))))) (fun r5 =>
 .grd (true) (
 .opt ((swChange_fn (Int.toNat r1.1, (wW .i64 (wW .i64 (wW .i64 (bits .and .u8 (↑(UInt8.toNat r2) : Int) (15 : Int)) * (4 : Int)) + a4), (wW .u16 a2, (List.take (1 : Nat) (List.drop (1 : Nat) [10, wW .i64 (wW .i64 (wW .i64 (bits .and .u8 (↑(UInt8.toNat r2) : Int) (15 : Int)) * (4 : Int)) + 6)]), (r5.1, ()))))))) (fun r6 =>
 .ite (decide (r0.2.2.1 = 17)) (
 .ite (!decide (r3.1 = 0)) (
 .opt ((swWord_fn (List.take (Int.toNat r1.1) r6.1, (wW .i64 (wW .i64 (wW .i64 (bits .and .u8 (↑(UInt8.toNat r2) : Int) (15 : Int)) * (4 : Int)) + 6), ())))) (fun r7 =>
 .ite (decide (r7.1 = 0)) (
 .opt ((swPut_fn (Int.toNat r1.1, (wW .i64 (wW .i64 (wW .i64 (bits .and .u8 (↑(UInt8.toNat r2) : Int) (15 : Int)) * (4 : Int)) + 6), (65535, (r6.1, ())))))) (fun r8 =>
 .ret (List.take (Int.toNat r1.1) r8.1, (0, ())))) (
 .ret (List.take (Int.toNat r1.1) r6.1, (0, ()))))) (
 .ret (List.take (Int.toNat r1.1) r6.1, (0, ())))) (
 .ret (List.take (Int.toNat r1.1) r6.1, (0, ()))))))))))) (
 .grd (true) (
 .opt ((swChange_fn (Int.toNat r1.1, (a3, (wW .u16 (Int.fdiv a1 ((2 : Int) ^ (16 : Nat))), ([10, wW .i64 (wW .i64 (wW .i64 (bits .and .u8 (↑(UInt8.toNat r2) : Int) (15 : Int)) * (4 : Int)) + 6)], (a0, ()))))))) (fun r3 =>
 .opt ((swChange_fn (Int.toNat r1.1, (wW .i64 (a3 + 2), (wW .u16 a1, ([10, wW .i64 (wW .i64 (wW .i64 (bits .and .u8 (↑(UInt8.toNat r2) : Int) (15 : Int)) * (4 : Int)) + 6)], (r3.1, ()))))))) (fun r4 =>
 .grd (true) (
 .opt ((swChange_fn (Int.toNat r1.1, (wW .i64 (wW .i64 (wW .i64 (bits .and .u8 (↑(UInt8.toNat r2) : Int) (15 : Int)) * (4 : Int)) + a4), (wW .u16 a2, (List.take (1 : Nat) (List.drop (1 : Nat) [10, wW .i64 (wW .i64 (wW .i64 (bits .and .u8 (↑(UInt8.toNat r2) : Int) (15 : Int)) * (4 : Int)) + 6)]), (r4.1, ()))))))) (fun r5 =>
 .ite (decide (r0.2.2.1 = 17)) (
 .ite (true) (
 .opt ((swWord_fn (List.take (Int.toNat r1.1) r5.1, (wW .i64 (wW .i64 (wW .i64 (bits .and .u8 (↑(UInt8.toNat r2) : Int) (15 : Int)) * (4 : Int)) + 6), ())))) (fun r6 =>
 .ite (decide (r6.1 = 0)) (
 .opt ((swPut_fn (Int.toNat r1.1, (wW .i64 (wW .i64 (wW .i64 (bits .and .u8 (↑(UInt8.toNat r2) : Int) (15 : Int)) * (4 : Int)) + 6), (65535, (r5.1, ())))))) (fun r7 =>
 .ret (List.take (Int.toNat r1.1) r7.1, (0, ())))) (
 .ret (List.take (Int.toNat r1.1) r5.1, (0, ()))))) (
 .ret (List.take (Int.toNat r1.1) r5.1, (0, ())))) (
 .ret (List.take (Int.toNat r1.1) r5.1, (0, ())))))))))) (
 .ite (decide (r0.2.2.1 = 17)) (
 .opt ((swWord_fn (List.take (Int.toNat r1.1) a0, (wW .i64 (wW .i64 (wW .i64 (bits .and .u8 (↑(UInt8.toNat r2) : Int) (15 : Int)) * (4 : Int)) + 16), ())))) (fun r3 =>
 .ite (decide (r3.1 = 0)) (
 .grd (true) (
 .grd (true) (
 .opt ((swChange_fn (Int.toNat r1.1, (a3, (wW .u16 (Int.fdiv a1 ((2 : Int) ^ (16 : Nat))), (List.take (1 : Nat) [10, wW .i64 (wW .i64 (wW .i64 (bits .and .u8 (↑(UInt8.toNat r2) : Int) (15 : Int)) * (4 : Int)) + 16)], (a0, ()))))))) (fun r4 =>
 .opt ((swChange_fn (Int.toNat r1.1, (wW .i64 (a3 + 2), (wW .u16 a1, (List.take (1 : Nat) [10, wW .i64 (wW .i64 (wW .i64 (bits .and .u8 (↑(UInt8.toNat r2) : Int) (15 : Int)) * (4 : Int)) + 16)], (r4.1, ()))))))) (fun r5 =>
 .grd (decide ((0 : Int) <= (1 : Int) /\ 1 <= (↑(1 : Nat) : Int) /\ (↑(1 : Nat) : Int) <= (↑(List.length [10, wW .i64 (wW .i64 (wW .i64 (bits .and .u8 (↑(UInt8.toNat r2) : Int) (15 : Int)) * (4 : Int)) + 16)]) : Int))) (
 .opt ((swChange_fn (Int.toNat r1.1, (wW .i64 (wW .i64 (wW .i64 (bits .and .u8 (↑(UInt8.toNat r2) : Int) (15 : Int)) * (4 : Int)) + a4), (wW .u16 a2, (List.take (0 : Nat) (List.drop (1 : Nat) [10, wW .i64 (wW .i64 (wW .i64 (bits .and .u8 (↑(UInt8.toNat r2) : Int) (15 : Int)) * (4 : Int)) + 16)]), (r5.1, ()))))))) (fun r6 =>
 .ite (decide (r0.2.2.1 = 17)) (
 .ite (!decide (r3.1 = 0)) (
 .opt ((swWord_fn (List.take (Int.toNat r1.1) r6.1, (wW .i64 (wW .i64 (wW .i64 (bits .and .u8 (↑(UInt8.toNat r2) : Int) (15 : Int)) * (4 : Int)) + 16), ())))) (fun r7 =>
 .ite (decide (r7.1 = 0)) (
 .opt ((swPut_fn (Int.toNat r1.1, (wW .i64 (wW .i64 (wW .i64 (bits .and .u8 (↑(UInt8.toNat r2) : Int) (15 : Int)) * (4 : Int)) + 16), (65535, (r6.1, ())))))) (fun r8 =>
 .ret (List.take (Int.toNat r1.1) r8.1, (0, ())))) (
 .ret (List.take (Int.toNat r1.1) r6.1, (0, ()))))) (
 .ret (List.take (Int.toNat r1.1) r6.1, (0, ())))) (
 .ret (List.take (Int.toNat r1.1) r6.1, (0, ())))))))))) (
 .grd (true) (
 .opt ((swChange_fn (Int.toNat r1.1, (a3, (wW .u16 (Int.fdiv a1 ((2 : Int) ^ (16 : Nat))), ([10, wW .i64 (wW .i64 (wW .i64 (bits .and .u8 (↑(UInt8.toNat r2) : Int) (15 : Int)) * (4 : Int)) + 16)], (a0, ()))))))) (fun r4 =>
 .opt ((swChange_fn (Int.toNat r1.1, (wW .i64 (a3 + 2), (wW .u16 a1, ([10, wW .i64 (wW .i64 (wW .i64 (bits .and .u8 (↑(UInt8.toNat r2) : Int) (15 : Int)) * (4 : Int)) + 16)], (r4.1, ()))))))) (fun r5 =>
 .grd (true) (
 .opt ((swChange_fn (Int.toNat r1.1, (wW .i64 (wW .i64 (wW .i64 (bits .and .u8 (↑(UInt8.toNat r2) : Int) (15 : Int)) * (4 : Int)) + a4), (wW .u16 a2, (List.take (1 : Nat) (List.drop (1 : Nat) [10, wW .i64 (wW .i64 (wW .i64 (bits .and .u8 (↑(UInt8.toNat r2) : Int) (15 : Int)) * (4 : Int)) + 16)]), (r5.1, ()))))))) (fun r6 =>
 .ite (decide (r0.2.2.1 = 17)) (
 .ite (!decide (r3.1 = 0)) (
 .opt ((swWord_fn (List.take (Int.toNat r1.1) r6.1, (wW .i64 (wW .i64 (wW .i64 (bits .and .u8 (↑(UInt8.toNat r2) : Int) (15 : Int)) * (4 : Int)) + 16), ())))) (fun r7 =>
 .ite (decide (r7.1 = 0)) (
 .opt ((swPut_fn (Int.toNat r1.1, (wW .i64 (wW .i64 (wW .i64 (bits .and .u8 (↑(UInt8.toNat r2) : Int) (15 : Int)) * (4 : Int)) + 16), (65535, (r6.1, ())))))) (fun r8 =>
 .ret (List.take (Int.toNat r1.1) r8.1, (0, ())))) (
 .ret (List.take (Int.toNat r1.1) r6.1, (0, ()))))) (
 .ret (List.take (Int.toNat r1.1) r6.1, (0, ())))) (
 .ret (List.take (Int.toNat r1.1) r6.1, (0, ()))))))))))) (
 .grd (true) (
 .opt ((swChange_fn (Int.toNat r1.1, (a3, (wW .u16 (Int.fdiv a1 ((2 : Int) ^ (16 : Nat))), ([10, wW .i64 (wW .i64 (wW .i64 (bits .and .u8 (↑(UInt8.toNat r2) : Int) (15 : Int)) * (4 : Int)) + 16)], (a0, ()))))))) (fun r3 =>
 .opt ((swChange_fn (Int.toNat r1.1, (wW .i64 (a3 + 2), (wW .u16 a1, ([10, wW .i64 (wW .i64 (wW .i64 (bits .and .u8 (↑(UInt8.toNat r2) : Int) (15 : Int)) * (4 : Int)) + 16)], (r3.1, ()))))))) (fun r4 =>
 .grd (true) (
 .opt ((swChange_fn (Int.toNat r1.1, (wW .i64 (wW .i64 (wW .i64 (bits .and .u8 (↑(UInt8.toNat r2) : Int) (15 : Int)) * (4 : Int)) + a4), (wW .u16 a2, (List.take (1 : Nat) (List.drop (1 : Nat) [10, wW .i64 (wW .i64 (wW .i64 (bits .and .u8 (↑(UInt8.toNat r2) : Int) (15 : Int)) * (4 : Int)) + 16)]), (r4.1, ()))))))) (fun r5 =>
 .ite (decide (r0.2.2.1 = 17)) (
 .ite (true) (
 .opt ((swWord_fn (List.take (Int.toNat r1.1) r5.1, (wW .i64 (wW .i64 (wW .i64 (bits .and .u8 (↑(UInt8.toNat r2) : Int) (15 : Int)) * (4 : Int)) + 16), ())))) (fun r6 =>
 .ite (decide (r6.1 = 0)) (
 .opt ((swPut_fn (Int.toNat r1.1, (wW .i64 (wW .i64 (wW .i64 (bits .and .u8 (↑(UInt8.toNat r2) : Int) (15 : Int)) * (4 : Int)) + 16), (65535, (r5.1, ())))))) (fun r7 =>
 .ret (List.take (Int.toNat r1.1) r7.1, (0, ())))) (
 .ret (List.take (Int.toNat r1.1) r5.1, (0, ()))))) (
 .ret (List.take (Int.toNat r1.1) r5.1, (0, ())))) (
 .ret (List.take (Int.toNat r1.1) r5.1, (0, ())))))))))))))))))))
noncomputable def gm28 : List (PF Go.Proofs.Tryz.prog) := gm27 ++ [GS.pf swChange]
theorem swSwapped_eq (x : ((List UInt8) × (Int × (Int × (Int × (Int × Unit)))))) : fnTr Tryz.prog cod gm28 [] 30 82 swSwapped_ap swSwapped_rp x = swSwapped_tree x := by kernel_rfl
def swSwapped_fn (x : ((List UInt8) × (Int × (Int × (Int × (Int × Unit)))))) : Option ((List UInt8) × (Int × Unit)) := (swSwapped_tree x).eval
def swSwapped : FS Tryz.prog := ⟨82, swSwapped_ap, swSwapped_rp, swSwapped_fn, fun x r h => fnTr_sound (cod := cod) (Γ := gm28) (Λs := []) (n := 30) ((congrArg Tr.eval (swSwapped_eq x)).trans h)⟩
def swFrom_ap : List VP1 := [.one (.s), .one (.i .u32), .one (.i .i64)]
def swFrom_rp : SP := ⟨1, [(0, .tup [.one (.s), .one (.i .i64)])], []⟩
def swFrom_tree : ((List UInt8) × (Int × (Int × Unit))) -> Tr ((List UInt8) × (Int × Unit)) :=
 fun (a0, a1, a2, _) =>
 .opt ((swSwapped_fn (a0, (a1, (a2, (12, (0, ()))))))) (fun r0 =>
 .ret (r0.1, (r0.2.1, ())))
noncomputable def gm29 : List (PF Go.Proofs.Tryz.prog) := gm28 ++ [FS.pf swSwapped]
theorem swFrom_eq (x : ((List UInt8) × (Int × (Int × Unit)))) : fnTr Tryz.prog cod gm29 [] 30 38 swFrom_ap swFrom_rp x = swFrom_tree x := by kernel_rfl
def swFrom_fn (x : ((List UInt8) × (Int × (Int × Unit)))) : Option ((List UInt8) × (Int × Unit)) := (swFrom_tree x).eval
def swFrom : FS Tryz.prog := ⟨38, swFrom_ap, swFrom_rp, swFrom_fn, fun x r h => fnTr_sound (cod := cod) (Γ := gm29) (Λs := []) (n := 30) ((congrArg Tr.eval (swFrom_eq x)).trans h)⟩
def swTo_ap : List VP1 := [.one (.s), .one (.i .u32), .one (.i .i64)]
def swTo_rp : SP := ⟨1, [(0, .tup [.one (.s), .one (.i .i64)])], []⟩
def swTo_tree : ((List UInt8) × (Int × (Int × Unit))) -> Tr ((List UInt8) × (Int × Unit)) :=
 fun (a0, a1, a2, _) =>
 .opt ((swSwapped_fn (a0, (a1, (a2, (16, (2, ()))))))) (fun r0 =>
 .ret (r0.1, (r0.2.1, ())))
noncomputable def gm30 : List (PF Go.Proofs.Tryz.prog) := gm29 ++ [FS.pf swFrom]
theorem swTo_eq (x : ((List UInt8) × (Int × (Int × Unit)))) : fnTr Tryz.prog cod gm30 [] 30 142 swTo_ap swTo_rp x = swTo_tree x := by kernel_rfl
def swTo_fn (x : ((List UInt8) × (Int × (Int × Unit)))) : Option ((List UInt8) × (Int × Unit)) := (swTo_tree x).eval
def swTo : FS Tryz.prog := ⟨142, swTo_ap, swTo_rp, swTo_fn, fun x r h => fnTr_sound (cod := cod) (Γ := gm30) (Λs := []) (n := 30) ((congrArg Tr.eval (swTo_eq x)).trans h)⟩
theorem clTalk_h1 (xs : List (τ 16)) : (bodyTr Go.Proofs.Tryz.prog cod 14 [.one (.nn (.st 16 xs))]).eval = (cloneRes 64 16 48 xs).eval := by kernel_rfl
theorem clTalk_h2 : (bodyTr Go.Proofs.Tryz.prog cod 14 [.one .nil]).eval = some (.one .nil, []) := by kernel_rfl
def clTalk : PF Go.Proofs.Tryz.prog := clonePF Go.Proofs.Tryz.prog cod 14 64 16 48 clTalk_h1 clTalk_h2
def delTalk_ap : SP := ⟨33, [(0, .v (.one (.own 1000100))), (1, .v (.one (.i .i64))), (2, .v (.one (.i .i64)))], [(1000100, .row 64 16 true true)]⟩
def delTalk_rp : SP := ⟨1, [(0, .v (.one (.own 1000100)))], [(1000100, .row 64 16 true true)]⟩
def delTalk_tree : (Int × (Int × ((List TTalk) × Unit))) -> Tr ((List TTalk) × Unit) :=
 fun (a0, a1, a2, _) =>
 .grd (decide (0 <= a0 /\ a0 <= a1 /\ a1 <= (↑(a2.length) : Int) /\ (↑(a2.length) : Int) <= (↑(a2.length) : Int))) (
 .ite (decide (a0 = a1)) (
 .grd (decide (a2.length = a2.length)) (
 .ret (a2, ()))) (
 .grd (decide (0 <= a0 /\ a0 <= (↑(a2.length) : Int))) (
 .grd (decide (0 <= a1 /\ a1 <= (↑(a2.length) : Int) /\ (↑(a2.length) : Int) <= (↑(a2.length) : Int))) (
 .grd (decide (Int.toNat a1 + Int.toNat ((↑(a2.length) : Int) - a1) <= a2.length)) (
 .grd (decide (Int.toNat a0 + List.length (List.take (Int.toNat ((↑(a2.length) : Int) - a1)) (List.drop (Int.toNat a1) a2)) <= a2.length)) (
 .grd (decide (0 <= (↑(Int.toNat a0 + List.length (List.take (Int.toNat ((↑(a2.length) : Int) - a1)) (List.drop (Int.toNat a1) a2))) : Int) /\ (↑(Int.toNat a0 + List.length (List.take (Int.toNat ((↑(a2.length) : Int) - a1)) (List.drop (Int.toNat a1) a2))) : Int) <= (↑(a2.length) : Int) /\ (↑(a2.length) : Int) <= (↑(List.length (List.take (Int.toNat a0) a2 ++ List.take (Int.toNat ((↑(a2.length) : Int) - a1)) (List.drop (Int.toNat a1) a2) ++ List.drop (Int.toNat a0 + List.length (List.take (Int.toNat ((↑(a2.length) : Int) - a1)) (List.drop (Int.toNat a1) a2))) a2)) : Int))) (
 .grd (decide (Int.toNat (↑(Int.toNat a0 + List.length (List.take (Int.toNat ((↑(a2.length) : Int) - a1)) (List.drop (Int.toNat a1) a2))) : Int) + Int.toNat ((↑(a2.length) : Int) - (↑(Int.toNat a0 + List.length (List.take (Int.toNat ((↑(a2.length) : Int) - a1)) (List.drop (Int.toNat a1) a2))) : Int)) <= List.length (List.take (Int.toNat a0) a2 ++ List.take (Int.toNat ((↑(a2.length) : Int) - a1)) (List.drop (Int.toNat a1) a2) ++ List.drop (Int.toNat a0 + List.length (List.take (Int.toNat ((↑(a2.length) : Int) - a1)) (List.drop (Int.toNat a1) a2))) a2))) (
 .grd (decide (Int.toNat a0 + List.length (List.take (Int.toNat ((↑(a2.length) : Int) - a1)) (List.drop (Int.toNat a1) a2)) = List.length (List.take (Int.toNat a0 + List.length (List.take (Int.toNat ((↑(a2.length) : Int) - a1)) (List.drop (Int.toNat a1) a2))) (List.take (Int.toNat (↑(Int.toNat a0 + List.length (List.take (Int.toNat ((↑(a2.length) : Int) - a1)) (List.drop (Int.toNat a1) a2))) : Int)) (List.take (Int.toNat a0) a2 ++ List.take (Int.toNat ((↑(a2.length) : Int) - a1)) (List.drop (Int.toNat a1) a2) ++ List.drop (Int.toNat a0 + List.length (List.take (Int.toNat ((↑(a2.length) : Int) - a1)) (List.drop (Int.toNat a1) a2))) a2) ++ List.replicate (Int.toNat ((↑(a2.length) : Int) - (↑(Int.toNat a0 + List.length (List.take (Int.toNat ((↑(a2.length) : Int) - a1)) (List.drop (Int.toNat a1) a2))) : Int))) (TTalk.mk (0 : Int) (0 : Int) (0 : Int) (0 : Int) (0 : Int) (0 : Int) (0 : Int)) ++ List.drop (Int.toNat (↑(Int.toNat a0 + List.length (List.take (Int.toNat ((↑(a2.length) : Int) - a1)) (List.drop (Int.toNat a1) a2))) : Int) + List.length (List.replicate (Int.toNat ((↑(a2.length) : Int) - (↑(Int.toNat a0 + List.length (List.take (Int.toNat ((↑(a2.length) : Int) - a1)) (List.drop (Int.toNat a1) a2))) : Int))) (TTalk.mk (0 : Int) (0 : Int) (0 : Int) (0 : Int) (0 : Int) (0 : Int) (0 : Int)))) (List.take (Int.toNat a0) a2 ++ List.take (Int.toNat ((↑(a2.length) : Int) - a1)) (List.drop (Int.toNat a1) a2) ++ List.drop (Int.toNat a0 + List.length (List.take (Int.toNat ((↑(a2.length) : Int) - a1)) (List.drop (Int.toNat a1) a2))) a2))))) (
 .ret (List.take (Int.toNat a0 + List.length (List.take (Int.toNat ((↑(a2.length) : Int) - a1)) (List.drop (Int.toNat a1) a2))) (List.take (Int.toNat (↑(Int.toNat a0 + List.length (List.take (Int.toNat ((↑(a2.length) : Int) - a1)) (List.drop (Int.toNat a1) a2))) : Int)) (List.take (Int.toNat a0) a2 ++ List.take (Int.toNat ((↑(a2.length) : Int) - a1)) (List.drop (Int.toNat a1) a2) ++ List.drop (Int.toNat a0 + List.length (List.take (Int.toNat ((↑(a2.length) : Int) - a1)) (List.drop (Int.toNat a1) a2))) a2) ++ List.replicate (Int.toNat ((↑(a2.length) : Int) - (↑(Int.toNat a0 + List.length (List.take (Int.toNat ((↑(a2.length) : Int) - a1)) (List.drop (Int.toNat a1) a2))) : Int))) (TTalk.mk (0 : Int) (0 : Int) (0 : Int) (0 : Int) (0 : Int) (0 : Int) (0 : Int)) ++ List.drop (Int.toNat (↑(Int.toNat a0 + List.length (List.take (Int.toNat ((↑(a2.length) : Int) - a1)) (List.drop (Int.toNat a1) a2))) : Int) + List.length (List.replicate (Int.toNat ((↑(a2.length) : Int) - (↑(Int.toNat a0 + List.length (List.take (Int.toNat ((↑(a2.length) : Int) - a1)) (List.drop (Int.toNat a1) a2))) : Int))) (TTalk.mk (0 : Int) (0 : Int) (0 : Int) (0 : Int) (0 : Int) (0 : Int) (0 : Int)))) (List.take (Int.toNat a0) a2 ++ List.take (Int.toNat ((↑(a2.length) : Int) - a1)) (List.drop (Int.toNat a1) a2) ++ List.drop (Int.toNat a0 + List.length (List.take (Int.toNat ((↑(a2.length) : Int) - a1)) (List.drop (Int.toNat a1) a2))) a2)), ()))))))))))
theorem delTalk_eq (x : (Int × (Int × ((List TTalk) × Unit)))) : gsTr Tryz.prog cod [clTalk] [] 30 188 delTalk_ap delTalk_rp x = delTalk_tree x := by kernel_rfl
def delTalk_fn (x : (Int × (Int × ((List TTalk) × Unit)))) : Option ((List TTalk) × Unit) := (delTalk_tree x).eval
def delTalk : GS Tryz.prog := ⟨188, [1, 0, 0], delTalk_ap, delTalk_rp, delTalk_fn, fun x r h ys m g he hg => gs_sound (cod := cod) (Γ := [clTalk]) (Λs := []) (n := 30) ((congrArg Tr.eval (delTalk_eq x)).trans h) he hg⟩
def trTurned_ap : List VP1 := [.agg [.i .u32, .i .u32, .i .i64, .i .i64]]
def trTurned_rp : SP := ⟨1, [(0, .v (.agg [.i .u32, .i .u32, .i .i64, .i .i64]))], []⟩
def trTurned_tree : (Int × (Int × (Int × (Int × Unit)))) -> Tr (Int × (Int × (Int × (Int × Unit)))) :=
 fun (a0, a1, a2, a3, _) =>
 .ret (a1, (a0, (a3, (a2, ()))))
theorem trTurned_eq (x : (Int × (Int × (Int × (Int × Unit))))) : fnTr Tryz.prog cod [clTalk, GS.pf delTalk] [] 30 160 trTurned_ap trTurned_rp x = trTurned_tree x := by kernel_rfl
def trTurned_fn (x : (Int × (Int × (Int × (Int × Unit))))) : Option (Int × (Int × (Int × (Int × Unit)))) := (trTurned_tree x).eval
def trTurned : FS Tryz.prog := ⟨160, trTurned_ap, trTurned_rp, trTurned_fn, fun x r h => fnTr_sound (cod := cod) (Γ := [clTalk, GS.pf delTalk]) (Λs := []) (n := 30) ((congrArg Tr.eval (trTurned_eq x)).trans h)⟩
def trPort_ap : List VP1 := [.one (.i .i64)]
def trPort_rp : SP := ⟨1, [(0, .v (.one (.b)))], []⟩
def trPort_tree : (Int × Unit) -> Tr (Bool × Unit) :=
 fun (a0, _) =>
 .ite (decide (0 <= a0)) (
 .ret (decide (a0 <= 65535), ())) (
 .ret (false, ()))
theorem trPort_eq (x : (Int × Unit)) : fnTr Tryz.prog cod [clTalk, GS.pf delTalk, FS.pf trTurned] [] 30 182 trPort_ap trPort_rp x = trPort_tree x := by kernel_rfl
def trPort_fn (x : (Int × Unit)) : Option (Bool × Unit) := (trPort_tree x).eval
def trPort : FS Tryz.prog := ⟨182, trPort_ap, trPort_rp, trPort_fn, fun x r h => fnTr_sound (cod := cod) (Γ := [clTalk, GS.pf delTalk, FS.pf trTurned]) (Λs := []) (n := 30) ((congrArg Tr.eval (trPort_eq x)).trans h)⟩
def trRoad_ap : List VP1 := [.agg [.i .u32, .i .u32, .i .i64, .i .i64]]
def trRoad_rp : SP := ⟨1, [(0, .v (.one (.b)))], []⟩
def trRoad_tree : (Int × (Int × (Int × (Int × Unit)))) -> Tr (Bool × Unit) :=
 fun (a0, a1, a2, a3, _) =>
 .opt ((trPort_fn (a2, ()))) (fun r0 =>
 .ite (r0.1) (
 .opt ((trPort_fn (a3, ()))) (fun r1 =>
 .ite (r1.1) (
 .opt ((trTurned_fn (a0, (a1, (a2, (a3, ())))))) (fun r2 =>
 .ret (!(decide (a0 = r2.1) && (decide (a1 = r2.2.1) && (decide (a2 = r2.2.2.1) && (decide (a3 = r2.2.2.2.1) && true)))), ()))) (
 .ret (false, ())))) (
 .ret (false, ())))
theorem trRoad_eq (x : (Int × (Int × (Int × (Int × Unit))))) : fnTr Tryz.prog cod [clTalk, GS.pf delTalk, FS.pf trTurned, FS.pf trPort] [] 30 157 trRoad_ap trRoad_rp x = trRoad_tree x := by kernel_rfl
def trRoad_fn (x : (Int × (Int × (Int × (Int × Unit))))) : Option (Bool × Unit) := (trRoad_tree x).eval
def trRoad : FS Tryz.prog := ⟨157, trRoad_ap, trRoad_rp, trRoad_fn, fun x r h => fnTr_sound (cod := cod) (Γ := [clTalk, GS.pf delTalk, FS.pf trTurned, FS.pf trPort]) (Λs := []) (n := 30) ((congrArg Tr.eval (trRoad_eq x)).trans h)⟩
def trForm_ap : List VP1 := [.agg [.i .u32, .i .u32, .i .i64, .i .i64, .i .i64, .i .i64, .i .i64]]
def trForm_rp : SP := ⟨1, [(0, .v (.one (.b)))], []⟩
def trForm_tree : (Int × (Int × (Int × (Int × (Int × (Int × (Int × Unit))))))) -> Tr (Bool × Unit) :=
 fun (a0, a1, a2, a3, a4, a5, a6, _) =>
 .opt ((trRoad_fn (a0, (a1, (a2, (a3, ())))))) (fun r0 =>
 .ite (!r0.1) (
 .ret (false, ())) (
 .ite (decide (a6 < 0)) (
 .ret (false, ())) (
 .ite (decide (1099511627776 < a6)) (
 .ret (false, ())) (
 .ite (decide (a4 = 1)) (
 .ret (decide (a5 = 0), ())) (
 .ite (decide (a4 = 2)) (
 .ret (decide (a5 = 0), ())) (
 .ite (decide (a4 = 3)) (
 .ite (decide (0 <= a5)) (
 .ret (decide (a5 <= 2), ())) (
 .ret (false, ()))) (
 .ite (decide (a4 = 4)) (
 .ret (decide (a5 = 3), ())) (
 .ret (false, ())))))))))
noncomputable def gm31 : List (PF Go.Proofs.Tryz.prog) := [clTalk, GS.pf delTalk, FS.pf trTurned, FS.pf trPort, FS.pf trRoad]
theorem trForm_eq (x : (Int × (Int × (Int × (Int × (Int × (Int × (Int × Unit)))))))) : fnTr Tryz.prog cod gm31 [] 30 127 trForm_ap trForm_rp x = trForm_tree x := by kernel_rfl
def trForm_fn (x : (Int × (Int × (Int × (Int × (Int × (Int × (Int × Unit)))))))) : Option (Bool × Unit) := (trForm_tree x).eval
def trForm : FS Tryz.prog := ⟨127, trForm_ap, trForm_rp, trForm_fn, fun x r h => fnTr_sound (cod := cod) (Γ := gm31) (Λs := []) (n := 30) ((congrArg Tr.eval (trForm_eq x)).trans h)⟩
def trPlace_L158_2 : LS := ⟨2, [(1000200, 1000200)], ⟨19, [(8, .v (.one (.i .i64))), (0, .v (.one (.st 16 false))), (1, .v (.one (.clp 159 [(1000200, 0)]))), (7, .v (.one (.i .i64)))], [(1000200, .cells [.i .u32, .i .u32, .i .i64, .i .i64])]⟩, [⟨none, [(1000200, 1000200)], ⟨19, [(4, .v (.one (.i .i64)))], [(1000200, .cells [.i .u32, .i .u32, .i .i64, .i .i64])]⟩⟩, ⟨some 0, [(1000200, 1000200)], ⟨19, [], [(1000200, .cells [.i .u32, .i .u32, .i .i64, .i .i64])]⟩⟩], []⟩
def trPlace_step158_2 : (Int × ((List TTalk) × (Int × (Int × (Int × (Int × (Int × Unit))))))) -> Tr ((Int × ((List TTalk) × (Int × (Int × (Int × (Int × (Int × Unit))))))) ⊕ ((Int × (Int × (Int × (Int × (Int × Unit))))) ⊕ (Int × (Int × (Int × (Int × Unit)))))) :=
 fun (a0, a1, a2, a3, a4, a5, a6, _) =>
 .ite (decide (a0 < a2)) (
 .grd (decide (0 <= a0)) (
 .opt (a1[Int.toNat a0]?) (fun r0 =>
 .ite (decide (r0.from' = a3) && (decide (r0.to = a4) && (decide (r0.fromPort = a5) && (decide (r0.toPort = a6) && true)))) (
 .ite (true) (
 .ret (Sum.inr (Sum.inl (a0, (a3, (a4, (a5, (a6, ())))))))) (
 .ret (Sum.inl (wW .i64 (a0 + 1), (a1, (a2, (a3, (a4, (a5, (a6, ())))))))))) (
 .opt ((trTurned_fn (a3, (a4, (a5, (a6, ())))))) (fun r1 =>
 .ite (decide (r0.from' = r1.1) && (decide (r0.to = r1.2.1) && (decide (r0.fromPort = r1.2.2.1) && (decide (r0.toPort = r1.2.2.2.1) && true)))) (
 .ret (Sum.inr (Sum.inl (a0, (a3, (a4, (a5, (a6, ())))))))) (
 .ret (Sum.inl (wW .i64 (a0 + 1), (a1, (a2, (a3, (a4, (a5, (a6, ())))))))))))))) (
 .ret (Sum.inr (Sum.inr (a3, (a4, (a5, (a6, ())))))))
def trPlace_loop158_2 (x : (Int × ((List TTalk) × (Int × (Int × (Int × (Int × (Int × Unit)))))))) : Option ((Int × (Int × (Int × (Int × (Int × Unit))))) ⊕ (Int × (Int × (Int × (Int × Unit))))) := loopO 1580002 (fun x => (trPlace_step158_2 x).eval) 18446744073709551616 x
def trPlace_ap : List VP1 := [.one (.st 16 false), .agg [.i .u32, .i .u32, .i .i64, .i .i64]]
def trPlace_rp : SP := ⟨1, [(0, .v (.one (.i .i64)))], []⟩
def trPlace_tree : ((List TTalk) × (Int × (Int × (Int × (Int × Unit))))) -> Tr (Int × Unit) :=
 fun (a0, a1, a2, a3, a4, _) =>
 .opt ((trPlace_loop158_2 (0, (a0, ((↑(a0.length) : Int), (a1, (a2, (a3, (a4, ()))))))))) (fun r0 =>
 .sum (r0) (fun r1 =>
 .ret (r1.1, ())) (fun r1 =>
 .ret ((-1 : Int), ())))
noncomputable def gm32 : List (PF Go.Proofs.Tryz.prog) := gm31 ++ [FS.pf trForm]
theorem trPlace_eq (x : ((List TTalk) × (Int × (Int × (Int × (Int × Unit)))))) : fnTr Tryz.prog cod gm32 [(158, trPlace_L158_2)] 30 128 trPlace_ap trPlace_rp x = trPlace_tree x := by kernel_rfl
def trPlace_fn (x : ((List TTalk) × (Int × (Int × (Int × (Int × Unit)))))) : Option (Int × Unit) := (trPlace_tree x).eval
def trPlace : FS Tryz.prog := ⟨128, trPlace_ap, trPlace_rp, trPlace_fn, fun x r h => fnTr_sound (cod := cod) (Γ := gm32) (Λs := [(158, trPlace_L158_2)]) (n := 30) ((congrArg Tr.eval (trPlace_eq x)).trans h)⟩
def trCheck_L83_4 : LS := ⟨4, [], ⟨42, [(10, .v (.one (.i .i64))), (0, .v (.one (.st 16 false))), (8, .v (.one (.st 16 false))), (9, .v (.one (.i .i64)))], []⟩, [⟨none, [], ⟨42, [(2, .v (.one (.i .i64)))], []⟩⟩, ⟨some 0, [], ⟨42, [], []⟩⟩], []⟩
def trCheck_step83_4 : (Int × ((List TTalk) × ((List TTalk) × (Int × Unit)))) -> Tr ((Int × ((List TTalk) × ((List TTalk) × (Int × Unit)))) ⊕ ((Int × Unit) ⊕ Unit)) :=
 fun (a0, a1, a2, a3, _) =>
 .ite (decide (a0 < a3)) (
 .grd (decide (0 <= a0)) (
 .opt (a2[Int.toNat a0]?) (fun r0 =>
 .opt ((trForm_fn (r0.from', (r0.to, (r0.fromPort, (r0.toPort, (r0.state, (r0.over, (r0.at', ()))))))))) (fun r1 =>
 .ite (!r1.1) (
 .ret (Sum.inr (Sum.inl (4, ())))) (
 .ite (decide (0 < a0)) (
 .grd (decide (0 <= wW .i64 (a0 - 1))) (
 .opt (a1[Int.toNat (wW .i64 (a0 - 1))]?) (fun r2 =>
 .ite (decide (r0.at' < r2.at')) (
 .ret (Sum.inr (Sum.inl (4, ())))) (
 .opt ((trPlace_fn (a1, (r0.from', (r0.to, (r0.fromPort, (r0.toPort, ()))))))) (fun r3 =>
 .ite (!decide (r3.1 = a0)) (
 .ret (Sum.inr (Sum.inl (4, ())))) (
 .ret (Sum.inl (wW .i64 (a0 + 1), (a1, (a2, (a3, ()))))))))))) (
 .opt ((trPlace_fn (a1, (r0.from', (r0.to, (r0.fromPort, (r0.toPort, ()))))))) (fun r2 =>
 .ite (!decide (r2.1 = a0)) (
 .ret (Sum.inr (Sum.inl (4, ())))) (
 .ret (Sum.inl (wW .i64 (a0 + 1), (a1, (a2, (a3, ()))))))))))))) (
 .ret (Sum.inr (Sum.inr ())))
def trCheck_loop83_4 (x : (Int × ((List TTalk) × ((List TTalk) × (Int × Unit))))) : Option ((Int × Unit) ⊕ Unit) := loopO 830004 (fun x => (trCheck_step83_4 x).eval) 18446744073709551616 x
def trCheck_ap : List VP1 := [.one (.st 16 false)]
def trCheck_rp : SP := ⟨1, [(0, .v (.one (.i .i64)))], []⟩
def trCheck_tree : ((List TTalk) × Unit) -> Tr (Int × Unit) :=
 fun (a0, _) =>
 .ite (decide (64 < (↑(a0.length) : Int))) (
 .ret (2, ())) (
 .opt ((trCheck_loop83_4 (0, (a0, (a0, ((↑(a0.length) : Int), ())))))) (fun r0 =>
 .sum (r0) (fun r1 =>
 .ret (r1.1, ())) (fun r1 =>
 .ret (0, ()))))
noncomputable def gm33 : List (PF Go.Proofs.Tryz.prog) := gm32 ++ [FS.pf trPlace]
theorem trCheck_eq (x : ((List TTalk) × Unit)) : fnTr Tryz.prog cod gm33 [(83, trCheck_L83_4)] 30 83 trCheck_ap trCheck_rp x = trCheck_tree x := by kernel_rfl
def trCheck_fn (x : ((List TTalk) × Unit)) : Option (Int × Unit) := (trCheck_tree x).eval
def trCheck : FS Tryz.prog := ⟨83, trCheck_ap, trCheck_rp, trCheck_fn, fun x r h => fnTr_sound (cod := cod) (Γ := gm33) (Λs := [(83, trCheck_L83_4)]) (n := 30) ((congrArg Tr.eval (trCheck_eq x)).trans h)⟩
def trOld_ap : List VP1 := [.agg [.i .u32, .i .u32, .i .i64, .i .i64, .i .i64, .i .i64, .i .i64], .one (.i .i64)]
def trOld_rp : SP := ⟨1, [(0, .v (.one (.b)))], []⟩
def trOld_tree : (Int × (Int × (Int × (Int × (Int × (Int × (Int × (Int × Unit)))))))) -> Tr (Bool × Unit) :=
 fun (a0, a1, a2, a3, a4, a5, a6, a7, _) =>
 .ite (decide (a4 = 3)) (
 .ret (decide (3000 < wW .i64 (a7 - a6)), ())) (
 .ite (decide (a4 = 4)) (
 .ret (decide (60 < wW .i64 (a7 - a6)), ())) (
 .ret (decide (30 < wW .i64 (a7 - a6)), ())))
noncomputable def gm34 : List (PF Go.Proofs.Tryz.prog) := gm33 ++ [FS.pf trCheck]
theorem trOld_eq (x : (Int × (Int × (Int × (Int × (Int × (Int × (Int × (Int × Unit))))))))) : fnTr Tryz.prog cod gm34 [] 30 183 trOld_ap trOld_rp x = trOld_tree x := by kernel_rfl
def trOld_fn (x : (Int × (Int × (Int × (Int × (Int × (Int × (Int × (Int × Unit))))))))) : Option (Bool × Unit) := (trOld_tree x).eval
def trOld : FS Tryz.prog := ⟨183, trOld_ap, trOld_rp, trOld_fn, fun x r h => fnTr_sound (cod := cod) (Γ := gm34) (Λs := []) (n := 30) ((congrArg Tr.eval (trOld_eq x)).trans h)⟩
def dfTalk_L185_5 : LS := ⟨5, [(1000100, 1000100), (1000200, 1000200)], ⟨42, [(6, .v (.one (.i .i64))), (5, .v (.one (.i .i64))), (0, .v (.one (.own 1000100))), (1, .v (.one (.clp 186 [(1000200, 0)])))], [(1000100, .row 64 16 true true), (1000200, .cells [.i .i64])]⟩, [⟨some 0, [(1000100, 1000100), (1000200, 1000200)], ⟨42, [(5, .v (.one (.i .i64))), (0, .v (.one (.own 1000100)))], [(1000100, .row 64 16 true true), (1000200, .cells [.i .i64])]⟩⟩], []⟩
def dfTalk_step185_5 : (Int × (Int × ((List TTalk) × (Int × Unit)))) -> Tr ((Int × (Int × ((List TTalk) × (Int × Unit)))) ⊕ (Int × ((List TTalk) × (Int × Unit)))) :=
 fun (a0, a1, a2, a3, _) =>
 .ite (decide (a0 < (↑(a2.length) : Int))) (
 .grd (decide (0 <= a0 /\ a0 < (↑(a2.length) : Int))) (
 .opt (a2[Int.toNat a0]?) (fun r0 =>
 .opt ((trOld_fn (r0.from', (r0.to, (r0.fromPort, (r0.toPort, (r0.state, (r0.over, (r0.at', (a3, ())))))))))) (fun r1 =>
 .ite (!r1.1) (
 .grd (decide (0 <= a1 /\ a1 < (↑(a2.length) : Int))) (
 .opt (a2[Int.toNat a1]?) (fun r2 =>
 .grd (decide (a2.length = List.length (List.set a2 (Int.toNat a1) (TTalk.mk r0.from' r0.to r0.fromPort r0.toPort r0.state r0.over r0.at')))) (
 .ret (Sum.inl (wW .i64 (a0 + 1), (wW .i64 (a1 + 1), (List.set a2 (Int.toNat a1) (TTalk.mk r0.from' r0.to r0.fromPort r0.toPort r0.state r0.over r0.at'), (a3, ()))))))))) (
 .grd (decide (a2.length = a2.length)) (
 .ret (Sum.inl (wW .i64 (a0 + 1), (a1, (a2, (a3, ()))))))))))) (
 .grd (decide (a2.length = a2.length)) (
 .ret (Sum.inr (a1, (a2, (a3, ()))))))
def dfTalk_loop185_5 (x : (Int × (Int × ((List TTalk) × (Int × Unit))))) : Option (Int × ((List TTalk) × (Int × Unit))) := loopO 1850005 (fun x => (dfTalk_step185_5 x).eval) 18446744073709551616 x
def dfTalk_L158_2 : LS := ⟨2, [(1000200, 1000200)], ⟨19, [(8, .v (.one (.i .i64))), (0, .v (.one (.st 16 false))), (1, .v (.one (.clp 186 [(1000200, 0)]))), (7, .v (.one (.i .i64)))], [(1000200, .cells [.i .i64])]⟩, [⟨none, [(1000200, 1000200)], ⟨19, [(4, .v (.one (.i .i64)))], [(1000200, .cells [.i .i64])]⟩⟩, ⟨some 0, [(1000200, 1000200)], ⟨19, [], [(1000200, .cells [.i .i64])]⟩⟩], []⟩
def dfTalk_step158_2 : (Int × ((List TTalk) × (Int × (Int × Unit)))) -> Tr ((Int × ((List TTalk) × (Int × (Int × Unit)))) ⊕ ((Int × (Int × Unit)) ⊕ (Int × Unit))) :=
 fun (a0, a1, a2, a3, _) =>
 .ite (decide (a0 < a2)) (
 .grd (decide (0 <= a0)) (
 .opt (a1[Int.toNat a0]?) (fun r0 =>
 .opt ((trOld_fn (r0.from', (r0.to, (r0.fromPort, (r0.toPort, (r0.state, (r0.over, (r0.at', (a3, ())))))))))) (fun r1 =>
 .ite (r1.1) (
 .ret (Sum.inr (Sum.inl (a0, (a3, ()))))) (
 .ret (Sum.inl (wW .i64 (a0 + 1), (a1, (a2, (a3, ())))))))))) (
 .ret (Sum.inr (Sum.inr (a3, ()))))
def dfTalk_loop158_2 (x : (Int × ((List TTalk) × (Int × (Int × Unit))))) : Option ((Int × (Int × Unit)) ⊕ (Int × Unit)) := loopO 1580002 (fun x => (dfTalk_step158_2 x).eval) 18446744073709551616 x
def dfTalk_ap : SP := ⟨42, [(0, .v (.one (.own 1000100))), (1, .v (.one (.clp 186 [(1000200, 0)])))], [(1000200, .cells [.i .i64]), (1000100, .row 64 16 true true)]⟩
def dfTalk_rp : SP := ⟨1, [(0, .v (.one (.own 1000100)))], [(1000200, .cells [.i .i64]), (1000100, .row 64 16 true true)]⟩
def dfTalk_tree : (Int × ((List TTalk) × Unit)) -> Tr (Int × ((List TTalk) × Unit)) :=
 fun (a0, a1, _) =>
 .opt ((dfTalk_loop158_2 (0, (a1, ((↑(a1.length) : Int), (a0, ())))))) (fun r0 =>
 .sum (r0) (fun r1 =>
 .ite (decide (r1.1 = (-1 : Int))) (
 .grd (decide (a1.length = a1.length)) (
 .ret (r1.2.1, (a1, ())))) (
 .grd (decide (a1.length = a1.length)) (
 .opt ((dfTalk_loop185_5 (wW .i64 (r1.1 + 1), (r1.1, (a1, (r1.2.1, ())))))) (fun r2 =>
 .grd (decide (0 <= r2.1 /\ r2.1 <= (↑(List.length r2.2.fst) : Int) /\ (↑(List.length r2.2.fst) : Int) <= (↑(List.length r2.2.fst) : Int))) (
 .grd (decide (Int.toNat r2.1 + Int.toNat ((↑(List.length r2.2.fst) : Int) - r2.1) <= List.length r2.2.1)) (
 .grd (decide (0 <= r2.1 /\ r2.1 <= (↑(List.length r2.2.fst) : Int))) (
 .grd (decide (Int.toNat r2.1 = List.length (List.take (Int.toNat r2.1) (List.take (Int.toNat r2.1) r2.2.1 ++ List.replicate (Int.toNat ((↑(List.length r2.2.fst) : Int) - r2.1)) (TTalk.mk (0 : Int) (0 : Int) (0 : Int) (0 : Int) (0 : Int) (0 : Int) (0 : Int)) ++ List.drop (Int.toNat r2.1 + List.length (List.replicate (Int.toNat ((↑(List.length r2.2.fst) : Int) - r2.1)) (TTalk.mk (0 : Int) (0 : Int) (0 : Int) (0 : Int) (0 : Int) (0 : Int) (0 : Int)))) r2.2.1)))) (
 .ret (r2.2.2.1, (List.take (Int.toNat r2.1) (List.take (Int.toNat r2.1) r2.2.1 ++ List.replicate (Int.toNat ((↑(List.length r2.2.fst) : Int) - r2.1)) (TTalk.mk (0 : Int) (0 : Int) (0 : Int) (0 : Int) (0 : Int) (0 : Int) (0 : Int)) ++ List.drop (Int.toNat r2.1 + List.length (List.replicate (Int.toNat ((↑(List.length r2.2.fst) : Int) - r2.1)) (TTalk.mk (0 : Int) (0 : Int) (0 : Int) (0 : Int) (0 : Int) (0 : Int) (0 : Int)))) r2.2.1), ())))))))))) (fun r1 =>
 .ite (true) (
 .grd (decide (a1.length = a1.length)) (
 .ret (r1.1, (a1, ())))) (
 .grd (decide (a1.length = a1.length)) (
 .opt ((dfTalk_loop185_5 (0, ((-1 : Int), (a1, (r1.1, ())))))) (fun r2 =>
 .grd (decide (0 <= r2.1 /\ r2.1 <= (↑(List.length r2.2.fst) : Int) /\ (↑(List.length r2.2.fst) : Int) <= (↑(List.length r2.2.fst) : Int))) (
 .grd (decide (Int.toNat r2.1 + Int.toNat ((↑(List.length r2.2.fst) : Int) - r2.1) <= List.length r2.2.1)) (
 .grd (decide (0 <= r2.1 /\ r2.1 <= (↑(List.length r2.2.fst) : Int))) (
 .grd (decide (Int.toNat r2.1 = List.length (List.take (Int.toNat r2.1) (List.take (Int.toNat r2.1) r2.2.1 ++ List.replicate (Int.toNat ((↑(List.length r2.2.fst) : Int) - r2.1)) (TTalk.mk (0 : Int) (0 : Int) (0 : Int) (0 : Int) (0 : Int) (0 : Int) (0 : Int)) ++ List.drop (Int.toNat r2.1 + List.length (List.replicate (Int.toNat ((↑(List.length r2.2.fst) : Int) - r2.1)) (TTalk.mk (0 : Int) (0 : Int) (0 : Int) (0 : Int) (0 : Int) (0 : Int) (0 : Int)))) r2.2.1)))) (
 .ret (r2.2.2.1, (List.take (Int.toNat r2.1) (List.take (Int.toNat r2.1) r2.2.1 ++ List.replicate (Int.toNat ((↑(List.length r2.2.fst) : Int) - r2.1)) (TTalk.mk (0 : Int) (0 : Int) (0 : Int) (0 : Int) (0 : Int) (0 : Int) (0 : Int)) ++ List.drop (Int.toNat r2.1 + List.length (List.replicate (Int.toNat ((↑(List.length r2.2.fst) : Int) - r2.1)) (TTalk.mk (0 : Int) (0 : Int) (0 : Int) (0 : Int) (0 : Int) (0 : Int) (0 : Int)))) r2.2.1), ())))))))))))
noncomputable def gm35 : List (PF Go.Proofs.Tryz.prog) := gm34 ++ [FS.pf trOld]
theorem dfTalk_eq (x : (Int × ((List TTalk) × Unit))) : gsTr Tryz.prog cod gm35 [(185, dfTalk_L185_5), (158, dfTalk_L158_2)] 30 185 dfTalk_ap dfTalk_rp x = dfTalk_tree x := by kernel_rfl
def dfTalk_fn (x : (Int × ((List TTalk) × Unit))) : Option (Int × ((List TTalk) × Unit)) := (dfTalk_tree x).eval
def dfTalk : GS Tryz.prog := ⟨185, [1, 0], dfTalk_ap, dfTalk_rp, dfTalk_fn, fun x r h ys m g he hg => gs_sound (cod := cod) (Γ := gm35) (Λs := [(185, dfTalk_L185_5), (158, dfTalk_L158_2)]) (n := 30) ((congrArg Tr.eval (dfTalk_eq x)).trans h) he hg⟩
def trOpen_ap : SP := ⟨52, [(0, .v (.one (.ptr 1000000 0))), (1, .v (.agg [.b, .b, .b, .b, .b]))], [(1000000, .cells [.i .u32, .i .u32, .i .i64, .i .i64, .i .i64, .i .i64, .i .i64])]⟩
def trOpen_rp : SP := ⟨1, [(0, .v (.one (.b)))], [(1000000, .cells [.i .u32, .i .u32, .i .i64, .i .i64, .i .i64, .i .i64, .i .i64])]⟩
abbrev ty6_ : Type := (Bool × (Bool × (Bool × (Bool × (Bool × (Int × (Int × (Int × (Int × (Int × (Int × (Int × Unit))))))))))))
def trOpen_tree : ty6_ -> Tr (Bool × (Int × (Int × (Int × (Int × (Int × (Int × (Int × Unit)))))))) :=
 fun (a0, a1, a2, a3, a4, a5, a6, a7, a8, a9, a10, a11, _) =>
 .ite (!a1) (
 .ret (false, (a5, (a6, (a7, (a8, (a9, (a10, (a11, ()))))))))) (
 .ite (a0) (
 .ret (false, (a5, (a6, (a7, (a8, (a9, (a10, (a11, ()))))))))) (
 .ite (a2) (
 .ite (a4) (
 .ite (decide (bits BinOp.or IntKind.i64 a10 (1 : Int) = (3 : Int))) (
 .ret (true, (a5, (a6, (a7, (a8, (4, (bits BinOp.or IntKind.i64 a10 1, (a11, ()))))))))) (
 .ret (true, (a5, (a6, (a7, (a8, (if false = true then if 3 < a9 then (3 : Int) else a9 else if (3 : Int) > a9 then (3 : Int) else a9, (bits BinOp.or IntKind.i64 a10 1, (a11, ())))))))))) (
 .ite (a2) (
 .ite (decide (bits BinOp.or IntKind.i64 a10 (2 : Int) = (3 : Int))) (
 .ret (true, (a5, (a6, (a7, (a8, (4, (bits BinOp.or IntKind.i64 a10 2, (a11, ()))))))))) (
 .ret (true, (a5, (a6, (a7, (a8, (if false = true then if 3 < a9 then (3 : Int) else a9 else if (3 : Int) > a9 then (3 : Int) else a9, (bits BinOp.or IntKind.i64 a10 2, (a11, ())))))))))) (
 .ite (decide (a10 = 3)) (
 .ret (true, (a5, (a6, (a7, (a8, (4, (a10, (a11, ()))))))))) (
 .ret (true, (a5, (a6, (a7, (a8, (if false = true then if 3 < a9 then (3 : Int) else a9 else if (3 : Int) > a9 then (3 : Int) else a9, (a10, (a11, ())))))))))))) (
 .ite (a2) (
 .ite (decide (bits BinOp.or IntKind.i64 a10 (2 : Int) = (3 : Int))) (
 .ret (true, (a5, (a6, (a7, (a8, (4, (bits BinOp.or IntKind.i64 a10 2, (a11, ()))))))))) (
 .ret (true, (a5, (a6, (a7, (a8, (if false = true then if 3 < a9 then (3 : Int) else a9 else if (3 : Int) > a9 then (3 : Int) else a9, (bits BinOp.or IntKind.i64 a10 2, (a11, ())))))))))) (
 .ite (decide (a10 = 3)) (
 .ret (true, (a5, (a6, (a7, (a8, (4, (a10, (a11, ()))))))))) (
 .ret (true, (a5, (a6, (a7, (a8, (if false = true then if 3 < a9 then (3 : Int) else a9 else if (3 : Int) > a9 then (3 : Int) else a9, (a10, (a11, ())))))))))))))
noncomputable def gm36 : List (PF Go.Proofs.Tryz.prog) := gm35 ++ [GS.pf dfTalk]
theorem trOpen_eq (x : ty6_) : gsTr Tryz.prog cod gm36 [] 30 194 trOpen_ap trOpen_rp x = trOpen_tree x := by kernel_rfl
def trOpen_fn (x : ty6_) : Option (Bool × (Int × (Int × (Int × (Int × (Int × (Int × (Int × Unit)))))))) := (trOpen_tree x).eval
def trOpen : GS Tryz.prog := ⟨194, [0, 0], trOpen_ap, trOpen_rp, trOpen_fn, fun x r h ys m g he hg => gs_sound (cod := cod) (Γ := gm36) (Λs := []) (n := 30) ((congrArg Tr.eval (trOpen_eq x)).trans h) he hg⟩
def trPasses_L187_100002 : LS := ⟨100002, [], ⟨0, [], []⟩, [⟨some 9998, [(1000000, 1000000), (3, 3)], ⟨79, [(0, .v (.one (.ptr 1000000 0))), (3, .v (.one (.ptr 3 0))), (6, .v (.one (.b))), (5, .v (.one (.b)))], [(1000000, .cells [.i .u32, .i .u32, .i .i64, .i .i64, .i .i64, .i .i64, .i .i64]), (3, .cells [.b, .b, .b, .b, .b])]⟩⟩], []⟩
def trPasses_L187_100001 : LS := ⟨100001, [], ⟨0, [], []⟩, [⟨some 9998, [(1000000, 1000000), (3, 3)], ⟨79, [(0, .v (.one (.ptr 1000000 0))), (3, .v (.one (.ptr 3 0))), (5, .v (.one (.b)))], [(1000000, .cells [.i .u32, .i .u32, .i .i64, .i .i64, .i .i64, .i .i64, .i .i64]), (3, .cells [.b, .b, .b, .b, .b])]⟩⟩], []⟩
def trPasses_ap : SP := ⟨79, [(0, .v (.one (.ptr 1000000 0))), (1, .v (.agg [.b, .b, .b, .b, .b]))], [(1000000, .cells [.i .u32, .i .u32, .i .i64, .i .i64, .i .i64, .i .i64, .i .i64])]⟩
def trPasses_rp : SP := ⟨1, [(0, .v (.one (.b)))], [(1000000, .cells [.i .u32, .i .u32, .i .i64, .i .i64, .i .i64, .i .i64, .i .i64])]⟩
abbrev ty7_ : Type := (Bool × (Int × (Int × (Int × (Int × (Int × (Int × (Int × (Bool × (Bool × (Bool × (Bool × (Bool × Unit)))))))))))))
abbrev ty8_ : Type := (Bool × (Bool × (Int × (Int × (Int × (Int × (Int × (Int × (Int × (Bool × (Bool × (Bool × (Bool × (Bool × Unit))))))))))))))
def trPasses_tree : ty6_ -> Tr (Bool × (Int × (Int × (Int × (Int × (Int × (Int × (Int × Unit)))))))) :=
 fun (a0, a1, a2, a3, a4, a5, a6, a7, a8, a9, a10, a11, _) =>
 .opt (Tr.eval (α := ty7_) (
 .ite (a4) (
 .ite (a0) (
 .ite (!a1) (
 .ret (!a2, (a5, (a6, (a7, (a8, (a9, (a10, (a11, (a0, (a1, (a2, (a3, (a4, ())))))))))))))) (
 .ret (false, (a5, (a6, (a7, (a8, (a9, (a10, (a11, (a0, (a1, (a2, (a3, (a4, ()))))))))))))))) (
 .ret (false, (a5, (a6, (a7, (a8, (a9, (a10, (a11, (a0, (a1, (a2, (a3, (a4, ()))))))))))))))) (
 .ret (false, (a5, (a6, (a7, (a8, (a9, (a10, (a11, (a0, (a1, (a2, (a3, (a4, ())))))))))))))))) (fun r0 =>
 .opt (Tr.eval (α := ty8_) (
 .ite (!r0.2.2.2.2.2.2.2.2.2.2.2.2.1) (
 .ite (r0.2.2.2.2.2.2.2.2.1) (
 .ite (r0.2.2.2.2.2.2.2.2.2.1) (
 .ret (!r0.2.2.2.2.2.2.2.2.2.2.1, (r0.1, (r0.2.1, (r0.2.2.1, (r0.2.2.2.1, (r0.2.2.2.2.1, (r0.2.2.2.2.2.1, (r0.2.2.2.2.2.2.1, (r0.2.2.2.2.2.2.2.1, (r0.2.2.2.2.2.2.2.2.1, (r0.2.2.2.2.2.2.2.2.2.1, (r0.2.2.2.2.2.2.2.2.2.2.1, (r0.2.2.2.2.2.2.2.2.2.2.2.1, (r0.2.2.2.2.2.2.2.2.2.2.2.2.1, ()))))))))))))))) (
 .ret (false, (r0.1, (r0.2.1, (r0.2.2.1, (r0.2.2.2.1, (r0.2.2.2.2.1, (r0.2.2.2.2.2.1, (r0.2.2.2.2.2.2.1, (r0.2.2.2.2.2.2.2.1, (r0.2.2.2.2.2.2.2.2.1, (r0.2.2.2.2.2.2.2.2.2.1, (r0.2.2.2.2.2.2.2.2.2.2.1, (r0.2.2.2.2.2.2.2.2.2.2.2.1, (r0.2.2.2.2.2.2.2.2.2.2.2.2.1, ())))))))))))))))) (
 .ret (false, (r0.1, (r0.2.1, (r0.2.2.1, (r0.2.2.2.1, (r0.2.2.2.2.1, (r0.2.2.2.2.2.1, (r0.2.2.2.2.2.2.1, (r0.2.2.2.2.2.2.2.1, (r0.2.2.2.2.2.2.2.2.1, (r0.2.2.2.2.2.2.2.2.2.1, (r0.2.2.2.2.2.2.2.2.2.2.1, (r0.2.2.2.2.2.2.2.2.2.2.2.1, (r0.2.2.2.2.2.2.2.2.2.2.2.2.1, ())))))))))))))))) (
 .ret (false, (r0.1, (r0.2.1, (r0.2.2.1, (r0.2.2.2.1, (r0.2.2.2.2.1, (r0.2.2.2.2.2.1, (r0.2.2.2.2.2.2.1, (r0.2.2.2.2.2.2.2.1, (r0.2.2.2.2.2.2.2.2.1, (r0.2.2.2.2.2.2.2.2.2.1, (r0.2.2.2.2.2.2.2.2.2.2.1, (r0.2.2.2.2.2.2.2.2.2.2.2.1, (r0.2.2.2.2.2.2.2.2.2.2.2.2.1, ()))))))))))))))))) (fun r1 =>
 .ite (decide (r1.2.2.2.2.2.2.1 <= 2)) (
 .ite (r1.2.1) (
 .ret (true, (r1.2.2.1, (r1.2.2.2.1, (r1.2.2.2.2.1, (r1.2.2.2.2.2.1, (r1.2.2.2.2.2.2.1, (r1.2.2.2.2.2.2.2.1, (r1.2.2.2.2.2.2.2.2.1, ()))))))))) (
 .ite (decide (r1.2.2.2.2.2.2.1 <= 2)) (
 .ite (r1.1) (
 .ret (true, (r1.2.2.1, (r1.2.2.2.1, (r1.2.2.2.2.1, (r1.2.2.2.2.2.1, (2, (r1.2.2.2.2.2.2.2.1, (r1.2.2.2.2.2.2.2.2.1, ()))))))))) (
 .ite (decide (r1.2.2.2.2.2.2.1 = 1)) (
 .ret (false, (r1.2.2.1, (r1.2.2.2.1, (r1.2.2.2.2.1, (r1.2.2.2.2.2.1, (r1.2.2.2.2.2.2.1, (r1.2.2.2.2.2.2.2.1, (r1.2.2.2.2.2.2.2.2.1, ()))))))))) (
 .ite (decide (r1.2.2.2.2.2.2.1 = 2)) (
 .ite (!r1.2.2.2.2.2.2.2.2.2.2.2.2.2.1) (
 .ret (false, (r1.2.2.1, (r1.2.2.2.1, (r1.2.2.2.2.1, (r1.2.2.2.2.2.1, (r1.2.2.2.2.2.2.1, (r1.2.2.2.2.2.2.2.1, (r1.2.2.2.2.2.2.2.2.1, ()))))))))) (
 .opt ((trOpen_fn (r1.2.2.2.2.2.2.2.2.2.1, (r1.2.2.2.2.2.2.2.2.2.2.1, (r1.2.2.2.2.2.2.2.2.2.2.2.1, (r1.2.2.2.2.2.2.2.2.2.2.2.2.1, (r1.2.2.2.2.2.2.2.2.2.2.2.2.2.1, (r1.2.2.1, (r1.2.2.2.1, (r1.2.2.2.2.1, (r1.2.2.2.2.2.1, (r1.2.2.2.2.2.2.1, (r1.2.2.2.2.2.2.2.1, (r1.2.2.2.2.2.2.2.2.1, ())))))))))))))) (fun r2 =>
 .ret (r2.1, (r2.2.1, (r2.2.2.1, (r2.2.2.2.1, (r2.2.2.2.2.1, (r2.2.2.2.2.2.1, (r2.2.2.2.2.2.2.1, (r2.2.2.2.2.2.2.2.1, ()))))))))))) (
 .opt ((trOpen_fn (r1.2.2.2.2.2.2.2.2.2.1, (r1.2.2.2.2.2.2.2.2.2.2.1, (r1.2.2.2.2.2.2.2.2.2.2.2.1, (r1.2.2.2.2.2.2.2.2.2.2.2.2.1, (r1.2.2.2.2.2.2.2.2.2.2.2.2.2.1, (r1.2.2.1, (r1.2.2.2.1, (r1.2.2.2.2.1, (r1.2.2.2.2.2.1, (r1.2.2.2.2.2.2.1, (r1.2.2.2.2.2.2.2.1, (r1.2.2.2.2.2.2.2.2.1, ())))))))))))))) (fun r2 =>
 .ret (r2.1, (r2.2.1, (r2.2.2.1, (r2.2.2.2.1, (r2.2.2.2.2.1, (r2.2.2.2.2.2.1, (r2.2.2.2.2.2.2.1, (r2.2.2.2.2.2.2.2.1, ()))))))))))))) (
 .ite (decide (r1.2.2.2.2.2.2.1 = 1)) (
 .ret (false, (r1.2.2.1, (r1.2.2.2.1, (r1.2.2.2.2.1, (r1.2.2.2.2.2.1, (r1.2.2.2.2.2.2.1, (r1.2.2.2.2.2.2.2.1, (r1.2.2.2.2.2.2.2.2.1, ()))))))))) (
 .ite (decide (r1.2.2.2.2.2.2.1 = 2)) (
 .ite (!r1.2.2.2.2.2.2.2.2.2.2.2.2.2.1) (
 .ret (false, (r1.2.2.1, (r1.2.2.2.1, (r1.2.2.2.2.1, (r1.2.2.2.2.2.1, (r1.2.2.2.2.2.2.1, (r1.2.2.2.2.2.2.2.1, (r1.2.2.2.2.2.2.2.2.1, ()))))))))) (
 .opt ((trOpen_fn (r1.2.2.2.2.2.2.2.2.2.1, (r1.2.2.2.2.2.2.2.2.2.2.1, (r1.2.2.2.2.2.2.2.2.2.2.2.1, (r1.2.2.2.2.2.2.2.2.2.2.2.2.1, (r1.2.2.2.2.2.2.2.2.2.2.2.2.2.1, (r1.2.2.1, (r1.2.2.2.1, (r1.2.2.2.2.1, (r1.2.2.2.2.2.1, (r1.2.2.2.2.2.2.1, (r1.2.2.2.2.2.2.2.1, (r1.2.2.2.2.2.2.2.2.1, ())))))))))))))) (fun r2 =>
 .ret (r2.1, (r2.2.1, (r2.2.2.1, (r2.2.2.2.1, (r2.2.2.2.2.1, (r2.2.2.2.2.2.1, (r2.2.2.2.2.2.2.1, (r2.2.2.2.2.2.2.2.1, ()))))))))))) (
 .opt ((trOpen_fn (r1.2.2.2.2.2.2.2.2.2.1, (r1.2.2.2.2.2.2.2.2.2.2.1, (r1.2.2.2.2.2.2.2.2.2.2.2.1, (r1.2.2.2.2.2.2.2.2.2.2.2.2.1, (r1.2.2.2.2.2.2.2.2.2.2.2.2.2.1, (r1.2.2.1, (r1.2.2.2.1, (r1.2.2.2.2.1, (r1.2.2.2.2.2.1, (r1.2.2.2.2.2.2.1, (r1.2.2.2.2.2.2.2.1, (r1.2.2.2.2.2.2.2.2.1, ())))))))))))))) (fun r2 =>
 .ret (r2.1, (r2.2.1, (r2.2.2.1, (r2.2.2.2.1, (r2.2.2.2.2.1, (r2.2.2.2.2.2.1, (r2.2.2.2.2.2.2.1, (r2.2.2.2.2.2.2.2.1, ())))))))))))))) (
 .ite (decide (r1.2.2.2.2.2.2.1 <= 2)) (
 .ite (r1.1) (
 .ret (true, (r1.2.2.1, (r1.2.2.2.1, (r1.2.2.2.2.1, (r1.2.2.2.2.2.1, (2, (r1.2.2.2.2.2.2.2.1, (r1.2.2.2.2.2.2.2.2.1, ()))))))))) (
 .ite (decide (r1.2.2.2.2.2.2.1 = 1)) (
 .ret (false, (r1.2.2.1, (r1.2.2.2.1, (r1.2.2.2.2.1, (r1.2.2.2.2.2.1, (r1.2.2.2.2.2.2.1, (r1.2.2.2.2.2.2.2.1, (r1.2.2.2.2.2.2.2.2.1, ()))))))))) (
 .ite (decide (r1.2.2.2.2.2.2.1 = 2)) (
 .ite (!r1.2.2.2.2.2.2.2.2.2.2.2.2.2.1) (
 .ret (false, (r1.2.2.1, (r1.2.2.2.1, (r1.2.2.2.2.1, (r1.2.2.2.2.2.1, (r1.2.2.2.2.2.2.1, (r1.2.2.2.2.2.2.2.1, (r1.2.2.2.2.2.2.2.2.1, ()))))))))) (
 .opt ((trOpen_fn (r1.2.2.2.2.2.2.2.2.2.1, (r1.2.2.2.2.2.2.2.2.2.2.1, (r1.2.2.2.2.2.2.2.2.2.2.2.1, (r1.2.2.2.2.2.2.2.2.2.2.2.2.1, (r1.2.2.2.2.2.2.2.2.2.2.2.2.2.1, (r1.2.2.1, (r1.2.2.2.1, (r1.2.2.2.2.1, (r1.2.2.2.2.2.1, (r1.2.2.2.2.2.2.1, (r1.2.2.2.2.2.2.2.1, (r1.2.2.2.2.2.2.2.2.1, ())))))))))))))) (fun r2 =>
 .ret (r2.1, (r2.2.1, (r2.2.2.1, (r2.2.2.2.1, (r2.2.2.2.2.1, (r2.2.2.2.2.2.1, (r2.2.2.2.2.2.2.1, (r2.2.2.2.2.2.2.2.1, ()))))))))))) (
 .opt ((trOpen_fn (r1.2.2.2.2.2.2.2.2.2.1, (r1.2.2.2.2.2.2.2.2.2.2.1, (r1.2.2.2.2.2.2.2.2.2.2.2.1, (r1.2.2.2.2.2.2.2.2.2.2.2.2.1, (r1.2.2.2.2.2.2.2.2.2.2.2.2.2.1, (r1.2.2.1, (r1.2.2.2.1, (r1.2.2.2.2.1, (r1.2.2.2.2.2.1, (r1.2.2.2.2.2.2.1, (r1.2.2.2.2.2.2.2.1, (r1.2.2.2.2.2.2.2.2.1, ())))))))))))))) (fun r2 =>
 .ret (r2.1, (r2.2.1, (r2.2.2.1, (r2.2.2.2.1, (r2.2.2.2.2.1, (r2.2.2.2.2.2.1, (r2.2.2.2.2.2.2.1, (r2.2.2.2.2.2.2.2.1, ()))))))))))))) (
 .ite (decide (r1.2.2.2.2.2.2.1 = 1)) (
 .ret (false, (r1.2.2.1, (r1.2.2.2.1, (r1.2.2.2.2.1, (r1.2.2.2.2.2.1, (r1.2.2.2.2.2.2.1, (r1.2.2.2.2.2.2.2.1, (r1.2.2.2.2.2.2.2.2.1, ()))))))))) (
 .ite (decide (r1.2.2.2.2.2.2.1 = 2)) (
 .ite (!r1.2.2.2.2.2.2.2.2.2.2.2.2.2.1) (
 .ret (false, (r1.2.2.1, (r1.2.2.2.1, (r1.2.2.2.2.1, (r1.2.2.2.2.2.1, (r1.2.2.2.2.2.2.1, (r1.2.2.2.2.2.2.2.1, (r1.2.2.2.2.2.2.2.2.1, ()))))))))) (
 .opt ((trOpen_fn (r1.2.2.2.2.2.2.2.2.2.1, (r1.2.2.2.2.2.2.2.2.2.2.1, (r1.2.2.2.2.2.2.2.2.2.2.2.1, (r1.2.2.2.2.2.2.2.2.2.2.2.2.1, (r1.2.2.2.2.2.2.2.2.2.2.2.2.2.1, (r1.2.2.1, (r1.2.2.2.1, (r1.2.2.2.2.1, (r1.2.2.2.2.2.1, (r1.2.2.2.2.2.2.1, (r1.2.2.2.2.2.2.2.1, (r1.2.2.2.2.2.2.2.2.1, ())))))))))))))) (fun r2 =>
 .ret (r2.1, (r2.2.1, (r2.2.2.1, (r2.2.2.2.1, (r2.2.2.2.2.1, (r2.2.2.2.2.2.1, (r2.2.2.2.2.2.2.1, (r2.2.2.2.2.2.2.2.1, ()))))))))))) (
 .opt ((trOpen_fn (r1.2.2.2.2.2.2.2.2.2.1, (r1.2.2.2.2.2.2.2.2.2.2.1, (r1.2.2.2.2.2.2.2.2.2.2.2.1, (r1.2.2.2.2.2.2.2.2.2.2.2.2.1, (r1.2.2.2.2.2.2.2.2.2.2.2.2.2.1, (r1.2.2.1, (r1.2.2.2.1, (r1.2.2.2.2.1, (r1.2.2.2.2.2.1, (r1.2.2.2.2.2.2.1, (r1.2.2.2.2.2.2.2.1, (r1.2.2.2.2.2.2.2.2.1, ())))))))))))))) (fun r2 =>
 .ret (r2.1, (r2.2.1, (r2.2.2.1, (r2.2.2.2.1, (r2.2.2.2.2.1, (r2.2.2.2.2.2.1, (r2.2.2.2.2.2.2.1, (r2.2.2.2.2.2.2.2.1, ())))))))))))))))
noncomputable def gm37 : List (PF Go.Proofs.Tryz.prog) := gm36 ++ [GS.pf trOpen]
theorem trPasses_eq (x : ty6_) : gsTr Tryz.prog cod gm37 [(187, trPasses_L187_100002), (187, trPasses_L187_100001)] 30 187 trPasses_ap trPasses_rp x = trPasses_tree x := by kernel_rfl
def trPasses_fn (x : ty6_) : Option (Bool × (Int × (Int × (Int × (Int × (Int × (Int × (Int × Unit)))))))) := (trPasses_tree x).eval
def trPasses : GS Tryz.prog := ⟨187, [0, 0], trPasses_ap, trPasses_rp, trPasses_fn, fun x r h ys m g he hg => gs_sound (cod := cod) (Γ := gm37) (Λs := [(187, trPasses_L187_100002), (187, trPasses_L187_100001)]) (n := 30) ((congrArg Tr.eval (trPasses_eq x)).trans h) he hg⟩
def trHear_ap : List VP1 := [.one (.st 16 false), .agg [.i .u32, .i .u32, .i .i64, .i .i64], .one (.i .i64), .one (.i .i64)]
def trHear_rp : SP := ⟨1, [(0, .tup [.one (.st 16 true), .one (.b), .one (.i .i64)])], []⟩
def trHear_tree : ((List TTalk) × (Int × (Int × (Int × (Int × (Int × (Int × Unit))))))) -> Tr ((List TTalk) × (Bool × (Int × Unit))) :=
 fun (a0, a1, a2, a3, a4, a5, a6, _) =>
 .grd (decide (((0 : Nat) + a0.length) * (48 : Nat) <= (140737488355328 : Nat) /\ (0 : Nat) + a0.length <= (9223372036854775807 : Nat))) (
 .opt ((trCheck_fn (a0, ()))) (fun r0 =>
 .ite (!decide (r0.1 = 0)) (
 .ret (a0, (false, (r0.1, ())))) (
 .ite (decide (0 < (↑(a0.length) : Int))) (
 .grd (decide (0 <= wW .i64 ((↑(a0.length) : Int) - 1) /\ wW .i64 ((↑(a0.length) : Int) - 1) < (↑(a0.length) : Int))) (
 .opt (a0[Int.toNat (wW .i64 ((↑(a0.length) : Int) - 1))]?) (fun r1 =>
 .opt ((trRoad_fn (a1, (a2, (a3, (a4, ())))))) (fun r2 =>
 .ite (!r2.1) (
 .ret (a0, (false, (1, ())))) (
 .ite (decide (a5 < 0)) (
 .ret (a0, (false, (1, ())))) (
 .ite (decide (255 < a5)) (
 .ret (a0, (false, (1, ())))) (
 .ite (decide (a6 < r1.at')) (
 .ret (a0, (false, (1, ())))) (
 .ite (decide (1099511627776 < a6)) (
 .ret (a0, (false, (1, ())))) (
 .grd (decide (((0 : Nat) + a0.length) * (48 : Nat) <= (140737488355328 : Nat) /\ (0 : Nat) + a0.length <= (9223372036854775807 : Nat))) (
 .grd (decide (a0.length = a0.length)) (
 .opt ((dfTalk_fn (a6, (a0, ())))) (fun r3 =>
 .opt ((trPlace_fn (r3.2.1, (a1, (a2, (a3, (a4, ()))))))) (fun r4 =>
 .ite (decide (r4.1 < 0)) (
 .ite (!((!decide (bits .and .i64 a5 2 = (0 : Int))) == true && ((!decide (bits .and .i64 a5 16 = (0 : Int))) == false && ((!decide (bits .and .i64 a5 1 = (0 : Int))) == false && ((!decide (bits .and .i64 a5 4 = (0 : Int))) == false && true))))) (
 .ret (r3.2.1, (false, (0, ())))) (
 .ite (decide ((↑(List.length r3.2.fst) : Int) = 64)) (
 .ret (a0, (false, (6, ())))) (
 .grd (decide ((List.length r3.2.1 + List.length [TTalk.mk a1 a2 a3 a4 (1 : Int) (0 : Int) r3.1]) * (48 : Nat) <= (140737488355328 : Nat) /\ List.length r3.2.1 + List.length [TTalk.mk a1 a2 a3 a4 (1 : Int) (0 : Int) r3.1] <= (9223372036854775807 : Nat))) (
 .ret (r3.2.1 ++ [TTalk.mk a1 a2 a3 a4 (1 : Int) (0 : Int) r3.1], (true, (0, ()))))))) (
 .grd (decide (0 <= r4.1 /\ r4.1 < (↑(List.length r3.2.fst) : Int))) (
 .opt (r3.2.1[Int.toNat r4.1]?) (fun r5 =>
 .ite (!!decide (bits .and .i64 a5 4 = (0 : Int))) (
 .opt ((trPasses_fn (!decide (bits .and .i64 a5 2 = (0 : Int)), (!decide (bits .and .i64 a5 16 = (0 : Int)), (!decide (bits .and .i64 a5 1 = (0 : Int)), (!decide (bits .and .i64 a5 4 = (0 : Int)), (decide (r5.from' = a1) && (decide (r5.to = a2) && (decide (r5.fromPort = a3) && (decide (r5.toPort = a4) && true))), (r5.from', (r5.to, (r5.fromPort, (r5.toPort, (r5.state, (r5.over, (r5.at', ())))))))))))))) (fun r6 =>
 .ite (!r6.1) (
 .ret (r3.2.1, (false, (0, ())))) (
 .grd (decide (List.length r3.2.fst = List.length r3.2.1)) (
 .opt ((delTalk_fn (r4.1, (wW .i64 (r4.1 + 1), (r3.2.1, ()))))) (fun r7 =>
 .ite (!decide (bits .and .i64 a5 4 = (0 : Int))) (
 .ret (r7.1, (true, (0, ())))) (
 .grd (decide ((List.length r7.1 + List.length [TTalk.mk r6.2.1 r6.2.2.1 r6.2.2.2.1 r6.2.2.2.2.1 r6.2.2.2.2.2.1 r6.2.2.2.2.2.2.1 r3.1]) * (48 : Nat) <= (140737488355328 : Nat) /\ List.length r7.1 + List.length [TTalk.mk r6.2.1 r6.2.2.1 r6.2.2.2.1 r6.2.2.2.2.1 r6.2.2.2.2.2.1 r6.2.2.2.2.2.2.1 r3.1] <= (9223372036854775807 : Nat))) (
 .ret (r7.1 ++ [TTalk.mk r6.2.1 r6.2.2.1 r6.2.2.2.1 r6.2.2.2.2.1 r6.2.2.2.2.2.1 r6.2.2.2.2.2.2.1 r3.1], (true, (0, ())))))))))) (
 .grd (decide (List.length r3.2.fst = List.length r3.2.1)) (
 .opt ((delTalk_fn (r4.1, (wW .i64 (r4.1 + 1), (r3.2.1, ()))))) (fun r6 =>
 .ite (!decide (bits .and .i64 a5 4 = (0 : Int))) (
 .ret (r6.1, (true, (0, ())))) (
 .grd (decide ((List.length r6.1 + List.length [TTalk.mk r5.from' r5.to r5.fromPort r5.toPort r5.state r5.over r3.1]) * (48 : Nat) <= (140737488355328 : Nat) /\ List.length r6.1 + List.length [TTalk.mk r5.from' r5.to r5.fromPort r5.toPort r5.state r5.over r3.1] <= (9223372036854775807 : Nat))) (
 .ret (r6.1 ++ [TTalk.mk r5.from' r5.to r5.fromPort r5.toPort r5.state r5.over r3.1], (true, (0, ())))))))))))))))))))))))) (
 .opt ((trRoad_fn (a1, (a2, (a3, (a4, ())))))) (fun r1 =>
 .ite (!r1.1) (
 .ret (a0, (false, (1, ())))) (
 .ite (decide (a5 < 0)) (
 .ret (a0, (false, (1, ())))) (
 .ite (decide (255 < a5)) (
 .ret (a0, (false, (1, ())))) (
 .ite (decide (a6 < 0)) (
 .ret (a0, (false, (1, ())))) (
 .ite (decide (1099511627776 < a6)) (
 .ret (a0, (false, (1, ())))) (
 .grd (decide (((0 : Nat) + a0.length) * (48 : Nat) <= (140737488355328 : Nat) /\ (0 : Nat) + a0.length <= (9223372036854775807 : Nat))) (
 .grd (decide (a0.length = a0.length)) (
 .opt ((dfTalk_fn (a6, (a0, ())))) (fun r2 =>
 .opt ((trPlace_fn (r2.2.1, (a1, (a2, (a3, (a4, ()))))))) (fun r3 =>
 .ite (decide (r3.1 < 0)) (
 .ite (!((!decide (bits .and .i64 a5 2 = (0 : Int))) == true && ((!decide (bits .and .i64 a5 16 = (0 : Int))) == false && ((!decide (bits .and .i64 a5 1 = (0 : Int))) == false && ((!decide (bits .and .i64 a5 4 = (0 : Int))) == false && true))))) (
 .ret (r2.2.1, (false, (0, ())))) (
 .ite (decide ((↑(List.length r2.2.fst) : Int) = 64)) (
 .ret (a0, (false, (6, ())))) (
 .grd (decide ((List.length r2.2.1 + List.length [TTalk.mk a1 a2 a3 a4 (1 : Int) (0 : Int) r2.1]) * (48 : Nat) <= (140737488355328 : Nat) /\ List.length r2.2.1 + List.length [TTalk.mk a1 a2 a3 a4 (1 : Int) (0 : Int) r2.1] <= (9223372036854775807 : Nat))) (
 .ret (r2.2.1 ++ [TTalk.mk a1 a2 a3 a4 (1 : Int) (0 : Int) r2.1], (true, (0, ()))))))) (
 .grd (decide (0 <= r3.1 /\ r3.1 < (↑(List.length r2.2.fst) : Int))) (
 .opt (r2.2.1[Int.toNat r3.1]?) (fun r4 =>
 .ite (!!decide (bits .and .i64 a5 4 = (0 : Int))) (
 .opt ((trPasses_fn (!decide (bits .and .i64 a5 2 = (0 : Int)), (!decide (bits .and .i64 a5 16 = (0 : Int)), (!decide (bits .and .i64 a5 1 = (0 : Int)), (!decide (bits .and .i64 a5 4 = (0 : Int)), (decide (r4.from' = a1) && (decide (r4.to = a2) && (decide (r4.fromPort = a3) && (decide (r4.toPort = a4) && true))), (r4.from', (r4.to, (r4.fromPort, (r4.toPort, (r4.state, (r4.over, (r4.at', ())))))))))))))) (fun r5 =>
 .ite (!r5.1) (
 .ret (r2.2.1, (false, (0, ())))) (
 .grd (decide (List.length r2.2.fst = List.length r2.2.1)) (
 .opt ((delTalk_fn (r3.1, (wW .i64 (r3.1 + 1), (r2.2.1, ()))))) (fun r6 =>
 .ite (!decide (bits .and .i64 a5 4 = (0 : Int))) (
 .ret (r6.1, (true, (0, ())))) (
 .grd (decide ((List.length r6.1 + List.length [TTalk.mk r5.2.1 r5.2.2.1 r5.2.2.2.1 r5.2.2.2.2.1 r5.2.2.2.2.2.1 r5.2.2.2.2.2.2.1 r2.1]) * (48 : Nat) <= (140737488355328 : Nat) /\ List.length r6.1 + List.length [TTalk.mk r5.2.1 r5.2.2.1 r5.2.2.2.1 r5.2.2.2.2.1 r5.2.2.2.2.2.1 r5.2.2.2.2.2.2.1 r2.1] <= (9223372036854775807 : Nat))) (
 .ret (r6.1 ++ [TTalk.mk r5.2.1 r5.2.2.1 r5.2.2.2.1 r5.2.2.2.2.1 r5.2.2.2.2.2.1 r5.2.2.2.2.2.2.1 r2.1], (true, (0, ())))))))))) (
 .grd (decide (List.length r2.2.fst = List.length r2.2.1)) (
 .opt ((delTalk_fn (r3.1, (wW .i64 (r3.1 + 1), (r2.2.1, ()))))) (fun r5 =>
 .ite (!decide (bits .and .i64 a5 4 = (0 : Int))) (
 .ret (r5.1, (true, (0, ())))) (
 .grd (decide ((List.length r5.1 + List.length [TTalk.mk r4.from' r4.to r4.fromPort r4.toPort r4.state r4.over r2.1]) * (48 : Nat) <= (140737488355328 : Nat) /\ List.length r5.1 + List.length [TTalk.mk r4.from' r4.to r4.fromPort r4.toPort r4.state r4.over r2.1] <= (9223372036854775807 : Nat))) (
 .ret (r5.1 ++ [TTalk.mk r4.from' r4.to r4.fromPort r4.toPort r4.state r4.over r2.1], (true, (0, ())))))))))))))))))))))))))
noncomputable def gm38 : List (PF Go.Proofs.Tryz.prog) := gm37 ++ [GS.pf trPasses]
theorem trHear_eq (x : ((List TTalk) × (Int × (Int × (Int × (Int × (Int × (Int × Unit)))))))) : fnTr Tryz.prog cod gm38 [] 30 169 trHear_ap trHear_rp x = trHear_tree x := by kernel_rfl
def trHear_fn (x : ((List TTalk) × (Int × (Int × (Int × (Int × (Int × (Int × Unit)))))))) : Option ((List TTalk) × (Bool × (Int × Unit))) := (trHear_tree x).eval
def trHear : FS Tryz.prog := ⟨169, trHear_ap, trHear_rp, trHear_fn, fun x r h => fnTr_sound (cod := cod) (Γ := gm38) (Λs := []) (n := 30) ((congrArg Tr.eval (trHear_eq x)).trans h)⟩
def trFind_ap : List VP1 := [.one (.st 16 false), .agg [.i .u32, .i .u32, .i .i64, .i .i64], .one (.i .i64)]
def trFind_rp : SP := ⟨1, [(0, .tup [.agg [.i .u32, .i .u32, .i .i64, .i .i64, .i .i64, .i .i64, .i .i64], .one (.b), .one (.i .i64)])], []⟩
def trFind_tree : ((List TTalk) × (Int × (Int × (Int × (Int × (Int × Unit)))))) -> Tr (Int × (Int × (Int × (Int × (Int × (Int × (Int × (Bool × (Int × Unit))))))))) :=
 fun (a0, a1, a2, a3, a4, a5, _) =>
 .opt ((trCheck_fn (a0, ()))) (fun r0 =>
 .ite (!decide (r0.1 = 0)) (
 .ret (0, (0, (0, (0, (0, (0, (0, (false, (r0.1, ())))))))))) (
 .ite (decide (a5 < 0)) (
 .ret (0, (0, (0, (0, (0, (0, (0, (false, (1, ())))))))))) (
 .ite (decide (1099511627776 < a5)) (
 .ret (0, (0, (0, (0, (0, (0, (0, (false, (1, ())))))))))) (
 .opt ((trPlace_fn (a0, (a1, (a2, (a3, (a4, ()))))))) (fun r1 =>
 .ite (decide (r1.1 < 0)) (
 .ret (0, (0, (0, (0, (0, (0, (0, (false, (0, ())))))))))) (
 .grd (decide (0 <= r1.1)) (
 .opt (a0[Int.toNat r1.1]?) (fun r2 =>
 .opt ((trOld_fn (r2.from', (r2.to, (r2.fromPort, (r2.toPort, (r2.state, (r2.over, (r2.at', (a5, ())))))))))) (fun r3 =>
 .ite (r3.1) (
 .ret (0, (0, (0, (0, (0, (0, (0, (false, (0, ())))))))))) (
 .grd (decide (0 <= r1.1)) (
 .opt (a0[Int.toNat r1.1]?) (fun r4 =>
 .ret (r4.from', (r4.to, (r4.fromPort, (r4.toPort, (r4.state, (r4.over, (r4.at', (true, (0, ())))))))))))))))))))))
noncomputable def gm39 : List (PF Go.Proofs.Tryz.prog) := gm38 ++ [FS.pf trHear]
theorem trFind_eq (x : ((List TTalk) × (Int × (Int × (Int × (Int × (Int × Unit))))))) : fnTr Tryz.prog cod gm39 [] 30 164 trFind_ap trFind_rp x = trFind_tree x := by kernel_rfl
def trFind_fn (x : ((List TTalk) × (Int × (Int × (Int × (Int × (Int × Unit))))))) : Option (Int × (Int × (Int × (Int × (Int × (Int × (Int × (Bool × (Int × Unit))))))))) := (trFind_tree x).eval
def trFind : FS Tryz.prog := ⟨164, trFind_ap, trFind_rp, trFind_fn, fun x r h => fnTr_sound (cod := cod) (Γ := gm39) (Λs := []) (n := 30) ((congrArg Tr.eval (trFind_eq x)).trans h)⟩
def buCheck_ap : List VP1 := [.agg [.i .i64, .i .i64, .i .i64, .i .i64]]
def buCheck_rp : SP := ⟨1, [(0, .v (.one (.i .i64)))], []⟩
def buCheck_tree : (Int × (Int × (Int × (Int × Unit)))) -> Tr (Int × Unit) :=
 fun (a0, a1, a2, a3, _) =>
 .ite (decide (a0 < 0)) (
 .ret (1, ())) (
 .ite (decide (1000000 < a0)) (
 .ret (1, ())) (
 .ite (decide (a1 < 1)) (
 .ret (1, ())) (
 .ite (decide (1000000000 < a1)) (
 .ret (1, ())) (
 .ite (decide (a2 < 0)) (
 .ret (4, ())) (
 .ite (decide (a1 < a2)) (
 .ret (4, ())) (
 .ite (decide (a3 < 0)) (
 .ret (4, ())) (
 .ite (decide (1099511627776 < a3)) (
 .ret (4, ())) (
 .ret (0, ())))))))))
theorem buCheck_eq (x : (Int × (Int × (Int × (Int × Unit))))) : fnTr Tryz.prog cod [] [] 30 85 buCheck_ap buCheck_rp x = buCheck_tree x := by kernel_rfl
def buCheck_fn (x : (Int × (Int × (Int × (Int × Unit))))) : Option (Int × Unit) := (buCheck_tree x).eval
def buCheck : FS Tryz.prog := ⟨85, buCheck_ap, buCheck_rp, buCheck_fn, fun x r h => fnTr_sound (cod := cod) (Γ := []) (Λs := []) (n := 30) ((congrArg Tr.eval (buCheck_eq x)).trans h)⟩
def buLev_ap : List VP1 := [.agg [.i .i64, .i .i64, .i .i64, .i .i64], .one (.i .i64)]
def buLev_rp : SP := ⟨1, [(0, .v (.one (.i .i64)))], []⟩
def buLev_tree : (Int × (Int × (Int × (Int × (Int × Unit))))) -> Tr (Int × Unit) :=
 fun (a0, a1, a2, a3, a4, _) =>
 .ret (if true = true then if wW .i64 (a2 + wW .i64 (a0 * if true = true then if 1000000000 < wW .i64 (a4 - a3) then (1000000000 : Int) else wW .i64 (a4 - a3) else if (1000000000 : Int) > wW .i64 (a4 - a3) then (1000000000 : Int) else wW .i64 (a4 - a3))) < a1 then wW .i64 (a2 + wW .i64 (a0 * if true = true then if 1000000000 < wW .i64 (a4 - a3) then (1000000000 : Int) else wW .i64 (a4 - a3) else if (1000000000 : Int) > wW .i64 (a4 - a3) then (1000000000 : Int) else wW .i64 (a4 - a3))) else a1 else if wW .i64 (a2 + wW .i64 (a0 * if true = true then if 1000000000 < wW .i64 (a4 - a3) then (1000000000 : Int) else wW .i64 (a4 - a3) else if (1000000000 : Int) > wW .i64 (a4 - a3) then (1000000000 : Int) else wW .i64 (a4 - a3))) > a1 then wW .i64 (a2 + wW .i64 (a0 * if true = true then if 1000000000 < wW .i64 (a4 - a3) then (1000000000 : Int) else wW .i64 (a4 - a3) else if (1000000000 : Int) > wW .i64 (a4 - a3) then (1000000000 : Int) else wW .i64 (a4 - a3))) else a1, ())
theorem buLev_eq (x : (Int × (Int × (Int × (Int × (Int × Unit)))))) : fnTr Tryz.prog cod [FS.pf buCheck] [] 30 163 buLev_ap buLev_rp x = buLev_tree x := by kernel_rfl
def buLev_fn (x : (Int × (Int × (Int × (Int × (Int × Unit)))))) : Option (Int × Unit) := (buLev_tree x).eval
def buLev : FS Tryz.prog := ⟨163, buLev_ap, buLev_rp, buLev_fn, fun x r h => fnTr_sound (cod := cod) (Γ := [FS.pf buCheck]) (Λs := []) (n := 30) ((congrArg Tr.eval (buLev_eq x)).trans h)⟩
def buTake_ap : List VP1 := [.agg [.i .i64, .i .i64, .i .i64, .i .i64], .one (.i .i64), .one (.i .i64)]
def buTake_rp : SP := ⟨1, [(0, .tup [.agg [.i .i64, .i .i64, .i .i64, .i .i64], .one (.b), .one (.i .i64)])], []⟩
def buTake_tree : (Int × (Int × (Int × (Int × (Int × (Int × Unit)))))) -> Tr (Int × (Int × (Int × (Int × (Bool × (Int × Unit)))))) :=
 fun (a0, a1, a2, a3, a4, a5, _) =>
 .opt ((buCheck_fn (a0, (a1, (a2, (a3, ())))))) (fun r0 =>
 .ite (!decide (r0.1 = 0)) (
 .ret (0, (0, (0, (0, (false, (r0.1, ()))))))) (
 .ite (decide (a4 < a3)) (
 .ret (0, (0, (0, (0, (false, (1, ()))))))) (
 .ite (decide (1099511627776 < a4)) (
 .ret (0, (0, (0, (0, (false, (1, ()))))))) (
 .ite (decide (a5 < 0)) (
 .ret (0, (0, (0, (0, (false, (1, ()))))))) (
 .ite (decide (1000000000 < a5)) (
 .ret (0, (0, (0, (0, (false, (1, ()))))))) (
 .opt ((buLev_fn (a0, (a1, (a2, (a3, (a4, ()))))))) (fun r1 =>
 .ite (decide (r1.1 < a5)) (
 .ret (a0, (a1, (r1.1, (a4, (false, (0, ()))))))) (
 .ret (a0, (a1, (wW .i64 (r1.1 - a5), (a4, (true, (0, ()))))))))))))))
theorem buTake_eq (x : (Int × (Int × (Int × (Int × (Int × (Int × Unit))))))) : fnTr Tryz.prog cod [FS.pf buCheck, FS.pf buLev] [] 30 136 buTake_ap buTake_rp x = buTake_tree x := by kernel_rfl
def buTake_fn (x : (Int × (Int × (Int × (Int × (Int × (Int × Unit))))))) : Option (Int × (Int × (Int × (Int × (Bool × (Int × Unit)))))) := (buTake_tree x).eval
def buTake : FS Tryz.prog := ⟨136, buTake_ap, buTake_rp, buTake_fn, fun x r h => fnTr_sound (cod := cod) (Γ := [FS.pf buCheck, FS.pf buLev]) (Λs := []) (n := 30) ((congrArg Tr.eval (buTake_eq x)).trans h)⟩
theorem clRule_h1 (xs : List (τ 10)) : (bodyTr Go.Proofs.Tryz.prog cod 12 [.one (.nn (.st 10 xs))]).eval = (cloneRes 54 10 80 xs).eval := by kernel_rfl
theorem clRule_h2 : (bodyTr Go.Proofs.Tryz.prog cod 12 [.one .nil]).eval = some (.one .nil, []) := by kernel_rfl
def clRule : PF Go.Proofs.Tryz.prog := clonePF Go.Proofs.Tryz.prog cod 12 54 10 80 clRule_h1 clRule_h2
def ruNet_ap : List VP1 := [.agg [.i .u32, .i .i64]]
def ruNet_rp : SP := ⟨1, [(0, .v (.one (.b)))], []⟩
def ruNet_tree : (Int × (Int × Unit)) -> Tr (Bool × Unit) :=
 fun (a0, a1, _) =>
 .ite (decide (0 <= a1)) (
 .ite (decide (a1 <= 32)) (
 .grd (decide (0 <= a1)) (
 .ret (decide (wW .u32 (a0 * (2 : Int) ^ min (Int.toNat a1) (32 : Nat)) = 0), ()))) (
 .ret (false, ()))) (
 .ret (false, ()))
theorem ruNet_eq (x : (Int × (Int × Unit))) : fnTr Tryz.prog cod [clRule] [] 30 178 ruNet_ap ruNet_rp x = ruNet_tree x := by kernel_rfl
def ruNet_fn (x : (Int × (Int × Unit))) : Option (Bool × Unit) := (ruNet_tree x).eval
def ruNet : FS Tryz.prog := ⟨178, ruNet_ap, ruNet_rp, ruNet_fn, fun x r h => fnTr_sound (cod := cod) (Γ := [clRule]) (Λs := []) (n := 30) ((congrArg Tr.eval (ruNet_eq x)).trans h)⟩
def ruHas_ap : List VP1 := [.agg [.i .u32, .i .i64], .one (.i .u32)]
def ruHas_rp : SP := ⟨1, [(0, .v (.one (.b)))], []⟩
def ruHas_tree : (Int × (Int × (Int × Unit))) -> Tr (Bool × Unit) :=
 fun (a0, a1, a2, _) =>
 .grd (decide (0 <= wW .i64 ((32 : Int) - a1))) (
 .ret (decide (Int.fdiv (wW .u64 (bits .xor .u32 a2 a0)) ((2 : Int) ^ min (Int.toNat (wW .i64 ((32 : Int) - a1))) (64 : Nat)) = 0), ()))
theorem ruHas_eq (x : (Int × (Int × (Int × Unit)))) : fnTr Tryz.prog cod [clRule, FS.pf ruNet] [] 30 184 ruHas_ap ruHas_rp x = ruHas_tree x := by kernel_rfl
def ruHas_fn (x : (Int × (Int × (Int × Unit)))) : Option (Bool × Unit) := (ruHas_tree x).eval
def ruHas : FS Tryz.prog := ⟨184, ruHas_ap, ruHas_rp, ruHas_fn, fun x r h => fnTr_sound (cod := cod) (Γ := [clRule, FS.pf ruNet]) (Λs := []) (n := 30) ((congrArg Tr.eval (ruHas_eq x)).trans h)⟩
def ruBounds_ap : List VP1 := [.one (.i .i64), .one (.i .i64)]
def ruBounds_rp : SP := ⟨1, [(0, .v (.one (.b)))], []⟩
def ruBounds_tree : (Int × (Int × Unit)) -> Tr (Bool × Unit) :=
 fun (a0, a1, _) =>
 .ite (decide (0 <= a0)) (
 .ite (decide (a0 <= a1)) (
 .ret (decide (a1 <= 65535), ())) (
 .ret (false, ()))) (
 .ret (false, ()))
theorem ruBounds_eq (x : (Int × (Int × Unit))) : fnTr Tryz.prog cod [clRule, FS.pf ruNet, FS.pf ruHas] [] 30 165 ruBounds_ap ruBounds_rp x = ruBounds_tree x := by kernel_rfl
def ruBounds_fn (x : (Int × (Int × Unit))) : Option (Bool × Unit) := (ruBounds_tree x).eval
def ruBounds : FS Tryz.prog := ⟨165, ruBounds_ap, ruBounds_rp, ruBounds_fn, fun x r h => fnTr_sound (cod := cod) (Γ := [clRule, FS.pf ruNet, FS.pf ruHas]) (Λs := []) (n := 30) ((congrArg Tr.eval (ruBounds_eq x)).trans h)⟩
def ruRight_ap : List VP1 := [.agg [.i .u32, .i .i64, .i .u32, .i .i64, .i .i64, .i .i64, .i .i64, .i .i64, .i .i64, .b]]
def ruRight_rp : SP := ⟨1, [(0, .v (.one (.b)))], []⟩
def ruRight_tree : (Int × (Int × (Int × (Int × (Int × (Int × (Int × (Int × (Int × (Bool × Unit)))))))))) -> Tr (Bool × Unit) :=
 fun (a0, a1, a2, a3, a4, a5, a6, a7, a8, a9, _) =>
 .opt ((ruNet_fn (a0, (a1, ())))) (fun r0 =>
 .ite (r0.1) (
 .opt ((ruNet_fn (a2, (a3, ())))) (fun r1 =>
 .ite (r1.1) (
 .ite (decide (0 <= a4)) (
 .ite (decide (a4 <= 255)) (
 .opt ((ruBounds_fn (a5, (a6, ())))) (fun r2 =>
 .ite (r2.1) (
 .opt ((ruBounds_fn (a7, (a8, ())))) (fun r3 =>
 .ret (r3.1, ()))) (
 .ret (false, ())))) (
 .ret (false, ()))) (
 .ret (false, ()))) (
 .ret (false, ())))) (
 .ret (false, ())))
theorem ruRight_eq (x : (Int × (Int × (Int × (Int × (Int × (Int × (Int × (Int × (Int × (Bool × Unit))))))))))) : fnTr Tryz.prog cod [clRule, FS.pf ruNet, FS.pf ruHas, FS.pf ruBounds] [] 30 149 ruRight_ap ruRight_rp x = ruRight_tree x := by kernel_rfl
def ruRight_fn (x : (Int × (Int × (Int × (Int × (Int × (Int × (Int × (Int × (Int × (Bool × Unit))))))))))) : Option (Bool × Unit) := (ruRight_tree x).eval
def ruRight : FS Tryz.prog := ⟨149, ruRight_ap, ruRight_rp, ruRight_fn, fun x r h => fnTr_sound (cod := cod) (Γ := [clRule, FS.pf ruNet, FS.pf ruHas, FS.pf ruBounds]) (Λs := []) (n := 30) ((congrArg Tr.eval (ruRight_eq x)).trans h)⟩
def ruCheck_L105_4 : LS := ⟨4, [], ⟨18, [(10, .v (.one (.i .i64))), (8, .v (.one (.st 10 false))), (9, .v (.one (.i .i64)))], []⟩, [⟨none, [], ⟨18, [(2, .v (.one (.i .i64)))], []⟩⟩, ⟨some 0, [], ⟨18, [], []⟩⟩], []⟩
def ruCheck_step105_4 : (Int × ((List TRule) × (Int × Unit))) -> Tr ((Int × ((List TRule) × (Int × Unit))) ⊕ ((Int × Unit) ⊕ Unit)) :=
 fun (a0, a1, a2, _) =>
 .ite (decide (a0 < a2)) (
 .grd (decide (0 <= a0)) (
 .opt (a1[Int.toNat a0]?) (fun r0 =>
 .opt ((ruRight_fn (r0.fromAddr, (r0.fromLong, (r0.toAddr, (r0.toLong, (r0.proto, (r0.fromLow, (r0.fromHigh, (r0.toLow, (r0.toHigh, (r0.pass, ())))))))))))) (fun r1 =>
 .ite (!r1.1) (
 .ret (Sum.inr (Sum.inl (4, ())))) (
 .ret (Sum.inl (wW .i64 (a0 + 1), (a1, (a2, ()))))))))) (
 .ret (Sum.inr (Sum.inr ())))
def ruCheck_loop105_4 (x : (Int × ((List TRule) × (Int × Unit)))) : Option ((Int × Unit) ⊕ Unit) := loopO 1050004 (fun x => (ruCheck_step105_4 x).eval) 18446744073709551616 x
def ruCheck_ap : List VP1 := [.one (.st 10 false)]
def ruCheck_rp : SP := ⟨1, [(0, .v (.one (.i .i64)))], []⟩
def ruCheck_tree : ((List TRule) × Unit) -> Tr (Int × Unit) :=
 fun (a0, _) =>
 .ite (decide (64 < (↑(a0.length) : Int))) (
 .ret (2, ())) (
 .opt ((ruCheck_loop105_4 (0, (a0, ((↑(a0.length) : Int), ()))))) (fun r0 =>
 .sum (r0) (fun r1 =>
 .ret (r1.1, ())) (fun r1 =>
 .ret (0, ()))))
noncomputable def gm40 : List (PF Go.Proofs.Tryz.prog) := [clRule, FS.pf ruNet, FS.pf ruHas, FS.pf ruBounds, FS.pf ruRight]
theorem ruCheck_eq (x : ((List TRule) × Unit)) : fnTr Tryz.prog cod gm40 [(105, ruCheck_L105_4)] 30 105 ruCheck_ap ruCheck_rp x = ruCheck_tree x := by kernel_rfl
def ruCheck_fn (x : ((List TRule) × Unit)) : Option (Int × Unit) := (ruCheck_tree x).eval
def ruCheck : FS Tryz.prog := ⟨105, ruCheck_ap, ruCheck_rp, ruCheck_fn, fun x r h => fnTr_sound (cod := cod) (Γ := gm40) (Λs := [(105, ruCheck_L105_4)]) (n := 30) ((congrArg Tr.eval (ruCheck_eq x)).trans h)⟩
def ruMeets_ap : List VP1 := [.agg [.i .u32, .i .i64, .i .u32, .i .i64, .i .i64, .i .i64, .i .i64, .i .i64, .i .i64, .b], .agg [.i .u32, .i .u32, .i .i64, .i .i64, .i .i64]]
def ruMeets_rp : SP := ⟨1, [(0, .v (.one (.b)))], []⟩
abbrev ty9_ : Type := (Int × (Int × (Int × (Int × (Int × (Int × (Int × (Int × (Int × (Bool × (Int × (Int × (Int × (Int × (Int × Unit)))))))))))))))
def ruMeets_tree : ty9_ -> Tr (Bool × Unit) :=
 fun (a0, a1, a2, a3, a4, a5, a6, a7, a8, a9, a10, a11, a12, a13, a14, _) =>
 .opt ((ruHas_fn (a0, (a1, (a10, ()))))) (fun r0 =>
 .ite (r0.1) (
 .opt ((ruHas_fn (a2, (a3, (a11, ()))))) (fun r1 =>
 .ite (r1.1) (
 .ite (decide (a4 = 0)) (
 .ite (decide (a5 <= a13)) (
 .ite (decide (a13 <= a6)) (
 .ite (decide (a7 <= a14)) (
 .ret (decide (a14 <= a8), ())) (
 .ret (false, ()))) (
 .ret (false, ()))) (
 .ret (false, ()))) (
 .ite (decide (a4 = a12)) (
 .ite (decide (a5 <= a13)) (
 .ite (decide (a13 <= a6)) (
 .ite (decide (a7 <= a14)) (
 .ret (decide (a14 <= a8), ())) (
 .ret (false, ()))) (
 .ret (false, ()))) (
 .ret (false, ()))) (
 .ret (false, ())))) (
 .ret (false, ())))) (
 .ret (false, ())))
noncomputable def gm41 : List (PF Go.Proofs.Tryz.prog) := gm40 ++ [FS.pf ruCheck]
theorem ruMeets_eq (x : ty9_) : fnTr Tryz.prog cod gm41 [] 30 168 ruMeets_ap ruMeets_rp x = ruMeets_tree x := by kernel_rfl
def ruMeets_fn (x : ty9_) : Option (Bool × Unit) := (ruMeets_tree x).eval
def ruMeets : FS Tryz.prog := ⟨168, ruMeets_ap, ruMeets_rp, ruMeets_fn, fun x r h => fnTr_sound (cod := cod) (Γ := gm41) (Λs := []) (n := 30) ((congrArg Tr.eval (ruMeets_eq x)).trans h)⟩
def ruDecide_L166_2 : LS := ⟨2, [(1000200, 1000200)], ⟨19, [(8, .v (.one (.i .i64))), (0, .v (.one (.st 10 false))), (1, .v (.one (.clp 167 [(1000200, 0)]))), (7, .v (.one (.i .i64)))], [(1000200, .cells [.i .u32, .i .u32, .i .i64, .i .i64, .i .i64])]⟩, [⟨none, [(1000200, 1000200)], ⟨19, [(4, .v (.one (.i .i64)))], [(1000200, .cells [.i .u32, .i .u32, .i .i64, .i .i64, .i .i64])]⟩⟩, ⟨some 0, [(1000200, 1000200)], ⟨19, [], [(1000200, .cells [.i .u32, .i .u32, .i .i64, .i .i64, .i .i64])]⟩⟩], []⟩
def ruDecide_step166_2 : (Int × ((List TRule) × (Int × (Int × (Int × (Int × (Int × (Int × Unit)))))))) -> Tr ((Int × ((List TRule) × (Int × (Int × (Int × (Int × (Int × (Int × Unit)))))))) ⊕ ((Int × (Int × (Int × (Int × (Int × (Int × Unit)))))) ⊕ (Int × (Int × (Int × (Int × (Int × Unit))))))) :=
 fun (a0, a1, a2, a3, a4, a5, a6, a7, _) =>
 .ite (decide (a0 < a2)) (
 .grd (decide (0 <= a0)) (
 .opt (a1[Int.toNat a0]?) (fun r0 =>
 .opt ((ruMeets_fn (r0.fromAddr, (r0.fromLong, (r0.toAddr, (r0.toLong, (r0.proto, (r0.fromLow, (r0.fromHigh, (r0.toLow, (r0.toHigh, (r0.pass, (a3, (a4, (a5, (a6, (a7, ()))))))))))))))))) (fun r1 =>
 .ite (r1.1) (
 .ret (Sum.inr (Sum.inl (a0, (a3, (a4, (a5, (a6, (a7, ()))))))))) (
 .ret (Sum.inl (wW .i64 (a0 + 1), (a1, (a2, (a3, (a4, (a5, (a6, (a7, ())))))))))))))) (
 .ret (Sum.inr (Sum.inr (a3, (a4, (a5, (a6, (a7, ()))))))))
def ruDecide_loop166_2 (x : (Int × ((List TRule) × (Int × (Int × (Int × (Int × (Int × (Int × Unit))))))))) : Option ((Int × (Int × (Int × (Int × (Int × (Int × Unit)))))) ⊕ (Int × (Int × (Int × (Int × (Int × Unit)))))) := loopO 1660002 (fun x => (ruDecide_step166_2 x).eval) 18446744073709551616 x
def ruDecide_ap : List VP1 := [.one (.st 10 false), .agg [.i .u32, .i .u32, .i .i64, .i .i64, .i .i64], .one (.b)]
def ruDecide_rp : SP := ⟨1, [(0, .tup [.one (.b), .one (.i .i64), .one (.i .i64)])], []⟩
def ruDecide_tree : ((List TRule) × (Int × (Int × (Int × (Int × (Int × (Bool × Unit))))))) -> Tr (Bool × (Int × (Int × Unit))) :=
 fun (a0, a1, a2, a3, a4, a5, a6, _) =>
 .opt ((ruCheck_fn (a0, ()))) (fun r0 =>
 .ite (!decide (r0.1 = 0)) (
 .ret (false, (0, (r0.1, ())))) (
 .ite (decide (a3 < 0)) (
 .ret (false, (0, (1, ())))) (
 .ite (decide (255 < a3)) (
 .ret (false, (0, (1, ())))) (
 .opt ((ruBounds_fn (a4, (a4, ())))) (fun r1 =>
 .ite (!r1.1) (
 .ret (false, (0, (1, ())))) (
 .opt ((ruBounds_fn (a5, (a5, ())))) (fun r2 =>
 .ite (!r2.1) (
 .ret (false, (0, (1, ())))) (
 .opt ((ruDecide_loop166_2 (0, (a0, ((↑(a0.length) : Int), (a1, (a2, (a3, (a4, (a5, ())))))))))) (fun r3 =>
 .sum (r3) (fun r4 =>
 .ite (decide (r4.1 < 0)) (
 .ret (a6, (r4.1, (0, ())))) (
 .grd (decide (0 <= r4.1)) (
 .opt (a0[Int.toNat r4.1]?) (fun r5 =>
 .ret (r5.pass, (r4.1, (0, ()))))))) (fun r4 =>
 .ite (true) (
 .ret (a6, ((-1 : Int), (0, ())))) (
 .grd (false) (
 .opt (a0[(0 : Nat)]?) (fun r5 =>
 .ret (r5.pass, ((-1 : Int), (0, ()))))))))))))))))
noncomputable def gm42 : List (PF Go.Proofs.Tryz.prog) := gm41 ++ [FS.pf ruMeets]
theorem ruDecide_eq (x : ((List TRule) × (Int × (Int × (Int × (Int × (Int × (Bool × Unit)))))))) : fnTr Tryz.prog cod gm42 [(166, ruDecide_L166_2)] 30 138 ruDecide_ap ruDecide_rp x = ruDecide_tree x := by kernel_rfl
def ruDecide_fn (x : ((List TRule) × (Int × (Int × (Int × (Int × (Int × (Bool × Unit)))))))) : Option (Bool × (Int × (Int × Unit))) := (ruDecide_tree x).eval
def ruDecide : FS Tryz.prog := ⟨138, ruDecide_ap, ruDecide_rp, ruDecide_fn, fun x r h => fnTr_sound (cod := cod) (Γ := gm42) (Λs := [(166, ruDecide_L166_2)]) (n := 30) ((congrArg Tr.eval (ruDecide_eq x)).trans h)⟩
end Go.Proofs.YthkhikdglmaiaaaGreatDoor.X
namespace Go.Proofs.YthkhikdglmaiaaaGreatDoor.X
open Go Go.RowKit Go.Proofs.YthkhikdglmaiaaaGreatDoor.Abs
set_option linter.unusedVariables false
theorem acall_glob {P : Program} {f : FuncId} {ys : List V} {r : V} (hn : ys.length <= 900)
  (h : ∀ (w : World) (U : Nat -> Prop) (β : Nat -> Option Abs.Place) (us : Array Value), us.size = ys.length -> (∀ t, RepV w β U w.heap.size (us.getD t undef) ((Abs.look t (argsEnv 0 ys)).getD (.one .bad))) -> Glob U w ->
   ∃ v, RepV w β U w.heap.size v r /\ Calls P f us w fun e w' => e = .returned v /\ w' = w) : ACall P f ys [] fun r' m'' => r' = r /\ m'' = [] := by
 intro w U0 X β0 us hs
 obtain ⟨v, hv, hc⟩ := h w U0 β0 us hs.n hs.env hs.glob
 refine hc.mono ?_
 rintro e w' ⟨rfl, rfl⟩
 refine ⟨v, r, [], rfl, ⟨rfl, rfl⟩, β0, U0, { hs with n := rfl, small := by simp, defers := rfl, env := fun t => ?_ }⟩
 show RepV w' β0 U0 w'.heap.size (#[v].getD t undef) ((Abs.look t [(0, r)]).getD (.one .bad))
 cases t with
 | zero => exact hv
 | succ t => simp [Abs.look]; exact .bad _
end Go.Proofs.YthkhikdglmaiaaaGreatDoor.X
namespace Go.Proofs
theorem YthkhikdglmaiaaaGreatDoor.X.tz_key (x a : Nat) (hx : x < 18446744073709551616) (hlow : x &&& (18446744073709551616 - x) = a) :
   IntKind.u64.wrap (bits BinOp.and IntKind.u64 (x : Int) (IntKind.u64.wrap (-(x : Int))) * 285870213051353865) / 288230376151711744 = ((a * 285870213051353865 % 18446744073709551616 / 288230376151711744 : Nat) : Int) := by
 by_cases h0 : x = 0
 . subst h0
   simp only [Nat.zero_and] at hlow
   subst hlow
   decide
 . have e1 : IntKind.u64.wrap (-(x : Int)) = ((18446744073709551616 - x : Nat) : Int) := by rw [IntKind.wrap_u64]; omega
   rw [e1, bits_and_u64_nat x _ hx (by omega), hlow, IntKind.wrap_u64]
   omega
set_option maxHeartbeats 1000000 in
set_option maxRecDepth 100000 in
theorem YthkhikdglmaiaaaGreatDoor.X.tz_core (x k idx : Nat) (w : World) (hx0 : ((x : Int) == 0) = false)
  (key : IntKind.u64.wrap (bits BinOp.and IntKind.u64 (x : Int) (IntKind.u64.wrap (-(x : Int))) * 285870213051353865) / 288230376151711744 = (idx : Int))
  (hi : idx < 64) (hk : k < 64) (hcell : w.cell? ⟨1, idx, none⟩ = some (.int .u8 k)) :
  Calls Tryz.prog 189 #[.int .u64 x] w fun e w' => e = .returned (.int .i64 k) /\ w' = w := by
 go_enter Tryz.func189, Tryz.ntmps189
 go_wp2_with (simp only [key])
 go_ret
 exact ⟨rfl, rfl⟩
set_option maxRecDepth 100000 in
theorem YthkhikdglmaiaaaGreatDoor.X.tz_zero (w : World) :
  Calls Tryz.prog 189 #[.int .u64 0] w fun e w' => e = .returned (.int .i64 64) /\ w' = w := by
 go_enter Tryz.func189, Tryz.ntmps189
 go_wp2
 go_ret
 exact ⟨rfl, rfl⟩
end Go.Proofs
namespace Go.Proofs.YthkhikdglmaiaaaGreatDoor.X
open Go Go.RowKit Go.Proofs.YthkhikdglmaiaaaGreatDoor.Abs
set_option linter.unusedVariables false
theorem glob_cell {U : Nat -> Prop} {w : World} (h : Glob U w) (j : Nat) (hj : j < 64) : w.cell? ⟨1, j, none⟩ = some (.int .u8 (Lib.deBruijn64tab.getD j 0 : Nat)) := by
 obtain ⟨_, x, y, hx⟩ := h.1 (1, _) (List.mem_cons_self)
 unfold World.cell?
 simp only
 rw [show w.heap[1]? = _ from hx]
 have hl : j < Lib.deBruijn64tab.length := hj
 show ((Lib.deBruijn64tab.map fun z : Nat => Value.int .u8 (z : Int)).toArray)[j]? = _
 rw [List.getElem?_toArray, List.getElem?_map, List.getD_eq_getElem?_getD, List.getElem?_eq_getElem hl]
 rfl
theorem tz_calls {U : Nat -> Prop} {w : World} (hg : Glob U w) (x : Nat) (hx : x < 18446744073709551616) :
   Calls Tryz.prog 189 #[.int .u64 x] w fun e w' => e = .returned (.int .i64 (Lib.ctz 64 x : Nat)) /\ w' = w := by
 by_cases hx0 : x = 0
 . subst hx0
   exact tz_zero w
 . obtain ⟨hlow, hk⟩ := Lib.lowest_bit 64 x hx0 hx
   obtain ⟨hi, htab⟩ := Lib.deBruijn64_at _ hk
   have hcell := glob_cell hg _ hi
   rw [htab] at hcell
   exact tz_core x _ _ w (by simp <;> omega) (tz_key x _ hx hlow) hi hk hcell
def ctzI (n : Int) : Int := (Lib.ctz 64 n.toNat : Nat)
def tzTr (ys : List V) (m : Mem) : Option (Tr (V × Mem)) :=
 match ys, m with
 | [.one (.d (.i .u64 n))], [] => some (.grd (decide (0 <= n /\ n <= 18446744073709551615)) (.ret (vi .i64 (ctzI n), [])))
 | _, _ => none
def tz64 : PF Tryz.prog where
 f := 189
 own := []
 tr := tzTr
 ok := by
  intro ys m T r m' h hT
  unfold tzTr at h
  split at h
  . rename_i n
    cases h
    have hT' : (Tr.grd (decide (0 <= n /\ n <= 18446744073709551615)) (.ret (vi .i64 (ctzI n), ([] : Mem)))).eval = some (r, m') := hT
    by_cases hn : 0 <= n /\ n <= 18446744073709551615
    case neg => rw [decide_eq_false hn] at hT'; cases hT'
    rw [decide_eq_true hn] at hT'
    cases hT'
    refine ⟨_, [], WkVs_rfl _, trivial, acall_glob (by simp) fun w U β us hsz henv hg => ⟨.int .i64 (ctzI n), .one _ _ (.i .i64 _), ?_⟩⟩
    have h0 : us.getD 0 undef = .int .u64 n := (show RepV w β U w.heap.size (us.getD 0 undef) (vi .u64 n) from henv 0).int
    have e : us = #[.int .u64 n] := by
     obtain ⟨us⟩ := us
     match us, hsz with
     | [a], _ => have ha : a = _ := h0; rw [ha]
    rw [e]
    obtain ⟨x, rfl⟩ := Int.eq_ofNat_of_zero_le hn.1
    exact tz_calls hg x (by omega)
  . cases h
end Go.Proofs.YthkhikdglmaiaaaGreatDoor.X
namespace Go.Proofs.YthkhikdglmaiaaaGreatDoor.X
open Go Go.RowKit Go.Proofs.YthkhikdglmaiaaaGreatDoor.Abs
open Go.IntKind renaming wrap -> wW
set_option maxRecDepth 100000
set_option linter.unusedVariables false
def portsCheck_ap : List VP1 := [.agg [.i .i64, .i .u64]]
def portsCheck_rp : SP := ⟨1, [(0, .v (.one (.i .i64)))], []⟩
def portsCheck_tree : (Int × (Int × Unit)) -> Tr (Int × Unit) :=
 fun (a0, a1, _) =>
 .ite (decide (a0 < 64)) (
 .ret (1, ())) (
 .ite (decide (65472 < a0)) (
 .ret (1, ())) (
 .grd (true) (
 .ite (!decide (Int.tmod a0 (64 : Int) = (0 : Int))) (
 .ret (1, ())) (
 .ret (0, ())))))
theorem portsCheck_eq (x : (Int × (Int × Unit))) : fnTr Tryz.prog cod [tz64] [] 30 104 portsCheck_ap portsCheck_rp x = portsCheck_tree x := by kernel_rfl
def portsCheck_fn (x : (Int × (Int × Unit))) : Option (Int × Unit) := (portsCheck_tree x).eval
def portsCheck : FS Tryz.prog := ⟨104, portsCheck_ap, portsCheck_rp, portsCheck_fn, fun x r h => fnTr_sound (cod := cod) (Γ := [tz64]) (Λs := []) (n := 30) ((congrArg Tr.eval (portsCheck_eq x)).trans h)⟩
def portsLet_ap : List VP1 := [.agg [.i .i64, .i .u64], .one (.i .i64)]
def portsLet_rp : SP := ⟨1, [(0, .tup [.agg [.i .i64, .i .u64], .one (.i .i64), .one (.i .i64)])], []⟩
abbrev ab0 : Int := (if IntKind.signed IntKind.u64 = true then (-1 : Int) else IntKind.max IntKind.u64)
abbrev xq0 (a1 : Int) : Int := bits .xor .u64 ab0 a1
abbrev xq1 (a2 : Int) : Int := (wW .u64 ((6148914691236517205 : Int) * (2 : Int) ^ min (Int.toNat (bits .and .i64 a2 1)) (64 : Nat)))
abbrev xq2 (a1 a2 : Int) : Int := bits .and .u64 (xq0 a1) (xq1 a2)
def portsLet_tree : (Int × (Int × (Int × Unit))) -> Tr (Int × (Int × (Int × (Int × Unit)))) :=
 fun (a0, a1, a2, _) =>
 .opt ((portsCheck_fn (a0, (a1, ())))) (fun r0 =>
 .ite (!decide (r0.1 = 0)) (
 .ite (!decide (r0.1 = 0)) (
 .ret (0, (0, (0, (r0.1, ()))))) (
 .ite (decide (wW .i64 (a2 - a0) < 0)) (
 .grd (decide (0 <= bits .and .i64 a2 1)) (
 .ite (decide (xq2 a1 a2 = 0)) (
 .grd (decide (0 <= xq0 a1 /\ xq0 a1 <= 18446744073709551615)) (
 .grd (decide (0 <= ctzI (xq0 a1))) (
 .ret (a0, (bits .or .u64 a1 (wW .u64 ((1 : Int) * (2 : Int) ^ min (Int.toNat (ctzI (xq0 a1))) (64 : Nat))), (wW .i64 (a0 + ctzI (xq0 a1)), (0, ()))))))) (
 .grd (decide (0 <= xq2 a1 a2 /\ xq2 a1 a2 <= 18446744073709551615)) (
 .grd (decide (0 <= ctzI (xq2 a1 a2))) (
 .ret (a0, (bits .or .u64 a1 (wW .u64 ((1 : Int) * (2 : Int) ^ min (Int.toNat (ctzI (xq2 a1 a2))) (64 : Nat))), (wW .i64 (a0 + ctzI (xq2 a1 a2)), (0, ()))))))))) (
 .ite (decide (63 < wW .i64 (a2 - a0))) (
 .grd (decide (0 <= bits .and .i64 a2 1)) (
 .ite (decide (xq2 a1 a2 = 0)) (
 .grd (decide (0 <= xq0 a1 /\ xq0 a1 <= 18446744073709551615)) (
 .grd (decide (0 <= ctzI (xq0 a1))) (
 .ret (a0, (bits .or .u64 a1 (wW .u64 ((1 : Int) * (2 : Int) ^ min (Int.toNat (ctzI (xq0 a1))) (64 : Nat))), (wW .i64 (a0 + ctzI (xq0 a1)), (0, ()))))))) (
 .grd (decide (0 <= xq2 a1 a2 /\ xq2 a1 a2 <= 18446744073709551615)) (
 .grd (decide (0 <= ctzI (xq2 a1 a2))) (
 .ret (a0, (bits .or .u64 a1 (wW .u64 ((1 : Int) * (2 : Int) ^ min (Int.toNat (ctzI (xq2 a1 a2))) (64 : Nat))), (wW .i64 (a0 + ctzI (xq2 a1 a2)), (0, ()))))))))) (
 .grd (decide (0 <= wW .i64 (a2 - a0))) (
 .ite (decide (bits .and .u64 (Int.fdiv (xq0 a1) ((2 : Int) ^ min (Int.toNat (wW .i64 (a2 - a0))) (64 : Nat))) (1 : Int) = (0 : Int))) (
 .grd (decide (0 <= bits .and .i64 a2 1)) (
 .ite (decide (xq2 a1 a2 = 0)) (
 .grd (decide (0 <= xq0 a1 /\ xq0 a1 <= 18446744073709551615)) (
 .grd (decide (0 <= ctzI (xq0 a1))) (
 .ret (a0, (bits .or .u64 a1 (wW .u64 ((1 : Int) * (2 : Int) ^ min (Int.toNat (ctzI (xq0 a1))) (64 : Nat))), (wW .i64 (a0 + ctzI (xq0 a1)), (0, ()))))))) (
 .grd (decide (0 <= xq2 a1 a2 /\ xq2 a1 a2 <= 18446744073709551615)) (
 .grd (decide (0 <= ctzI (xq2 a1 a2))) (
 .ret (a0, (bits .or .u64 a1 (wW .u64 ((1 : Int) * (2 : Int) ^ min (Int.toNat (ctzI (xq2 a1 a2))) (64 : Nat))), (wW .i64 (a0 + ctzI (xq2 a1 a2)), (0, ()))))))))) (
 .grd (decide (0 <= wW .i64 (a2 - a0))) (
 .ret (a0, (bits .or .u64 a1 (wW .u64 ((1 : Int) * (2 : Int) ^ min (Int.toNat (wW .i64 (a2 - a0))) (64 : Nat))), (wW .i64 (a0 + wW .i64 (a2 - a0)), (0, ()))))))))))) (
 .ite (decide (a2 < 0)) (
 .ite (true) (
 .ret (0, (0, (0, (1, ()))))) (
 .ite (decide (wW .i64 (a2 - a0) < 0)) (
 .grd (decide (0 <= bits .and .i64 a2 1)) (
 .ite (decide (xq2 a1 a2 = 0)) (
 .grd (decide (0 <= xq0 a1 /\ xq0 a1 <= 18446744073709551615)) (
 .grd (decide (0 <= ctzI (xq0 a1))) (
 .ret (a0, (bits .or .u64 a1 (wW .u64 ((1 : Int) * (2 : Int) ^ min (Int.toNat (ctzI (xq0 a1))) (64 : Nat))), (wW .i64 (a0 + ctzI (xq0 a1)), (0, ()))))))) (
 .grd (decide (0 <= xq2 a1 a2 /\ xq2 a1 a2 <= 18446744073709551615)) (
 .grd (decide (0 <= ctzI (xq2 a1 a2))) (
 .ret (a0, (bits .or .u64 a1 (wW .u64 ((1 : Int) * (2 : Int) ^ min (Int.toNat (ctzI (xq2 a1 a2))) (64 : Nat))), (wW .i64 (a0 + ctzI (xq2 a1 a2)), (0, ()))))))))) (
 .ite (decide (63 < wW .i64 (a2 - a0))) (
 .grd (decide (0 <= bits .and .i64 a2 1)) (
 .ite (decide (xq2 a1 a2 = 0)) (
 .grd (decide (0 <= xq0 a1 /\ xq0 a1 <= 18446744073709551615)) (
 .grd (decide (0 <= ctzI (xq0 a1))) (
 .ret (a0, (bits .or .u64 a1 (wW .u64 ((1 : Int) * (2 : Int) ^ min (Int.toNat (ctzI (xq0 a1))) (64 : Nat))), (wW .i64 (a0 + ctzI (xq0 a1)), (0, ()))))))) (
 .grd (decide (0 <= xq2 a1 a2 /\ xq2 a1 a2 <= 18446744073709551615)) (
 .grd (decide (0 <= ctzI (xq2 a1 a2))) (
 .ret (a0, (bits .or .u64 a1 (wW .u64 ((1 : Int) * (2 : Int) ^ min (Int.toNat (ctzI (xq2 a1 a2))) (64 : Nat))), (wW .i64 (a0 + ctzI (xq2 a1 a2)), (0, ()))))))))) (
 .grd (decide (0 <= wW .i64 (a2 - a0))) (
 .ite (decide (bits .and .u64 (Int.fdiv (xq0 a1) ((2 : Int) ^ min (Int.toNat (wW .i64 (a2 - a0))) (64 : Nat))) (1 : Int) = (0 : Int))) (
 .grd (decide (0 <= bits .and .i64 a2 1)) (
 .ite (decide (xq2 a1 a2 = 0)) (
 .grd (decide (0 <= xq0 a1 /\ xq0 a1 <= 18446744073709551615)) (
 .grd (decide (0 <= ctzI (xq0 a1))) (
 .ret (a0, (bits .or .u64 a1 (wW .u64 ((1 : Int) * (2 : Int) ^ min (Int.toNat (ctzI (xq0 a1))) (64 : Nat))), (wW .i64 (a0 + ctzI (xq0 a1)), (0, ()))))))) (
 .grd (decide (0 <= xq2 a1 a2 /\ xq2 a1 a2 <= 18446744073709551615)) (
 .grd (decide (0 <= ctzI (xq2 a1 a2))) (
 .ret (a0, (bits .or .u64 a1 (wW .u64 ((1 : Int) * (2 : Int) ^ min (Int.toNat (ctzI (xq2 a1 a2))) (64 : Nat))), (wW .i64 (a0 + ctzI (xq2 a1 a2)), (0, ()))))))))) (
 .grd (decide (0 <= wW .i64 (a2 - a0))) (
 .ret (a0, (bits .or .u64 a1 (wW .u64 ((1 : Int) * (2 : Int) ^ min (Int.toNat (wW .i64 (a2 - a0))) (64 : Nat))), (wW .i64 (a0 + wW .i64 (a2 - a0)), (0, ()))))))))))) (
 .ite (decide (65535 < a2)) (
 .ite (true) (
 .ret (0, (0, (0, (1, ()))))) (
 .ite (decide (wW .i64 (a2 - a0) < 0)) (
 .grd (decide (0 <= bits .and .i64 a2 1)) (
 .ite (decide (xq2 a1 a2 = 0)) (
 .grd (decide (0 <= xq0 a1 /\ xq0 a1 <= 18446744073709551615)) (
 .grd (decide (0 <= ctzI (xq0 a1))) (
 .ret (a0, (bits .or .u64 a1 (wW .u64 ((1 : Int) * (2 : Int) ^ min (Int.toNat (ctzI (xq0 a1))) (64 : Nat))), (wW .i64 (a0 + ctzI (xq0 a1)), (0, ()))))))) (
 .grd (decide (0 <= xq2 a1 a2 /\ xq2 a1 a2 <= 18446744073709551615)) (
 .grd (decide (0 <= ctzI (xq2 a1 a2))) (
 .ret (a0, (bits .or .u64 a1 (wW .u64 ((1 : Int) * (2 : Int) ^ min (Int.toNat (ctzI (xq2 a1 a2))) (64 : Nat))), (wW .i64 (a0 + ctzI (xq2 a1 a2)), (0, ()))))))))) (
 .ite (decide (63 < wW .i64 (a2 - a0))) (
 .grd (decide (0 <= bits .and .i64 a2 1)) (
 .ite (decide (xq2 a1 a2 = 0)) (
 .grd (decide (0 <= xq0 a1 /\ xq0 a1 <= 18446744073709551615)) (
 .grd (decide (0 <= ctzI (xq0 a1))) (
 .ret (a0, (bits .or .u64 a1 (wW .u64 ((1 : Int) * (2 : Int) ^ min (Int.toNat (ctzI (xq0 a1))) (64 : Nat))), (wW .i64 (a0 + ctzI (xq0 a1)), (0, ()))))))) (
 .grd (decide (0 <= xq2 a1 a2 /\ xq2 a1 a2 <= 18446744073709551615)) (
 .grd (decide (0 <= ctzI (xq2 a1 a2))) (
 .ret (a0, (bits .or .u64 a1 (wW .u64 ((1 : Int) * (2 : Int) ^ min (Int.toNat (ctzI (xq2 a1 a2))) (64 : Nat))), (wW .i64 (a0 + ctzI (xq2 a1 a2)), (0, ()))))))))) (
 .grd (decide (0 <= wW .i64 (a2 - a0))) (
 .ite (decide (bits .and .u64 (Int.fdiv (xq0 a1) ((2 : Int) ^ min (Int.toNat (wW .i64 (a2 - a0))) (64 : Nat))) (1 : Int) = (0 : Int))) (
 .grd (decide (0 <= bits .and .i64 a2 1)) (
 .ite (decide (xq2 a1 a2 = 0)) (
 .grd (decide (0 <= xq0 a1 /\ xq0 a1 <= 18446744073709551615)) (
 .grd (decide (0 <= ctzI (xq0 a1))) (
 .ret (a0, (bits .or .u64 a1 (wW .u64 ((1 : Int) * (2 : Int) ^ min (Int.toNat (ctzI (xq0 a1))) (64 : Nat))), (wW .i64 (a0 + ctzI (xq0 a1)), (0, ()))))))) (
 .grd (decide (0 <= xq2 a1 a2 /\ xq2 a1 a2 <= 18446744073709551615)) (
 .grd (decide (0 <= ctzI (xq2 a1 a2))) (
 .ret (a0, (bits .or .u64 a1 (wW .u64 ((1 : Int) * (2 : Int) ^ min (Int.toNat (ctzI (xq2 a1 a2))) (64 : Nat))), (wW .i64 (a0 + ctzI (xq2 a1 a2)), (0, ()))))))))) (
 .grd (decide (0 <= wW .i64 (a2 - a0))) (
 .ret (a0, (bits .or .u64 a1 (wW .u64 ((1 : Int) * (2 : Int) ^ min (Int.toNat (wW .i64 (a2 - a0))) (64 : Nat))), (wW .i64 (a0 + wW .i64 (a2 - a0)), (0, ()))))))))))) (
 .ite (decide (a1 = 18446744073709551615)) (
 .ite (true) (
 .ret (0, (0, (0, (6, ()))))) (
 .ite (decide (wW .i64 (a2 - a0) < 0)) (
 .grd (decide (0 <= bits .and .i64 a2 1)) (
 .ite (decide (xq2 a1 a2 = 0)) (
 .grd (decide (0 <= xq0 a1 /\ xq0 a1 <= 18446744073709551615)) (
 .grd (decide (0 <= ctzI (xq0 a1))) (
 .ret (a0, (bits .or .u64 a1 (wW .u64 ((1 : Int) * (2 : Int) ^ min (Int.toNat (ctzI (xq0 a1))) (64 : Nat))), (wW .i64 (a0 + ctzI (xq0 a1)), (0, ()))))))) (
 .grd (decide (0 <= xq2 a1 a2 /\ xq2 a1 a2 <= 18446744073709551615)) (
 .grd (decide (0 <= ctzI (xq2 a1 a2))) (
 .ret (a0, (bits .or .u64 a1 (wW .u64 ((1 : Int) * (2 : Int) ^ min (Int.toNat (ctzI (xq2 a1 a2))) (64 : Nat))), (wW .i64 (a0 + ctzI (xq2 a1 a2)), (0, ()))))))))) (
 .ite (decide (63 < wW .i64 (a2 - a0))) (
 .grd (decide (0 <= bits .and .i64 a2 1)) (
 .ite (decide (xq2 a1 a2 = 0)) (
 .grd (decide (0 <= xq0 a1 /\ xq0 a1 <= 18446744073709551615)) (
 .grd (decide (0 <= ctzI (xq0 a1))) (
 .ret (a0, (bits .or .u64 a1 (wW .u64 ((1 : Int) * (2 : Int) ^ min (Int.toNat (ctzI (xq0 a1))) (64 : Nat))), (wW .i64 (a0 + ctzI (xq0 a1)), (0, ()))))))) (
 .grd (decide (0 <= xq2 a1 a2 /\ xq2 a1 a2 <= 18446744073709551615)) (
 .grd (decide (0 <= ctzI (xq2 a1 a2))) (
 .ret (a0, (bits .or .u64 a1 (wW .u64 ((1 : Int) * (2 : Int) ^ min (Int.toNat (ctzI (xq2 a1 a2))) (64 : Nat))), (wW .i64 (a0 + ctzI (xq2 a1 a2)), (0, ()))))))))) (
 .grd (decide (0 <= wW .i64 (a2 - a0))) (
 .ite (decide (bits .and .u64 (Int.fdiv (xq0 a1) ((2 : Int) ^ min (Int.toNat (wW .i64 (a2 - a0))) (64 : Nat))) (1 : Int) = (0 : Int))) (
 .grd (decide (0 <= bits .and .i64 a2 1)) (
 .ite (decide (xq2 a1 a2 = 0)) (
 .grd (decide (0 <= xq0 a1 /\ xq0 a1 <= 18446744073709551615)) (
 .grd (decide (0 <= ctzI (xq0 a1))) (
 .ret (a0, (bits .or .u64 a1 (wW .u64 ((1 : Int) * (2 : Int) ^ min (Int.toNat (ctzI (xq0 a1))) (64 : Nat))), (wW .i64 (a0 + ctzI (xq0 a1)), (0, ()))))))) (
 .grd (decide (0 <= xq2 a1 a2 /\ xq2 a1 a2 <= 18446744073709551615)) (
 .grd (decide (0 <= ctzI (xq2 a1 a2))) (
 .ret (a0, (bits .or .u64 a1 (wW .u64 ((1 : Int) * (2 : Int) ^ min (Int.toNat (ctzI (xq2 a1 a2))) (64 : Nat))), (wW .i64 (a0 + ctzI (xq2 a1 a2)), (0, ()))))))))) (
 .grd (decide (0 <= wW .i64 (a2 - a0))) (
 .ret (a0, (bits .or .u64 a1 (wW .u64 ((1 : Int) * (2 : Int) ^ min (Int.toNat (wW .i64 (a2 - a0))) (64 : Nat))), (wW .i64 (a0 + wW .i64 (a2 - a0)), (0, ()))))))))))) (
 .ite (!decide (r0.1 = 0)) (
 .ret (0, (0, (0, (r0.1, ()))))) (
 .ite (decide (wW .i64 (a2 - a0) < 0)) (
 .grd (decide (0 <= bits .and .i64 a2 1)) (
 .ite (decide (xq2 a1 a2 = 0)) (
 .grd (decide (0 <= xq0 a1 /\ xq0 a1 <= 18446744073709551615)) (
 .grd (decide (0 <= ctzI (xq0 a1))) (
 .ret (a0, (bits .or .u64 a1 (wW .u64 ((1 : Int) * (2 : Int) ^ min (Int.toNat (ctzI (xq0 a1))) (64 : Nat))), (wW .i64 (a0 + ctzI (xq0 a1)), (0, ()))))))) (
 .grd (decide (0 <= xq2 a1 a2 /\ xq2 a1 a2 <= 18446744073709551615)) (
 .grd (decide (0 <= ctzI (xq2 a1 a2))) (
 .ret (a0, (bits .or .u64 a1 (wW .u64 ((1 : Int) * (2 : Int) ^ min (Int.toNat (ctzI (xq2 a1 a2))) (64 : Nat))), (wW .i64 (a0 + ctzI (xq2 a1 a2)), (0, ()))))))))) (
 .ite (decide (63 < wW .i64 (a2 - a0))) (
 .grd (decide (0 <= bits .and .i64 a2 1)) (
 .ite (decide (xq2 a1 a2 = 0)) (
 .grd (decide (0 <= xq0 a1 /\ xq0 a1 <= 18446744073709551615)) (
 .grd (decide (0 <= ctzI (xq0 a1))) (
 .ret (a0, (bits .or .u64 a1 (wW .u64 ((1 : Int) * (2 : Int) ^ min (Int.toNat (ctzI (xq0 a1))) (64 : Nat))), (wW .i64 (a0 + ctzI (xq0 a1)), (0, ()))))))) (
 .grd (decide (0 <= xq2 a1 a2 /\ xq2 a1 a2 <= 18446744073709551615)) (
 .grd (decide (0 <= ctzI (xq2 a1 a2))) (
 .ret (a0, (bits .or .u64 a1 (wW .u64 ((1 : Int) * (2 : Int) ^ min (Int.toNat (ctzI (xq2 a1 a2))) (64 : Nat))), (wW .i64 (a0 + ctzI (xq2 a1 a2)), (0, ()))))))))) (
 .grd (decide (0 <= wW .i64 (a2 - a0))) (
 .ite (decide (bits .and .u64 (Int.fdiv (xq0 a1) ((2 : Int) ^ min (Int.toNat (wW .i64 (a2 - a0))) (64 : Nat))) (1 : Int) = (0 : Int))) (
 .grd (decide (0 <= bits .and .i64 a2 1)) (
 .ite (decide (xq2 a1 a2 = 0)) (
 .grd (decide (0 <= xq0 a1 /\ xq0 a1 <= 18446744073709551615)) (
 .grd (decide (0 <= ctzI (xq0 a1))) (
 .ret (a0, (bits .or .u64 a1 (wW .u64 ((1 : Int) * (2 : Int) ^ min (Int.toNat (ctzI (xq0 a1))) (64 : Nat))), (wW .i64 (a0 + ctzI (xq0 a1)), (0, ()))))))) (
 .grd (decide (0 <= xq2 a1 a2 /\ xq2 a1 a2 <= 18446744073709551615)) (
 .grd (decide (0 <= ctzI (xq2 a1 a2))) (
 .ret (a0, (bits .or .u64 a1 (wW .u64 ((1 : Int) * (2 : Int) ^ min (Int.toNat (ctzI (xq2 a1 a2))) (64 : Nat))), (wW .i64 (a0 + ctzI (xq2 a1 a2)), (0, ()))))))))) (
 .grd (decide (0 <= wW .i64 (a2 - a0))) (
 .ret (a0, (bits .or .u64 a1 (wW .u64 ((1 : Int) * (2 : Int) ^ min (Int.toNat (wW .i64 (a2 - a0))) (64 : Nat))), (wW .i64 (a0 + wW .i64 (a2 - a0)), (0, ())))))))))))))))
theorem portsLet_eq (x : (Int × (Int × (Int × Unit)))) : fnTr Tryz.prog cod [tz64, FS.pf portsCheck] [] 30 172 portsLet_ap portsLet_rp x = portsLet_tree x := by kernel_rfl
def portsLet_fn (x : (Int × (Int × (Int × Unit)))) : Option (Int × (Int × (Int × (Int × Unit)))) := (portsLet_tree x).eval
def portsLet : FS Tryz.prog := ⟨172, portsLet_ap, portsLet_rp, portsLet_fn, fun x r h => fnTr_sound (cod := cod) (Γ := [tz64, FS.pf portsCheck]) (Λs := []) (n := 30) ((congrArg Tr.eval (portsLet_eq x)).trans h)⟩
def portsEnd_ap : List VP1 := [.agg [.i .i64, .i .u64], .one (.i .i64)]
def portsEnd_rp : SP := ⟨1, [(0, .tup [.agg [.i .i64, .i .u64], .one (.i .i64)])], []⟩
def portsEnd_tree : (Int × (Int × (Int × Unit))) -> Tr (Int × (Int × (Int × Unit))) :=
 fun (a0, a1, a2, _) =>
 .opt ((portsCheck_fn (a0, (a1, ())))) (fun r0 =>
 .ite (!decide (r0.1 = 0)) (
 .ret (0, (0, (r0.1, ())))) (
 .ite (decide (a2 < a0)) (
 .ret (0, (0, (7, ())))) (
 .ite (decide (wW .i64 (a0 + 63) < a2)) (
 .ret (0, (0, (7, ())))) (
 .grd (decide (0 <= wW .i64 (a2 - a0))) (
 .ite (decide (bits .and .u64 (Int.fdiv a1 ((2 : Int) ^ min (Int.toNat (wW .i64 (a2 - a0))) (64 : Nat))) (1 : Int) = (0 : Int))) (
 .ret (0, (0, (7, ())))) (
 .grd (decide (0 <= wW .i64 (a2 - a0))) (
 .ret (a0, (bits .xor .u64 a1 (wW .u64 ((1 : Int) * (2 : Int) ^ min (Int.toNat (wW .i64 (a2 - a0))) (64 : Nat))), (0, ()))))))))))
theorem portsEnd_eq (x : (Int × (Int × (Int × Unit)))) : fnTr Tryz.prog cod [tz64, FS.pf portsCheck, FS.pf portsLet] [] 30 131 portsEnd_ap portsEnd_rp x = portsEnd_tree x := by kernel_rfl
def portsEnd_fn (x : (Int × (Int × (Int × Unit)))) : Option (Int × (Int × (Int × Unit))) := (portsEnd_tree x).eval
def portsEnd : FS Tryz.prog := ⟨131, portsEnd_ap, portsEnd_rp, portsEnd_fn, fun x r h => fnTr_sound (cod := cod) (Γ := [tz64, FS.pf portsCheck, FS.pf portsLet]) (Λs := []) (n := 30) ((congrArg Tr.eval (portsEnd_eq x)).trans h)⟩
def confCheck_ap : List VP1 := [.agg [.i .u32, .i .i64, .i .i64, .i .i64, .i .i64, .i .i64, .st 10 false, .b]]
def confCheck_rp : SP := ⟨1, [(0, .v (.one (.i .i64)))], []⟩
def confCheck_tree : (Int × (Int × (Int × (Int × (Int × (Int × ((List TRule) × (Bool × Unit)))))))) -> Tr (Int × Unit) :=
 fun (a0, a1, a2, a3, a4, a5, a6, a7, _) =>
 .opt ((portsCheck_fn (a1, (0, ())))) (fun r0 =>
 .ite (!decide (r0.1 = 0)) (
 .ret (1, ())) (
 .opt ((portsCheck_fn (a2, (0, ())))) (fun r1 =>
 .ite (!decide (r1.1 = 0)) (
 .ret (1, ())) (
 .ite (decide (a3 < 1)) (
 .ret (1, ())) (
 .ite (decide (1000000 < a3)) (
 .ret (1, ())) (
 .ite (decide (a4 < 0)) (
 .ret (1, ())) (
 .ite (decide (1000000 < a4)) (
 .ret (1, ())) (
 .ite (decide (a5 < 1)) (
 .ret (1, ())) (
 .ite (decide (1000000000 < a5)) (
 .ret (1, ())) (
 .opt ((ruCheck_fn (a6, ()))) (fun r2 =>
 .ret (r2.1, ()))))))))))))
noncomputable def gm43 : List (PF Go.Proofs.Tryz.prog) := gm42 ++ [FS.pf ruDecide, tz64, FS.pf portsCheck, FS.pf portsLet, FS.pf portsEnd]
theorem confCheck_eq (x : (Int × (Int × (Int × (Int × (Int × (Int × ((List TRule) × (Bool × Unit))))))))) : fnTr Tryz.prog cod gm43 [] 30 58 confCheck_ap confCheck_rp x = confCheck_tree x := by kernel_rfl
def confCheck_fn (x : (Int × (Int × (Int × (Int × (Int × (Int × ((List TRule) × (Bool × Unit))))))))) : Option (Int × Unit) := (confCheck_tree x).eval
def confCheck : FS Tryz.prog := ⟨58, confCheck_ap, confCheck_rp, confCheck_fn, fun x r h => fnTr_sound (cod := cod) (Γ := gm43) (Λs := []) (n := 30) ((congrArg Tr.eval (confCheck_eq x)).trans h)⟩
theorem clMap_h1 (xs : List (τ 17)) : (bodyTr Go.Proofs.Tryz.prog cod 15 [.one (.nn (.st 17 xs))]).eval = (cloneRes 67 17 40 xs).eval := by kernel_rfl
theorem clMap_h2 : (bodyTr Go.Proofs.Tryz.prog cod 15 [.one .nil]).eval = some (.one .nil, []) := by kernel_rfl
def clMap : PF Go.Proofs.Tryz.prog := clonePF Go.Proofs.Tryz.prog cod 15 67 17 40 clMap_h1 clMap_h2
def delMap_ap : SP := ⟨33, [(0, .v (.one (.own 1000100))), (1, .v (.one (.i .i64))), (2, .v (.one (.i .i64)))], [(1000100, .row 67 17 true true)]⟩
def delMap_rp : SP := ⟨1, [(0, .v (.one (.own 1000100)))], [(1000100, .row 67 17 true true)]⟩
def delMap_tree : (Int × (Int × ((List TMap) × Unit))) -> Tr ((List TMap) × Unit) :=
 fun (a0, a1, a2, _) =>
 .grd (decide (0 <= a0 /\ a0 <= a1 /\ a1 <= (↑(a2.length) : Int) /\ (↑(a2.length) : Int) <= (↑(a2.length) : Int))) (
 .ite (decide (a0 = a1)) (
 .grd (decide (a2.length = a2.length)) (
 .ret (a2, ()))) (
 .grd (decide (0 <= a0 /\ a0 <= (↑(a2.length) : Int))) (
 .grd (decide (0 <= a1 /\ a1 <= (↑(a2.length) : Int) /\ (↑(a2.length) : Int) <= (↑(a2.length) : Int))) (
 .grd (decide (Int.toNat a1 + Int.toNat ((↑(a2.length) : Int) - a1) <= a2.length)) (
 .grd (decide (Int.toNat a0 + List.length (List.take (Int.toNat ((↑(a2.length) : Int) - a1)) (List.drop (Int.toNat a1) a2)) <= a2.length)) (
 .grd (decide (0 <= (↑(Int.toNat a0 + List.length (List.take (Int.toNat ((↑(a2.length) : Int) - a1)) (List.drop (Int.toNat a1) a2))) : Int) /\ (↑(Int.toNat a0 + List.length (List.take (Int.toNat ((↑(a2.length) : Int) - a1)) (List.drop (Int.toNat a1) a2))) : Int) <= (↑(a2.length) : Int) /\ (↑(a2.length) : Int) <= (↑(List.length (List.take (Int.toNat a0) a2 ++ List.take (Int.toNat ((↑(a2.length) : Int) - a1)) (List.drop (Int.toNat a1) a2) ++ List.drop (Int.toNat a0 + List.length (List.take (Int.toNat ((↑(a2.length) : Int) - a1)) (List.drop (Int.toNat a1) a2))) a2)) : Int))) (
 .grd (decide (Int.toNat (↑(Int.toNat a0 + List.length (List.take (Int.toNat ((↑(a2.length) : Int) - a1)) (List.drop (Int.toNat a1) a2))) : Int) + Int.toNat ((↑(a2.length) : Int) - (↑(Int.toNat a0 + List.length (List.take (Int.toNat ((↑(a2.length) : Int) - a1)) (List.drop (Int.toNat a1) a2))) : Int)) <= List.length (List.take (Int.toNat a0) a2 ++ List.take (Int.toNat ((↑(a2.length) : Int) - a1)) (List.drop (Int.toNat a1) a2) ++ List.drop (Int.toNat a0 + List.length (List.take (Int.toNat ((↑(a2.length) : Int) - a1)) (List.drop (Int.toNat a1) a2))) a2))) (
 .grd (decide (Int.toNat a0 + List.length (List.take (Int.toNat ((↑(a2.length) : Int) - a1)) (List.drop (Int.toNat a1) a2)) = List.length (List.take (Int.toNat a0 + List.length (List.take (Int.toNat ((↑(a2.length) : Int) - a1)) (List.drop (Int.toNat a1) a2))) (List.take (Int.toNat (↑(Int.toNat a0 + List.length (List.take (Int.toNat ((↑(a2.length) : Int) - a1)) (List.drop (Int.toNat a1) a2))) : Int)) (List.take (Int.toNat a0) a2 ++ List.take (Int.toNat ((↑(a2.length) : Int) - a1)) (List.drop (Int.toNat a1) a2) ++ List.drop (Int.toNat a0 + List.length (List.take (Int.toNat ((↑(a2.length) : Int) - a1)) (List.drop (Int.toNat a1) a2))) a2) ++ List.replicate (Int.toNat ((↑(a2.length) : Int) - (↑(Int.toNat a0 + List.length (List.take (Int.toNat ((↑(a2.length) : Int) - a1)) (List.drop (Int.toNat a1) a2))) : Int))) (TMap.mk (0 : Int) (0 : Int) (0 : Int) (0 : Int) (0 : Int)) ++ List.drop (Int.toNat (↑(Int.toNat a0 + List.length (List.take (Int.toNat ((↑(a2.length) : Int) - a1)) (List.drop (Int.toNat a1) a2))) : Int) + List.length (List.replicate (Int.toNat ((↑(a2.length) : Int) - (↑(Int.toNat a0 + List.length (List.take (Int.toNat ((↑(a2.length) : Int) - a1)) (List.drop (Int.toNat a1) a2))) : Int))) (TMap.mk (0 : Int) (0 : Int) (0 : Int) (0 : Int) (0 : Int)))) (List.take (Int.toNat a0) a2 ++ List.take (Int.toNat ((↑(a2.length) : Int) - a1)) (List.drop (Int.toNat a1) a2) ++ List.drop (Int.toNat a0 + List.length (List.take (Int.toNat ((↑(a2.length) : Int) - a1)) (List.drop (Int.toNat a1) a2))) a2))))) (
 .ret (List.take (Int.toNat a0 + List.length (List.take (Int.toNat ((↑(a2.length) : Int) - a1)) (List.drop (Int.toNat a1) a2))) (List.take (Int.toNat (↑(Int.toNat a0 + List.length (List.take (Int.toNat ((↑(a2.length) : Int) - a1)) (List.drop (Int.toNat a1) a2))) : Int)) (List.take (Int.toNat a0) a2 ++ List.take (Int.toNat ((↑(a2.length) : Int) - a1)) (List.drop (Int.toNat a1) a2) ++ List.drop (Int.toNat a0 + List.length (List.take (Int.toNat ((↑(a2.length) : Int) - a1)) (List.drop (Int.toNat a1) a2))) a2) ++ List.replicate (Int.toNat ((↑(a2.length) : Int) - (↑(Int.toNat a0 + List.length (List.take (Int.toNat ((↑(a2.length) : Int) - a1)) (List.drop (Int.toNat a1) a2))) : Int))) (TMap.mk (0 : Int) (0 : Int) (0 : Int) (0 : Int) (0 : Int)) ++ List.drop (Int.toNat (↑(Int.toNat a0 + List.length (List.take (Int.toNat ((↑(a2.length) : Int) - a1)) (List.drop (Int.toNat a1) a2))) : Int) + List.length (List.replicate (Int.toNat ((↑(a2.length) : Int) - (↑(Int.toNat a0 + List.length (List.take (Int.toNat ((↑(a2.length) : Int) - a1)) (List.drop (Int.toNat a1) a2))) : Int))) (TMap.mk (0 : Int) (0 : Int) (0 : Int) (0 : Int) (0 : Int)))) (List.take (Int.toNat a0) a2 ++ List.take (Int.toNat ((↑(a2.length) : Int) - a1)) (List.drop (Int.toNat a1) a2) ++ List.drop (Int.toNat a0 + List.length (List.take (Int.toNat ((↑(a2.length) : Int) - a1)) (List.drop (Int.toNat a1) a2))) a2)), ()))))))))))
noncomputable def gm44 : List (PF Go.Proofs.Tryz.prog) := [tz64, FS.pf portsCheck, FS.pf portsLet, FS.pf portsEnd, clMap]
theorem delMap_eq (x : (Int × (Int × ((List TMap) × Unit)))) : gsTr Tryz.prog cod gm44 [] 30 171 delMap_ap delMap_rp x = delMap_tree x := by kernel_rfl
def delMap_fn (x : (Int × (Int × ((List TMap) × Unit)))) : Option ((List TMap) × Unit) := (delMap_tree x).eval
def delMap : GS Tryz.prog := ⟨171, [1, 0, 0], delMap_ap, delMap_rp, delMap_fn, fun x r h ys m g he hg => gs_sound (cod := cod) (Γ := gm44) (Λs := []) (n := 30) ((congrArg Tr.eval (delMap_eq x)).trans h) he hg⟩
def eqMap_L20_4 : LS := ⟨4, [], ⟨26, [(13, .v (.one (.i .i64))), (1, .v (.one (.st 17 false))), (0, .v (.one (.st 17 false))), (12, .v (.one (.i .i64)))], []⟩, [⟨none, [], ⟨26, [(4, .v (.one (.b)))], []⟩⟩, ⟨some 0, [], ⟨26, [], []⟩⟩], []⟩
def eqMap_step20_4 : (Int × ((List TMap) × ((List TMap) × (Int × Unit)))) -> Tr ((Int × ((List TMap) × ((List TMap) × (Int × Unit)))) ⊕ ((Bool × Unit) ⊕ Unit)) :=
 fun (a0, a1, a2, a3, _) =>
 .ite (decide (a0 < a3)) (
 .grd (decide (0 <= a0)) (
 .opt (a2[Int.toNat a0]?) (fun r0 =>
 .grd (decide (0 <= a0)) (
 .opt (a1[Int.toNat a0]?) (fun r1 =>
 .ite (!(decide (r0.proto = r1.proto) && (decide (r0.addr = r1.addr) && (decide (r0.port = r1.port) && (decide (r0.out = r1.out) && (decide (r0.at' = r1.at') && true)))))) (
 .ret (Sum.inr (Sum.inl (false, ())))) (
 .ret (Sum.inl (wW .i64 (a0 + 1), (a1, (a2, (a3, ()))))))))))) (
 .ret (Sum.inr (Sum.inr ())))
def eqMap_loop20_4 (x : (Int × ((List TMap) × ((List TMap) × (Int × Unit))))) : Option ((Bool × Unit) ⊕ Unit) := loopO 200004 (fun x => (eqMap_step20_4 x).eval) 18446744073709551616 x
def eqMap_ap : List VP1 := [.one (.st 17 false), .one (.st 17 false)]
def eqMap_rp : SP := ⟨1, [(0, .v (.one (.b)))], []⟩
def eqMap_tree : ((List TMap) × ((List TMap) × Unit)) -> Tr (Bool × Unit) :=
 fun (a0, a1, _) =>
 .ite (!decide ((↑(a0.length) : Int) = (↑(a1.length) : Int))) (
 .ret (false, ())) (
 .opt ((eqMap_loop20_4 (0, (a1, (a0, ((↑(a0.length) : Int), ())))))) (fun r0 =>
 .sum (r0) (fun r1 =>
 .ret (r1.1, ())) (fun r1 =>
 .ret (true, ()))))
noncomputable def gm45 : List (PF Go.Proofs.Tryz.prog) := gm44 ++ [GS.pf delMap]
theorem eqMap_eq (x : ((List TMap) × ((List TMap) × Unit))) : fnTr Tryz.prog cod gm45 [(20, eqMap_L20_4)] 30 20 eqMap_ap eqMap_rp x = eqMap_tree x := by kernel_rfl
def eqMap_fn (x : ((List TMap) × ((List TMap) × Unit))) : Option (Bool × Unit) := (eqMap_tree x).eval
def eqMap : FS Tryz.prog := ⟨20, eqMap_ap, eqMap_rp, eqMap_fn, fun x r h => fnTr_sound (cod := cod) (Γ := gm45) (Λs := [(20, eqMap_L20_4)]) (n := 30) ((congrArg Tr.eval (eqMap_eq x)).trans h)⟩
def natWithin_L161_2 : LS := ⟨2, [(1000200, 1000200), (1000201, 1000201), (1000202, 1000202)], ⟨19, [(8, .v (.one (.i .i64))), (0, .v (.one (.st 17 false))), (1, .v (.one (.clp 162 [(1000200, 0), (1000201, 0), (1000202, 0)]))), (7, .v (.one (.i .i64)))], [(1000200, .cells [.i .i64]), (1000201, .cells [.i .u32]), (1000202, .cells [.i .i64])]⟩, [⟨none, [(1000200, 1000200), (1000201, 1000201), (1000202, 1000202)], ⟨19, [(4, .v (.one (.i .i64)))], [(1000200, .cells [.i .i64]), (1000201, .cells [.i .u32]), (1000202, .cells [.i .i64])]⟩⟩, ⟨some 0, [(1000200, 1000200), (1000201, 1000201), (1000202, 1000202)], ⟨19, [], [(1000200, .cells [.i .i64]), (1000201, .cells [.i .u32]), (1000202, .cells [.i .i64])]⟩⟩], []⟩
def natWithin_step161_2 : (Int × ((List TMap) × (Int × (Int × (Int × (Int × Unit)))))) -> Tr ((Int × ((List TMap) × (Int × (Int × (Int × (Int × Unit)))))) ⊕ ((Int × (Int × (Int × (Int × Unit)))) ⊕ (Int × (Int × (Int × Unit))))) :=
 fun (a0, a1, a2, a3, a4, a5, _) =>
 .ite (decide (a0 < a2)) (
 .grd (decide (0 <= a0)) (
 .opt (a1[Int.toNat a0]?) (fun r0 =>
 .ite (decide (r0.proto = a3)) (
 .ite (decide (r0.addr = a4)) (
 .ite (decide (r0.port = a5)) (
 .ret (Sum.inr (Sum.inl (a0, (a3, (a4, (a5, ()))))))) (
 .ret (Sum.inl (wW .i64 (a0 + 1), (a1, (a2, (a3, (a4, (a5, ()))))))))) (
 .ite (false) (
 .ret (Sum.inr (Sum.inl (a0, (a3, (a4, (a5, ()))))))) (
 .ret (Sum.inl (wW .i64 (a0 + 1), (a1, (a2, (a3, (a4, (a5, ())))))))))) (
 .ite (false) (
 .ret (Sum.inr (Sum.inl (a0, (a3, (a4, (a5, ()))))))) (
 .ret (Sum.inl (wW .i64 (a0 + 1), (a1, (a2, (a3, (a4, (a5, ())))))))))))) (
 .ret (Sum.inr (Sum.inr (a3, (a4, (a5, ()))))))
def natWithin_loop161_2 (x : (Int × ((List TMap) × (Int × (Int × (Int × (Int × Unit))))))) : Option ((Int × (Int × (Int × (Int × Unit)))) ⊕ (Int × (Int × (Int × Unit)))) := loopO 1610002 (fun x => (natWithin_step161_2 x).eval) 18446744073709551616 x
def natWithin_ap : List VP1 := [.agg [.i .i64, .i .i64, .i .u64, .i .i64, .i .u64, .st 17 false], .one (.i .i64), .one (.i .u32), .one (.i .i64)]
def natWithin_rp : SP := ⟨1, [(0, .v (.one (.i .i64)))], []⟩
def natWithin_tree : (Int × (Int × (Int × (Int × (Int × ((List TMap) × (Int × (Int × (Int × Unit))))))))) -> Tr (Int × Unit) :=
 fun (a0, a1, a2, a3, a4, a5, a6, a7, a8, _) =>
 .opt ((natWithin_loop161_2 (0, (a5, ((↑(a5.length) : Int), (a6, (a7, (a8, ())))))))) (fun r0 =>
 .sum (r0) (fun r1 =>
 .ret (r1.1, ())) (fun r1 =>
 .ret ((-1 : Int), ())))
noncomputable def gm46 : List (PF Go.Proofs.Tryz.prog) := gm45 ++ [FS.pf eqMap]
theorem natWithin_eq (x : (Int × (Int × (Int × (Int × (Int × ((List TMap) × (Int × (Int × (Int × Unit)))))))))) : fnTr Tryz.prog cod gm46 [(161, natWithin_L161_2)] 30 130 natWithin_ap natWithin_rp x = natWithin_tree x := by kernel_rfl
def natWithin_fn (x : (Int × (Int × (Int × (Int × (Int × ((List TMap) × (Int × (Int × (Int × Unit)))))))))) : Option (Int × Unit) := (natWithin_tree x).eval
def natWithin : FS Tryz.prog := ⟨130, natWithin_ap, natWithin_rp, natWithin_fn, fun x r h => fnTr_sound (cod := cod) (Γ := gm46) (Λs := [(161, natWithin_L161_2)]) (n := 30) ((congrArg Tr.eval (natWithin_eq x)).trans h)⟩
def natCheck_L84_9 : LS := ⟨9, [(1, 1), (4, 4)], ⟨103, [(33, .v (.one (.i .i64))), (1, .v (.one (.ptr 1 0))), (5, .v (.one (.i .i64))), (4, .v (.one (.ptr 4 0))), (31, .v (.one (.st 17 false))), (32, .v (.one (.i .i64)))], [(1, .cells [.i .i64, .i .i64, .i .u64, .i .i64, .i .u64, .st 17 false]), (4, .cells [.i .i64, .i .i64, .i .u64, .i .i64, .i .u64, .st 17 false])]⟩, [⟨none, [], ⟨103, [(2, .v (.one (.i .i64)))], []⟩⟩, ⟨some 0, [(4, 4)], ⟨103, [(4, .v (.one (.ptr 4 0)))], [(4, .cells [.i .i64, .i .i64, .i .u64, .i .i64, .i .u64, .st 17 false])]⟩⟩], []⟩
abbrev ty11_ : Type := (Int × (Int × ((List TMap) × (Int × (Int × (Int × (Int × (Int × (Int × ((List TMap) × (Int × (Int × (Int × (Int × (Int × ((List TMap) × Unit))))))))))))))))
def natCheck_step84_9 : ty11_ -> Tr (ty11_ ⊕ ((Int × Unit) ⊕ (Int × (Int × (Int × (Int × (Int × ((List TMap) × Unit)))))))) :=
 fun (a0, a1, a2, a3, a4, a5, a6, a7, a8, a9, a10, a11, a12, a13, a14, a15, _) =>
 .ite (decide (a0 < a3)) (
 .grd (decide (0 <= a0)) (
 .opt (a2[Int.toNat a0]?) (fun r0 =>
 .ite (decide (r0.proto = 17)) (
 .ite (false) (
 .ret (Sum.inr (Sum.inl (4, ())))) (
 .ite (decide (r0.port < 0)) (
 .ret (Sum.inr (Sum.inl (4, ())))) (
 .ite (decide (65535 < r0.port)) (
 .ret (Sum.inr (Sum.inl (4, ())))) (
 .ite (decide (r0.at' < a1)) (
 .ret (Sum.inr (Sum.inl (4, ())))) (
 .ite (decide (1099511627776 < r0.at')) (
 .ret (Sum.inr (Sum.inl (4, ())))) (
 .opt ((natWithin_fn (a4, (a5, (a6, (a7, (a8, (a9, (r0.proto, (r0.addr, (r0.port, ()))))))))))) (fun r1 =>
 .ite (!decide (r1.1 = a0)) (
 .ret (Sum.inr (Sum.inl (4, ())))) (
 .opt ((portsEnd_fn (a11, (a12, (r0.out, ()))))) (fun r2 =>
 .ite (!decide (r2.2.2.1 = 0)) (
 .ret (Sum.inr (Sum.inl (4, ())))) (
 .ret (Sum.inl (wW .i64 (a0 + 1), (r0.at', (a2, (a3, (a4, (a5, (a6, (a7, (a8, (a9, (a10, (r2.1, (r2.2.1, (a13, (a14, (a15, ()))))))))))))))))))))))))))) (
 .ite (decide (r0.proto = 6)) (
 .ite (false) (
 .ret (Sum.inr (Sum.inl (4, ())))) (
 .ite (decide (r0.port < 0)) (
 .ret (Sum.inr (Sum.inl (4, ())))) (
 .ite (decide (65535 < r0.port)) (
 .ret (Sum.inr (Sum.inl (4, ())))) (
 .ite (decide (r0.at' < a1)) (
 .ret (Sum.inr (Sum.inl (4, ())))) (
 .ite (decide (1099511627776 < r0.at')) (
 .ret (Sum.inr (Sum.inl (4, ())))) (
 .opt ((natWithin_fn (a4, (a5, (a6, (a7, (a8, (a9, (r0.proto, (r0.addr, (r0.port, ()))))))))))) (fun r1 =>
 .ite (!decide (r1.1 = a0)) (
 .ret (Sum.inr (Sum.inl (4, ())))) (
 .opt ((portsEnd_fn (a13, (a14, (r0.out, ()))))) (fun r2 =>
 .ite (!decide (r2.2.2.1 = 0)) (
 .ret (Sum.inr (Sum.inl (4, ())))) (
 .ret (Sum.inl (wW .i64 (a0 + 1), (r0.at', (a2, (a3, (a4, (a5, (a6, (a7, (a8, (a9, (a10, (a11, (a12, (r2.1, (r2.2.1, (a15, ()))))))))))))))))))))))))))) (
 .ite (true) (
 .ret (Sum.inr (Sum.inl (4, ())))) (
 .ite (decide (r0.port < 0)) (
 .ret (Sum.inr (Sum.inl (4, ())))) (
 .ite (decide (65535 < r0.port)) (
 .ret (Sum.inr (Sum.inl (4, ())))) (
 .ite (decide (r0.at' < a1)) (
 .ret (Sum.inr (Sum.inl (4, ())))) (
 .ite (decide (1099511627776 < r0.at')) (
 .ret (Sum.inr (Sum.inl (4, ())))) (
 .opt ((natWithin_fn (a4, (a5, (a6, (a7, (a8, (a9, (r0.proto, (r0.addr, (r0.port, ()))))))))))) (fun r1 =>
 .ite (!decide (r1.1 = a0)) (
 .ret (Sum.inr (Sum.inl (4, ())))) (
 .fail 3)))))))))))) (
 .ret (Sum.inr (Sum.inr (a10, (a11, (a12, (a13, (a14, (a15, ())))))))))
def natCheck_loop84_9 (x : ty11_) : Option ((Int × Unit) ⊕ (Int × (Int × (Int × (Int × (Int × ((List TMap) × Unit))))))) := loopO 840009 (fun x => (natCheck_step84_9 x).eval) 18446744073709551616 x
def natCheck_ap : List VP1 := [.agg [.i .i64, .i .i64, .i .u64, .i .i64, .i .u64, .st 17 false]]
def natCheck_rp : SP := ⟨1, [(0, .v (.one (.i .i64)))], []⟩
def natCheck_tree : (Int × (Int × (Int × (Int × (Int × ((List TMap) × Unit)))))) -> Tr (Int × Unit) :=
 fun (a0, a1, a2, a3, a4, a5, _) =>
 .ite (decide (a0 < 1)) (
 .ret (1, ())) (
 .ite (decide (1000000 < a0)) (
 .ret (1, ())) (
 .opt ((portsCheck_fn (a1, (a2, ())))) (fun r0 =>
 .opt ((portsCheck_fn (a3, (a4, ())))) (fun r1 =>
 .ite (!decide ((if false = true then if r1.1 < r0.1 then r1.1 else r0.1 else if r1.1 > r0.1 then r1.1 else r0.1) = 0)) (
 .ret (if false = true then if r1.1 < r0.1 then r1.1 else r0.1 else if r1.1 > r0.1 then r1.1 else r0.1, ())) (
 .opt ((natCheck_loop84_9 (0, (0, (a5, ((↑(a5.length) : Int), (a0, (a1, (a2, (a3, (a4, (a5, (a0, (a1, (a2, (a3, (a4, (a5, ())))))))))))))))))) (fun r2 =>
 .sum (r2) (fun r3 =>
 .ret (r3.1, ())) (fun r3 =>
 .ite (!decide (r3.2.2.1 = 0)) (
 .ret (4, ())) (
 .ite (!decide (r3.2.2.2.2.1 = 0)) (
 .ret (4, ())) (
 .ret (0, ()))))))))))
noncomputable def gm47 : List (PF Go.Proofs.Tryz.prog) := gm46 ++ [FS.pf natWithin]
theorem natCheck_eq (x : (Int × (Int × (Int × (Int × (Int × ((List TMap) × Unit))))))) : fnTr Tryz.prog cod gm47 [(84, natCheck_L84_9)] 30 84 natCheck_ap natCheck_rp x = natCheck_tree x := by kernel_rfl
def natCheck_fn (x : (Int × (Int × (Int × (Int × (Int × ((List TMap) × Unit))))))) : Option (Int × Unit) := (natCheck_tree x).eval
def natCheck : FS Tryz.prog := ⟨84, natCheck_ap, natCheck_rp, natCheck_fn, fun x r h => fnTr_sound (cod := cod) (Γ := gm47) (Λs := [(84, natCheck_L84_9)]) (n := 30) ((congrArg Tr.eval (natCheck_eq x)).trans h)⟩
def natPlace : PF Go.Proofs.Tryz.prog := ⟨129, [1, 0], fun _ _ => none, fun _ _ _ _ _ h _ => by cases h⟩
def natExpire_L170_1 : LS := ⟨1, [(1000000, 1000000), (1000100, 1000100)], ⟨68, [(4, .v (.one (.i .i64))), (0, .v (.one (.ptr 1000000 0))), (1, .v (.one (.i .i64)))], [(1000000, .cells [.i .i64, .i .i64, .i .u64, .i .i64, .i .u64, .own 1000100]), (1000100, .row 67 17 true true)]⟩, [⟨some 0, [(1000000, 1000000), (1000100, 1000100)], ⟨68, [(4, .v (.one (.i .i64))), (0, .v (.one (.ptr 1000000 0)))], [(1000000, .cells [.i .i64, .i .i64, .i .u64, .i .i64, .i .u64, .own 1000100]), (1000100, .row 67 17 true true)]⟩⟩], []⟩
def natExpire_step170_1 : (Int × (Int × (Int × (Int × (Int × (Int × (Int × ((List TMap) × Unit)))))))) -> Tr ((Int × (Int × (Int × (Int × (Int × (Int × (Int × ((List TMap) × Unit)))))))) ⊕ (Int × (Int × (Int × (Int × (Int × (Int × ((List TMap) × Unit)))))))) :=
 fun (a0, a1, a2, a3, a4, a5, a6, a7, _) =>
 .ite (decide (a0 < (↑(a7.length) : Int))) (
 .grd (decide (0 <= a0 /\ a0 < (↑(a7.length) : Int))) (
 .opt (a7[Int.toNat a0]?) (fun r0 =>
 .ite (decide (a2 < wW .i64 (a1 - r0.at'))) (
 .grd (decide (0 <= a0 /\ a0 < (↑(a7.length) : Int))) (
 .opt (a7[Int.toNat a0]?) (fun r1 =>
 .ite (decide (r1.proto = 17)) (
 .grd (decide (0 <= a0 /\ a0 < (↑(a7.length) : Int))) (
 .opt (a7[Int.toNat a0]?) (fun r2 =>
 .opt ((portsEnd_fn (a3, (a4, (r2.out, ()))))) (fun r3 =>
 .grd (decide (a7.length = a7.length)) (
 .ret (Sum.inl (wW .i64 (a0 + 1), (a1, (a2, (r3.1, (r3.2.1, (a5, (a6, (a7, ())))))))))))))) (
 .ite (decide (r1.proto = 6)) (
 .grd (decide (0 <= a0 /\ a0 < (↑(a7.length) : Int))) (
 .opt (a7[Int.toNat a0]?) (fun r2 =>
 .opt ((portsEnd_fn (a5, (a6, (r2.out, ()))))) (fun r3 =>
 .grd (decide (a7.length = a7.length)) (
 .ret (Sum.inl (wW .i64 (a0 + 1), (a1, (a2, (a3, (a4, (r3.1, (r3.2.1, (a7, ())))))))))))))) (
 .fail 3))))) (
 .grd (decide (a7.length = a7.length)) (
 .ret (Sum.inr (a0, (a2, (a3, (a4, (a5, (a6, (a7, ()))))))))))))) (
 .grd (decide (a7.length = a7.length)) (
 .ret (Sum.inr (a0, (a2, (a3, (a4, (a5, (a6, (a7, ()))))))))))
def natExpire_loop170_1 (x : (Int × (Int × (Int × (Int × (Int × (Int × (Int × ((List TMap) × Unit))))))))) : Option (Int × (Int × (Int × (Int × (Int × (Int × ((List TMap) × Unit))))))) := loopO 1700001 (fun x => (natExpire_step170_1 x).eval) 18446744073709551616 x
def natExpire_ap : SP := ⟨68, [(0, .v (.one (.ptr 1000000 0))), (1, .v (.one (.i .i64)))], [(1000000, .cells [.i .i64, .i .i64, .i .u64, .i .i64, .i .u64, .own 1000100]), (1000100, .row 67 17 true true)]⟩
def natExpire_rp : SP := ⟨1, [(0, .tup [])], [(1000000, .cells [.i .i64, .i .i64, .i .u64, .i .i64, .i .u64, .own 1000100]), (1000100, .row 67 17 true true)]⟩
def natExpire_tree : (Int × (Int × (Int × (Int × (Int × (Int × ((List TMap) × Unit))))))) -> Tr (Int × (Int × (Int × (Int × (Int × ((List TMap) × Unit)))))) :=
 fun (a0, a1, a2, a3, a4, a5, a6, _) =>
 .grd (decide (a6.length = a6.length)) (
 .opt ((natExpire_loop170_1 (0, (a0, (a1, (a2, (a3, (a4, (a5, (a6, ())))))))))) (fun r0 =>
 .grd (decide (List.length r0.2.2.2.2.2.2.fst = List.length r0.2.2.2.2.2.2.1)) (
 .opt ((delMap_fn (0, (r0.1, (r0.2.2.2.2.2.2.1, ()))))) (fun r1 =>
 .grd (decide (List.length r1.fst = List.length r1.1)) (
 .ret (r0.2.1, (r0.2.2.1, (r0.2.2.2.1, (r0.2.2.2.2.1, (r0.2.2.2.2.2.1, (r1.1, ())))))))))))
noncomputable def gm48 : List (PF Go.Proofs.Tryz.prog) := gm47 ++ [FS.pf natCheck, natPlace]
theorem natExpire_eq (x : (Int × (Int × (Int × (Int × (Int × (Int × ((List TMap) × Unit)))))))) : gsTr Tryz.prog cod gm48 [(170, natExpire_L170_1)] 30 170 natExpire_ap natExpire_rp x = natExpire_tree x := by kernel_rfl
def natExpire_fn (x : (Int × (Int × (Int × (Int × (Int × (Int × ((List TMap) × Unit)))))))) : Option (Int × (Int × (Int × (Int × (Int × ((List TMap) × Unit)))))) := (natExpire_tree x).eval
def natExpire : GS Tryz.prog := ⟨170, [1, 0], natExpire_ap, natExpire_rp, natExpire_fn, fun x r h ys m g he hg => gs_sound (cod := cod) (Γ := gm48) (Λs := [(170, natExpire_L170_1)]) (n := 30) ((congrArg Tr.eval (natExpire_eq x)).trans h) he hg⟩
def natOut_ap : List VP1 := [.agg [.i .i64, .i .i64, .i .u64, .i .i64, .i .u64, .st 17 false], .one (.i .i64), .one (.i .u32), .one (.i .i64), .one (.i .i64)]
def natOut_rp : SP := ⟨1, [(0, .tup [.agg [.i .i64, .i .i64, .i .u64, .i .i64, .i .u64, .st 17 true], .one (.i .i64), .one (.i .i64)])], []⟩
abbrev ty12_ : Type := (Int × (Int × (Int × (Int × (Int × ((List TMap) × (Int × (Int × (Int × (Int × Unit))))))))))
def natOut_tree : ty12_ -> Tr (Int × (Int × (Int × (Int × (Int × ((List TMap) × (Int × (Int × Unit)))))))) :=
 fun (a0, a1, a2, a3, a4, a5, a6, a7, a8, a9, _) =>
 .grd (decide (((0 : Nat) + a5.length) * (40 : Nat) <= (140737488355328 : Nat) /\ (0 : Nat) + a5.length <= (9223372036854775807 : Nat))) (
 .opt ((natCheck_fn (a0, (a1, (a2, (a3, (a4, (a5, ())))))))) (fun r0 =>
 .ite (!decide (r0.1 = 0)) (
 .ret (a0, (a1, (a2, (a3, (a4, (a5, (0, (r0.1, ()))))))))) (
 .ite (decide (0 < (↑(a5.length) : Int))) (
 .grd (decide (0 <= wW .i64 ((↑(a5.length) : Int) - 1) /\ wW .i64 ((↑(a5.length) : Int) - 1) < (↑(a5.length) : Int))) (
 .opt (a5[Int.toNat (wW .i64 ((↑(a5.length) : Int) - 1))]?) (fun r1 =>
 .ite (!decide (a6 = 6)) (
 .ite (!decide (a6 = 17)) (
 .ret (a0, (a1, (a2, (a3, (a4, (a5, (0, (7, ()))))))))) (
 .ite (decide (a8 < 0)) (
 .ret (a0, (a1, (a2, (a3, (a4, (a5, (0, (1, ()))))))))) (
 .ite (decide (65535 < a8)) (
 .ret (a0, (a1, (a2, (a3, (a4, (a5, (0, (1, ()))))))))) (
 .ite (decide (a9 < r1.at')) (
 .ret (a0, (a1, (a2, (a3, (a4, (a5, (0, (1, ()))))))))) (
 .ite (decide (1099511627776 < a9)) (
 .ret (a0, (a1, (a2, (a3, (a4, (a5, (0, (1, ()))))))))) (
 .grd (decide (((0 : Nat) + a5.length) * (40 : Nat) <= (140737488355328 : Nat) /\ (0 : Nat) + a5.length <= (9223372036854775807 : Nat))) (
 .grd (decide (a5.length = a5.length)) (
 .opt ((natExpire_fn (a9, (a0, (a1, (a2, (a3, (a4, (a5, ()))))))))) (fun r2 =>
 .opt ((natWithin_fn (r2.1, (r2.2.1, (r2.2.2.1, (r2.2.2.2.1, (r2.2.2.2.2.1, (r2.2.2.2.2.2.1, (a6, (a7, (a8, ()))))))))))) (fun r3 =>
 .ite (decide (0 <= r3.1)) (
 .grd (decide (0 <= r3.1 /\ r3.1 < (↑(List.length r2.2.2.2.2.2.fst) : Int))) (
 .opt (r2.2.2.2.2.2.1[Int.toNat r3.1]?) (fun r4 =>
 .grd (decide (List.length r2.2.2.2.2.2.fst = List.length r2.2.2.2.2.2.1)) (
 .opt ((delMap_fn (r3.1, (wW .i64 (r3.1 + 1), (r2.2.2.2.2.2.1, ()))))) (fun r5 =>
 .grd (decide ((List.length r5.1 + List.length [TMap.mk a6 a7 a8 r4.out a9]) * (40 : Nat) <= (140737488355328 : Nat) /\ List.length r5.1 + List.length [TMap.mk a6 a7 a8 r4.out a9] <= (9223372036854775807 : Nat))) (
 .ret (r2.1, (r2.2.1, (r2.2.2.1, (r2.2.2.2.1, (r2.2.2.2.2.1, (r5.1 ++ [TMap.mk a6 a7 a8 r4.out a9], (r4.out, (0, ())))))))))))))) (
 .ite (decide (a6 = 17)) (
 .opt ((portsLet_fn (r2.2.1, (r2.2.2.1, (a8, ()))))) (fun r4 =>
 .ite (!decide (r4.2.2.2.1 = 0)) (
 .ret (a0, (a1, (a2, (a3, (a4, (a5, (0, (r4.2.2.2.1, ()))))))))) (
 .grd (decide ((List.length r2.2.2.2.2.2.1 + List.length [TMap.mk a6 a7 a8 r4.2.2.1 a9]) * (40 : Nat) <= (140737488355328 : Nat) /\ List.length r2.2.2.2.2.2.1 + List.length [TMap.mk a6 a7 a8 r4.2.2.1 a9] <= (9223372036854775807 : Nat))) (
 .ret (r2.1, (r4.1, (r4.2.1, (r2.2.2.2.1, (r2.2.2.2.2.1, (r2.2.2.2.2.2.1 ++ [TMap.mk a6 a7 a8 r4.2.2.1 a9], (r4.2.2.1, (0, ())))))))))))) (
 .ite (decide (a6 = 6)) (
 .opt ((portsLet_fn (r2.2.2.2.1, (r2.2.2.2.2.1, (a8, ()))))) (fun r4 =>
 .ite (!decide (r4.2.2.2.1 = 0)) (
 .ret (a0, (a1, (a2, (a3, (a4, (a5, (0, (r4.2.2.2.1, ()))))))))) (
 .grd (decide ((List.length r2.2.2.2.2.2.1 + List.length [TMap.mk a6 a7 a8 r4.2.2.1 a9]) * (40 : Nat) <= (140737488355328 : Nat) /\ List.length r2.2.2.2.2.2.1 + List.length [TMap.mk a6 a7 a8 r4.2.2.1 a9] <= (9223372036854775807 : Nat))) (
 .ret (r2.1, (r2.2.1, (r2.2.2.1, (r4.1, (r4.2.1, (r2.2.2.2.2.2.1 ++ [TMap.mk a6 a7 a8 r4.2.2.1 a9], (r4.2.2.1, (0, ())))))))))))) (
 .fail 3))))))))))))) (
 .ite (decide (a8 < 0)) (
 .ret (a0, (a1, (a2, (a3, (a4, (a5, (0, (1, ()))))))))) (
 .ite (decide (65535 < a8)) (
 .ret (a0, (a1, (a2, (a3, (a4, (a5, (0, (1, ()))))))))) (
 .ite (decide (a9 < r1.at')) (
 .ret (a0, (a1, (a2, (a3, (a4, (a5, (0, (1, ()))))))))) (
 .ite (decide (1099511627776 < a9)) (
 .ret (a0, (a1, (a2, (a3, (a4, (a5, (0, (1, ()))))))))) (
 .grd (decide (((0 : Nat) + a5.length) * (40 : Nat) <= (140737488355328 : Nat) /\ (0 : Nat) + a5.length <= (9223372036854775807 : Nat))) (
 .grd (decide (a5.length = a5.length)) (
 .opt ((natExpire_fn (a9, (a0, (a1, (a2, (a3, (a4, (a5, ()))))))))) (fun r2 =>
 .opt ((natWithin_fn (r2.1, (r2.2.1, (r2.2.2.1, (r2.2.2.2.1, (r2.2.2.2.2.1, (r2.2.2.2.2.2.1, (a6, (a7, (a8, ()))))))))))) (fun r3 =>
 .ite (decide (0 <= r3.1)) (
 .grd (decide (0 <= r3.1 /\ r3.1 < (↑(List.length r2.2.2.2.2.2.fst) : Int))) (
 .opt (r2.2.2.2.2.2.1[Int.toNat r3.1]?) (fun r4 =>
 .grd (decide (List.length r2.2.2.2.2.2.fst = List.length r2.2.2.2.2.2.1)) (
 .opt ((delMap_fn (r3.1, (wW .i64 (r3.1 + 1), (r2.2.2.2.2.2.1, ()))))) (fun r5 =>
 .grd (decide ((List.length r5.1 + List.length [TMap.mk a6 a7 a8 r4.out a9]) * (40 : Nat) <= (140737488355328 : Nat) /\ List.length r5.1 + List.length [TMap.mk a6 a7 a8 r4.out a9] <= (9223372036854775807 : Nat))) (
 .ret (r2.1, (r2.2.1, (r2.2.2.1, (r2.2.2.2.1, (r2.2.2.2.2.1, (r5.1 ++ [TMap.mk a6 a7 a8 r4.out a9], (r4.out, (0, ())))))))))))))) (
 .ite (decide (a6 = 17)) (
 .opt ((portsLet_fn (r2.2.1, (r2.2.2.1, (a8, ()))))) (fun r4 =>
 .ite (!decide (r4.2.2.2.1 = 0)) (
 .ret (a0, (a1, (a2, (a3, (a4, (a5, (0, (r4.2.2.2.1, ()))))))))) (
 .grd (decide ((List.length r2.2.2.2.2.2.1 + List.length [TMap.mk a6 a7 a8 r4.2.2.1 a9]) * (40 : Nat) <= (140737488355328 : Nat) /\ List.length r2.2.2.2.2.2.1 + List.length [TMap.mk a6 a7 a8 r4.2.2.1 a9] <= (9223372036854775807 : Nat))) (
 .ret (r2.1, (r4.1, (r4.2.1, (r2.2.2.2.1, (r2.2.2.2.2.1, (r2.2.2.2.2.2.1 ++ [TMap.mk a6 a7 a8 r4.2.2.1 a9], (r4.2.2.1, (0, ())))))))))))) (
 .ite (decide (a6 = 6)) (
 .opt ((portsLet_fn (r2.2.2.2.1, (r2.2.2.2.2.1, (a8, ()))))) (fun r4 =>
 .ite (!decide (r4.2.2.2.1 = 0)) (
 .ret (a0, (a1, (a2, (a3, (a4, (a5, (0, (r4.2.2.2.1, ()))))))))) (
 .grd (decide ((List.length r2.2.2.2.2.2.1 + List.length [TMap.mk a6 a7 a8 r4.2.2.1 a9]) * (40 : Nat) <= (140737488355328 : Nat) /\ List.length r2.2.2.2.2.2.1 + List.length [TMap.mk a6 a7 a8 r4.2.2.1 a9] <= (9223372036854775807 : Nat))) (
 .ret (r2.1, (r2.2.1, (r2.2.2.1, (r4.1, (r4.2.1, (r2.2.2.2.2.2.1 ++ [TMap.mk a6 a7 a8 r4.2.2.1 a9], (r4.2.2.1, (0, ())))))))))))) (
 .fail 3))))))))))))))) (
 .ite (!decide (a6 = 6)) (
 .ite (!decide (a6 = 17)) (
 .ret (a0, (a1, (a2, (a3, (a4, (a5, (0, (7, ()))))))))) (
 .ite (decide (a8 < 0)) (
 .ret (a0, (a1, (a2, (a3, (a4, (a5, (0, (1, ()))))))))) (
 .ite (decide (65535 < a8)) (
 .ret (a0, (a1, (a2, (a3, (a4, (a5, (0, (1, ()))))))))) (
 .ite (decide (a9 < 0)) (
 .ret (a0, (a1, (a2, (a3, (a4, (a5, (0, (1, ()))))))))) (
 .ite (decide (1099511627776 < a9)) (
 .ret (a0, (a1, (a2, (a3, (a4, (a5, (0, (1, ()))))))))) (
 .grd (decide (((0 : Nat) + a5.length) * (40 : Nat) <= (140737488355328 : Nat) /\ (0 : Nat) + a5.length <= (9223372036854775807 : Nat))) (
 .grd (decide (a5.length = a5.length)) (
 .opt ((natExpire_fn (a9, (a0, (a1, (a2, (a3, (a4, (a5, ()))))))))) (fun r1 =>
 .opt ((natWithin_fn (r1.1, (r1.2.1, (r1.2.2.1, (r1.2.2.2.1, (r1.2.2.2.2.1, (r1.2.2.2.2.2.1, (a6, (a7, (a8, ()))))))))))) (fun r2 =>
 .ite (decide (0 <= r2.1)) (
 .grd (decide (0 <= r2.1 /\ r2.1 < (↑(List.length r1.2.2.2.2.2.fst) : Int))) (
 .opt (r1.2.2.2.2.2.1[Int.toNat r2.1]?) (fun r3 =>
 .grd (decide (List.length r1.2.2.2.2.2.fst = List.length r1.2.2.2.2.2.1)) (
 .opt ((delMap_fn (r2.1, (wW .i64 (r2.1 + 1), (r1.2.2.2.2.2.1, ()))))) (fun r4 =>
 .grd (decide ((List.length r4.1 + List.length [TMap.mk a6 a7 a8 r3.out a9]) * (40 : Nat) <= (140737488355328 : Nat) /\ List.length r4.1 + List.length [TMap.mk a6 a7 a8 r3.out a9] <= (9223372036854775807 : Nat))) (
 .ret (r1.1, (r1.2.1, (r1.2.2.1, (r1.2.2.2.1, (r1.2.2.2.2.1, (r4.1 ++ [TMap.mk a6 a7 a8 r3.out a9], (r3.out, (0, ())))))))))))))) (
 .ite (decide (a6 = 17)) (
 .opt ((portsLet_fn (r1.2.1, (r1.2.2.1, (a8, ()))))) (fun r3 =>
 .ite (!decide (r3.2.2.2.1 = 0)) (
 .ret (a0, (a1, (a2, (a3, (a4, (a5, (0, (r3.2.2.2.1, ()))))))))) (
 .grd (decide ((List.length r1.2.2.2.2.2.1 + List.length [TMap.mk a6 a7 a8 r3.2.2.1 a9]) * (40 : Nat) <= (140737488355328 : Nat) /\ List.length r1.2.2.2.2.2.1 + List.length [TMap.mk a6 a7 a8 r3.2.2.1 a9] <= (9223372036854775807 : Nat))) (
 .ret (r1.1, (r3.1, (r3.2.1, (r1.2.2.2.1, (r1.2.2.2.2.1, (r1.2.2.2.2.2.1 ++ [TMap.mk a6 a7 a8 r3.2.2.1 a9], (r3.2.2.1, (0, ())))))))))))) (
 .ite (decide (a6 = 6)) (
 .opt ((portsLet_fn (r1.2.2.2.1, (r1.2.2.2.2.1, (a8, ()))))) (fun r3 =>
 .ite (!decide (r3.2.2.2.1 = 0)) (
 .ret (a0, (a1, (a2, (a3, (a4, (a5, (0, (r3.2.2.2.1, ()))))))))) (
 .grd (decide ((List.length r1.2.2.2.2.2.1 + List.length [TMap.mk a6 a7 a8 r3.2.2.1 a9]) * (40 : Nat) <= (140737488355328 : Nat) /\ List.length r1.2.2.2.2.2.1 + List.length [TMap.mk a6 a7 a8 r3.2.2.1 a9] <= (9223372036854775807 : Nat))) (
 .ret (r1.1, (r1.2.1, (r1.2.2.1, (r3.1, (r3.2.1, (r1.2.2.2.2.2.1 ++ [TMap.mk a6 a7 a8 r3.2.2.1 a9], (r3.2.2.1, (0, ())))))))))))) (
 .fail 3))))))))))))) (
 .ite (decide (a8 < 0)) (
 .ret (a0, (a1, (a2, (a3, (a4, (a5, (0, (1, ()))))))))) (
 .ite (decide (65535 < a8)) (
 .ret (a0, (a1, (a2, (a3, (a4, (a5, (0, (1, ()))))))))) (
 .ite (decide (a9 < 0)) (
 .ret (a0, (a1, (a2, (a3, (a4, (a5, (0, (1, ()))))))))) (
 .ite (decide (1099511627776 < a9)) (
 .ret (a0, (a1, (a2, (a3, (a4, (a5, (0, (1, ()))))))))) (
 .grd (decide (((0 : Nat) + a5.length) * (40 : Nat) <= (140737488355328 : Nat) /\ (0 : Nat) + a5.length <= (9223372036854775807 : Nat))) (
 .grd (decide (a5.length = a5.length)) (
 .opt ((natExpire_fn (a9, (a0, (a1, (a2, (a3, (a4, (a5, ()))))))))) (fun r1 =>
 .opt ((natWithin_fn (r1.1, (r1.2.1, (r1.2.2.1, (r1.2.2.2.1, (r1.2.2.2.2.1, (r1.2.2.2.2.2.1, (a6, (a7, (a8, ()))))))))))) (fun r2 =>
 .ite (decide (0 <= r2.1)) (
 .grd (decide (0 <= r2.1 /\ r2.1 < (↑(List.length r1.2.2.2.2.2.fst) : Int))) (
 .opt (r1.2.2.2.2.2.1[Int.toNat r2.1]?) (fun r3 =>
 .grd (decide (List.length r1.2.2.2.2.2.fst = List.length r1.2.2.2.2.2.1)) (
 .opt ((delMap_fn (r2.1, (wW .i64 (r2.1 + 1), (r1.2.2.2.2.2.1, ()))))) (fun r4 =>
 .grd (decide ((List.length r4.1 + List.length [TMap.mk a6 a7 a8 r3.out a9]) * (40 : Nat) <= (140737488355328 : Nat) /\ List.length r4.1 + List.length [TMap.mk a6 a7 a8 r3.out a9] <= (9223372036854775807 : Nat))) (
 .ret (r1.1, (r1.2.1, (r1.2.2.1, (r1.2.2.2.1, (r1.2.2.2.2.1, (r4.1 ++ [TMap.mk a6 a7 a8 r3.out a9], (r3.out, (0, ())))))))))))))) (
 .ite (decide (a6 = 17)) (
 .opt ((portsLet_fn (r1.2.1, (r1.2.2.1, (a8, ()))))) (fun r3 =>
 .ite (!decide (r3.2.2.2.1 = 0)) (
 .ret (a0, (a1, (a2, (a3, (a4, (a5, (0, (r3.2.2.2.1, ()))))))))) (
 .grd (decide ((List.length r1.2.2.2.2.2.1 + List.length [TMap.mk a6 a7 a8 r3.2.2.1 a9]) * (40 : Nat) <= (140737488355328 : Nat) /\ List.length r1.2.2.2.2.2.1 + List.length [TMap.mk a6 a7 a8 r3.2.2.1 a9] <= (9223372036854775807 : Nat))) (
 .ret (r1.1, (r3.1, (r3.2.1, (r1.2.2.2.1, (r1.2.2.2.2.1, (r1.2.2.2.2.2.1 ++ [TMap.mk a6 a7 a8 r3.2.2.1 a9], (r3.2.2.1, (0, ())))))))))))) (
 .ite (decide (a6 = 6)) (
 .opt ((portsLet_fn (r1.2.2.2.1, (r1.2.2.2.2.1, (a8, ()))))) (fun r3 =>
 .ite (!decide (r3.2.2.2.1 = 0)) (
 .ret (a0, (a1, (a2, (a3, (a4, (a5, (0, (r3.2.2.2.1, ()))))))))) (
 .grd (decide ((List.length r1.2.2.2.2.2.1 + List.length [TMap.mk a6 a7 a8 r3.2.2.1 a9]) * (40 : Nat) <= (140737488355328 : Nat) /\ List.length r1.2.2.2.2.2.1 + List.length [TMap.mk a6 a7 a8 r3.2.2.1 a9] <= (9223372036854775807 : Nat))) (
 .ret (r1.1, (r1.2.1, (r1.2.2.1, (r3.1, (r3.2.1, (r1.2.2.2.2.2.1 ++ [TMap.mk a6 a7 a8 r3.2.2.1 a9], (r3.2.2.1, (0, ())))))))))))) (
 .fail 3))))))))))))))))
noncomputable def gm49 : List (PF Go.Proofs.Tryz.prog) := gm48 ++ [GS.pf natExpire]
theorem natOut_eq (x : ty12_) : fnTr Tryz.prog cod gm49 [] 30 140 natOut_ap natOut_rp x = natOut_tree x := by kernel_rfl
def natOut_fn (x : ty12_) : Option (Int × (Int × (Int × (Int × (Int × ((List TMap) × (Int × (Int × Unit)))))))) := (natOut_tree x).eval
def natOut : FS Tryz.prog := ⟨140, natOut_ap, natOut_rp, natOut_fn, fun x r h => fnTr_sound (cod := cod) (Γ := gm49) (Λs := []) (n := 30) ((congrArg Tr.eval (natOut_eq x)).trans h)⟩
def natIn_L141_9 : LS := ⟨9, [(4, 4)], ⟨62, [(34, .v (.one (.i .i64))), (4, .v (.one (.ptr 4 0))), (3, .v (.one (.i .i64))), (2, .v (.one (.i .i64))), (1, .v (.one (.i .i64))), (32, .v (.one (.st 17 false))), (33, .v (.one (.i .i64)))], [(4, .cells [.i .i64, .i .i64, .i .u64, .i .i64, .i .u64, .st 17 false])]⟩, [⟨none, [], ⟨62, [(8, .v (.one (.i .u32))), (9, .v (.one (.i .i64))), (10, .v (.one (.i .i64)))], []⟩⟩, ⟨some 0, [], ⟨62, [], []⟩⟩], []⟩
abbrev ty13_ : Type := (Int × (Int × (Int × (Int × ((List TMap) × (Int × (Int × (Int × (Int × (Int × (Int × ((List TMap) × Unit))))))))))))
def natIn_step141_9 : ty13_ -> Tr (ty13_ ⊕ ((Int × (Int × (Int × Unit))) ⊕ Unit)) :=
 fun (a0, a1, a2, a3, a4, a5, a6, a7, a8, a9, a10, a11, _) =>
 .ite (decide (a0 < a5)) (
 .grd (decide (0 <= a0)) (
 .opt (a4[Int.toNat a0]?) (fun r0 =>
 .ite (decide (r0.proto = a3)) (
 .ite (decide (r0.out = a2)) (
 .ite (decide (wW .i64 (a1 - r0.at') <= a6)) (
 .ret (Sum.inr (Sum.inl (r0.addr, (r0.port, (0, ())))))) (
 .ret (Sum.inl (wW .i64 (a0 + 1), (a1, (a2, (a3, (a4, (a5, (a6, (a7, (a8, (a9, (a10, (a11, ()))))))))))))))) (
 .ret (Sum.inl (wW .i64 (a0 + 1), (a1, (a2, (a3, (a4, (a5, (a6, (a7, (a8, (a9, (a10, (a11, ()))))))))))))))) (
 .ret (Sum.inl (wW .i64 (a0 + 1), (a1, (a2, (a3, (a4, (a5, (a6, (a7, (a8, (a9, (a10, (a11, ()))))))))))))))))) (
 .ret (Sum.inr (Sum.inr ())))
def natIn_loop141_9 (x : ty13_) : Option ((Int × (Int × (Int × Unit))) ⊕ Unit) := loopO 1410009 (fun x => (natIn_step141_9 x).eval) 18446744073709551616 x
def natIn_ap : List VP1 := [.agg [.i .i64, .i .i64, .i .u64, .i .i64, .i .u64, .st 17 false], .one (.i .i64), .one (.i .i64), .one (.i .i64)]
def natIn_rp : SP := ⟨1, [(0, .tup [.one (.i .u32), .one (.i .i64), .one (.i .i64)])], []⟩
def natIn_tree : (Int × (Int × (Int × (Int × (Int × ((List TMap) × (Int × (Int × (Int × Unit))))))))) -> Tr (Int × (Int × (Int × Unit))) :=
 fun (a0, a1, a2, a3, a4, a5, a6, a7, a8, _) =>
 .opt ((natCheck_fn (a0, (a1, (a2, (a3, (a4, (a5, ())))))))) (fun r0 =>
 .ite (!decide (r0.1 = 0)) (
 .ret (0, (0, (r0.1, ())))) (
 .ite (!decide (a6 = 6)) (
 .ite (!decide (a6 = 17)) (
 .ret (0, (0, (7, ())))) (
 .ite (decide (a8 < 0)) (
 .ret (0, (0, (1, ())))) (
 .ite (decide (1099511627776 < a8)) (
 .ret (0, (0, (1, ())))) (
 .opt ((natIn_loop141_9 (0, (a8, (a7, (a6, (a5, ((↑(a5.length) : Int), (a0, (a1, (a2, (a3, (a4, (a5, ())))))))))))))) (fun r1 =>
 .sum (r1) (fun r2 =>
 .ret (r2.1, (r2.2.1, (r2.2.2.1, ())))) (fun r2 =>
 .ret (0, (0, (7, ()))))))))) (
 .ite (decide (a8 < 0)) (
 .ret (0, (0, (1, ())))) (
 .ite (decide (1099511627776 < a8)) (
 .ret (0, (0, (1, ())))) (
 .opt ((natIn_loop141_9 (0, (a8, (a7, (a6, (a5, ((↑(a5.length) : Int), (a0, (a1, (a2, (a3, (a4, (a5, ())))))))))))))) (fun r1 =>
 .sum (r1) (fun r2 =>
 .ret (r2.1, (r2.2.1, (r2.2.2.1, ())))) (fun r2 =>
 .ret (0, (0, (7, ()))))))))))
noncomputable def gm50 : List (PF Go.Proofs.Tryz.prog) := gm49 ++ [FS.pf natOut]
theorem natIn_eq (x : (Int × (Int × (Int × (Int × (Int × ((List TMap) × (Int × (Int × (Int × Unit)))))))))) : fnTr Tryz.prog cod gm50 [(141, natIn_L141_9)] 30 141 natIn_ap natIn_rp x = natIn_tree x := by kernel_rfl
def natIn_fn (x : (Int × (Int × (Int × (Int × (Int × ((List TMap) × (Int × (Int × (Int × Unit)))))))))) : Option (Int × (Int × (Int × Unit))) := (natIn_tree x).eval
def natIn : FS Tryz.prog := ⟨141, natIn_ap, natIn_rp, natIn_fn, fun x r h => fnTr_sound (cod := cod) (Γ := gm50) (Λs := [(141, natIn_L141_9)]) (n := 30) ((congrArg Tr.eval (natIn_eq x)).trans h)⟩
theorem clMeter_h1 (xs : List (τ 19)) : (bodyTr Go.Proofs.Tryz.prog cod 13 [.one (.nn (.st 19 xs))]).eval = (cloneRes 59 19 40 xs).eval := by kernel_rfl
theorem clMeter_h2 : (bodyTr Go.Proofs.Tryz.prog cod 13 [.one .nil]).eval = some (.one .nil, []) := by kernel_rfl
def clMeter : PF Go.Proofs.Tryz.prog := clonePF Go.Proofs.Tryz.prog cod 13 59 19 40 clMeter_h1 clMeter_h2
def delMeter_ap : SP := ⟨33, [(0, .v (.one (.own 1000100))), (1, .v (.one (.i .i64))), (2, .v (.one (.i .i64)))], [(1000100, .row 59 19 true true)]⟩
def delMeter_rp : SP := ⟨1, [(0, .v (.one (.own 1000100)))], [(1000100, .row 59 19 true true)]⟩
def delMeter_tree : (Int × (Int × ((List TMeter) × Unit))) -> Tr ((List TMeter) × Unit) :=
 fun (a0, a1, a2, _) =>
 .grd (decide (0 <= a0 /\ a0 <= a1 /\ a1 <= (↑(a2.length) : Int) /\ (↑(a2.length) : Int) <= (↑(a2.length) : Int))) (
 .ite (decide (a0 = a1)) (
 .grd (decide (a2.length = a2.length)) (
 .ret (a2, ()))) (
 .grd (decide (0 <= a0 /\ a0 <= (↑(a2.length) : Int))) (
 .grd (decide (0 <= a1 /\ a1 <= (↑(a2.length) : Int) /\ (↑(a2.length) : Int) <= (↑(a2.length) : Int))) (
 .grd (decide (Int.toNat a1 + Int.toNat ((↑(a2.length) : Int) - a1) <= a2.length)) (
 .grd (decide (Int.toNat a0 + List.length (List.take (Int.toNat ((↑(a2.length) : Int) - a1)) (List.drop (Int.toNat a1) a2)) <= a2.length)) (
 .grd (decide (0 <= (↑(Int.toNat a0 + List.length (List.take (Int.toNat ((↑(a2.length) : Int) - a1)) (List.drop (Int.toNat a1) a2))) : Int) /\ (↑(Int.toNat a0 + List.length (List.take (Int.toNat ((↑(a2.length) : Int) - a1)) (List.drop (Int.toNat a1) a2))) : Int) <= (↑(a2.length) : Int) /\ (↑(a2.length) : Int) <= (↑(List.length (List.take (Int.toNat a0) a2 ++ List.take (Int.toNat ((↑(a2.length) : Int) - a1)) (List.drop (Int.toNat a1) a2) ++ List.drop (Int.toNat a0 + List.length (List.take (Int.toNat ((↑(a2.length) : Int) - a1)) (List.drop (Int.toNat a1) a2))) a2)) : Int))) (
 .grd (decide (Int.toNat (↑(Int.toNat a0 + List.length (List.take (Int.toNat ((↑(a2.length) : Int) - a1)) (List.drop (Int.toNat a1) a2))) : Int) + Int.toNat ((↑(a2.length) : Int) - (↑(Int.toNat a0 + List.length (List.take (Int.toNat ((↑(a2.length) : Int) - a1)) (List.drop (Int.toNat a1) a2))) : Int)) <= List.length (List.take (Int.toNat a0) a2 ++ List.take (Int.toNat ((↑(a2.length) : Int) - a1)) (List.drop (Int.toNat a1) a2) ++ List.drop (Int.toNat a0 + List.length (List.take (Int.toNat ((↑(a2.length) : Int) - a1)) (List.drop (Int.toNat a1) a2))) a2))) (
 .grd (decide (Int.toNat a0 + List.length (List.take (Int.toNat ((↑(a2.length) : Int) - a1)) (List.drop (Int.toNat a1) a2)) = List.length (List.take (Int.toNat a0 + List.length (List.take (Int.toNat ((↑(a2.length) : Int) - a1)) (List.drop (Int.toNat a1) a2))) (List.take (Int.toNat (↑(Int.toNat a0 + List.length (List.take (Int.toNat ((↑(a2.length) : Int) - a1)) (List.drop (Int.toNat a1) a2))) : Int)) (List.take (Int.toNat a0) a2 ++ List.take (Int.toNat ((↑(a2.length) : Int) - a1)) (List.drop (Int.toNat a1) a2) ++ List.drop (Int.toNat a0 + List.length (List.take (Int.toNat ((↑(a2.length) : Int) - a1)) (List.drop (Int.toNat a1) a2))) a2) ++ List.replicate (Int.toNat ((↑(a2.length) : Int) - (↑(Int.toNat a0 + List.length (List.take (Int.toNat ((↑(a2.length) : Int) - a1)) (List.drop (Int.toNat a1) a2))) : Int))) (TMeter.mk (0 : Int) (0 : Int) (0 : Int) (0 : Int) (0 : Int)) ++ List.drop (Int.toNat (↑(Int.toNat a0 + List.length (List.take (Int.toNat ((↑(a2.length) : Int) - a1)) (List.drop (Int.toNat a1) a2))) : Int) + List.length (List.replicate (Int.toNat ((↑(a2.length) : Int) - (↑(Int.toNat a0 + List.length (List.take (Int.toNat ((↑(a2.length) : Int) - a1)) (List.drop (Int.toNat a1) a2))) : Int))) (TMeter.mk (0 : Int) (0 : Int) (0 : Int) (0 : Int) (0 : Int)))) (List.take (Int.toNat a0) a2 ++ List.take (Int.toNat ((↑(a2.length) : Int) - a1)) (List.drop (Int.toNat a1) a2) ++ List.drop (Int.toNat a0 + List.length (List.take (Int.toNat ((↑(a2.length) : Int) - a1)) (List.drop (Int.toNat a1) a2))) a2))))) (
 .ret (List.take (Int.toNat a0 + List.length (List.take (Int.toNat ((↑(a2.length) : Int) - a1)) (List.drop (Int.toNat a1) a2))) (List.take (Int.toNat (↑(Int.toNat a0 + List.length (List.take (Int.toNat ((↑(a2.length) : Int) - a1)) (List.drop (Int.toNat a1) a2))) : Int)) (List.take (Int.toNat a0) a2 ++ List.take (Int.toNat ((↑(a2.length) : Int) - a1)) (List.drop (Int.toNat a1) a2) ++ List.drop (Int.toNat a0 + List.length (List.take (Int.toNat ((↑(a2.length) : Int) - a1)) (List.drop (Int.toNat a1) a2))) a2) ++ List.replicate (Int.toNat ((↑(a2.length) : Int) - (↑(Int.toNat a0 + List.length (List.take (Int.toNat ((↑(a2.length) : Int) - a1)) (List.drop (Int.toNat a1) a2))) : Int))) (TMeter.mk (0 : Int) (0 : Int) (0 : Int) (0 : Int) (0 : Int)) ++ List.drop (Int.toNat (↑(Int.toNat a0 + List.length (List.take (Int.toNat ((↑(a2.length) : Int) - a1)) (List.drop (Int.toNat a1) a2))) : Int) + List.length (List.replicate (Int.toNat ((↑(a2.length) : Int) - (↑(Int.toNat a0 + List.length (List.take (Int.toNat ((↑(a2.length) : Int) - a1)) (List.drop (Int.toNat a1) a2))) : Int))) (TMeter.mk (0 : Int) (0 : Int) (0 : Int) (0 : Int) (0 : Int)))) (List.take (Int.toNat a0) a2 ++ List.take (Int.toNat ((↑(a2.length) : Int) - a1)) (List.drop (Int.toNat a1) a2) ++ List.drop (Int.toNat a0 + List.length (List.take (Int.toNat ((↑(a2.length) : Int) - a1)) (List.drop (Int.toNat a1) a2))) a2)), ()))))))))))
noncomputable def gm51 : List (PF Go.Proofs.Tryz.prog) := gm30 ++ [FS.pf swTo, clTalk, GS.pf delTalk, FS.pf trTurned, FS.pf trPort, FS.pf trRoad, FS.pf trForm, FS.pf trPlace, FS.pf trCheck, FS.pf trOld, GS.pf dfTalk, GS.pf trOpen, GS.pf trPasses, FS.pf trHear, FS.pf trFind, FS.pf buCheck, FS.pf buLev, FS.pf buTake, clRule, FS.pf ruNet, FS.pf ruHas, FS.pf ruBounds, FS.pf ruRight, FS.pf ruCheck, FS.pf ruMeets, FS.pf ruDecide, tz64, FS.pf portsCheck, FS.pf portsLet, FS.pf portsEnd, FS.pf confCheck, clMap, GS.pf delMap, FS.pf eqMap, FS.pf natWithin, FS.pf natCheck, natPlace, GS.pf natExpire, FS.pf natOut, FS.pf natIn, clMeter]
theorem delMeter_eq (x : (Int × (Int × ((List TMeter) × Unit)))) : gsTr Tryz.prog cod gm51 [] 30 135 delMeter_ap delMeter_rp x = delMeter_tree x := by kernel_rfl
def delMeter_fn (x : (Int × (Int × ((List TMeter) × Unit)))) : Option ((List TMeter) × Unit) := (delMeter_tree x).eval
def delMeter : GS Tryz.prog := ⟨135, [1, 0, 0], delMeter_ap, delMeter_rp, delMeter_fn, fun x r h ys m g he hg => gs_sound (cod := cod) (Γ := gm51) (Λs := []) (n := 30) ((congrArg Tr.eval (delMeter_eq x)).trans h) he hg⟩
def hsMeter_L132_2 : LS := ⟨2, [(1000200, 1000200)], ⟨19, [(8, .v (.one (.i .i64))), (0, .v (.one (.st 19 false))), (1, .v (.one (.clp 133 [(1000200, 0)]))), (7, .v (.one (.i .i64)))], [(1000200, .cells [.i .u32])]⟩, [⟨none, [(1000200, 1000200)], ⟨19, [(4, .v (.one (.i .i64)))], [(1000200, .cells [.i .u32])]⟩⟩, ⟨some 0, [(1000200, 1000200)], ⟨19, [], [(1000200, .cells [.i .u32])]⟩⟩], []⟩
def hsMeter_step132_2 : (Int × ((List TMeter) × (Int × (Int × Unit)))) -> Tr ((Int × ((List TMeter) × (Int × (Int × Unit)))) ⊕ ((Int × (Int × Unit)) ⊕ (Int × Unit))) :=
 fun (a0, a1, a2, a3, _) =>
 .ite (decide (a0 < a2)) (
 .grd (decide (0 <= a0)) (
 .opt (a1[Int.toNat a0]?) (fun r0 =>
 .ite (decide (r0.addr = a3)) (
 .ret (Sum.inr (Sum.inl (a0, (a3, ()))))) (
 .ret (Sum.inl (wW .i64 (a0 + 1), (a1, (a2, (a3, ()))))))))) (
 .ret (Sum.inr (Sum.inr (a3, ()))))
def hsMeter_loop132_2 (x : (Int × ((List TMeter) × (Int × (Int × Unit))))) : Option ((Int × (Int × Unit)) ⊕ (Int × Unit)) := loopO 1320002 (fun x => (hsMeter_step132_2 x).eval) 18446744073709551616 x
def hsMeter_ap : List VP1 := [.agg [.i .u32, .i .i64, .i .i64, .i .i64, .i .i64, .i .i64, .st 10 false, .b, .st 19 false, .st 16 false, .i .i64, .i .i64, .i .u64, .i .i64, .i .u64, .st 17 false], .one (.i .u32)]
def hsMeter_rp : SP := ⟨1, [(0, .v (.one (.i .i64)))], []⟩
abbrev ty14_ : Type := (Int × (Int × (Int × (Int × (Int × (Int × ((List TRule) × (Bool × ((List TMeter) × ((List TTalk) × (Int × (Int × (Int × (Int × (Int × ((List TMap) × (Int × Unit)))))))))))))))))
def hsMeter_tree : ty14_ -> Tr (Int × Unit) :=
 fun (a0, a1, a2, a3, a4, a5, a6, a7, a8, a9, a10, a11, a12, a13, a14, a15, a16, _) =>
 .opt ((hsMeter_loop132_2 (0, (a8, ((↑(a8.length) : Int), (a16, ())))))) (fun r0 =>
 .sum (r0) (fun r1 =>
 .ret (r1.1, ())) (fun r1 =>
 .ret ((-1 : Int), ())))
noncomputable def gm52 : List (PF Go.Proofs.Tryz.prog) := gm51 ++ [GS.pf delMeter]
theorem hsMeter_eq (x : ty14_) : fnTr Tryz.prog cod gm52 [(132, hsMeter_L132_2)] 30 86 hsMeter_ap hsMeter_rp x = hsMeter_tree x := by kernel_rfl
def hsMeter_fn (x : ty14_) : Option (Int × Unit) := (hsMeter_tree x).eval
def hsMeter : FS Tryz.prog := ⟨86, hsMeter_ap, hsMeter_rp, hsMeter_fn, fun x r h => fnTr_sound (cod := cod) (Γ := gm52) (Λs := [(132, hsMeter_L132_2)]) (n := 30) ((congrArg Tr.eval (hsMeter_eq x)).trans h)⟩
def hsLast_ap : List VP1 := [.agg [.i .u32, .i .i64, .i .i64, .i .i64, .i .i64, .i .i64, .st 10 false, .b, .st 19 false, .st 16 false, .i .i64, .i .i64, .i .u64, .i .i64, .i .u64, .st 17 false]]
def hsLast_rp : SP := ⟨1, [(0, .v (.one (.i .i64)))], []⟩
abbrev ty15_ : Type := (Int × (Int × (Int × (Int × (Int × (Int × ((List TRule) × (Bool × ((List TMeter) × ((List TTalk) × (Int × (Int × (Int × (Int × (Int × ((List TMap) × Unit))))))))))))))))
def hsLast_tree : ty15_ -> Tr (Int × Unit) :=
 fun (a0, a1, a2, a3, a4, a5, a6, a7, a8, a9, a10, a11, a12, a13, a14, a15, _) =>
 .ite (decide (0 < (↑(a8.length) : Int))) (
 .grd (decide (0 <= wW .i64 ((↑(a8.length) : Int) - 1))) (
 .opt (a8[Int.toNat (wW .i64 ((↑(a8.length) : Int) - 1))]?) (fun r0 =>
 .ite (decide (0 < (↑(a9.length) : Int))) (
 .grd (decide (0 <= wW .i64 ((↑(a9.length) : Int) - 1))) (
 .opt (a9[Int.toNat (wW .i64 ((↑(a9.length) : Int) - 1))]?) (fun r1 =>
 .ite (decide (0 < (↑(a15.length) : Int))) (
 .grd (decide (0 <= wW .i64 ((↑(a15.length) : Int) - 1))) (
 .opt (a15[Int.toNat (wW .i64 ((↑(a15.length) : Int) - 1))]?) (fun r2 =>
 .ret (if false = true then if r2.at' < if false = true then if r1.at' < r0.at' then r1.at' else r0.at' else if r1.at' > r0.at' then r1.at' else r0.at' then r2.at' else if false = true then if r1.at' < r0.at' then r1.at' else r0.at' else if r1.at' > r0.at' then r1.at' else r0.at' else if r2.at' > if false = true then if r1.at' < r0.at' then r1.at' else r0.at' else if r1.at' > r0.at' then r1.at' else r0.at' then r2.at' else if false = true then if r1.at' < r0.at' then r1.at' else r0.at' else if r1.at' > r0.at' then r1.at' else r0.at', ())))) (
 .ret (if false = true then if r1.at' < r0.at' then r1.at' else r0.at' else if r1.at' > r0.at' then r1.at' else r0.at', ()))))) (
 .ite (decide (0 < (↑(a15.length) : Int))) (
 .grd (decide (0 <= wW .i64 ((↑(a15.length) : Int) - 1))) (
 .opt (a15[Int.toNat (wW .i64 ((↑(a15.length) : Int) - 1))]?) (fun r1 =>
 .ret (if false = true then if r1.at' < r0.at' then r1.at' else r0.at' else if r1.at' > r0.at' then r1.at' else r0.at', ())))) (
 .ret (r0.at', ())))))) (
 .ite (decide (0 < (↑(a9.length) : Int))) (
 .grd (decide (0 <= wW .i64 ((↑(a9.length) : Int) - 1))) (
 .opt (a9[Int.toNat (wW .i64 ((↑(a9.length) : Int) - 1))]?) (fun r0 =>
 .ite (decide (0 < (↑(a15.length) : Int))) (
 .grd (decide (0 <= wW .i64 ((↑(a15.length) : Int) - 1))) (
 .opt (a15[Int.toNat (wW .i64 ((↑(a15.length) : Int) - 1))]?) (fun r1 =>
 .ret (if false = true then if r1.at' < if false = true then if r0.at' < 0 then r0.at' else (0 : Int) else if r0.at' > (0 : Int) then r0.at' else (0 : Int) then r1.at' else if false = true then if r0.at' < 0 then r0.at' else (0 : Int) else if r0.at' > (0 : Int) then r0.at' else (0 : Int) else if r1.at' > if false = true then if r0.at' < 0 then r0.at' else (0 : Int) else if r0.at' > (0 : Int) then r0.at' else (0 : Int) then r1.at' else if false = true then if r0.at' < 0 then r0.at' else (0 : Int) else if r0.at' > (0 : Int) then r0.at' else 0, ())))) (
 .ret (if false = true then if r0.at' < 0 then r0.at' else (0 : Int) else if r0.at' > (0 : Int) then r0.at' else 0, ()))))) (
 .ite (decide (0 < (↑(a15.length) : Int))) (
 .grd (decide (0 <= wW .i64 ((↑(a15.length) : Int) - 1))) (
 .opt (a15[Int.toNat (wW .i64 ((↑(a15.length) : Int) - 1))]?) (fun r0 =>
 .ret (if false = true then if r0.at' < 0 then r0.at' else (0 : Int) else if r0.at' > (0 : Int) then r0.at' else 0, ())))) (
 .ret (0, ()))))
noncomputable def gm53 : List (PF Go.Proofs.Tryz.prog) := gm52 ++ [FS.pf hsMeter]
theorem hsLast_eq (x : ty15_) : fnTr Tryz.prog cod gm53 [] 30 41 hsLast_ap hsLast_rp x = hsLast_tree x := by kernel_rfl
def hsLast_fn (x : ty15_) : Option (Int × Unit) := (hsLast_tree x).eval
def hsLast : FS Tryz.prog := ⟨41, hsLast_ap, hsLast_rp, hsLast_fn, fun x r h => fnTr_sound (cod := cod) (Γ := gm53) (Λs := []) (n := 30) ((congrArg Tr.eval (hsLast_eq x)).trans h)⟩
def hsCheck_L40_12 : LS := ⟨12, [(1, 1), (5, 5)], ⟨103, [(62, .v (.one (.i .i64))), (1, .v (.one (.ptr 1 0))), (7, .v (.one (.i .i64))), (5, .v (.one (.ptr 5 0))), (60, .v (.one (.st 19 false))), (61, .v (.one (.i .i64)))], [(1, .cells [.i .u32, .i .i64, .i .i64, .i .i64, .i .i64, .i .i64, .st 10 false, .b, .st 19 false, .st 16 false, .i .i64, .i .i64, .i .u64, .i .i64, .i .u64, .st 17 false]), (5, .cells [.i .u32, .i .i64, .i .i64, .i .i64, .i .i64, .i .i64, .st 10 false, .b])]⟩, [⟨none, [], ⟨103, [(2, .v (.one (.i .i64)))], []⟩⟩, ⟨some 2, [], ⟨103, [], []⟩⟩], []⟩
abbrev ty16_ : Type := (Int × (Int × ((List TMeter) × (Int × (Int × (Int × (Int × (Int × (Int × (Int × ((List TRule) × (Bool × ((List TMeter) × ((List TTalk) × (Int × (Int × (Int × (Int × (Int × ((List TMap) × (Int × (Int × (Int × (Int × (Int × (Int × ((List TRule) × (Bool × Unit))))))))))))))))))))))))))))
def hsCheck_step40_12 : ty16_ -> Tr (ty16_ ⊕ ((Int × Unit) ⊕ Unit)) :=
 fun (a0, a1, a2, a3, a4, a5, a6, a7, a8, a9, a10, a11, a12, a13, a14, a15, a16, a17, a18, a19, a20, a21, a22, a23, a24, a25, a26, a27, _) =>
 .ite (decide (a0 < a3)) (
 .grd (decide (0 <= a0)) (
 .opt (a2[Int.toNat a0]?) (fun r0 =>
 .opt ((buCheck_fn (r0.rate, (r0.most, (r0.has, (r0.at', ())))))) (fun r1 =>
 .ite (!decide (r1.1 = 0)) (
 .ret (Sum.inr (Sum.inl (4, ())))) (
 .ite (!decide (r0.rate = a24)) (
 .ret (Sum.inr (Sum.inl (4, ())))) (
 .ite (!decide (r0.most = a25)) (
 .ret (Sum.inr (Sum.inl (4, ())))) (
 .ite (decide (r0.at' < a1)) (
 .ret (Sum.inr (Sum.inl (4, ())))) (
 .opt ((hsMeter_fn (a4, (a5, (a6, (a7, (a8, (a9, (a10, (a11, (a12, (a13, (a14, (a15, (a16, (a17, (a18, (a19, (r0.addr, ()))))))))))))))))))) (fun r2 =>
 .ite (!decide (r2.1 = a0)) (
 .ret (Sum.inr (Sum.inl (4, ())))) (
 .ret (Sum.inl (wW .i64 (a0 + 1), (r0.at', (a2, (a3, (a4, (a5, (a6, (a7, (a8, (a9, (a10, (a11, (a12, (a13, (a14, (a15, (a16, (a17, (a18, (a19, (a20, (a21, (a22, (a23, (a24, (a25, (a26, (a27, ()))))))))))))))))))))))))))))))))))))))) (
 .ret (Sum.inr (Sum.inr ())))
def hsCheck_loop40_12 (x : ty16_) : Option ((Int × Unit) ⊕ Unit) := loopO 400012 (fun x => (hsCheck_step40_12 x).eval) 18446744073709551616 x
def hsCheck_L40_2 : LS := ⟨2, [(1, 1)], ⟨103, [(21, .v (.one (.i .i64))), (20, .v (.agg [.i .i64, .i .i64, .i .i64])), (1, .v (.one (.ptr 1 0)))], [(1, .cells [.i .u32, .i .i64, .i .i64, .i .i64, .i .i64, .i .i64, .st 10 false, .b, .st 19 false, .st 16 false, .i .i64, .i .i64, .i .u64, .i .i64, .i .u64, .st 17 false])]⟩, [⟨none, [], ⟨103, [(2, .v (.one (.i .i64)))], []⟩⟩, ⟨some 0, [(1, 1)], ⟨103, [(1, .v (.one (.ptr 1 0)))], [(1, .cells [.i .u32, .i .i64, .i .i64, .i .i64, .i .i64, .i .i64, .st 10 false, .b, .st 19 false, .st 16 false, .i .i64, .i .i64, .i .u64, .i .i64, .i .u64, .st 17 false])]⟩⟩], []⟩
abbrev ty17_ : Type := (Int × (Int × (Int × (Int × (Int × (Int × (Int × (Int × (Int × (Int × ((List TRule) × (Bool × ((List TMeter) × ((List TTalk) × (Int × (Int × (Int × (Int × (Int × ((List TMap) × Unit))))))))))))))))))))
def hsCheck_step40_2 : ty17_ -> Tr (ty17_ ⊕ ((Int × Unit) ⊕ ty15_)) :=
 fun (a0, a1, a2, a3, a4, a5, a6, a7, a8, a9, a10, a11, a12, a13, a14, a15, a16, a17, a18, a19, _) =>
 .ite (decide (a0 < 3)) (
 .grd (decide (0 <= a0)) (
 .opt ([a1, a2, a3][Int.toNat a0]?) (fun r0 =>
 .ite (!decide (r0 = 0)) (
 .ret (Sum.inr (Sum.inl (r0, ())))) (
 .ret (Sum.inl (wW .i64 (a0 + 1), (a1, (a2, (a3, (a4, (a5, (a6, (a7, (a8, (a9, (a10, (a11, (a12, (a13, (a14, (a15, (a16, (a17, (a18, (a19, ()))))))))))))))))))))))))) (
 .ret (Sum.inr (Sum.inr (a4, (a5, (a6, (a7, (a8, (a9, (a10, (a11, (a12, (a13, (a14, (a15, (a16, (a17, (a18, (a19, ())))))))))))))))))))
def hsCheck_loop40_2 (x : ty17_) : Option ((Int × Unit) ⊕ ty15_) := loopO 400002 (fun x => (hsCheck_step40_2 x).eval) 18446744073709551616 x
def hsCheck_ap : List VP1 := [.agg [.i .u32, .i .i64, .i .i64, .i .i64, .i .i64, .i .i64, .st 10 false, .b, .st 19 false, .st 16 false, .i .i64, .i .i64, .i .u64, .i .i64, .i .u64, .st 17 false]]
def hsCheck_rp : SP := ⟨1, [(0, .v (.one (.i .i64)))], []⟩
def hsCheck_tree : ty15_ -> Tr (Int × Unit) :=
 fun (a0, a1, a2, a3, a4, a5, a6, a7, a8, a9, a10, a11, a12, a13, a14, a15, _) =>
 .opt ((confCheck_fn (a0, (a1, (a2, (a3, (a4, (a5, (a6, (a7, ())))))))))) (fun r0 =>
 .opt ((trCheck_fn (a9, ()))) (fun r1 =>
 .opt ((natCheck_fn (a10, (a11, (a12, (a13, (a14, (a15, ())))))))) (fun r2 =>
 .opt ((hsCheck_loop40_2 (0, (r0.1, (r1.1, (r2.1, (a0, (a1, (a2, (a3, (a4, (a5, (a6, (a7, (a8, (a9, (a10, (a11, (a12, (a13, (a14, (a15, ())))))))))))))))))))))) (fun r3 =>
 .sum (r3) (fun r4 =>
 .ret (r4.1, ())) (fun r4 =>
 .ite (decide (64 < (↑(List.length r4.2.2.2.2.2.2.2.2.1) : Int))) (
 .ret (4, ())) (
 .ite (!decide (r4.2.2.2.2.2.2.2.2.2.2.1 = r4.2.2.2.1)) (
 .ret (4, ())) (
 .ite (!decide (r4.2.2.2.2.2.2.2.2.2.2.2.1 = r4.2.1)) (
 .ret (4, ())) (
 .ite (!decide (r4.2.2.2.2.2.2.2.2.2.2.2.2.2.1 = r4.2.2.1)) (
 .ret (4, ())) (
 .opt ((hsCheck_loop40_12 (0, (0, (r4.2.2.2.2.2.2.2.2.1, ((↑(List.length r4.2.2.2.2.2.2.2.2.1) : Int), (r4.1, (r4.2.1, (r4.2.2.1, (r4.2.2.2.1, (r4.2.2.2.2.1, (r4.2.2.2.2.2.1, (r4.2.2.2.2.2.2.1, (r4.2.2.2.2.2.2.2.1, (r4.2.2.2.2.2.2.2.2.1, (r4.2.2.2.2.2.2.2.2.2.1, (r4.2.2.2.2.2.2.2.2.2.2.1, (r4.2.2.2.2.2.2.2.2.2.2.2.1, (r4.2.2.2.2.2.2.2.2.2.2.2.2.1, (r4.2.2.2.2.2.2.2.2.2.2.2.2.2.1, (r4.2.2.2.2.2.2.2.2.2.2.2.2.2.2.1, (r4.2.2.2.2.2.2.2.2.2.2.2.2.2.2.2.1, (r4.1, (r4.2.1, (r4.2.2.1, (r4.2.2.2.1, (r4.2.2.2.2.1, (r4.2.2.2.2.2.1, (r4.2.2.2.2.2.2.1, (r4.2.2.2.2.2.2.2.1, ())))))))))))))))))))))))))))))) (fun r5 =>
 .sum (r5) (fun r6 =>
 .ret (r6.1, ())) (fun r6 =>
 .ret (0, ()))))))))))))
noncomputable def gm54 : List (PF Go.Proofs.Tryz.prog) := gm53 ++ [FS.pf hsLast]
theorem hsCheck_eq (x : ty15_) : fnTr Tryz.prog cod gm54 [(40, hsCheck_L40_12), (40, hsCheck_L40_2)] 30 40 hsCheck_ap hsCheck_rp x = hsCheck_tree x := by kernel_rfl
def hsCheck_fn (x : ty15_) : Option (Int × Unit) := (hsCheck_tree x).eval
def hsCheck : FS Tryz.prog := ⟨40, hsCheck_ap, hsCheck_rp, hsCheck_fn, fun x r h => fnTr_sound (cod := cod) (Γ := gm54) (Λs := [(40, hsCheck_L40_12), (40, hsCheck_L40_2)]) (n := 30) ((congrArg Tr.eval (hsCheck_eq x)).trans h)⟩
def hsNew_ap : List VP1 := [.agg [.i .u32, .i .i64, .i .i64, .i .i64, .i .i64, .i .i64, .st 10 false, .b]]
def hsNew_rp : SP := ⟨1, [(0, .tup [.agg [.i .u32, .i .i64, .i .i64, .i .i64, .i .i64, .i .i64, .st 10 true, .b, .st 19 true, .st 16 true, .i .i64, .i .i64, .i .u64, .i .i64, .i .u64, .st 17 true], .one (.i .i64)])], []⟩
def hsNew_tree : (Int × (Int × (Int × (Int × (Int × (Int × ((List TRule) × (Bool × Unit)))))))) -> Tr ty14_ :=
 fun (a0, a1, a2, a3, a4, a5, a6, a7, _) =>
 .opt ((confCheck_fn (a0, (a1, (a2, (a3, (a4, (a5, (a6, (a7, ())))))))))) (fun r0 =>
 .ite (!decide (r0.1 = 0)) (
 .ret (0, (0, (0, (0, (0, (0, ([], (false, ([], ([], (0, (0, (0, (0, (0, ([], (r0.1, ())))))))))))))))))) (
 .grd (decide (((0 : Nat) + a6.length) * (80 : Nat) <= (140737488355328 : Nat) /\ (0 : Nat) + a6.length <= (9223372036854775807 : Nat))) (
 .ret (a0, (a1, (a2, (a3, (a4, (a5, (a6, (a7, ([], ([], (a3, (a1, (0, (a2, (0, ([], (0, ()))))))))))))))))))))
noncomputable def gm55 : List (PF Go.Proofs.Tryz.prog) := gm54 ++ [FS.pf hsCheck]
theorem hsNew_eq (x : (Int × (Int × (Int × (Int × (Int × (Int × ((List TRule) × (Bool × Unit))))))))) : fnTr Tryz.prog cod gm55 [] 30 25 hsNew_ap hsNew_rp x = hsNew_tree x := by kernel_rfl
def hsNew_fn (x : (Int × (Int × (Int × (Int × (Int × (Int × ((List TRule) × (Bool × Unit))))))))) : Option ty14_ := (hsNew_tree x).eval
def hsNew : FS Tryz.prog := ⟨25, hsNew_ap, hsNew_rp, hsNew_fn, fun x r h => fnTr_sound (cod := cod) (Γ := gm55) (Λs := []) (n := 30) ((congrArg Tr.eval (hsNew_eq x)).trans h)⟩
def wMeasured_ap : SP := ⟨115, [(0, .v (.one (.ptr 1000000 0)))], [(1000000, .cells [.i .u32, .i .i64, .i .i64, .i .i64, .i .i64, .i .i64, .st 10 false, .b, .own 1000100, .st 16 false, .i .i64, .i .i64, .i .u64, .i .i64, .i .u64, .st 17 false, .i .u32, .i .u32, .i .i64, .i .i64, .i .i64, .s, .i .i64]), (1000100, .row 59 19 true true)]⟩
def wMeasured_rp : SP := ⟨1, [(0, .v (.one (.b)))], [(1000000, .cells [.i .u32, .i .i64, .i .i64, .i .i64, .i .i64, .i .i64, .st 10 false, .b, .own 1000100, .st 16 false, .i .i64, .i .i64, .i .u64, .i .i64, .i .u64, .st 17 false, .i .u32, .i .u32, .i .i64, .i .i64, .i .i64, .s, .i .i64]), (1000100, .row 59 19 true true)]⟩
abbrev ty18_ : Type := (Int × (Int × (Int × (Int × (Int × (Int × ((List TRule) × (Bool × ((List TTalk) × (Int × (Int × (Int × (Int × (Int × ((List TMap) × (Int × (Int × (Int × (Int × (Int × ((List UInt8) × (Int × ((List TMeter) × Unit)))))))))))))))))))))))
abbrev ty19_ : Type := (Bool × (Int × (Int × (Int × (Int × (Int × (Int × ((List TRule) × (Bool × ((List TTalk) × (Int × (Int × (Int × (Int × (Int × ((List TMap) × (Int × (Int × (Int × (Int × (Int × ((List UInt8) × (Int × ((List TMeter) × Unit))))))))))))))))))))))))
def wMeasured_tree : ty18_ -> Tr ty19_ :=
 fun (a0, a1, a2, a3, a4, a5, a6, a7, a8, a9, a10, a11, a12, a13, a14, a15, a16, a17, a18, a19, a20, a21, a22, _) =>
 .opt ((hsMeter_fn (a0, (a1, (a2, (a3, (a4, (a5, (a6, (a7, (a22, (a8, (a9, (a10, (a11, (a12, (a13, (a14, (a15, ()))))))))))))))))))) (fun r0 =>
 .ite (decide (0 <= r0.1)) (
 .grd (decide (0 <= r0.1 /\ r0.1 < (↑(a22.length) : Int))) (
 .opt (a22[Int.toNat r0.1]?) (fun r1 =>
 .grd (decide (a22.length = a22.length)) (
 .opt ((delMeter_fn (r0.1, (wW .i64 (r0.1 + 1), (a22, ()))))) (fun r2 =>
 .opt ((buTake_fn (r1.rate, (r1.most, (r1.has, (r1.at', (a21, ((↑(a20.length) : Int), ())))))))) (fun r3 =>
 .grd (decide ((List.length r2.1 + List.length [TMeter.mk a15 r3.1 r3.2.1 r3.2.2.1 r3.2.2.2.1]) * (40 : Nat) <= (140737488355328 : Nat) /\ List.length r2.1 + List.length [TMeter.mk a15 r3.1 r3.2.1 r3.2.2.1 r3.2.2.2.1] <= (9223372036854775807 : Nat))) (
 .grd (decide (List.length (r2.1 ++ [TMeter.mk a15 r3.1 r3.2.1 r3.2.2.1 r3.2.2.2.1]) = List.length (r2.1 ++ [TMeter.mk a15 r3.1 r3.2.1 r3.2.2.1 r3.2.2.2.1]))) (
 .ret (r3.2.2.2.2.1, (a0, (a1, (a2, (a3, (a4, (a5, (a6, (a7, (a8, (a9, (a10, (a11, (a12, (a13, (a14, (a15, (a16, (a17, (a18, (a19, (a20, (a21, (r2.1 ++ [TMeter.mk a15 r3.1 r3.2.1 r3.2.2.1 r3.2.2.2.1], ())))))))))))))))))))))))))))))))) (
 .ite (decide ((↑(a22.length) : Int) = 64)) (
 .grd (decide (a22.length = a22.length)) (
 .opt ((delMeter_fn (0, (1, (a22, ()))))) (fun r1 =>
 .opt ((buTake_fn (a4, (a5, (a5, (a21, (a21, ((↑(a20.length) : Int), ())))))))) (fun r2 =>
 .grd (decide ((List.length r1.1 + List.length [TMeter.mk a15 r2.1 r2.2.1 r2.2.2.1 r2.2.2.2.1]) * (40 : Nat) <= (140737488355328 : Nat) /\ List.length r1.1 + List.length [TMeter.mk a15 r2.1 r2.2.1 r2.2.2.1 r2.2.2.2.1] <= (9223372036854775807 : Nat))) (
 .grd (decide (List.length (r1.1 ++ [TMeter.mk a15 r2.1 r2.2.1 r2.2.2.1 r2.2.2.2.1]) = List.length (r1.1 ++ [TMeter.mk a15 r2.1 r2.2.1 r2.2.2.1 r2.2.2.2.1]))) (
 .ret (r2.2.2.2.2.1, (a0, (a1, (a2, (a3, (a4, (a5, (a6, (a7, (a8, (a9, (a10, (a11, (a12, (a13, (a14, (a15, (a16, (a17, (a18, (a19, (a20, (a21, (r1.1 ++ [TMeter.mk a15 r2.1 r2.2.1 r2.2.2.1 r2.2.2.2.1], ())))))))))))))))))))))))))))))) (
 .opt ((buTake_fn (a4, (a5, (a5, (a21, (a21, ((↑(a20.length) : Int), ())))))))) (fun r1 =>
 .grd (decide ((a22.length + List.length [TMeter.mk a15 r1.1 r1.2.1 r1.2.2.1 r1.2.2.2.1]) * (40 : Nat) <= (140737488355328 : Nat) /\ a22.length + List.length [TMeter.mk a15 r1.1 r1.2.1 r1.2.2.1 r1.2.2.2.1] <= (9223372036854775807 : Nat))) (
 .grd (decide (List.length (a22 ++ [TMeter.mk a15 r1.1 r1.2.1 r1.2.2.1 r1.2.2.2.1]) = List.length (a22 ++ [TMeter.mk a15 r1.1 r1.2.1 r1.2.2.1 r1.2.2.2.1]))) (
 .ret (r1.2.2.2.2.1, (a0, (a1, (a2, (a3, (a4, (a5, (a6, (a7, (a8, (a9, (a10, (a11, (a12, (a13, (a14, (a15, (a16, (a17, (a18, (a19, (a20, (a21, (a22 ++ [TMeter.mk a15 r1.1 r1.2.1 r1.2.2.1 r1.2.2.2.1], ()))))))))))))))))))))))))))))))
noncomputable def gm56 : List (PF Go.Proofs.Tryz.prog) := gm55 ++ [FS.pf hsNew]
theorem wMeasured_eq (x : ty18_) : gsTr Tryz.prog cod gm56 [] 30 88 wMeasured_ap wMeasured_rp x = wMeasured_tree x := by kernel_rfl
def wMeasured_fn (x : ty18_) : Option ty19_ := (wMeasured_tree x).eval
def wMeasured : GS Tryz.prog := ⟨88, [1], wMeasured_ap, wMeasured_rp, wMeasured_fn, fun x r h ys m g he hg => gs_sound (cod := cod) (Γ := gm56) (Λs := []) (n := 30) ((congrArg Tr.eval (wMeasured_eq x)).trans h) he hg⟩
def wKnown_ap : SP := ⟨24, [(0, .v (.one (.ptr 1000000 0))), (1, .v (.agg [.i .u32, .i .u32, .i .i64, .i .i64]))], [(1000000, .cells [.i .u32, .i .i64, .i .i64, .i .i64, .i .i64, .i .i64, .st 10 false, .b, .own 1000100, .st 16 false, .i .i64, .i .i64, .i .u64, .i .i64, .i .u64, .st 17 false, .i .u32, .i .u32, .i .i64, .i .i64, .i .i64, .s, .i .i64]), (1000100, .row 59 19 true true)]⟩
def wKnown_rp : SP := ⟨1, [(0, .v (.one (.b)))], [(1000000, .cells [.i .u32, .i .i64, .i .i64, .i .i64, .i .i64, .i .i64, .st 10 false, .b, .own 1000100, .st 16 false, .i .i64, .i .i64, .i .u64, .i .i64, .i .u64, .st 17 false, .i .u32, .i .u32, .i .i64, .i .i64, .i .i64, .s, .i .i64]), (1000100, .row 59 19 true true)]⟩
abbrev ty20_ : Type := (Int × (Int × (Int × (Int × (Int × (Int × (Int × (Int × (Int × (Int × ((List TRule) × (Bool × ((List TTalk) × (Int × (Int × (Int × (Int × (Int × ((List TMap) × (Int × (Int × (Int × (Int × (Int × ((List UInt8) × (Int × ((List TMeter) × Unit)))))))))))))))))))))))))))
def wKnown_tree : ty20_ -> Tr ty19_ :=
 fun (a0, a1, a2, a3, a4, a5, a6, a7, a8, a9, a10, a11, a12, a13, a14, a15, a16, a17, a18, a19, a20, a21, a22, a23, a24, a25, a26, _) =>
 .opt ((trFind_fn (a12, (a0, (a1, (a2, (a3, (a25, ())))))))) (fun r0 =>
 .grd (decide (a26.length = a26.length)) (
 .ret (r0.2.2.2.2.2.2.2.1, (a4, (a5, (a6, (a7, (a8, (a9, (a10, (a11, (a12, (a13, (a14, (a15, (a16, (a17, (a18, (a19, (a20, (a21, (a22, (a23, (a24, (a25, (a26, ()))))))))))))))))))))))))))
noncomputable def gm57 : List (PF Go.Proofs.Tryz.prog) := gm56 ++ [GS.pf wMeasured]
theorem wKnown_eq (x : ty20_) : gsTr Tryz.prog cod gm57 [] 30 137 wKnown_ap wKnown_rp x = wKnown_tree x := by kernel_rfl
def wKnown_fn (x : ty20_) : Option ty19_ := (wKnown_tree x).eval
def wKnown : GS Tryz.prog := ⟨137, [1, 0], wKnown_ap, wKnown_rp, wKnown_fn, fun x r h ys m g he hg => gs_sound (cod := cod) (Γ := gm57) (Λs := []) (n := 30) ((congrArg Tr.eval (wKnown_eq x)).trans h) he hg⟩
def wTalked_ap : SP := ⟨59, [(0, .v (.one (.ptr 1000000 0))), (1, .v (.agg [.i .u32, .i .u32, .i .i64, .i .i64]))], [(1000000, .cells [.i .u32, .i .i64, .i .i64, .i .i64, .i .i64, .i .i64, .st 10 false, .b, .own 1000100, .st 16 false, .i .i64, .i .i64, .i .u64, .i .i64, .i .u64, .st 17 false, .i .u32, .i .u32, .i .i64, .i .i64, .i .i64, .s, .i .i64]), (1000100, .row 59 19 true true)]⟩
def wTalked_rp : SP := ⟨1, [(0, .v (.one (.b)))], [(1000000, .cells [.i .u32, .i .i64, .i .i64, .i .i64, .i .i64, .i .i64, .st 10 false, .b, .own 1000100, .st 16 false, .i .i64, .i .i64, .i .u64, .i .i64, .i .u64, .st 17 false, .i .u32, .i .u32, .i .i64, .i .i64, .i .i64, .s, .i .i64]), (1000100, .row 59 19 true true)]⟩
def wTalked_tree : ty20_ -> Tr ty19_ :=
 fun (a0, a1, a2, a3, a4, a5, a6, a7, a8, a9, a10, a11, a12, a13, a14, a15, a16, a17, a18, a19, a20, a21, a22, a23, a24, a25, a26, _) =>
 .opt ((ipRead_fn (a24, ()))) (fun r0 =>
 .opt ((tcRead_fn (r0.2.2.2.2.2.2.2.2.2.2.1, (r0.2.2.2.2.2.2.2.1, (r0.2.2.2.2.2.2.2.2.1, ()))))) (fun r1 =>
 .opt ((trHear_fn (a12, (a0, (a1, (a2, (a3, (r1.2.2.2.2.1, (a25, ()))))))))) (fun r2 =>
 .ite (decide (r2.2.2.1 = 0)) (
 .ite (decide (r2.2.2.1 = 0)) (
 .grd (decide (a26.length = a26.length)) (
 .ret (r2.2.1, (a4, (a5, (a6, (a7, (a8, (a9, (a10, (a11, (r2.1, (a13, (a14, (a15, (a16, (a17, (a18, (a19, (a20, (a21, (a22, (a23, (a24, (a25, (a26, ())))))))))))))))))))))))))) (
 .grd (decide (a26.length = a26.length)) (
 .ret (false, (a4, (a5, (a6, (a7, (a8, (a9, (a10, (a11, (r2.1, (a13, (a14, (a15, (a16, (a17, (a18, (a19, (a20, (a21, (a22, (a23, (a24, (a25, (a26, ()))))))))))))))))))))))))))) (
 .ite (decide (r2.2.2.1 = 0)) (
 .grd (decide (a26.length = a26.length)) (
 .ret (r2.2.1, (a4, (a5, (a6, (a7, (a8, (a9, (a10, (a11, (a12, (a13, (a14, (a15, (a16, (a17, (a18, (a19, (a20, (a21, (a22, (a23, (a24, (a25, (a26, ())))))))))))))))))))))))))) (
 .grd (decide (a26.length = a26.length)) (
 .ret (false, (a4, (a5, (a6, (a7, (a8, (a9, (a10, (a11, (a12, (a13, (a14, (a15, (a16, (a17, (a18, (a19, (a20, (a21, (a22, (a23, (a24, (a25, (a26, ()))))))))))))))))))))))))))))))
noncomputable def gm58 : List (PF Go.Proofs.Tryz.prog) := gm57 ++ [GS.pf wKnown]
theorem wTalked_eq (x : ty20_) : gsTr Tryz.prog cod gm58 [] 30 139 wTalked_ap wTalked_rp x = wTalked_tree x := by kernel_rfl
def wTalked_fn (x : ty20_) : Option ty19_ := (wTalked_tree x).eval
def wTalked : GS Tryz.prog := ⟨139, [1, 0], wTalked_ap, wTalked_rp, wTalked_fn, fun x r h ys m g he hg => gs_sound (cod := cod) (Γ := gm58) (Λs := []) (n := 30) ((congrArg Tr.eval (wTalked_eq x)).trans h) he hg⟩
def wLeaves_ap : SP := ⟨108, [(0, .v (.one (.ptr 1000000 0)))], [(1000000, .cells [.i .u32, .i .i64, .i .i64, .i .i64, .i .i64, .i .i64, .st 10 false, .b, .own 1000100, .st 16 false, .i .i64, .i .i64, .i .u64, .i .i64, .i .u64, .st 17 false, .i .u32, .i .u32, .i .i64, .i .i64, .i .i64, .s, .i .i64]), (1000100, .row 59 19 true true)]⟩
def wLeaves_rp : SP := ⟨1, [(0, .tup [.one (.s), .one (.i .i64)])], [(1000000, .cells [.i .u32, .i .i64, .i .i64, .i .i64, .i .i64, .i .i64, .st 10 false, .b, .own 1000100, .st 16 false, .i .i64, .i .i64, .i .u64, .i .i64, .i .u64, .st 17 false, .i .u32, .i .u32, .i .i64, .i .i64, .i .i64, .s, .i .i64]), (1000100, .row 59 19 true true)]⟩
abbrev ty21_ : Type := ((List UInt8) × (Int × (Int × (Int × (Int × (Int × (Int × (Int × ((List TRule) × (Bool × ((List TTalk) × (Int × (Int × (Int × (Int × (Int × ((List TMap) × (Int × (Int × (Int × (Int × (Int × ((List UInt8) × (Int × ((List TMeter) × Unit)))))))))))))))))))))))))
def wLeaves_tree : ty18_ -> Tr ty21_ :=
 fun (a0, a1, a2, a3, a4, a5, a6, a7, a8, a9, a10, a11, a12, a13, a14, a15, a16, a17, a18, a19, a20, a21, a22, _) =>
 .ite (!decide (a17 = 6)) (
 .opt ((ruDecide_fn (a6, (a15, (a16, (a17, (a18, (a19, (a7, ()))))))))) (fun r0 =>
 .ite (!r0.1) (
 .grd (decide (a22.length = a22.length)) (
 .ret ([], (4, (a0, (a1, (a2, (a3, (a4, (a5, (a6, (a7, (a8, (a9, (a10, (a11, (a12, (a13, (a14, (a15, (a16, (a17, (a18, (a19, (a20, (a21, (a22, ()))))))))))))))))))))))))))) (
 .ite (decide (a17 = 6)) (
 .grd (decide (a22.length = a22.length)) (
 .opt ((wTalked_fn (a15, (a16, (a18, (a19, (a0, (a1, (a2, (a3, (a4, (a5, (a6, (a7, (a8, (a9, (a10, (a11, (a12, (a13, (a14, (a15, (a16, (a17, (a18, (a19, (a20, (a21, (a22, ()))))))))))))))))))))))))))))) (fun r1 =>
 .ite (!r1.1) (
 .grd (decide (List.length r1.2.2.2.2.2.2.2.2.2.2.2.2.2.2.2.2.2.2.2.2.2.2.2.fst = List.length r1.2.2.2.2.2.2.2.2.2.2.2.2.2.2.2.2.2.2.2.2.2.2.2.1)) (
 .ret ([], (4, (r1.2.1, (r1.2.2.1, (r1.2.2.2.1, (r1.2.2.2.2.1, (r1.2.2.2.2.2.1, (r1.2.2.2.2.2.2.1, (r1.2.2.2.2.2.2.2.1, (r1.2.2.2.2.2.2.2.2.1, (r1.2.2.2.2.2.2.2.2.2.1, (r1.2.2.2.2.2.2.2.2.2.2.1, (r1.2.2.2.2.2.2.2.2.2.2.2.1, (r1.2.2.2.2.2.2.2.2.2.2.2.2.1, (r1.2.2.2.2.2.2.2.2.2.2.2.2.2.1, (r1.2.2.2.2.2.2.2.2.2.2.2.2.2.2.1, (r1.2.2.2.2.2.2.2.2.2.2.2.2.2.2.2.1, (r1.2.2.2.2.2.2.2.2.2.2.2.2.2.2.2.2.1, (r1.2.2.2.2.2.2.2.2.2.2.2.2.2.2.2.2.2.1, (r1.2.2.2.2.2.2.2.2.2.2.2.2.2.2.2.2.2.2.1, (r1.2.2.2.2.2.2.2.2.2.2.2.2.2.2.2.2.2.2.2.1, (r1.2.2.2.2.2.2.2.2.2.2.2.2.2.2.2.2.2.2.2.2.1, (r1.2.2.2.2.2.2.2.2.2.2.2.2.2.2.2.2.2.2.2.2.2.1, (r1.2.2.2.2.2.2.2.2.2.2.2.2.2.2.2.2.2.2.2.2.2.2.1, (r1.2.2.2.2.2.2.2.2.2.2.2.2.2.2.2.2.2.2.2.2.2.2.2.1, ()))))))))))))))))))))))))))) (
 .opt ((natOut_fn (r1.2.2.2.2.2.2.2.2.2.2.1, (r1.2.2.2.2.2.2.2.2.2.2.2.1, (r1.2.2.2.2.2.2.2.2.2.2.2.2.1, (r1.2.2.2.2.2.2.2.2.2.2.2.2.2.1, (r1.2.2.2.2.2.2.2.2.2.2.2.2.2.2.1, (r1.2.2.2.2.2.2.2.2.2.2.2.2.2.2.2.1, (a17, (a15, (a18, (r1.2.2.2.2.2.2.2.2.2.2.2.2.2.2.2.2.2.2.2.2.2.2.1, ())))))))))))) (fun r2 =>
 .ite (!decide (r2.2.2.2.2.2.2.2.1 = 0)) (
 .grd (decide (List.length r1.2.2.2.2.2.2.2.2.2.2.2.2.2.2.2.2.2.2.2.2.2.2.2.fst = List.length r1.2.2.2.2.2.2.2.2.2.2.2.2.2.2.2.2.2.2.2.2.2.2.2.1)) (
 .ret ([], (5, (r1.2.1, (r1.2.2.1, (r1.2.2.2.1, (r1.2.2.2.2.1, (r1.2.2.2.2.2.1, (r1.2.2.2.2.2.2.1, (r1.2.2.2.2.2.2.2.1, (r1.2.2.2.2.2.2.2.2.1, (r1.2.2.2.2.2.2.2.2.2.1, (r1.2.2.2.2.2.2.2.2.2.2.1, (r1.2.2.2.2.2.2.2.2.2.2.2.1, (r1.2.2.2.2.2.2.2.2.2.2.2.2.1, (r1.2.2.2.2.2.2.2.2.2.2.2.2.2.1, (r1.2.2.2.2.2.2.2.2.2.2.2.2.2.2.1, (r1.2.2.2.2.2.2.2.2.2.2.2.2.2.2.2.1, (r1.2.2.2.2.2.2.2.2.2.2.2.2.2.2.2.2.1, (r1.2.2.2.2.2.2.2.2.2.2.2.2.2.2.2.2.2.1, (r1.2.2.2.2.2.2.2.2.2.2.2.2.2.2.2.2.2.2.1, (r1.2.2.2.2.2.2.2.2.2.2.2.2.2.2.2.2.2.2.2.1, (r1.2.2.2.2.2.2.2.2.2.2.2.2.2.2.2.2.2.2.2.2.1, (r1.2.2.2.2.2.2.2.2.2.2.2.2.2.2.2.2.2.2.2.2.2.1, (r1.2.2.2.2.2.2.2.2.2.2.2.2.2.2.2.2.2.2.2.2.2.2.1, (r1.2.2.2.2.2.2.2.2.2.2.2.2.2.2.2.2.2.2.2.2.2.2.2.1, ()))))))))))))))))))))))))))) (
 .opt ((swFrom_fn (r1.2.2.2.2.2.2.2.2.2.2.2.2.2.2.2.2.2.2.2.2.2.1, (r1.2.1, (r2.2.2.2.2.2.2.1, ()))))) (fun r3 =>
 .grd (decide (List.length r1.2.2.2.2.2.2.2.2.2.2.2.2.2.2.2.2.2.2.2.2.2.2.2.fst = List.length r1.2.2.2.2.2.2.2.2.2.2.2.2.2.2.2.2.2.2.2.2.2.2.2.1)) (
 .ret (r3.1, (0, (r1.2.1, (r1.2.2.1, (r1.2.2.2.1, (r1.2.2.2.2.1, (r1.2.2.2.2.2.1, (r1.2.2.2.2.2.2.1, (r1.2.2.2.2.2.2.2.1, (r1.2.2.2.2.2.2.2.2.1, (r1.2.2.2.2.2.2.2.2.2.1, (r2.1, (r2.2.1, (r2.2.2.1, (r2.2.2.2.1, (r2.2.2.2.2.1, (r2.2.2.2.2.2.1, (r1.2.2.2.2.2.2.2.2.2.2.2.2.2.2.2.2.1, (r1.2.2.2.2.2.2.2.2.2.2.2.2.2.2.2.2.2.1, (r1.2.2.2.2.2.2.2.2.2.2.2.2.2.2.2.2.2.2.1, (r1.2.2.2.2.2.2.2.2.2.2.2.2.2.2.2.2.2.2.2.1, (r1.2.2.2.2.2.2.2.2.2.2.2.2.2.2.2.2.2.2.2.2.1, (r1.2.2.2.2.2.2.2.2.2.2.2.2.2.2.2.2.2.2.2.2.2.1, (r1.2.2.2.2.2.2.2.2.2.2.2.2.2.2.2.2.2.2.2.2.2.2.1, (r1.2.2.2.2.2.2.2.2.2.2.2.2.2.2.2.2.2.2.2.2.2.2.2.1, ()))))))))))))))))))))))))))))))))) (
 .opt ((natOut_fn (a9, (a10, (a11, (a12, (a13, (a14, (a17, (a15, (a18, (a21, ())))))))))))) (fun r1 =>
 .ite (!decide (r1.2.2.2.2.2.2.2.1 = 0)) (
 .grd (decide (a22.length = a22.length)) (
 .ret ([], (5, (a0, (a1, (a2, (a3, (a4, (a5, (a6, (a7, (a8, (a9, (a10, (a11, (a12, (a13, (a14, (a15, (a16, (a17, (a18, (a19, (a20, (a21, (a22, ()))))))))))))))))))))))))))) (
 .opt ((swFrom_fn (a20, (a0, (r1.2.2.2.2.2.2.1, ()))))) (fun r2 =>
 .grd (decide (a22.length = a22.length)) (
 .ret (r2.1, (0, (a0, (a1, (a2, (a3, (a4, (a5, (a6, (a7, (a8, (r1.1, (r1.2.1, (r1.2.2.1, (r1.2.2.2.1, (r1.2.2.2.2.1, (r1.2.2.2.2.2.1, (a15, (a16, (a17, (a18, (a19, (a20, (a21, (a22, ()))))))))))))))))))))))))))))))))) (
 .grd (decide (a22.length = a22.length)) (
 .opt ((wKnown_fn (a15, (a16, (a18, (a19, (a0, (a1, (a2, (a3, (a4, (a5, (a6, (a7, (a8, (a9, (a10, (a11, (a12, (a13, (a14, (a15, (a16, (a17, (a18, (a19, (a20, (a21, (a22, ()))))))))))))))))))))))))))))) (fun r0 =>
 .ite (!r0.1) (
 .opt ((ruDecide_fn (r0.2.2.2.2.2.2.2.1, (a15, (a16, (a17, (a18, (a19, (r0.2.2.2.2.2.2.2.2.1, ()))))))))) (fun r1 =>
 .ite (!r1.1) (
 .grd (decide (List.length r0.2.2.2.2.2.2.2.2.2.2.2.2.2.2.2.2.2.2.2.2.2.2.2.fst = List.length r0.2.2.2.2.2.2.2.2.2.2.2.2.2.2.2.2.2.2.2.2.2.2.2.1)) (
 .ret ([], (4, (r0.2.1, (r0.2.2.1, (r0.2.2.2.1, (r0.2.2.2.2.1, (r0.2.2.2.2.2.1, (r0.2.2.2.2.2.2.1, (r0.2.2.2.2.2.2.2.1, (r0.2.2.2.2.2.2.2.2.1, (r0.2.2.2.2.2.2.2.2.2.1, (r0.2.2.2.2.2.2.2.2.2.2.1, (r0.2.2.2.2.2.2.2.2.2.2.2.1, (r0.2.2.2.2.2.2.2.2.2.2.2.2.1, (r0.2.2.2.2.2.2.2.2.2.2.2.2.2.1, (r0.2.2.2.2.2.2.2.2.2.2.2.2.2.2.1, (r0.2.2.2.2.2.2.2.2.2.2.2.2.2.2.2.1, (r0.2.2.2.2.2.2.2.2.2.2.2.2.2.2.2.2.1, (r0.2.2.2.2.2.2.2.2.2.2.2.2.2.2.2.2.2.1, (r0.2.2.2.2.2.2.2.2.2.2.2.2.2.2.2.2.2.2.1, (r0.2.2.2.2.2.2.2.2.2.2.2.2.2.2.2.2.2.2.2.1, (r0.2.2.2.2.2.2.2.2.2.2.2.2.2.2.2.2.2.2.2.2.1, (r0.2.2.2.2.2.2.2.2.2.2.2.2.2.2.2.2.2.2.2.2.2.1, (r0.2.2.2.2.2.2.2.2.2.2.2.2.2.2.2.2.2.2.2.2.2.2.1, (r0.2.2.2.2.2.2.2.2.2.2.2.2.2.2.2.2.2.2.2.2.2.2.2.1, ()))))))))))))))))))))))))))) (
 .ite (decide (a17 = 6)) (
 .grd (decide (List.length r0.2.2.2.2.2.2.2.2.2.2.2.2.2.2.2.2.2.2.2.2.2.2.2.fst = List.length r0.2.2.2.2.2.2.2.2.2.2.2.2.2.2.2.2.2.2.2.2.2.2.2.1)) (
 .opt ((wTalked_fn (a15, (a16, (a18, (a19, (r0.2.1, (r0.2.2.1, (r0.2.2.2.1, (r0.2.2.2.2.1, (r0.2.2.2.2.2.1, (r0.2.2.2.2.2.2.1, (r0.2.2.2.2.2.2.2.1, (r0.2.2.2.2.2.2.2.2.1, (r0.2.2.2.2.2.2.2.2.2.1, (r0.2.2.2.2.2.2.2.2.2.2.1, (r0.2.2.2.2.2.2.2.2.2.2.2.1, (r0.2.2.2.2.2.2.2.2.2.2.2.2.1, (r0.2.2.2.2.2.2.2.2.2.2.2.2.2.1, (r0.2.2.2.2.2.2.2.2.2.2.2.2.2.2.1, (r0.2.2.2.2.2.2.2.2.2.2.2.2.2.2.2.1, (r0.2.2.2.2.2.2.2.2.2.2.2.2.2.2.2.2.1, (r0.2.2.2.2.2.2.2.2.2.2.2.2.2.2.2.2.2.1, (r0.2.2.2.2.2.2.2.2.2.2.2.2.2.2.2.2.2.2.1, (r0.2.2.2.2.2.2.2.2.2.2.2.2.2.2.2.2.2.2.2.1, (r0.2.2.2.2.2.2.2.2.2.2.2.2.2.2.2.2.2.2.2.2.1, (r0.2.2.2.2.2.2.2.2.2.2.2.2.2.2.2.2.2.2.2.2.2.1, (r0.2.2.2.2.2.2.2.2.2.2.2.2.2.2.2.2.2.2.2.2.2.2.1, (r0.2.2.2.2.2.2.2.2.2.2.2.2.2.2.2.2.2.2.2.2.2.2.2.1, ()))))))))))))))))))))))))))))) (fun r2 =>
 .ite (!r2.1) (
 .grd (decide (List.length r2.2.2.2.2.2.2.2.2.2.2.2.2.2.2.2.2.2.2.2.2.2.2.2.fst = List.length r2.2.2.2.2.2.2.2.2.2.2.2.2.2.2.2.2.2.2.2.2.2.2.2.1)) (
 .ret ([], (4, (r2.2.1, (r2.2.2.1, (r2.2.2.2.1, (r2.2.2.2.2.1, (r2.2.2.2.2.2.1, (r2.2.2.2.2.2.2.1, (r2.2.2.2.2.2.2.2.1, (r2.2.2.2.2.2.2.2.2.1, (r2.2.2.2.2.2.2.2.2.2.1, (r2.2.2.2.2.2.2.2.2.2.2.1, (r2.2.2.2.2.2.2.2.2.2.2.2.1, (r2.2.2.2.2.2.2.2.2.2.2.2.2.1, (r2.2.2.2.2.2.2.2.2.2.2.2.2.2.1, (r2.2.2.2.2.2.2.2.2.2.2.2.2.2.2.1, (r2.2.2.2.2.2.2.2.2.2.2.2.2.2.2.2.1, (r2.2.2.2.2.2.2.2.2.2.2.2.2.2.2.2.2.1, (r2.2.2.2.2.2.2.2.2.2.2.2.2.2.2.2.2.2.1, (r2.2.2.2.2.2.2.2.2.2.2.2.2.2.2.2.2.2.2.1, (r2.2.2.2.2.2.2.2.2.2.2.2.2.2.2.2.2.2.2.2.1, (r2.2.2.2.2.2.2.2.2.2.2.2.2.2.2.2.2.2.2.2.2.1, (r2.2.2.2.2.2.2.2.2.2.2.2.2.2.2.2.2.2.2.2.2.2.1, (r2.2.2.2.2.2.2.2.2.2.2.2.2.2.2.2.2.2.2.2.2.2.2.1, (r2.2.2.2.2.2.2.2.2.2.2.2.2.2.2.2.2.2.2.2.2.2.2.2.1, ()))))))))))))))))))))))))))) (
 .opt ((natOut_fn (r2.2.2.2.2.2.2.2.2.2.2.1, (r2.2.2.2.2.2.2.2.2.2.2.2.1, (r2.2.2.2.2.2.2.2.2.2.2.2.2.1, (r2.2.2.2.2.2.2.2.2.2.2.2.2.2.1, (r2.2.2.2.2.2.2.2.2.2.2.2.2.2.2.1, (r2.2.2.2.2.2.2.2.2.2.2.2.2.2.2.2.1, (a17, (a15, (a18, (r2.2.2.2.2.2.2.2.2.2.2.2.2.2.2.2.2.2.2.2.2.2.2.1, ())))))))))))) (fun r3 =>
 .ite (!decide (r3.2.2.2.2.2.2.2.1 = 0)) (
 .grd (decide (List.length r2.2.2.2.2.2.2.2.2.2.2.2.2.2.2.2.2.2.2.2.2.2.2.2.fst = List.length r2.2.2.2.2.2.2.2.2.2.2.2.2.2.2.2.2.2.2.2.2.2.2.2.1)) (
 .ret ([], (5, (r2.2.1, (r2.2.2.1, (r2.2.2.2.1, (r2.2.2.2.2.1, (r2.2.2.2.2.2.1, (r2.2.2.2.2.2.2.1, (r2.2.2.2.2.2.2.2.1, (r2.2.2.2.2.2.2.2.2.1, (r2.2.2.2.2.2.2.2.2.2.1, (r2.2.2.2.2.2.2.2.2.2.2.1, (r2.2.2.2.2.2.2.2.2.2.2.2.1, (r2.2.2.2.2.2.2.2.2.2.2.2.2.1, (r2.2.2.2.2.2.2.2.2.2.2.2.2.2.1, (r2.2.2.2.2.2.2.2.2.2.2.2.2.2.2.1, (r2.2.2.2.2.2.2.2.2.2.2.2.2.2.2.2.1, (r2.2.2.2.2.2.2.2.2.2.2.2.2.2.2.2.2.1, (r2.2.2.2.2.2.2.2.2.2.2.2.2.2.2.2.2.2.1, (r2.2.2.2.2.2.2.2.2.2.2.2.2.2.2.2.2.2.2.1, (r2.2.2.2.2.2.2.2.2.2.2.2.2.2.2.2.2.2.2.2.1, (r2.2.2.2.2.2.2.2.2.2.2.2.2.2.2.2.2.2.2.2.2.1, (r2.2.2.2.2.2.2.2.2.2.2.2.2.2.2.2.2.2.2.2.2.2.1, (r2.2.2.2.2.2.2.2.2.2.2.2.2.2.2.2.2.2.2.2.2.2.2.1, (r2.2.2.2.2.2.2.2.2.2.2.2.2.2.2.2.2.2.2.2.2.2.2.2.1, ()))))))))))))))))))))))))))) (
 .opt ((swFrom_fn (r2.2.2.2.2.2.2.2.2.2.2.2.2.2.2.2.2.2.2.2.2.2.1, (r2.2.1, (r3.2.2.2.2.2.2.1, ()))))) (fun r4 =>
 .grd (decide (List.length r2.2.2.2.2.2.2.2.2.2.2.2.2.2.2.2.2.2.2.2.2.2.2.2.fst = List.length r2.2.2.2.2.2.2.2.2.2.2.2.2.2.2.2.2.2.2.2.2.2.2.2.1)) (
 .ret (r4.1, (0, (r2.2.1, (r2.2.2.1, (r2.2.2.2.1, (r2.2.2.2.2.1, (r2.2.2.2.2.2.1, (r2.2.2.2.2.2.2.1, (r2.2.2.2.2.2.2.2.1, (r2.2.2.2.2.2.2.2.2.1, (r2.2.2.2.2.2.2.2.2.2.1, (r3.1, (r3.2.1, (r3.2.2.1, (r3.2.2.2.1, (r3.2.2.2.2.1, (r3.2.2.2.2.2.1, (r2.2.2.2.2.2.2.2.2.2.2.2.2.2.2.2.2.1, (r2.2.2.2.2.2.2.2.2.2.2.2.2.2.2.2.2.2.1, (r2.2.2.2.2.2.2.2.2.2.2.2.2.2.2.2.2.2.2.1, (r2.2.2.2.2.2.2.2.2.2.2.2.2.2.2.2.2.2.2.2.1, (r2.2.2.2.2.2.2.2.2.2.2.2.2.2.2.2.2.2.2.2.2.1, (r2.2.2.2.2.2.2.2.2.2.2.2.2.2.2.2.2.2.2.2.2.2.1, (r2.2.2.2.2.2.2.2.2.2.2.2.2.2.2.2.2.2.2.2.2.2.2.1, (r2.2.2.2.2.2.2.2.2.2.2.2.2.2.2.2.2.2.2.2.2.2.2.2.1, ()))))))))))))))))))))))))))))))))) (
 .opt ((natOut_fn (r0.2.2.2.2.2.2.2.2.2.2.1, (r0.2.2.2.2.2.2.2.2.2.2.2.1, (r0.2.2.2.2.2.2.2.2.2.2.2.2.1, (r0.2.2.2.2.2.2.2.2.2.2.2.2.2.1, (r0.2.2.2.2.2.2.2.2.2.2.2.2.2.2.1, (r0.2.2.2.2.2.2.2.2.2.2.2.2.2.2.2.1, (a17, (a15, (a18, (r0.2.2.2.2.2.2.2.2.2.2.2.2.2.2.2.2.2.2.2.2.2.2.1, ())))))))))))) (fun r2 =>
 .ite (!decide (r2.2.2.2.2.2.2.2.1 = 0)) (
 .grd (decide (List.length r0.2.2.2.2.2.2.2.2.2.2.2.2.2.2.2.2.2.2.2.2.2.2.2.fst = List.length r0.2.2.2.2.2.2.2.2.2.2.2.2.2.2.2.2.2.2.2.2.2.2.2.1)) (
 .ret ([], (5, (r0.2.1, (r0.2.2.1, (r0.2.2.2.1, (r0.2.2.2.2.1, (r0.2.2.2.2.2.1, (r0.2.2.2.2.2.2.1, (r0.2.2.2.2.2.2.2.1, (r0.2.2.2.2.2.2.2.2.1, (r0.2.2.2.2.2.2.2.2.2.1, (r0.2.2.2.2.2.2.2.2.2.2.1, (r0.2.2.2.2.2.2.2.2.2.2.2.1, (r0.2.2.2.2.2.2.2.2.2.2.2.2.1, (r0.2.2.2.2.2.2.2.2.2.2.2.2.2.1, (r0.2.2.2.2.2.2.2.2.2.2.2.2.2.2.1, (r0.2.2.2.2.2.2.2.2.2.2.2.2.2.2.2.1, (r0.2.2.2.2.2.2.2.2.2.2.2.2.2.2.2.2.1, (r0.2.2.2.2.2.2.2.2.2.2.2.2.2.2.2.2.2.1, (r0.2.2.2.2.2.2.2.2.2.2.2.2.2.2.2.2.2.2.1, (r0.2.2.2.2.2.2.2.2.2.2.2.2.2.2.2.2.2.2.2.1, (r0.2.2.2.2.2.2.2.2.2.2.2.2.2.2.2.2.2.2.2.2.1, (r0.2.2.2.2.2.2.2.2.2.2.2.2.2.2.2.2.2.2.2.2.2.1, (r0.2.2.2.2.2.2.2.2.2.2.2.2.2.2.2.2.2.2.2.2.2.2.1, (r0.2.2.2.2.2.2.2.2.2.2.2.2.2.2.2.2.2.2.2.2.2.2.2.1, ()))))))))))))))))))))))))))) (
 .opt ((swFrom_fn (r0.2.2.2.2.2.2.2.2.2.2.2.2.2.2.2.2.2.2.2.2.2.1, (r0.2.1, (r2.2.2.2.2.2.2.1, ()))))) (fun r3 =>
 .grd (decide (List.length r0.2.2.2.2.2.2.2.2.2.2.2.2.2.2.2.2.2.2.2.2.2.2.2.fst = List.length r0.2.2.2.2.2.2.2.2.2.2.2.2.2.2.2.2.2.2.2.2.2.2.2.1)) (
 .ret (r3.1, (0, (r0.2.1, (r0.2.2.1, (r0.2.2.2.1, (r0.2.2.2.2.1, (r0.2.2.2.2.2.1, (r0.2.2.2.2.2.2.1, (r0.2.2.2.2.2.2.2.1, (r0.2.2.2.2.2.2.2.2.1, (r0.2.2.2.2.2.2.2.2.2.1, (r2.1, (r2.2.1, (r2.2.2.1, (r2.2.2.2.1, (r2.2.2.2.2.1, (r2.2.2.2.2.2.1, (r0.2.2.2.2.2.2.2.2.2.2.2.2.2.2.2.2.1, (r0.2.2.2.2.2.2.2.2.2.2.2.2.2.2.2.2.2.1, (r0.2.2.2.2.2.2.2.2.2.2.2.2.2.2.2.2.2.2.1, (r0.2.2.2.2.2.2.2.2.2.2.2.2.2.2.2.2.2.2.2.1, (r0.2.2.2.2.2.2.2.2.2.2.2.2.2.2.2.2.2.2.2.2.1, (r0.2.2.2.2.2.2.2.2.2.2.2.2.2.2.2.2.2.2.2.2.2.1, (r0.2.2.2.2.2.2.2.2.2.2.2.2.2.2.2.2.2.2.2.2.2.2.1, (r0.2.2.2.2.2.2.2.2.2.2.2.2.2.2.2.2.2.2.2.2.2.2.2.1, ()))))))))))))))))))))))))))))))))) (
 .ite (decide (a17 = 6)) (
 .grd (decide (List.length r0.2.2.2.2.2.2.2.2.2.2.2.2.2.2.2.2.2.2.2.2.2.2.2.fst = List.length r0.2.2.2.2.2.2.2.2.2.2.2.2.2.2.2.2.2.2.2.2.2.2.2.1)) (
 .opt ((wTalked_fn (a15, (a16, (a18, (a19, (r0.2.1, (r0.2.2.1, (r0.2.2.2.1, (r0.2.2.2.2.1, (r0.2.2.2.2.2.1, (r0.2.2.2.2.2.2.1, (r0.2.2.2.2.2.2.2.1, (r0.2.2.2.2.2.2.2.2.1, (r0.2.2.2.2.2.2.2.2.2.1, (r0.2.2.2.2.2.2.2.2.2.2.1, (r0.2.2.2.2.2.2.2.2.2.2.2.1, (r0.2.2.2.2.2.2.2.2.2.2.2.2.1, (r0.2.2.2.2.2.2.2.2.2.2.2.2.2.1, (r0.2.2.2.2.2.2.2.2.2.2.2.2.2.2.1, (r0.2.2.2.2.2.2.2.2.2.2.2.2.2.2.2.1, (r0.2.2.2.2.2.2.2.2.2.2.2.2.2.2.2.2.1, (r0.2.2.2.2.2.2.2.2.2.2.2.2.2.2.2.2.2.1, (r0.2.2.2.2.2.2.2.2.2.2.2.2.2.2.2.2.2.2.1, (r0.2.2.2.2.2.2.2.2.2.2.2.2.2.2.2.2.2.2.2.1, (r0.2.2.2.2.2.2.2.2.2.2.2.2.2.2.2.2.2.2.2.2.1, (r0.2.2.2.2.2.2.2.2.2.2.2.2.2.2.2.2.2.2.2.2.2.1, (r0.2.2.2.2.2.2.2.2.2.2.2.2.2.2.2.2.2.2.2.2.2.2.1, (r0.2.2.2.2.2.2.2.2.2.2.2.2.2.2.2.2.2.2.2.2.2.2.2.1, ()))))))))))))))))))))))))))))) (fun r1 =>
 .ite (!r1.1) (
 .grd (decide (List.length r1.2.2.2.2.2.2.2.2.2.2.2.2.2.2.2.2.2.2.2.2.2.2.2.fst = List.length r1.2.2.2.2.2.2.2.2.2.2.2.2.2.2.2.2.2.2.2.2.2.2.2.1)) (
 .ret ([], (4, (r1.2.1, (r1.2.2.1, (r1.2.2.2.1, (r1.2.2.2.2.1, (r1.2.2.2.2.2.1, (r1.2.2.2.2.2.2.1, (r1.2.2.2.2.2.2.2.1, (r1.2.2.2.2.2.2.2.2.1, (r1.2.2.2.2.2.2.2.2.2.1, (r1.2.2.2.2.2.2.2.2.2.2.1, (r1.2.2.2.2.2.2.2.2.2.2.2.1, (r1.2.2.2.2.2.2.2.2.2.2.2.2.1, (r1.2.2.2.2.2.2.2.2.2.2.2.2.2.1, (r1.2.2.2.2.2.2.2.2.2.2.2.2.2.2.1, (r1.2.2.2.2.2.2.2.2.2.2.2.2.2.2.2.1, (r1.2.2.2.2.2.2.2.2.2.2.2.2.2.2.2.2.1, (r1.2.2.2.2.2.2.2.2.2.2.2.2.2.2.2.2.2.1, (r1.2.2.2.2.2.2.2.2.2.2.2.2.2.2.2.2.2.2.1, (r1.2.2.2.2.2.2.2.2.2.2.2.2.2.2.2.2.2.2.2.1, (r1.2.2.2.2.2.2.2.2.2.2.2.2.2.2.2.2.2.2.2.2.1, (r1.2.2.2.2.2.2.2.2.2.2.2.2.2.2.2.2.2.2.2.2.2.1, (r1.2.2.2.2.2.2.2.2.2.2.2.2.2.2.2.2.2.2.2.2.2.2.1, (r1.2.2.2.2.2.2.2.2.2.2.2.2.2.2.2.2.2.2.2.2.2.2.2.1, ()))))))))))))))))))))))))))) (
 .opt ((natOut_fn (r1.2.2.2.2.2.2.2.2.2.2.1, (r1.2.2.2.2.2.2.2.2.2.2.2.1, (r1.2.2.2.2.2.2.2.2.2.2.2.2.1, (r1.2.2.2.2.2.2.2.2.2.2.2.2.2.1, (r1.2.2.2.2.2.2.2.2.2.2.2.2.2.2.1, (r1.2.2.2.2.2.2.2.2.2.2.2.2.2.2.2.1, (a17, (a15, (a18, (r1.2.2.2.2.2.2.2.2.2.2.2.2.2.2.2.2.2.2.2.2.2.2.1, ())))))))))))) (fun r2 =>
 .ite (!decide (r2.2.2.2.2.2.2.2.1 = 0)) (
 .grd (decide (List.length r1.2.2.2.2.2.2.2.2.2.2.2.2.2.2.2.2.2.2.2.2.2.2.2.fst = List.length r1.2.2.2.2.2.2.2.2.2.2.2.2.2.2.2.2.2.2.2.2.2.2.2.1)) (
 .ret ([], (5, (r1.2.1, (r1.2.2.1, (r1.2.2.2.1, (r1.2.2.2.2.1, (r1.2.2.2.2.2.1, (r1.2.2.2.2.2.2.1, (r1.2.2.2.2.2.2.2.1, (r1.2.2.2.2.2.2.2.2.1, (r1.2.2.2.2.2.2.2.2.2.1, (r1.2.2.2.2.2.2.2.2.2.2.1, (r1.2.2.2.2.2.2.2.2.2.2.2.1, (r1.2.2.2.2.2.2.2.2.2.2.2.2.1, (r1.2.2.2.2.2.2.2.2.2.2.2.2.2.1, (r1.2.2.2.2.2.2.2.2.2.2.2.2.2.2.1, (r1.2.2.2.2.2.2.2.2.2.2.2.2.2.2.2.1, (r1.2.2.2.2.2.2.2.2.2.2.2.2.2.2.2.2.1, (r1.2.2.2.2.2.2.2.2.2.2.2.2.2.2.2.2.2.1, (r1.2.2.2.2.2.2.2.2.2.2.2.2.2.2.2.2.2.2.1, (r1.2.2.2.2.2.2.2.2.2.2.2.2.2.2.2.2.2.2.2.1, (r1.2.2.2.2.2.2.2.2.2.2.2.2.2.2.2.2.2.2.2.2.1, (r1.2.2.2.2.2.2.2.2.2.2.2.2.2.2.2.2.2.2.2.2.2.1, (r1.2.2.2.2.2.2.2.2.2.2.2.2.2.2.2.2.2.2.2.2.2.2.1, (r1.2.2.2.2.2.2.2.2.2.2.2.2.2.2.2.2.2.2.2.2.2.2.2.1, ()))))))))))))))))))))))))))) (
 .opt ((swFrom_fn (r1.2.2.2.2.2.2.2.2.2.2.2.2.2.2.2.2.2.2.2.2.2.1, (r1.2.1, (r2.2.2.2.2.2.2.1, ()))))) (fun r3 =>
 .grd (decide (List.length r1.2.2.2.2.2.2.2.2.2.2.2.2.2.2.2.2.2.2.2.2.2.2.2.fst = List.length r1.2.2.2.2.2.2.2.2.2.2.2.2.2.2.2.2.2.2.2.2.2.2.2.1)) (
 .ret (r3.1, (0, (r1.2.1, (r1.2.2.1, (r1.2.2.2.1, (r1.2.2.2.2.1, (r1.2.2.2.2.2.1, (r1.2.2.2.2.2.2.1, (r1.2.2.2.2.2.2.2.1, (r1.2.2.2.2.2.2.2.2.1, (r1.2.2.2.2.2.2.2.2.2.1, (r2.1, (r2.2.1, (r2.2.2.1, (r2.2.2.2.1, (r2.2.2.2.2.1, (r2.2.2.2.2.2.1, (r1.2.2.2.2.2.2.2.2.2.2.2.2.2.2.2.2.1, (r1.2.2.2.2.2.2.2.2.2.2.2.2.2.2.2.2.2.1, (r1.2.2.2.2.2.2.2.2.2.2.2.2.2.2.2.2.2.2.1, (r1.2.2.2.2.2.2.2.2.2.2.2.2.2.2.2.2.2.2.2.1, (r1.2.2.2.2.2.2.2.2.2.2.2.2.2.2.2.2.2.2.2.2.1, (r1.2.2.2.2.2.2.2.2.2.2.2.2.2.2.2.2.2.2.2.2.2.1, (r1.2.2.2.2.2.2.2.2.2.2.2.2.2.2.2.2.2.2.2.2.2.2.1, (r1.2.2.2.2.2.2.2.2.2.2.2.2.2.2.2.2.2.2.2.2.2.2.2.1, ()))))))))))))))))))))))))))))))))) (
 .opt ((natOut_fn (r0.2.2.2.2.2.2.2.2.2.2.1, (r0.2.2.2.2.2.2.2.2.2.2.2.1, (r0.2.2.2.2.2.2.2.2.2.2.2.2.1, (r0.2.2.2.2.2.2.2.2.2.2.2.2.2.1, (r0.2.2.2.2.2.2.2.2.2.2.2.2.2.2.1, (r0.2.2.2.2.2.2.2.2.2.2.2.2.2.2.2.1, (a17, (a15, (a18, (r0.2.2.2.2.2.2.2.2.2.2.2.2.2.2.2.2.2.2.2.2.2.2.1, ())))))))))))) (fun r1 =>
 .ite (!decide (r1.2.2.2.2.2.2.2.1 = 0)) (
 .grd (decide (List.length r0.2.2.2.2.2.2.2.2.2.2.2.2.2.2.2.2.2.2.2.2.2.2.2.fst = List.length r0.2.2.2.2.2.2.2.2.2.2.2.2.2.2.2.2.2.2.2.2.2.2.2.1)) (
 .ret ([], (5, (r0.2.1, (r0.2.2.1, (r0.2.2.2.1, (r0.2.2.2.2.1, (r0.2.2.2.2.2.1, (r0.2.2.2.2.2.2.1, (r0.2.2.2.2.2.2.2.1, (r0.2.2.2.2.2.2.2.2.1, (r0.2.2.2.2.2.2.2.2.2.1, (r0.2.2.2.2.2.2.2.2.2.2.1, (r0.2.2.2.2.2.2.2.2.2.2.2.1, (r0.2.2.2.2.2.2.2.2.2.2.2.2.1, (r0.2.2.2.2.2.2.2.2.2.2.2.2.2.1, (r0.2.2.2.2.2.2.2.2.2.2.2.2.2.2.1, (r0.2.2.2.2.2.2.2.2.2.2.2.2.2.2.2.1, (r0.2.2.2.2.2.2.2.2.2.2.2.2.2.2.2.2.1, (r0.2.2.2.2.2.2.2.2.2.2.2.2.2.2.2.2.2.1, (r0.2.2.2.2.2.2.2.2.2.2.2.2.2.2.2.2.2.2.1, (r0.2.2.2.2.2.2.2.2.2.2.2.2.2.2.2.2.2.2.2.1, (r0.2.2.2.2.2.2.2.2.2.2.2.2.2.2.2.2.2.2.2.2.1, (r0.2.2.2.2.2.2.2.2.2.2.2.2.2.2.2.2.2.2.2.2.2.1, (r0.2.2.2.2.2.2.2.2.2.2.2.2.2.2.2.2.2.2.2.2.2.2.1, (r0.2.2.2.2.2.2.2.2.2.2.2.2.2.2.2.2.2.2.2.2.2.2.2.1, ()))))))))))))))))))))))))))) (
 .opt ((swFrom_fn (r0.2.2.2.2.2.2.2.2.2.2.2.2.2.2.2.2.2.2.2.2.2.1, (r0.2.1, (r1.2.2.2.2.2.2.1, ()))))) (fun r2 =>
 .grd (decide (List.length r0.2.2.2.2.2.2.2.2.2.2.2.2.2.2.2.2.2.2.2.2.2.2.2.fst = List.length r0.2.2.2.2.2.2.2.2.2.2.2.2.2.2.2.2.2.2.2.2.2.2.2.1)) (
 .ret (r2.1, (0, (r0.2.1, (r0.2.2.1, (r0.2.2.2.1, (r0.2.2.2.2.1, (r0.2.2.2.2.2.1, (r0.2.2.2.2.2.2.1, (r0.2.2.2.2.2.2.2.1, (r0.2.2.2.2.2.2.2.2.1, (r0.2.2.2.2.2.2.2.2.2.1, (r1.1, (r1.2.1, (r1.2.2.1, (r1.2.2.2.1, (r1.2.2.2.2.1, (r1.2.2.2.2.2.1, (r0.2.2.2.2.2.2.2.2.2.2.2.2.2.2.2.2.1, (r0.2.2.2.2.2.2.2.2.2.2.2.2.2.2.2.2.2.1, (r0.2.2.2.2.2.2.2.2.2.2.2.2.2.2.2.2.2.2.1, (r0.2.2.2.2.2.2.2.2.2.2.2.2.2.2.2.2.2.2.2.1, (r0.2.2.2.2.2.2.2.2.2.2.2.2.2.2.2.2.2.2.2.2.1, (r0.2.2.2.2.2.2.2.2.2.2.2.2.2.2.2.2.2.2.2.2.2.1, (r0.2.2.2.2.2.2.2.2.2.2.2.2.2.2.2.2.2.2.2.2.2.2.1, (r0.2.2.2.2.2.2.2.2.2.2.2.2.2.2.2.2.2.2.2.2.2.2.2.1, ()))))))))))))))))))))))))))))))))))
noncomputable def gm59 : List (PF Go.Proofs.Tryz.prog) := gm58 ++ [GS.pf wTalked]
theorem wLeaves_eq (x : ty18_) : gsTr Tryz.prog cod gm59 [] 30 89 wLeaves_ap wLeaves_rp x = wLeaves_tree x := by kernel_rfl
def wLeaves_fn (x : ty18_) : Option ty21_ := (wLeaves_tree x).eval
def wLeaves : GS Tryz.prog := ⟨89, [1], wLeaves_ap, wLeaves_rp, wLeaves_fn, fun x r h ys m g he hg => gs_sound (cod := cod) (Γ := gm59) (Λs := []) (n := 30) ((congrArg Tr.eval (wLeaves_eq x)).trans h) he hg⟩
def wEnters_ap : SP := ⟨68, [(0, .v (.one (.ptr 1000000 0)))], [(1000000, .cells [.i .u32, .i .i64, .i .i64, .i .i64, .i .i64, .i .i64, .st 10 false, .b, .own 1000100, .st 16 false, .i .i64, .i .i64, .i .u64, .i .i64, .i .u64, .st 17 false, .i .u32, .i .u32, .i .i64, .i .i64, .i .i64, .s, .i .i64]), (1000100, .row 59 19 true true)]⟩
def wEnters_rp : SP := ⟨1, [(0, .tup [.one (.s), .one (.i .i64)])], [(1000000, .cells [.i .u32, .i .i64, .i .i64, .i .i64, .i .i64, .i .i64, .st 10 false, .b, .own 1000100, .st 16 false, .i .i64, .i .i64, .i .u64, .i .i64, .i .u64, .st 17 false, .i .u32, .i .u32, .i .i64, .i .i64, .i .i64, .s, .i .i64]), (1000100, .row 59 19 true true)]⟩
def wEnters_tree : ty18_ -> Tr ty21_ :=
 fun (a0, a1, a2, a3, a4, a5, a6, a7, a8, a9, a10, a11, a12, a13, a14, a15, a16, a17, a18, a19, a20, a21, a22, _) =>
 .opt ((natIn_fn (a9, (a10, (a11, (a12, (a13, (a14, (a17, (a19, (a21, ()))))))))))) (fun r0 =>
 .ite (!decide (r0.2.2.1 = 0)) (
 .grd (decide (a22.length = a22.length)) (
 .ret ([], (4, (a0, (a1, (a2, (a3, (a4, (a5, (a6, (a7, (a8, (a9, (a10, (a11, (a12, (a13, (a14, (a15, (a16, (a17, (a18, (a19, (a20, (a21, (a22, ()))))))))))))))))))))))))))) (
 .ite (decide (a17 = 6)) (
 .grd (decide (a22.length = a22.length)) (
 .opt ((wKnown_fn (a15, (r0.1, (a18, (r0.2.1, (a0, (a1, (a2, (a3, (a4, (a5, (a6, (a7, (a8, (a9, (a10, (a11, (a12, (a13, (a14, (a15, (a16, (a17, (a18, (a19, (a20, (a21, (a22, ()))))))))))))))))))))))))))))) (fun r1 =>
 .ite (!r1.1) (
 .grd (decide (List.length r1.2.2.2.2.2.2.2.2.2.2.2.2.2.2.2.2.2.2.2.2.2.2.2.fst = List.length r1.2.2.2.2.2.2.2.2.2.2.2.2.2.2.2.2.2.2.2.2.2.2.2.1)) (
 .ret ([], (4, (r1.2.1, (r1.2.2.1, (r1.2.2.2.1, (r1.2.2.2.2.1, (r1.2.2.2.2.2.1, (r1.2.2.2.2.2.2.1, (r1.2.2.2.2.2.2.2.1, (r1.2.2.2.2.2.2.2.2.1, (r1.2.2.2.2.2.2.2.2.2.1, (r1.2.2.2.2.2.2.2.2.2.2.1, (r1.2.2.2.2.2.2.2.2.2.2.2.1, (r1.2.2.2.2.2.2.2.2.2.2.2.2.1, (r1.2.2.2.2.2.2.2.2.2.2.2.2.2.1, (r1.2.2.2.2.2.2.2.2.2.2.2.2.2.2.1, (r1.2.2.2.2.2.2.2.2.2.2.2.2.2.2.2.1, (r1.2.2.2.2.2.2.2.2.2.2.2.2.2.2.2.2.1, (r1.2.2.2.2.2.2.2.2.2.2.2.2.2.2.2.2.2.1, (r1.2.2.2.2.2.2.2.2.2.2.2.2.2.2.2.2.2.2.1, (r1.2.2.2.2.2.2.2.2.2.2.2.2.2.2.2.2.2.2.2.1, (r1.2.2.2.2.2.2.2.2.2.2.2.2.2.2.2.2.2.2.2.2.1, (r1.2.2.2.2.2.2.2.2.2.2.2.2.2.2.2.2.2.2.2.2.2.1, (r1.2.2.2.2.2.2.2.2.2.2.2.2.2.2.2.2.2.2.2.2.2.2.1, (r1.2.2.2.2.2.2.2.2.2.2.2.2.2.2.2.2.2.2.2.2.2.2.2.1, ()))))))))))))))))))))))))))) (
 .grd (decide (List.length r1.2.2.2.2.2.2.2.2.2.2.2.2.2.2.2.2.2.2.2.2.2.2.2.fst = List.length r1.2.2.2.2.2.2.2.2.2.2.2.2.2.2.2.2.2.2.2.2.2.2.2.1)) (
 .opt ((wTalked_fn (a15, (r0.1, (a18, (r0.2.1, (r1.2.1, (r1.2.2.1, (r1.2.2.2.1, (r1.2.2.2.2.1, (r1.2.2.2.2.2.1, (r1.2.2.2.2.2.2.1, (r1.2.2.2.2.2.2.2.1, (r1.2.2.2.2.2.2.2.2.1, (r1.2.2.2.2.2.2.2.2.2.1, (r1.2.2.2.2.2.2.2.2.2.2.1, (r1.2.2.2.2.2.2.2.2.2.2.2.1, (r1.2.2.2.2.2.2.2.2.2.2.2.2.1, (r1.2.2.2.2.2.2.2.2.2.2.2.2.2.1, (r1.2.2.2.2.2.2.2.2.2.2.2.2.2.2.1, (r1.2.2.2.2.2.2.2.2.2.2.2.2.2.2.2.1, (r1.2.2.2.2.2.2.2.2.2.2.2.2.2.2.2.2.1, (r1.2.2.2.2.2.2.2.2.2.2.2.2.2.2.2.2.2.1, (r1.2.2.2.2.2.2.2.2.2.2.2.2.2.2.2.2.2.2.1, (r1.2.2.2.2.2.2.2.2.2.2.2.2.2.2.2.2.2.2.2.1, (r1.2.2.2.2.2.2.2.2.2.2.2.2.2.2.2.2.2.2.2.2.1, (r1.2.2.2.2.2.2.2.2.2.2.2.2.2.2.2.2.2.2.2.2.2.1, (r1.2.2.2.2.2.2.2.2.2.2.2.2.2.2.2.2.2.2.2.2.2.2.1, (r1.2.2.2.2.2.2.2.2.2.2.2.2.2.2.2.2.2.2.2.2.2.2.2.1, ()))))))))))))))))))))))))))))) (fun r2 =>
 .ite (!r2.1) (
 .grd (decide (List.length r2.2.2.2.2.2.2.2.2.2.2.2.2.2.2.2.2.2.2.2.2.2.2.2.fst = List.length r2.2.2.2.2.2.2.2.2.2.2.2.2.2.2.2.2.2.2.2.2.2.2.2.1)) (
 .ret ([], (4, (r2.2.1, (r2.2.2.1, (r2.2.2.2.1, (r2.2.2.2.2.1, (r2.2.2.2.2.2.1, (r2.2.2.2.2.2.2.1, (r2.2.2.2.2.2.2.2.1, (r2.2.2.2.2.2.2.2.2.1, (r2.2.2.2.2.2.2.2.2.2.1, (r2.2.2.2.2.2.2.2.2.2.2.1, (r2.2.2.2.2.2.2.2.2.2.2.2.1, (r2.2.2.2.2.2.2.2.2.2.2.2.2.1, (r2.2.2.2.2.2.2.2.2.2.2.2.2.2.1, (r2.2.2.2.2.2.2.2.2.2.2.2.2.2.2.1, (r2.2.2.2.2.2.2.2.2.2.2.2.2.2.2.2.1, (r2.2.2.2.2.2.2.2.2.2.2.2.2.2.2.2.2.1, (r2.2.2.2.2.2.2.2.2.2.2.2.2.2.2.2.2.2.1, (r2.2.2.2.2.2.2.2.2.2.2.2.2.2.2.2.2.2.2.1, (r2.2.2.2.2.2.2.2.2.2.2.2.2.2.2.2.2.2.2.2.1, (r2.2.2.2.2.2.2.2.2.2.2.2.2.2.2.2.2.2.2.2.2.1, (r2.2.2.2.2.2.2.2.2.2.2.2.2.2.2.2.2.2.2.2.2.2.1, (r2.2.2.2.2.2.2.2.2.2.2.2.2.2.2.2.2.2.2.2.2.2.2.1, (r2.2.2.2.2.2.2.2.2.2.2.2.2.2.2.2.2.2.2.2.2.2.2.2.1, ()))))))))))))))))))))))))))) (
 .opt ((swTo_fn (r2.2.2.2.2.2.2.2.2.2.2.2.2.2.2.2.2.2.2.2.2.2.1, (r0.1, (r0.2.1, ()))))) (fun r3 =>
 .grd (decide (List.length r2.2.2.2.2.2.2.2.2.2.2.2.2.2.2.2.2.2.2.2.2.2.2.2.fst = List.length r2.2.2.2.2.2.2.2.2.2.2.2.2.2.2.2.2.2.2.2.2.2.2.2.1)) (
 .ret (r3.1, (0, (r2.2.1, (r2.2.2.1, (r2.2.2.2.1, (r2.2.2.2.2.1, (r2.2.2.2.2.2.1, (r2.2.2.2.2.2.2.1, (r2.2.2.2.2.2.2.2.1, (r2.2.2.2.2.2.2.2.2.1, (r2.2.2.2.2.2.2.2.2.2.1, (r2.2.2.2.2.2.2.2.2.2.2.1, (r2.2.2.2.2.2.2.2.2.2.2.2.1, (r2.2.2.2.2.2.2.2.2.2.2.2.2.1, (r2.2.2.2.2.2.2.2.2.2.2.2.2.2.1, (r2.2.2.2.2.2.2.2.2.2.2.2.2.2.2.1, (r2.2.2.2.2.2.2.2.2.2.2.2.2.2.2.2.1, (r2.2.2.2.2.2.2.2.2.2.2.2.2.2.2.2.2.1, (r2.2.2.2.2.2.2.2.2.2.2.2.2.2.2.2.2.2.1, (r2.2.2.2.2.2.2.2.2.2.2.2.2.2.2.2.2.2.2.1, (r2.2.2.2.2.2.2.2.2.2.2.2.2.2.2.2.2.2.2.2.1, (r2.2.2.2.2.2.2.2.2.2.2.2.2.2.2.2.2.2.2.2.2.1, (r2.2.2.2.2.2.2.2.2.2.2.2.2.2.2.2.2.2.2.2.2.2.1, (r2.2.2.2.2.2.2.2.2.2.2.2.2.2.2.2.2.2.2.2.2.2.2.1, (r2.2.2.2.2.2.2.2.2.2.2.2.2.2.2.2.2.2.2.2.2.2.2.2.1, ())))))))))))))))))))))))))))))))))) (
 .opt ((swTo_fn (a20, (r0.1, (r0.2.1, ()))))) (fun r1 =>
 .grd (decide (a22.length = a22.length)) (
 .ret (r1.1, (0, (a0, (a1, (a2, (a3, (a4, (a5, (a6, (a7, (a8, (a9, (a10, (a11, (a12, (a13, (a14, (a15, (a16, (a17, (a18, (a19, (a20, (a21, (a22, ()))))))))))))))))))))))))))))))
noncomputable def gm60 : List (PF Go.Proofs.Tryz.prog) := gm59 ++ [GS.pf wLeaves]
theorem wEnters_eq (x : ty18_) : gsTr Tryz.prog cod gm60 [] 30 90 wEnters_ap wEnters_rp x = wEnters_tree x := by kernel_rfl
def wEnters_fn (x : ty18_) : Option ty21_ := (wEnters_tree x).eval
def wEnters : GS Tryz.prog := ⟨90, [1], wEnters_ap, wEnters_rp, wEnters_fn, fun x r h ys m g he hg => gs_sound (cod := cod) (Γ := gm60) (Λs := []) (n := 30) ((congrArg Tr.eval (wEnters_eq x)).trans h) he hg⟩
def wGoes_ap : SP := ⟨57, [(0, .v (.one (.ptr 1000000 0))), (1, .v (.one (.b))), (2, .v (.one (.s)))], [(1000000, .cells [.i .u32, .i .i64, .i .i64, .i .i64, .i .i64, .i .i64, .st 10 false, .b, .own 1000100, .st 16 false, .i .i64, .i .i64, .i .u64, .i .i64, .i .u64, .st 17 false, .i .u32, .i .u32, .i .i64, .i .i64, .i .i64, .s, .i .i64]), (1000100, .row 59 19 true true)]⟩
def wGoes_rp : SP := ⟨1, [(0, .tup [.one (.s), .one (.i .i64)])], [(1000000, .cells [.i .u32, .i .i64, .i .i64, .i .i64, .i .i64, .i .i64, .st 10 false, .b, .own 1000100, .st 16 false, .i .i64, .i .i64, .i .u64, .i .i64, .i .u64, .st 17 false, .i .u32, .i .u32, .i .i64, .i .i64, .i .i64, .s, .i .i64]), (1000100, .row 59 19 true true)]⟩
abbrev ty22_ : Type := (Bool × ((List UInt8) × (Int × (Int × (Int × (Int × (Int × (Int × ((List TRule) × (Bool × ((List TTalk) × (Int × (Int × (Int × (Int × (Int × ((List TMap) × (Int × (Int × (Int × (Int × (Int × ((List UInt8) × (Int × ((List TMeter) × Unit)))))))))))))))))))))))))
def wGoes_tree : ty22_ -> Tr ty21_ :=
 fun (a0, a1, a2, a3, a4, a5, a6, a7, a8, a9, a10, a11, a12, a13, a14, a15, a16, a17, a18, a19, a20, a21, a22, a23, a24, _) =>
 .opt ((swEnds_fn (a1, ()))) (fun r0 =>
 .ite (!decide (r0.2.2.2.2.2.1 = 0)) (
 .grd (decide (a24.length = a24.length)) (
 .ret ([], (1, (a2, (a3, (a4, (a5, (a6, (a7, (a8, (a9, (a10, (a11, (a12, (a13, (a14, (a15, (a16, (r0.1, (r0.2.1, (r0.2.2.1, (r0.2.2.2.1, (r0.2.2.2.2.1, (a22, (a23, (a24, ()))))))))))))))))))))))))))) (
 .ite (!a0) (
 .ite (!decide (r0.2.1 = a2)) (
 .grd (decide (a24.length = a24.length)) (
 .ret ([], (4, (a2, (a3, (a4, (a5, (a6, (a7, (a8, (a9, (a10, (a11, (a12, (a13, (a14, (a15, (a16, (r0.1, (r0.2.1, (r0.2.2.1, (r0.2.2.2.1, (r0.2.2.2.2.1, (a22, (a23, (a24, ()))))))))))))))))))))))))))) (
 .opt ((ipHop_fn (a1, ()))) (fun r1 =>
 .ite (!decide (r1.2.1 = 0)) (
 .grd (decide (a24.length = a24.length)) (
 .ret ([], (2, (a2, (a3, (a4, (a5, (a6, (a7, (a8, (a9, (a10, (a11, (a12, (a13, (a14, (a15, (a16, (r0.1, (r0.2.1, (r0.2.2.1, (r0.2.2.2.1, (r0.2.2.2.2.1, (r1.1, (a23, (a24, ()))))))))))))))))))))))))))) (
 .grd (decide (a24.length = a24.length)) (
 .opt ((wMeasured_fn (a2, (a3, (a4, (a5, (a6, (a7, (a8, (a9, (a10, (a11, (a12, (a13, (a14, (a15, (a16, (r0.1, (r0.2.1, (r0.2.2.1, (r0.2.2.2.1, (r0.2.2.2.2.1, (r1.1, (a23, (a24, ()))))))))))))))))))))))))) (fun r2 =>
 .ite (!r2.1) (
 .grd (decide (List.length r2.2.2.2.2.2.2.2.2.2.2.2.2.2.2.2.2.2.2.2.2.2.2.2.fst = List.length r2.2.2.2.2.2.2.2.2.2.2.2.2.2.2.2.2.2.2.2.2.2.2.2.1)) (
 .ret ([], (3, (r2.2.1, (r2.2.2.1, (r2.2.2.2.1, (r2.2.2.2.2.1, (r2.2.2.2.2.2.1, (r2.2.2.2.2.2.2.1, (r2.2.2.2.2.2.2.2.1, (r2.2.2.2.2.2.2.2.2.1, (r2.2.2.2.2.2.2.2.2.2.1, (r2.2.2.2.2.2.2.2.2.2.2.1, (r2.2.2.2.2.2.2.2.2.2.2.2.1, (r2.2.2.2.2.2.2.2.2.2.2.2.2.1, (r2.2.2.2.2.2.2.2.2.2.2.2.2.2.1, (r2.2.2.2.2.2.2.2.2.2.2.2.2.2.2.1, (r2.2.2.2.2.2.2.2.2.2.2.2.2.2.2.2.1, (r2.2.2.2.2.2.2.2.2.2.2.2.2.2.2.2.2.1, (r2.2.2.2.2.2.2.2.2.2.2.2.2.2.2.2.2.2.1, (r2.2.2.2.2.2.2.2.2.2.2.2.2.2.2.2.2.2.2.1, (r2.2.2.2.2.2.2.2.2.2.2.2.2.2.2.2.2.2.2.2.1, (r2.2.2.2.2.2.2.2.2.2.2.2.2.2.2.2.2.2.2.2.2.1, (r2.2.2.2.2.2.2.2.2.2.2.2.2.2.2.2.2.2.2.2.2.2.1, (r2.2.2.2.2.2.2.2.2.2.2.2.2.2.2.2.2.2.2.2.2.2.2.1, (r2.2.2.2.2.2.2.2.2.2.2.2.2.2.2.2.2.2.2.2.2.2.2.2.1, ()))))))))))))))))))))))))))) (
 .ite (a0) (
 .grd (decide (List.length r2.2.2.2.2.2.2.2.2.2.2.2.2.2.2.2.2.2.2.2.2.2.2.2.fst = List.length r2.2.2.2.2.2.2.2.2.2.2.2.2.2.2.2.2.2.2.2.2.2.2.2.1)) (
 .opt ((wLeaves_fn (r2.2.1, (r2.2.2.1, (r2.2.2.2.1, (r2.2.2.2.2.1, (r2.2.2.2.2.2.1, (r2.2.2.2.2.2.2.1, (r2.2.2.2.2.2.2.2.1, (r2.2.2.2.2.2.2.2.2.1, (r2.2.2.2.2.2.2.2.2.2.1, (r2.2.2.2.2.2.2.2.2.2.2.1, (r2.2.2.2.2.2.2.2.2.2.2.2.1, (r2.2.2.2.2.2.2.2.2.2.2.2.2.1, (r2.2.2.2.2.2.2.2.2.2.2.2.2.2.1, (r2.2.2.2.2.2.2.2.2.2.2.2.2.2.2.1, (r2.2.2.2.2.2.2.2.2.2.2.2.2.2.2.2.1, (r2.2.2.2.2.2.2.2.2.2.2.2.2.2.2.2.2.1, (r2.2.2.2.2.2.2.2.2.2.2.2.2.2.2.2.2.2.1, (r2.2.2.2.2.2.2.2.2.2.2.2.2.2.2.2.2.2.2.1, (r2.2.2.2.2.2.2.2.2.2.2.2.2.2.2.2.2.2.2.2.1, (r2.2.2.2.2.2.2.2.2.2.2.2.2.2.2.2.2.2.2.2.2.1, (r2.2.2.2.2.2.2.2.2.2.2.2.2.2.2.2.2.2.2.2.2.2.1, (r2.2.2.2.2.2.2.2.2.2.2.2.2.2.2.2.2.2.2.2.2.2.2.1, (r2.2.2.2.2.2.2.2.2.2.2.2.2.2.2.2.2.2.2.2.2.2.2.2.1, ()))))))))))))))))))))))))) (fun r3 =>
 .grd (decide (List.length r3.2.2.2.2.2.2.2.2.2.2.2.2.2.2.2.2.2.2.2.2.2.2.2.2.fst = List.length r3.2.2.2.2.2.2.2.2.2.2.2.2.2.2.2.2.2.2.2.2.2.2.2.2.1)) (
 .ret (r3.1, (r3.2.1, (r3.2.2.1, (r3.2.2.2.1, (r3.2.2.2.2.1, (r3.2.2.2.2.2.1, (r3.2.2.2.2.2.2.1, (r3.2.2.2.2.2.2.2.1, (r3.2.2.2.2.2.2.2.2.1, (r3.2.2.2.2.2.2.2.2.2.1, (r3.2.2.2.2.2.2.2.2.2.2.1, (r3.2.2.2.2.2.2.2.2.2.2.2.1, (r3.2.2.2.2.2.2.2.2.2.2.2.2.1, (r3.2.2.2.2.2.2.2.2.2.2.2.2.2.1, (r3.2.2.2.2.2.2.2.2.2.2.2.2.2.2.1, (r3.2.2.2.2.2.2.2.2.2.2.2.2.2.2.2.1, (r3.2.2.2.2.2.2.2.2.2.2.2.2.2.2.2.2.1, (r3.2.2.2.2.2.2.2.2.2.2.2.2.2.2.2.2.2.1, (r3.2.2.2.2.2.2.2.2.2.2.2.2.2.2.2.2.2.2.1, (r3.2.2.2.2.2.2.2.2.2.2.2.2.2.2.2.2.2.2.2.1, (r3.2.2.2.2.2.2.2.2.2.2.2.2.2.2.2.2.2.2.2.2.1, (r3.2.2.2.2.2.2.2.2.2.2.2.2.2.2.2.2.2.2.2.2.2.1, (r3.2.2.2.2.2.2.2.2.2.2.2.2.2.2.2.2.2.2.2.2.2.2.1, (r3.2.2.2.2.2.2.2.2.2.2.2.2.2.2.2.2.2.2.2.2.2.2.2.1, (r3.2.2.2.2.2.2.2.2.2.2.2.2.2.2.2.2.2.2.2.2.2.2.2.2.1, ()))))))))))))))))))))))))))))) (
 .grd (decide (List.length r2.2.2.2.2.2.2.2.2.2.2.2.2.2.2.2.2.2.2.2.2.2.2.2.fst = List.length r2.2.2.2.2.2.2.2.2.2.2.2.2.2.2.2.2.2.2.2.2.2.2.2.1)) (
 .opt ((wEnters_fn (r2.2.1, (r2.2.2.1, (r2.2.2.2.1, (r2.2.2.2.2.1, (r2.2.2.2.2.2.1, (r2.2.2.2.2.2.2.1, (r2.2.2.2.2.2.2.2.1, (r2.2.2.2.2.2.2.2.2.1, (r2.2.2.2.2.2.2.2.2.2.1, (r2.2.2.2.2.2.2.2.2.2.2.1, (r2.2.2.2.2.2.2.2.2.2.2.2.1, (r2.2.2.2.2.2.2.2.2.2.2.2.2.1, (r2.2.2.2.2.2.2.2.2.2.2.2.2.2.1, (r2.2.2.2.2.2.2.2.2.2.2.2.2.2.2.1, (r2.2.2.2.2.2.2.2.2.2.2.2.2.2.2.2.1, (r2.2.2.2.2.2.2.2.2.2.2.2.2.2.2.2.2.1, (r2.2.2.2.2.2.2.2.2.2.2.2.2.2.2.2.2.2.1, (r2.2.2.2.2.2.2.2.2.2.2.2.2.2.2.2.2.2.2.1, (r2.2.2.2.2.2.2.2.2.2.2.2.2.2.2.2.2.2.2.2.1, (r2.2.2.2.2.2.2.2.2.2.2.2.2.2.2.2.2.2.2.2.2.1, (r2.2.2.2.2.2.2.2.2.2.2.2.2.2.2.2.2.2.2.2.2.2.1, (r2.2.2.2.2.2.2.2.2.2.2.2.2.2.2.2.2.2.2.2.2.2.2.1, (r2.2.2.2.2.2.2.2.2.2.2.2.2.2.2.2.2.2.2.2.2.2.2.2.1, ()))))))))))))))))))))))))) (fun r3 =>
 .grd (decide (List.length r3.2.2.2.2.2.2.2.2.2.2.2.2.2.2.2.2.2.2.2.2.2.2.2.2.fst = List.length r3.2.2.2.2.2.2.2.2.2.2.2.2.2.2.2.2.2.2.2.2.2.2.2.2.1)) (
 .ret (r3.1, (r3.2.1, (r3.2.2.1, (r3.2.2.2.1, (r3.2.2.2.2.1, (r3.2.2.2.2.2.1, (r3.2.2.2.2.2.2.1, (r3.2.2.2.2.2.2.2.1, (r3.2.2.2.2.2.2.2.2.1, (r3.2.2.2.2.2.2.2.2.2.1, (r3.2.2.2.2.2.2.2.2.2.2.1, (r3.2.2.2.2.2.2.2.2.2.2.2.1, (r3.2.2.2.2.2.2.2.2.2.2.2.2.1, (r3.2.2.2.2.2.2.2.2.2.2.2.2.2.1, (r3.2.2.2.2.2.2.2.2.2.2.2.2.2.2.1, (r3.2.2.2.2.2.2.2.2.2.2.2.2.2.2.2.1, (r3.2.2.2.2.2.2.2.2.2.2.2.2.2.2.2.2.1, (r3.2.2.2.2.2.2.2.2.2.2.2.2.2.2.2.2.2.1, (r3.2.2.2.2.2.2.2.2.2.2.2.2.2.2.2.2.2.2.1, (r3.2.2.2.2.2.2.2.2.2.2.2.2.2.2.2.2.2.2.2.1, (r3.2.2.2.2.2.2.2.2.2.2.2.2.2.2.2.2.2.2.2.2.1, (r3.2.2.2.2.2.2.2.2.2.2.2.2.2.2.2.2.2.2.2.2.2.1, (r3.2.2.2.2.2.2.2.2.2.2.2.2.2.2.2.2.2.2.2.2.2.2.1, (r3.2.2.2.2.2.2.2.2.2.2.2.2.2.2.2.2.2.2.2.2.2.2.2.1, (r3.2.2.2.2.2.2.2.2.2.2.2.2.2.2.2.2.2.2.2.2.2.2.2.2.1, ())))))))))))))))))))))))))))))))))))) (
 .opt ((ipHop_fn (a1, ()))) (fun r1 =>
 .ite (!decide (r1.2.1 = 0)) (
 .grd (decide (a24.length = a24.length)) (
 .ret ([], (2, (a2, (a3, (a4, (a5, (a6, (a7, (a8, (a9, (a10, (a11, (a12, (a13, (a14, (a15, (a16, (r0.1, (r0.2.1, (r0.2.2.1, (r0.2.2.2.1, (r0.2.2.2.2.1, (r1.1, (a23, (a24, ()))))))))))))))))))))))))))) (
 .grd (decide (a24.length = a24.length)) (
 .opt ((wMeasured_fn (a2, (a3, (a4, (a5, (a6, (a7, (a8, (a9, (a10, (a11, (a12, (a13, (a14, (a15, (a16, (r0.1, (r0.2.1, (r0.2.2.1, (r0.2.2.2.1, (r0.2.2.2.2.1, (r1.1, (a23, (a24, ()))))))))))))))))))))))))) (fun r2 =>
 .ite (!r2.1) (
 .grd (decide (List.length r2.2.2.2.2.2.2.2.2.2.2.2.2.2.2.2.2.2.2.2.2.2.2.2.fst = List.length r2.2.2.2.2.2.2.2.2.2.2.2.2.2.2.2.2.2.2.2.2.2.2.2.1)) (
 .ret ([], (3, (r2.2.1, (r2.2.2.1, (r2.2.2.2.1, (r2.2.2.2.2.1, (r2.2.2.2.2.2.1, (r2.2.2.2.2.2.2.1, (r2.2.2.2.2.2.2.2.1, (r2.2.2.2.2.2.2.2.2.1, (r2.2.2.2.2.2.2.2.2.2.1, (r2.2.2.2.2.2.2.2.2.2.2.1, (r2.2.2.2.2.2.2.2.2.2.2.2.1, (r2.2.2.2.2.2.2.2.2.2.2.2.2.1, (r2.2.2.2.2.2.2.2.2.2.2.2.2.2.1, (r2.2.2.2.2.2.2.2.2.2.2.2.2.2.2.1, (r2.2.2.2.2.2.2.2.2.2.2.2.2.2.2.2.1, (r2.2.2.2.2.2.2.2.2.2.2.2.2.2.2.2.2.1, (r2.2.2.2.2.2.2.2.2.2.2.2.2.2.2.2.2.2.1, (r2.2.2.2.2.2.2.2.2.2.2.2.2.2.2.2.2.2.2.1, (r2.2.2.2.2.2.2.2.2.2.2.2.2.2.2.2.2.2.2.2.1, (r2.2.2.2.2.2.2.2.2.2.2.2.2.2.2.2.2.2.2.2.2.1, (r2.2.2.2.2.2.2.2.2.2.2.2.2.2.2.2.2.2.2.2.2.2.1, (r2.2.2.2.2.2.2.2.2.2.2.2.2.2.2.2.2.2.2.2.2.2.2.1, (r2.2.2.2.2.2.2.2.2.2.2.2.2.2.2.2.2.2.2.2.2.2.2.2.1, ()))))))))))))))))))))))))))) (
 .ite (a0) (
 .grd (decide (List.length r2.2.2.2.2.2.2.2.2.2.2.2.2.2.2.2.2.2.2.2.2.2.2.2.fst = List.length r2.2.2.2.2.2.2.2.2.2.2.2.2.2.2.2.2.2.2.2.2.2.2.2.1)) (
 .opt ((wLeaves_fn (r2.2.1, (r2.2.2.1, (r2.2.2.2.1, (r2.2.2.2.2.1, (r2.2.2.2.2.2.1, (r2.2.2.2.2.2.2.1, (r2.2.2.2.2.2.2.2.1, (r2.2.2.2.2.2.2.2.2.1, (r2.2.2.2.2.2.2.2.2.2.1, (r2.2.2.2.2.2.2.2.2.2.2.1, (r2.2.2.2.2.2.2.2.2.2.2.2.1, (r2.2.2.2.2.2.2.2.2.2.2.2.2.1, (r2.2.2.2.2.2.2.2.2.2.2.2.2.2.1, (r2.2.2.2.2.2.2.2.2.2.2.2.2.2.2.1, (r2.2.2.2.2.2.2.2.2.2.2.2.2.2.2.2.1, (r2.2.2.2.2.2.2.2.2.2.2.2.2.2.2.2.2.1, (r2.2.2.2.2.2.2.2.2.2.2.2.2.2.2.2.2.2.1, (r2.2.2.2.2.2.2.2.2.2.2.2.2.2.2.2.2.2.2.1, (r2.2.2.2.2.2.2.2.2.2.2.2.2.2.2.2.2.2.2.2.1, (r2.2.2.2.2.2.2.2.2.2.2.2.2.2.2.2.2.2.2.2.2.1, (r2.2.2.2.2.2.2.2.2.2.2.2.2.2.2.2.2.2.2.2.2.2.1, (r2.2.2.2.2.2.2.2.2.2.2.2.2.2.2.2.2.2.2.2.2.2.2.1, (r2.2.2.2.2.2.2.2.2.2.2.2.2.2.2.2.2.2.2.2.2.2.2.2.1, ()))))))))))))))))))))))))) (fun r3 =>
 .grd (decide (List.length r3.2.2.2.2.2.2.2.2.2.2.2.2.2.2.2.2.2.2.2.2.2.2.2.2.fst = List.length r3.2.2.2.2.2.2.2.2.2.2.2.2.2.2.2.2.2.2.2.2.2.2.2.2.1)) (
 .ret (r3.1, (r3.2.1, (r3.2.2.1, (r3.2.2.2.1, (r3.2.2.2.2.1, (r3.2.2.2.2.2.1, (r3.2.2.2.2.2.2.1, (r3.2.2.2.2.2.2.2.1, (r3.2.2.2.2.2.2.2.2.1, (r3.2.2.2.2.2.2.2.2.2.1, (r3.2.2.2.2.2.2.2.2.2.2.1, (r3.2.2.2.2.2.2.2.2.2.2.2.1, (r3.2.2.2.2.2.2.2.2.2.2.2.2.1, (r3.2.2.2.2.2.2.2.2.2.2.2.2.2.1, (r3.2.2.2.2.2.2.2.2.2.2.2.2.2.2.1, (r3.2.2.2.2.2.2.2.2.2.2.2.2.2.2.2.1, (r3.2.2.2.2.2.2.2.2.2.2.2.2.2.2.2.2.1, (r3.2.2.2.2.2.2.2.2.2.2.2.2.2.2.2.2.2.1, (r3.2.2.2.2.2.2.2.2.2.2.2.2.2.2.2.2.2.2.1, (r3.2.2.2.2.2.2.2.2.2.2.2.2.2.2.2.2.2.2.2.1, (r3.2.2.2.2.2.2.2.2.2.2.2.2.2.2.2.2.2.2.2.2.1, (r3.2.2.2.2.2.2.2.2.2.2.2.2.2.2.2.2.2.2.2.2.2.1, (r3.2.2.2.2.2.2.2.2.2.2.2.2.2.2.2.2.2.2.2.2.2.2.1, (r3.2.2.2.2.2.2.2.2.2.2.2.2.2.2.2.2.2.2.2.2.2.2.2.1, (r3.2.2.2.2.2.2.2.2.2.2.2.2.2.2.2.2.2.2.2.2.2.2.2.2.1, ()))))))))))))))))))))))))))))) (
 .grd (decide (List.length r2.2.2.2.2.2.2.2.2.2.2.2.2.2.2.2.2.2.2.2.2.2.2.2.fst = List.length r2.2.2.2.2.2.2.2.2.2.2.2.2.2.2.2.2.2.2.2.2.2.2.2.1)) (
 .opt ((wEnters_fn (r2.2.1, (r2.2.2.1, (r2.2.2.2.1, (r2.2.2.2.2.1, (r2.2.2.2.2.2.1, (r2.2.2.2.2.2.2.1, (r2.2.2.2.2.2.2.2.1, (r2.2.2.2.2.2.2.2.2.1, (r2.2.2.2.2.2.2.2.2.2.1, (r2.2.2.2.2.2.2.2.2.2.2.1, (r2.2.2.2.2.2.2.2.2.2.2.2.1, (r2.2.2.2.2.2.2.2.2.2.2.2.2.1, (r2.2.2.2.2.2.2.2.2.2.2.2.2.2.1, (r2.2.2.2.2.2.2.2.2.2.2.2.2.2.2.1, (r2.2.2.2.2.2.2.2.2.2.2.2.2.2.2.2.1, (r2.2.2.2.2.2.2.2.2.2.2.2.2.2.2.2.2.1, (r2.2.2.2.2.2.2.2.2.2.2.2.2.2.2.2.2.2.1, (r2.2.2.2.2.2.2.2.2.2.2.2.2.2.2.2.2.2.2.1, (r2.2.2.2.2.2.2.2.2.2.2.2.2.2.2.2.2.2.2.2.1, (r2.2.2.2.2.2.2.2.2.2.2.2.2.2.2.2.2.2.2.2.2.1, (r2.2.2.2.2.2.2.2.2.2.2.2.2.2.2.2.2.2.2.2.2.2.1, (r2.2.2.2.2.2.2.2.2.2.2.2.2.2.2.2.2.2.2.2.2.2.2.1, (r2.2.2.2.2.2.2.2.2.2.2.2.2.2.2.2.2.2.2.2.2.2.2.2.1, ()))))))))))))))))))))))))) (fun r3 =>
 .grd (decide (List.length r3.2.2.2.2.2.2.2.2.2.2.2.2.2.2.2.2.2.2.2.2.2.2.2.2.fst = List.length r3.2.2.2.2.2.2.2.2.2.2.2.2.2.2.2.2.2.2.2.2.2.2.2.2.1)) (
 .ret (r3.1, (r3.2.1, (r3.2.2.1, (r3.2.2.2.1, (r3.2.2.2.2.1, (r3.2.2.2.2.2.1, (r3.2.2.2.2.2.2.1, (r3.2.2.2.2.2.2.2.1, (r3.2.2.2.2.2.2.2.2.1, (r3.2.2.2.2.2.2.2.2.2.1, (r3.2.2.2.2.2.2.2.2.2.2.1, (r3.2.2.2.2.2.2.2.2.2.2.2.1, (r3.2.2.2.2.2.2.2.2.2.2.2.2.1, (r3.2.2.2.2.2.2.2.2.2.2.2.2.2.1, (r3.2.2.2.2.2.2.2.2.2.2.2.2.2.2.1, (r3.2.2.2.2.2.2.2.2.2.2.2.2.2.2.2.1, (r3.2.2.2.2.2.2.2.2.2.2.2.2.2.2.2.2.1, (r3.2.2.2.2.2.2.2.2.2.2.2.2.2.2.2.2.2.1, (r3.2.2.2.2.2.2.2.2.2.2.2.2.2.2.2.2.2.2.1, (r3.2.2.2.2.2.2.2.2.2.2.2.2.2.2.2.2.2.2.2.1, (r3.2.2.2.2.2.2.2.2.2.2.2.2.2.2.2.2.2.2.2.2.1, (r3.2.2.2.2.2.2.2.2.2.2.2.2.2.2.2.2.2.2.2.2.2.1, (r3.2.2.2.2.2.2.2.2.2.2.2.2.2.2.2.2.2.2.2.2.2.2.1, (r3.2.2.2.2.2.2.2.2.2.2.2.2.2.2.2.2.2.2.2.2.2.2.2.1, (r3.2.2.2.2.2.2.2.2.2.2.2.2.2.2.2.2.2.2.2.2.2.2.2.2.1, ())))))))))))))))))))))))))))))))))))))
noncomputable def gm61 : List (PF Go.Proofs.Tryz.prog) := gm60 ++ [GS.pf wEnters]
theorem wGoes_eq (x : ty22_) : gsTr Tryz.prog cod gm61 [] 30 42 wGoes_ap wGoes_rp x = wGoes_tree x := by kernel_rfl
def wGoes_fn (x : ty22_) : Option ty21_ := (wGoes_tree x).eval
def wGoes : GS Tryz.prog := ⟨42, [1, 0, 0], wGoes_ap, wGoes_rp, wGoes_fn, fun x r h ys m g he hg => gs_sound (cod := cod) (Γ := gm61) (Λs := []) (n := 30) ((congrArg Tr.eval (wGoes_eq x)).trans h) he hg⟩
def hsHear_ap : List VP1 := [.agg [.i .u32, .i .i64, .i .i64, .i .i64, .i .i64, .i .i64, .st 10 false, .b, .st 19 false, .st 16 false, .i .i64, .i .i64, .i .u64, .i .i64, .i .u64, .st 17 false], .one (.b), .one (.s), .one (.i .i64)]
def hsHear_rp : SP := ⟨1, [(0, .tup [.agg [.i .u32, .i .i64, .i .i64, .i .i64, .i .i64, .i .i64, .st 10 false, .b, .st 19 false, .st 16 false, .i .i64, .i .i64, .i .u64, .i .i64, .i .u64, .st 17 false], .one (.s), .one (.i .i64), .one (.i .i64)])], []⟩
abbrev ty23_ : Type := (Int × (Int × (Int × (Int × (Int × (Int × ((List TRule) × (Bool × ((List TMeter) × ((List TTalk) × (Int × (Int × (Int × (Int × (Int × ((List TMap) × (Bool × ((List UInt8) × (Int × Unit)))))))))))))))))))
abbrev ty24_ : Type := (Int × (Int × (Int × (Int × (Int × (Int × ((List TRule) × (Bool × ((List TMeter) × ((List TTalk) × (Int × (Int × (Int × (Int × (Int × ((List TMap) × ((List UInt8) × (Int × (Int × Unit)))))))))))))))))))
def hsHear_tree : ty23_ -> Tr ty24_ :=
 fun (a0, a1, a2, a3, a4, a5, a6, a7, a8, a9, a10, a11, a12, a13, a14, a15, a16, a17, a18, _) =>
 .grd (decide (((0 : Nat) + a6.length) * (80 : Nat) <= (140737488355328 : Nat) /\ (0 : Nat) + a6.length <= (9223372036854775807 : Nat))) (
 .grd (decide (((0 : Nat) + a8.length) * (40 : Nat) <= (140737488355328 : Nat) /\ (0 : Nat) + a8.length <= (9223372036854775807 : Nat))) (
 .grd (decide (((0 : Nat) + a9.length) * (48 : Nat) <= (140737488355328 : Nat) /\ (0 : Nat) + a9.length <= (9223372036854775807 : Nat))) (
 .grd (decide (((0 : Nat) + a15.length) * (40 : Nat) <= (140737488355328 : Nat) /\ (0 : Nat) + a15.length <= (9223372036854775807 : Nat))) (
 .opt ((hsCheck_fn (a0, (a1, (a2, (a3, (a4, (a5, (a6, (a7, (a8, (a9, (a10, (a11, (a12, (a13, (a14, (a15, ())))))))))))))))))) (fun r0 =>
 .ite (!decide (r0.1 = 0)) (
 .ret (a0, (a1, (a2, (a3, (a4, (a5, (a6, (a7, (a8, (a9, (a10, (a11, (a12, (a13, (a14, (a15, ([], (0, (r0.1, ())))))))))))))))))))) (
 .opt ((hsLast_fn (a0, (a1, (a2, (a3, (a4, (a5, (a6, (a7, (a8, (a9, (a10, (a11, (a12, (a13, (a14, (a15, ())))))))))))))))))) (fun r1 =>
 .ite (decide (a18 < r1.1)) (
 .ret (a0, (a1, (a2, (a3, (a4, (a5, (a6, (a7, (a8, (a9, (a10, (a11, (a12, (a13, (a14, (a15, ([], (0, (1, ())))))))))))))))))))) (
 .ite (decide (1099511627776 < a18)) (
 .ret (a0, (a1, (a2, (a3, (a4, (a5, (a6, (a7, (a8, (a9, (a10, (a11, (a12, (a13, (a14, (a15, ([], (0, (1, ())))))))))))))))))))) (
 .grd (decide (a8.length = a8.length)) (
 .opt ((wGoes_fn (a16, (a17, (a0, (a1, (a2, (a3, (a4, (a5, (a6, (a7, (a9, (a10, (a11, (a12, (a13, (a14, (a15, (0, (0, (0, (0, (0, ([], (a18, (a8, ()))))))))))))))))))))))))))) (fun r2 =>
 .ret (r2.2.2.1, (r2.2.2.2.1, (r2.2.2.2.2.1, (r2.2.2.2.2.2.1, (r2.2.2.2.2.2.2.1, (r2.2.2.2.2.2.2.2.1, (r2.2.2.2.2.2.2.2.2.1, (r2.2.2.2.2.2.2.2.2.2.1, (r2.2.2.2.2.2.2.2.2.2.2.2.2.2.2.2.2.2.2.2.2.2.2.2.2.1, (r2.2.2.2.2.2.2.2.2.2.2.1, (r2.2.2.2.2.2.2.2.2.2.2.2.1, (r2.2.2.2.2.2.2.2.2.2.2.2.2.1, (r2.2.2.2.2.2.2.2.2.2.2.2.2.2.1, (r2.2.2.2.2.2.2.2.2.2.2.2.2.2.2.1, (r2.2.2.2.2.2.2.2.2.2.2.2.2.2.2.2.1, (r2.2.2.2.2.2.2.2.2.2.2.2.2.2.2.2.2.1, (r2.1, (r2.2.1, (0, ()))))))))))))))))))))))))))))))
noncomputable def gm62 : List (PF Go.Proofs.Tryz.prog) := [cdRule, cdTalk, cdMap, FS.pf sumFold, FS.pf sumAdd, FS.pf sumOf, FS.pf sumRight, FS.pf sumFix, FS.pf dgWord, FS.pf dgLong, FS.pf dgWordAt, FS.pf dgUnder, FS.pf dgPort, FS.pf dgWrite, FS.pf dgRead, FS.pf ipWordAt, FS.pf ipLongAt, FS.pf ipByt, FS.pf ipRefused, FS.pf ipWord, FS.pf ipLong, FS.pf ipWrite, FS.pf ipRead, FS.pf ipHop, FS.pf tcWord, FS.pf tcLong, FS.pf tcWordAt, FS.pf tcLongAt, FS.pf tcWords, FS.pf tcOptions, FS.pf tcWrite, FS.pf tcParse, FS.pf tcRead, FS.pf swEnds, FS.pf swWord, GS.pf swPut, GS.pf swChange, FS.pf swSwapped, FS.pf swFrom, FS.pf swTo, clTalk, GS.pf delTalk, FS.pf trTurned, FS.pf trPort, FS.pf trRoad, FS.pf trForm, FS.pf trPlace, FS.pf trCheck, FS.pf trOld, GS.pf dfTalk, GS.pf trOpen, GS.pf trPasses, FS.pf trHear, FS.pf trFind, FS.pf buCheck, FS.pf buLev, FS.pf buTake, clRule, FS.pf ruNet, FS.pf ruHas, FS.pf ruBounds, FS.pf ruRight, FS.pf ruCheck, FS.pf ruMeets, FS.pf ruDecide, tz64, FS.pf portsCheck, FS.pf portsLet, FS.pf portsEnd, FS.pf confCheck, clMap, GS.pf delMap, FS.pf eqMap, FS.pf natWithin, FS.pf natCheck, natPlace, GS.pf natExpire, FS.pf natOut, FS.pf natIn, clMeter, GS.pf delMeter, FS.pf hsMeter, FS.pf hsLast, FS.pf hsCheck, FS.pf hsNew, GS.pf wMeasured, GS.pf wKnown, GS.pf wTalked, GS.pf wLeaves, GS.pf wEnters, GS.pf wGoes]
theorem hsHear_eq (x : ty23_) : fnTr Tryz.prog cod gm62 [] 30 8 hsHear_ap hsHear_rp x = hsHear_tree x := by kernel_rfl
def hsHear_fn (x : ty23_) : Option ty24_ := (hsHear_tree x).eval
def hsHear : FS Tryz.prog := ⟨8, hsHear_ap, hsHear_rp, hsHear_fn, fun x r h => fnTr_sound (cod := cod) (Γ := gm62) (Λs := []) (n := 30) ((congrArg Tr.eval (hsHear_eq x)).trans h)⟩
def letterPacket_ap : List VP1 := [.agg [.i .i64, .i .i64, .s], .one (.i .u32), .one (.i .u32)]
def letterPacket_rp : SP := ⟨1, [(0, .tup [.one (.s), .one (.b)])], []⟩
def letterPacket_tree : (Int × (Int × ((List UInt8) × (Int × (Int × Unit))))) -> Tr ((List UInt8) × (Bool × Unit)) :=
 fun (a0, a1, a2, a3, a4, _) =>
 .opt ((dgWrite_fn (a0, (a1, (a2, (a3, (a4, ()))))))) (fun r0 =>
 .opt ((ipWrite_fn (0, (0, (false, (false, (0, (9, (17, (a3, (a4, ([], (r0.1, ()))))))))))))) (fun r1 =>
 .ite (decide (r0.2.1 = 0)) (
 .ret (r1.1, (decide (r1.2.1 = 0), ()))) (
 .ret (r1.1, (false, ())))))
noncomputable def gm63 : List (PF Go.Proofs.Tryz.prog) := gm30 ++ [FS.pf swTo]
theorem letterPacket_eq (x : (Int × (Int × ((List UInt8) × (Int × (Int × Unit)))))) : fnTr Tryz.prog cod gm63 [] 30 44 letterPacket_ap letterPacket_rp x = letterPacket_tree x := by kernel_rfl
def letterPacket_fn (x : (Int × (Int × ((List UInt8) × (Int × (Int × Unit)))))) : Option ((List UInt8) × (Bool × Unit)) := (letterPacket_tree x).eval
def letterPacket : FS Tryz.prog := ⟨44, letterPacket_ap, letterPacket_rp, letterPacket_fn, fun x r h => fnTr_sound (cod := cod) (Γ := gm63) (Λs := []) (n := 30) ((congrArg Tr.eval (letterPacket_eq x)).trans h)⟩
def kHouseLives_ap : List VP1 := []
def kHouseLives_rp : SP := ⟨1, [(0, .v (.one (.b)))], []⟩
def kHouseLives_tree : Unit -> Tr (Bool × Unit) :=
 fun (_) =>
 .opt ((hsNew_fn (3325256705, (1024, (2048, (100, (1000, (100000, ([], (true, ())))))))))) (fun r0 =>
 .opt ((letterPacket_fn (1030, (53, ([(120 : UInt8)], (5, (6, ()))))))) (fun r1 =>
 .opt ((hsHear_fn (r0.1, (r0.2.1, (r0.2.2.1, (r0.2.2.2.1, (r0.2.2.2.2.1, (r0.2.2.2.2.2.1, (r0.2.2.2.2.2.2.1, (r0.2.2.2.2.2.2.2.1, (r0.2.2.2.2.2.2.2.2.1, (r0.2.2.2.2.2.2.2.2.2.1, (r0.2.2.2.2.2.2.2.2.2.2.1, (r0.2.2.2.2.2.2.2.2.2.2.2.1, (r0.2.2.2.2.2.2.2.2.2.2.2.2.1, (r0.2.2.2.2.2.2.2.2.2.2.2.2.2.1, (r0.2.2.2.2.2.2.2.2.2.2.2.2.2.2.1, (r0.2.2.2.2.2.2.2.2.2.2.2.2.2.2.2.1, (true, (r1.1, (0, ()))))))))))))))))))))) (fun r2 =>
 .opt ((swEnds_fn (r2.2.2.2.2.2.2.2.2.2.2.2.2.2.2.2.2.1, ()))) (fun r3 =>
 .ite (r1.2.1) (
 .ite (decide (r0.2.2.2.2.2.2.2.2.2.2.2.2.2.2.2.2.1 = 0)) (
 .ite (decide (r2.2.2.2.2.2.2.2.2.2.2.2.2.2.2.2.2.2.2.1 = 0)) (
 .ite (decide (r2.2.2.2.2.2.2.2.2.2.2.2.2.2.2.2.2.2.1 = 0)) (
 .ite (decide (r3.2.2.2.2.2.1 = 0)) (
 .ret (decide (r3.1 = 3325256705) && (decide (r3.2.1 = 6) && (decide (r3.2.2.1 = 17) && (decide (r3.2.2.2.1 = 1030) && (decide (r3.2.2.2.2.1 = 53) && true)))), ())) (
 .ret (false, ()))) (
 .ret (false, ()))) (
 .ret (false, ()))) (
 .ret (false, ()))) (
 .ret (false, ()))))))
noncomputable def gm64 : List (PF Go.Proofs.Tryz.prog) := gm62 ++ [FS.pf hsHear, FS.pf letterPacket]
theorem kHouseLives_eq (x : Unit) : fnTr Tryz.prog cod gm64 [] 30 9 kHouseLives_ap kHouseLives_rp x = kHouseLives_tree x := by kernel_rfl
def kHouseLives_fn (x : Unit) : Option (Bool × Unit) := (kHouseLives_tree x).eval
def kHouseLives : FS Tryz.prog := ⟨9, kHouseLives_ap, kHouseLives_rp, kHouseLives_fn, fun x r h => fnTr_sound (cod := cod) (Γ := gm64) (Λs := []) (n := 30) ((congrArg Tr.eval (kHouseLives_eq x)).trans h)⟩
end Go.Proofs.YthkhikdglmaiaaaGreatDoor.X
