/- Texts towards the law HouseBack, put together (part 5): an abstract walk and its proof, functions of the program as trees, and plain laws. Conditions: none. -/
import Derived.KernelRfl
import Derived.Lib.TrailingZeros
import Derived.Laws.Bits64b
import Derived.WalkKit
import Derived.Test.YthkhikdglmaiaaaDoorK4
namespace Go.Proofs.YthkhikdglmaiaaaDoor.X
open Go Go.RowKit Go.Proofs.YthkhikdglmaiaaaDoor.Abs
set_option maxRecDepth 100000
set_option linter.unusedVariables false
def buCheck_ap : List VP1 := [.agg [.i .i64, .i .i64, .i .i64, .i .i64]]
def buCheck_rp : SP := ⟨1, [(0, .v (.one (.i .i64)))], []⟩
def buCheck_tree : (Int × (Int × (Int × (Int × Unit)))) -> Tr (Int × Unit) :=
 fun (a0, a1, a2, a3, _) =>
 .ite (decide (a0 < (0 : Int))) (
 .ret ((1 : Int), ())) (
 .ite (decide ((1000000 : Int) < a0)) (
 .ret ((1 : Int), ())) (
 .ite (decide (a1 < (1 : Int))) (
 .ret ((1 : Int), ())) (
 .ite (decide ((1000000000 : Int) < a1)) (
 .ret ((1 : Int), ())) (
 .ite (decide (a2 < (0 : Int))) (
 .ret ((4 : Int), ())) (
 .ite (decide (a1 < a2)) (
 .ret ((4 : Int), ())) (
 .ite (decide (a3 < (0 : Int))) (
 .ret ((4 : Int), ())) (
 .ite (decide ((1099511627776 : Int) < a3)) (
 .ret ((4 : Int), ())) (
 .ret ((0 : Int), ())))))))))
theorem buCheck_eq (x : (Int × (Int × (Int × (Int × Unit))))) : fnTr Tryd.prog cod [] [] 30 42 buCheck_ap buCheck_rp x = buCheck_tree x := by kernel_rfl
def buCheck_fn (x : (Int × (Int × (Int × (Int × Unit))))) : Option (Int × Unit) := (buCheck_tree x).eval
def buCheck : FS Tryd.prog := ⟨42, buCheck_ap, buCheck_rp, buCheck_fn, fun x r h => fnTr_sound (cod := cod) (Γ := []) (Λs := []) (n := 30) ((congrArg Tr.eval (buCheck_eq x)).trans h)⟩
def buLev_ap : List VP1 := [.agg [.i .i64, .i .i64, .i .i64, .i .i64], .one (.i .i64)]
def buLev_rp : SP := ⟨1, [(0, .v (.one (.i .i64)))], []⟩
def buLev_tree : (Int × (Int × (Int × (Int × (Int × Unit))))) -> Tr (Int × Unit) :=
 fun (a0, a1, a2, a3, a4, _) =>
 .ret (if true = true then if IntKind.wrap IntKind.i64 (a2 + IntKind.wrap IntKind.i64 (a0 * if true = true then if (1000000000 : Int) < IntKind.wrap IntKind.i64 (a4 - a3) then (1000000000 : Int) else IntKind.wrap IntKind.i64 (a4 - a3) else if (1000000000 : Int) > IntKind.wrap IntKind.i64 (a4 - a3) then (1000000000 : Int) else IntKind.wrap IntKind.i64 (a4 - a3))) < a1 then IntKind.wrap IntKind.i64 (a2 + IntKind.wrap IntKind.i64 (a0 * if true = true then if (1000000000 : Int) < IntKind.wrap IntKind.i64 (a4 - a3) then (1000000000 : Int) else IntKind.wrap IntKind.i64 (a4 - a3) else if (1000000000 : Int) > IntKind.wrap IntKind.i64 (a4 - a3) then (1000000000 : Int) else IntKind.wrap IntKind.i64 (a4 - a3))) else a1 else if IntKind.wrap IntKind.i64 (a2 + IntKind.wrap IntKind.i64 (a0 * if true = true then if (1000000000 : Int) < IntKind.wrap IntKind.i64 (a4 - a3) then (1000000000 : Int) else IntKind.wrap IntKind.i64 (a4 - a3) else if (1000000000 : Int) > IntKind.wrap IntKind.i64 (a4 - a3) then (1000000000 : Int) else IntKind.wrap IntKind.i64 (a4 - a3))) > a1 then IntKind.wrap IntKind.i64 (a2 + IntKind.wrap IntKind.i64 (a0 * if true = true then if (1000000000 : Int) < IntKind.wrap IntKind.i64 (a4 - a3) then (1000000000 : Int) else IntKind.wrap IntKind.i64 (a4 - a3) else if (1000000000 : Int) > IntKind.wrap IntKind.i64 (a4 - a3) then (1000000000 : Int) else IntKind.wrap IntKind.i64 (a4 - a3))) else a1, ())
theorem buLev_eq (x : (Int × (Int × (Int × (Int × (Int × Unit)))))) : fnTr Tryd.prog cod [FS.pf buCheck] [] 30 85 buLev_ap buLev_rp x = buLev_tree x := by kernel_rfl
def buLev_fn (x : (Int × (Int × (Int × (Int × (Int × Unit)))))) : Option (Int × Unit) := (buLev_tree x).eval
def buLev : FS Tryd.prog := ⟨85, buLev_ap, buLev_rp, buLev_fn, fun x r h => fnTr_sound (cod := cod) (Γ := [FS.pf buCheck]) (Λs := []) (n := 30) ((congrArg Tr.eval (buLev_eq x)).trans h)⟩
def buTake_ap : List VP1 := [.agg [.i .i64, .i .i64, .i .i64, .i .i64], .one (.i .i64), .one (.i .i64)]
def buTake_rp : SP := ⟨1, [(0, .tup [.agg [.i .i64, .i .i64, .i .i64, .i .i64], .one (.b), .one (.i .i64)])], []⟩
def buTake_tree : (Int × (Int × (Int × (Int × (Int × (Int × Unit)))))) -> Tr (Int × (Int × (Int × (Int × (Bool × (Int × Unit)))))) :=
 fun (a0, a1, a2, a3, a4, a5, _) =>
 .opt ((buCheck_fn (a0, (a1, (a2, (a3, ())))))) (fun r0 =>
 .ite (!decide (r0.1 = (0 : Int))) (
 .ret ((0 : Int), ((0 : Int), ((0 : Int), ((0 : Int), (false, (r0.1, ()))))))) (
 .ite (decide (a4 < a3)) (
 .ret ((0 : Int), ((0 : Int), ((0 : Int), ((0 : Int), (false, ((1 : Int), ()))))))) (
 .ite (decide ((1099511627776 : Int) < a4)) (
 .ret ((0 : Int), ((0 : Int), ((0 : Int), ((0 : Int), (false, ((1 : Int), ()))))))) (
 .ite (decide (a5 < (0 : Int))) (
 .ret ((0 : Int), ((0 : Int), ((0 : Int), ((0 : Int), (false, ((1 : Int), ()))))))) (
 .ite (decide ((1000000000 : Int) < a5)) (
 .ret ((0 : Int), ((0 : Int), ((0 : Int), ((0 : Int), (false, ((1 : Int), ()))))))) (
 .opt ((buLev_fn (a0, (a1, (a2, (a3, (a4, ()))))))) (fun r1 =>
 .ite (decide (r1.1 < a5)) (
 .ret (a0, (a1, (r1.1, (a4, (false, ((0 : Int), ()))))))) (
 .ret (a0, (a1, (IntKind.wrap IntKind.i64 (r1.1 - a5), (a4, (true, ((0 : Int), ()))))))))))))))
theorem buTake_eq (x : (Int × (Int × (Int × (Int × (Int × (Int × Unit))))))) : fnTr Tryd.prog cod [FS.pf buCheck, FS.pf buLev] [] 30 69 buTake_ap buTake_rp x = buTake_tree x := by kernel_rfl
def buTake_fn (x : (Int × (Int × (Int × (Int × (Int × (Int × Unit))))))) : Option (Int × (Int × (Int × (Int × (Bool × (Int × Unit)))))) := (buTake_tree x).eval
def buTake : FS Tryd.prog := ⟨69, buTake_ap, buTake_rp, buTake_fn, fun x r h => fnTr_sound (cod := cod) (Γ := [FS.pf buCheck, FS.pf buLev]) (Λs := []) (n := 30) ((congrArg Tr.eval (buTake_eq x)).trans h)⟩
theorem clRule_h1 (xs : List (τ 10)) : (bodyTr Go.Proofs.Tryd.prog cod 29 [.one (.nn (.st 10 xs))]).eval = (cloneRes 91 10 80 xs).eval := by kernel_rfl
theorem clRule_h2 : (bodyTr Go.Proofs.Tryd.prog cod 29 [.one .nil]).eval = some (.one .nil, []) := by kernel_rfl
def clRule : PF Go.Proofs.Tryd.prog := clonePF Go.Proofs.Tryd.prog cod 29 91 10 80 clRule_h1 clRule_h2
def ruNet_ap : List VP1 := [.agg [.i .u32, .i .i64]]
def ruNet_rp : SP := ⟨1, [(0, .v (.one (.b)))], []⟩
def ruNet_tree : (Int × (Int × Unit)) -> Tr (Bool × Unit) :=
 fun (a0, a1, _) =>
 .ite (decide ((0 : Int) <= a1)) (
 .ite (decide (a1 <= (32 : Int))) (
 .grd (decide ((0 : Int) <= a1)) (
 .ret (decide (IntKind.wrap IntKind.u32 (a0 * (2 : Int) ^ min (Int.toNat a1) (32 : Nat)) = (0 : Int)), ()))) (
 .ret (false, ()))) (
 .ret (false, ()))
theorem ruNet_eq (x : (Int × (Int × Unit))) : fnTr Tryd.prog cod [clRule] [] 30 96 ruNet_ap ruNet_rp x = ruNet_tree x := by kernel_rfl
def ruNet_fn (x : (Int × (Int × Unit))) : Option (Bool × Unit) := (ruNet_tree x).eval
def ruNet : FS Tryd.prog := ⟨96, ruNet_ap, ruNet_rp, ruNet_fn, fun x r h => fnTr_sound (cod := cod) (Γ := [clRule]) (Λs := []) (n := 30) ((congrArg Tr.eval (ruNet_eq x)).trans h)⟩
def ruHas_ap : List VP1 := [.agg [.i .u32, .i .i64], .one (.i .u32)]
def ruHas_rp : SP := ⟨1, [(0, .v (.one (.b)))], []⟩
def ruHas_tree : (Int × (Int × (Int × Unit))) -> Tr (Bool × Unit) :=
 fun (a0, a1, a2, _) =>
 .grd (decide ((0 : Int) <= IntKind.wrap IntKind.i64 ((32 : Int) - a1))) (
 .ret (decide (Int.fdiv (IntKind.wrap IntKind.u64 (bits BinOp.xor IntKind.u32 a2 a0)) ((2 : Int) ^ min (Int.toNat (IntKind.wrap IntKind.i64 ((32 : Int) - a1))) (64 : Nat)) = (0 : Int)), ()))
theorem ruHas_eq (x : (Int × (Int × (Int × Unit)))) : fnTr Tryd.prog cod [clRule, FS.pf ruNet] [] 30 99 ruHas_ap ruHas_rp x = ruHas_tree x := by kernel_rfl
def ruHas_fn (x : (Int × (Int × (Int × Unit)))) : Option (Bool × Unit) := (ruHas_tree x).eval
def ruHas : FS Tryd.prog := ⟨99, ruHas_ap, ruHas_rp, ruHas_fn, fun x r h => fnTr_sound (cod := cod) (Γ := [clRule, FS.pf ruNet]) (Λs := []) (n := 30) ((congrArg Tr.eval (ruHas_eq x)).trans h)⟩
def ruBounds_ap : List VP1 := [.one (.i .i64), .one (.i .i64)]
def ruBounds_rp : SP := ⟨1, [(0, .v (.one (.b)))], []⟩
def ruBounds_tree : (Int × (Int × Unit)) -> Tr (Bool × Unit) :=
 fun (a0, a1, _) =>
 .ite (decide ((0 : Int) <= a0)) (
 .ite (decide (a0 <= a1)) (
 .ret (decide (a1 <= (65535 : Int)), ())) (
 .ret (false, ()))) (
 .ret (false, ()))
theorem ruBounds_eq (x : (Int × (Int × Unit))) : fnTr Tryd.prog cod [clRule, FS.pf ruNet, FS.pf ruHas] [] 30 87 ruBounds_ap ruBounds_rp x = ruBounds_tree x := by kernel_rfl
def ruBounds_fn (x : (Int × (Int × Unit))) : Option (Bool × Unit) := (ruBounds_tree x).eval
def ruBounds : FS Tryd.prog := ⟨87, ruBounds_ap, ruBounds_rp, ruBounds_fn, fun x r h => fnTr_sound (cod := cod) (Γ := [clRule, FS.pf ruNet, FS.pf ruHas]) (Λs := []) (n := 30) ((congrArg Tr.eval (ruBounds_eq x)).trans h)⟩
def ruRight_ap : List VP1 := [.agg [.i .u32, .i .i64, .i .u32, .i .i64, .i .i64, .i .i64, .i .i64, .i .i64, .i .i64, .b]]
def ruRight_rp : SP := ⟨1, [(0, .v (.one (.b)))], []⟩
def ruRight_tree : (Int × (Int × (Int × (Int × (Int × (Int × (Int × (Int × (Int × (Bool × Unit)))))))))) -> Tr (Bool × Unit) :=
 fun (a0, a1, a2, a3, a4, a5, a6, a7, a8, a9, _) =>
 .opt ((ruNet_fn (a0, (a1, ())))) (fun r0 =>
 .ite (r0.1) (
 .opt ((ruNet_fn (a2, (a3, ())))) (fun r1 =>
 .ite (r1.1) (
 .ite (decide ((0 : Int) <= a4)) (
 .ite (decide (a4 <= (255 : Int))) (
 .opt ((ruBounds_fn (a5, (a6, ())))) (fun r2 =>
 .ite (r2.1) (
 .opt ((ruBounds_fn (a7, (a8, ())))) (fun r3 =>
 .ret (r3.1, ()))) (
 .ret (false, ())))) (
 .ret (false, ()))) (
 .ret (false, ()))) (
 .ret (false, ())))) (
 .ret (false, ())))
theorem ruRight_eq (x : (Int × (Int × (Int × (Int × (Int × (Int × (Int × (Int × (Int × (Bool × Unit))))))))))) : fnTr Tryd.prog cod [clRule, FS.pf ruNet, FS.pf ruHas, FS.pf ruBounds] [] 30 77 ruRight_ap ruRight_rp x = ruRight_tree x := by kernel_rfl
def ruRight_fn (x : (Int × (Int × (Int × (Int × (Int × (Int × (Int × (Int × (Int × (Bool × Unit))))))))))) : Option (Bool × Unit) := (ruRight_tree x).eval
def ruRight : FS Tryd.prog := ⟨77, ruRight_ap, ruRight_rp, ruRight_fn, fun x r h => fnTr_sound (cod := cod) (Γ := [clRule, FS.pf ruNet, FS.pf ruHas, FS.pf ruBounds]) (Λs := []) (n := 30) ((congrArg Tr.eval (ruRight_eq x)).trans h)⟩
def ruCheck_L56_4 : LS := ⟨4, [], ⟨18, [(10, .v (.one (.i .i64))), (8, .v (.one (.st 10 false))), (9, .v (.one (.i .i64)))], []⟩, [⟨none, [], ⟨18, [(2, .v (.one (.i .i64)))], []⟩⟩, ⟨some 0, [], ⟨18, [], []⟩⟩], []⟩
def ruCheck_step56_4 : (Int × ((List TRule) × (Int × Unit))) -> Tr ((Int × ((List TRule) × (Int × Unit))) ⊕ ((Int × Unit) ⊕ Unit)) :=
 fun (a0, a1, a2, _) =>
 .ite (decide (a0 < a2)) (
 .grd (decide ((0 : Int) <= a0)) (
 .opt (a1[Int.toNat a0]?) (fun r0 =>
 .opt ((ruRight_fn (r0.fromAddr, (r0.fromLong, (r0.toAddr, (r0.toLong, (r0.proto, (r0.fromLow, (r0.fromHigh, (r0.toLow, (r0.toHigh, (r0.pass, ())))))))))))) (fun r1 =>
 .ite (!r1.1) (
 .ret (Sum.inr (Sum.inl ((4 : Int), ())))) (
 .ret (Sum.inl (IntKind.wrap IntKind.i64 (a0 + (1 : Int)), (a1, (a2, ()))))))))) (
 .ret (Sum.inr (Sum.inr ())))
def ruCheck_loop56_4 (x : (Int × ((List TRule) × (Int × Unit)))) : Option ((Int × Unit) ⊕ Unit) := loopO 560004 (fun x => (ruCheck_step56_4 x).eval) 18446744073709551616 x
def ruCheck_ap : List VP1 := [.one (.st 10 false)]
def ruCheck_rp : SP := ⟨1, [(0, .v (.one (.i .i64)))], []⟩
def ruCheck_tree : ((List TRule) × Unit) -> Tr (Int × Unit) :=
 fun (a0, _) =>
 .ite (decide ((64 : Int) < (↑(List.length a0) : Int))) (
 .ret ((2 : Int), ())) (
 .opt ((ruCheck_loop56_4 ((0 : Int), (a0, ((↑(List.length a0) : Int), ()))))) (fun r0 =>
 .sum (r0) (fun r1 =>
 .ret (r1.1, ())) (fun r1 =>
 .ret ((0 : Int), ()))))
noncomputable def gm35 : List (PF Go.Proofs.Tryd.prog) := [clRule, FS.pf ruNet, FS.pf ruHas, FS.pf ruBounds, FS.pf ruRight]
theorem ruCheck_eq (x : ((List TRule) × Unit)) : fnTr Tryd.prog cod gm35 [(56, ruCheck_L56_4)] 30 56 ruCheck_ap ruCheck_rp x = ruCheck_tree x := by kernel_rfl
def ruCheck_fn (x : ((List TRule) × Unit)) : Option (Int × Unit) := (ruCheck_tree x).eval
def ruCheck : FS Tryd.prog := ⟨56, ruCheck_ap, ruCheck_rp, ruCheck_fn, fun x r h => fnTr_sound (cod := cod) (Γ := gm35) (Λs := [(56, ruCheck_L56_4)]) (n := 30) ((congrArg Tr.eval (ruCheck_eq x)).trans h)⟩
def ruMeets_ap : List VP1 := [.agg [.i .u32, .i .i64, .i .u32, .i .i64, .i .i64, .i .i64, .i .i64, .i .i64, .i .i64, .b], .agg [.i .u32, .i .u32, .i .i64, .i .i64, .i .i64]]
def ruMeets_rp : SP := ⟨1, [(0, .v (.one (.b)))], []⟩
abbrev ty6_ : Type := (Int × (Int × (Int × (Int × (Int × (Int × (Int × (Int × (Int × (Bool × (Int × (Int × (Int × (Int × (Int × Unit)))))))))))))))
def ruMeets_tree : ty6_ -> Tr (Bool × Unit) :=
 fun (a0, a1, a2, a3, a4, a5, a6, a7, a8, a9, a10, a11, a12, a13, a14, _) =>
 .opt ((ruHas_fn (a0, (a1, (a10, ()))))) (fun r0 =>
 .ite (r0.1) (
 .opt ((ruHas_fn (a2, (a3, (a11, ()))))) (fun r1 =>
 .ite (r1.1) (
 .ite (decide (a4 = (0 : Int))) (
 .ite (decide (a5 <= a13)) (
 .ite (decide (a13 <= a6)) (
 .ite (decide (a7 <= a14)) (
 .ret (decide (a14 <= a8), ())) (
 .ret (false, ()))) (
 .ret (false, ()))) (
 .ret (false, ()))) (
 .ite (decide (a4 = a12)) (
 .ite (decide (a5 <= a13)) (
 .ite (decide (a13 <= a6)) (
 .ite (decide (a7 <= a14)) (
 .ret (decide (a14 <= a8), ())) (
 .ret (false, ()))) (
 .ret (false, ()))) (
 .ret (false, ()))) (
 .ret (false, ())))) (
 .ret (false, ())))) (
 .ret (false, ())))
noncomputable def gm36 : List (PF Go.Proofs.Tryd.prog) := [clRule, FS.pf ruNet, FS.pf ruHas, FS.pf ruBounds, FS.pf ruRight, FS.pf ruCheck]
theorem ruMeets_eq (x : ty6_) : fnTr Tryd.prog cod gm36 [] 30 90 ruMeets_ap ruMeets_rp x = ruMeets_tree x := by kernel_rfl
def ruMeets_fn (x : ty6_) : Option (Bool × Unit) := (ruMeets_tree x).eval
def ruMeets : FS Tryd.prog := ⟨90, ruMeets_ap, ruMeets_rp, ruMeets_fn, fun x r h => fnTr_sound (cod := cod) (Γ := gm36) (Λs := []) (n := 30) ((congrArg Tr.eval (ruMeets_eq x)).trans h)⟩
def ruDecide_L88_2 : LS := ⟨2, [(1000200, 1000200)], ⟨19, [(8, .v (.one (.i .i64))), (0, .v (.one (.st 10 false))), (1, .v (.one (.clp 89 [(1000200, 0)]))), (7, .v (.one (.i .i64)))], [(1000200, .cells [.i .u32, .i .u32, .i .i64, .i .i64, .i .i64])]⟩, [⟨none, [(1000200, 1000200)], ⟨19, [(4, .v (.one (.i .i64)))], [(1000200, .cells [.i .u32, .i .u32, .i .i64, .i .i64, .i .i64])]⟩⟩, ⟨some 0, [(1000200, 1000200)], ⟨19, [], [(1000200, .cells [.i .u32, .i .u32, .i .i64, .i .i64, .i .i64])]⟩⟩], []⟩
def ruDecide_step88_2 : (Int × ((List TRule) × (Int × (Int × (Int × (Int × (Int × (Int × Unit)))))))) -> Tr ((Int × ((List TRule) × (Int × (Int × (Int × (Int × (Int × (Int × Unit)))))))) ⊕ ((Int × (Int × (Int × (Int × (Int × (Int × Unit)))))) ⊕ (Int × (Int × (Int × (Int × (Int × Unit))))))) :=
 fun (a0, a1, a2, a3, a4, a5, a6, a7, _) =>
 .ite (decide (a0 < a2)) (
 .grd (decide ((0 : Int) <= a0)) (
 .opt (a1[Int.toNat a0]?) (fun r0 =>
 .opt ((ruMeets_fn (r0.fromAddr, (r0.fromLong, (r0.toAddr, (r0.toLong, (r0.proto, (r0.fromLow, (r0.fromHigh, (r0.toLow, (r0.toHigh, (r0.pass, (a3, (a4, (a5, (a6, (a7, ()))))))))))))))))) (fun r1 =>
 .ite (r1.1) (
 .ret (Sum.inr (Sum.inl (a0, (a3, (a4, (a5, (a6, (a7, ()))))))))) (
 .ret (Sum.inl (IntKind.wrap IntKind.i64 (a0 + (1 : Int)), (a1, (a2, (a3, (a4, (a5, (a6, (a7, ())))))))))))))) (
 .ret (Sum.inr (Sum.inr (a3, (a4, (a5, (a6, (a7, ()))))))))
def ruDecide_loop88_2 (x : (Int × ((List TRule) × (Int × (Int × (Int × (Int × (Int × (Int × Unit))))))))) : Option ((Int × (Int × (Int × (Int × (Int × (Int × Unit)))))) ⊕ (Int × (Int × (Int × (Int × (Int × Unit)))))) := loopO 880002 (fun x => (ruDecide_step88_2 x).eval) 18446744073709551616 x
def ruDecide_ap : List VP1 := [.one (.st 10 false), .agg [.i .u32, .i .u32, .i .i64, .i .i64, .i .i64], .one (.b)]
def ruDecide_rp : SP := ⟨1, [(0, .tup [.one (.b), .one (.i .i64), .one (.i .i64)])], []⟩
def ruDecide_tree : ((List TRule) × (Int × (Int × (Int × (Int × (Int × (Bool × Unit))))))) -> Tr (Bool × (Int × (Int × Unit))) :=
 fun (a0, a1, a2, a3, a4, a5, a6, _) =>
 .opt ((ruCheck_fn (a0, ()))) (fun r0 =>
 .ite (!decide (r0.1 = (0 : Int))) (
 .ret (false, ((0 : Int), (r0.1, ())))) (
 .ite (decide (a3 < (0 : Int))) (
 .ret (false, ((0 : Int), ((1 : Int), ())))) (
 .ite (decide ((255 : Int) < a3)) (
 .ret (false, ((0 : Int), ((1 : Int), ())))) (
 .opt ((ruBounds_fn (a4, (a4, ())))) (fun r1 =>
 .ite (!r1.1) (
 .ret (false, ((0 : Int), ((1 : Int), ())))) (
 .opt ((ruBounds_fn (a5, (a5, ())))) (fun r2 =>
 .ite (!r2.1) (
 .ret (false, ((0 : Int), ((1 : Int), ())))) (
 .opt ((ruDecide_loop88_2 ((0 : Int), (a0, ((↑(List.length a0) : Int), (a1, (a2, (a3, (a4, (a5, ())))))))))) (fun r3 =>
 .sum (r3) (fun r4 =>
 .ite (decide (r4.1 < (0 : Int))) (
 .ret (a6, (r4.1, ((0 : Int), ())))) (
 .grd (decide ((0 : Int) <= r4.1)) (
 .opt (a0[Int.toNat r4.1]?) (fun r5 =>
 .ret (r5.pass, (r4.1, ((0 : Int), ()))))))) (fun r4 =>
 .ite (true) (
 .ret (a6, ((-1 : Int), ((0 : Int), ())))) (
 .grd (false) (
 .opt (a0[(0 : Nat)]?) (fun r5 =>
 .ret (r5.pass, ((-1 : Int), ((0 : Int), ()))))))))))))))))
noncomputable def gm37 : List (PF Go.Proofs.Tryd.prog) := [clRule, FS.pf ruNet, FS.pf ruHas, FS.pf ruBounds, FS.pf ruRight, FS.pf ruCheck, FS.pf ruMeets]
theorem ruDecide_eq (x : ((List TRule) × (Int × (Int × (Int × (Int × (Int × (Bool × Unit)))))))) : fnTr Tryd.prog cod gm37 [(88, ruDecide_L88_2)] 30 71 ruDecide_ap ruDecide_rp x = ruDecide_tree x := by kernel_rfl
def ruDecide_fn (x : ((List TRule) × (Int × (Int × (Int × (Int × (Int × (Bool × Unit)))))))) : Option (Bool × (Int × (Int × Unit))) := (ruDecide_tree x).eval
def ruDecide : FS Tryd.prog := ⟨71, ruDecide_ap, ruDecide_rp, ruDecide_fn, fun x r h => fnTr_sound (cod := cod) (Γ := gm37) (Λs := [(88, ruDecide_L88_2)]) (n := 30) ((congrArg Tr.eval (ruDecide_eq x)).trans h)⟩
theorem acall_glob {P : Program} {f : FuncId} {ys : List V} {r : V} (hn : ys.length <= 900)
    (h : ∀ (w : World) (U : Nat -> Prop) (β : Nat -> Option Abs.Place) (us : Array Value), us.size = ys.length -> (∀ t, RepV w β U w.heap.size (us.getD t undef) ((Abs.look t (argsEnv 0 ys)).getD (.one .bad))) -> Glob U w ->
      ∃ v, RepV w β U w.heap.size v r /\ Calls P f us w fun e w' => e = .returned v /\ w' = w) : ACall P f ys [] fun r' m'' => r' = r /\ m'' = [] := by
  intro w U0 X β0 us hs
  obtain ⟨v, hv, hc⟩ := h w U0 β0 us hs.n hs.env hs.glob
  refine hc.mono ?_
  rintro e w' ⟨rfl, rfl⟩
  refine ⟨v, r, [], rfl, ⟨rfl, rfl⟩, β0, U0, { hs with n := rfl, small := by simp, defers := rfl, env := fun t => ?_ }⟩
  show RepV w' β0 U0 w'.heap.size (#[v].getD t undef) ((Abs.look t [(0, r)]).getD (.one .bad))
  cases t with
  | zero => exact hv
  | succ t => simp [Abs.look]; exact .bad _
end Go.Proofs.YthkhikdglmaiaaaDoor.X
namespace Go.Proofs
theorem YthkhikdglmaiaaaDoor.X.tz_key (x a : Nat) (hx : x < 18446744073709551616) (hlow : x &&& (18446744073709551616 - x) = a) :
    IntKind.u64.wrap (bits BinOp.and IntKind.u64 (x : Int) (IntKind.u64.wrap (-(x : Int))) * 285870213051353865) / 288230376151711744 = ((a * 285870213051353865 % 18446744073709551616 / 288230376151711744 : Nat) : Int) := by
  by_cases h0 : x = 0
  · subst h0
    simp only [Nat.zero_and] at hlow
    subst hlow
    decide
  · have e1 : IntKind.u64.wrap (-(x : Int)) = ((18446744073709551616 - x : Nat) : Int) := by rw [IntKind.wrap_u64]; omega
    rw [e1, bits_and_u64_nat x _ hx (by omega), hlow, IntKind.wrap_u64]
    omega
set_option maxHeartbeats 1000000 in
set_option maxRecDepth 100000 in
theorem YthkhikdglmaiaaaDoor.X.tz_core (x k idx : Nat) (w : World) (hx0 : ((x : Int) == 0) = false)
    (key : IntKind.u64.wrap (bits BinOp.and IntKind.u64 (x : Int) (IntKind.u64.wrap (-(x : Int))) * 285870213051353865) / 288230376151711744 = (idx : Int))
    (hi : idx < 64) (hk : k < 64) (hcell : w.cell? ⟨0, idx, none⟩ = some (.int .u8 k)) :
    Calls Tryd.prog 104 #[.int .u64 x] w fun e w' => e = .returned (.int .i64 k) /\ w' = w := by
  go_enter Tryd.func104, Tryd.ntmps104
  go_wp2_with (simp only [key])
  go_ret
  exact ⟨rfl, rfl⟩
set_option maxRecDepth 100000 in
theorem YthkhikdglmaiaaaDoor.X.tz_zero (w : World) :
    Calls Tryd.prog 104 #[.int .u64 0] w fun e w' => e = .returned (.int .i64 64) /\ w' = w := by
  go_enter Tryd.func104, Tryd.ntmps104
  go_wp2
  go_ret
  exact ⟨rfl, rfl⟩
end Go.Proofs
namespace Go.Proofs.YthkhikdglmaiaaaDoor.X
open Go Go.RowKit Go.Proofs.YthkhikdglmaiaaaDoor.Abs
set_option linter.unusedVariables false
theorem glob_cell {U : Nat -> Prop} {w : World} (h : Glob U w) (j : Nat) (hj : j < 64) : w.cell? ⟨0, j, none⟩ = some (.int .u8 (Lib.deBruijn64tab.getD j 0 : Nat)) := by
  obtain ⟨_, x, y, hx⟩ := h.1 (0, _) (List.mem_cons_self)
  unfold World.cell?
  simp only
  rw [show w.heap[0]? = _ from hx]
  have hl : j < Lib.deBruijn64tab.length := hj
  show ((Lib.deBruijn64tab.map fun z : Nat => Value.int .u8 (z : Int)).toArray)[j]? = _
  rw [List.getElem?_toArray, List.getElem?_map, List.getD_eq_getElem?_getD, List.getElem?_eq_getElem hl]
  rfl
theorem tz_calls {U : Nat -> Prop} {w : World} (hg : Glob U w) (x : Nat) (hx : x < 18446744073709551616) :
    Calls Tryd.prog 104 #[.int .u64 x] w fun e w' => e = .returned (.int .i64 (Lib.ctz 64 x : Nat)) /\ w' = w := by
  by_cases hx0 : x = 0
  · subst hx0
    exact tz_zero w
  · obtain ⟨hlow, hk⟩ := Lib.lowest_bit 64 x hx0 hx
    obtain ⟨hi, htab⟩ := Lib.deBruijn64_at _ hk
    have hcell := glob_cell hg _ hi
    rw [htab] at hcell
    exact tz_core x _ _ w (by simp; omega) (tz_key x _ hx hlow) hi hk hcell
def ctzI (n : Int) : Int := (Lib.ctz 64 n.toNat : Nat)
def tzTr (ys : List V) (m : Mem) : Option (Tr (V × Mem)) :=
  match ys, m with
  | [.one (.d (.i .u64 n))], [] => some (.grd (decide (0 <= n /\ n <= 18446744073709551615)) (.ret (vi .i64 (ctzI n), [])))
  | _, _ => none
def tz64 : PF Tryd.prog where
  f := 104
  own := []
  tr := tzTr
  ok := by
    intro ys m T r m' h hT
    unfold tzTr at h
    split at h
    · rename_i n
      cases h
      have hT' : (Tr.grd (decide (0 <= n /\ n <= 18446744073709551615)) (.ret (vi .i64 (ctzI n), ([] : Mem)))).eval = some (r, m') := hT
      by_cases hn : 0 <= n /\ n <= 18446744073709551615
      case neg => rw [decide_eq_false hn] at hT'; cases hT'
      rw [decide_eq_true hn] at hT'
      cases hT'
      refine ⟨_, [], WkVs_rfl _, trivial, acall_glob (by simp) fun w U β us hsz henv hg => ⟨.int .i64 (ctzI n), .one _ _ (.i .i64 _), ?_⟩⟩
      have h0 : us.getD 0 undef = .int .u64 n := (show RepV w β U w.heap.size (us.getD 0 undef) (vi .u64 n) from henv 0).int
      have e : us = #[.int .u64 n] := by
        obtain ⟨us⟩ := us
        match us, hsz with
        | [a], _ => have ha : a = _ := h0; rw [ha]
      rw [e]
      obtain ⟨x, rfl⟩ := Int.eq_ofNat_of_zero_le hn.1
      exact tz_calls hg x (by omega)
    · cases h
end Go.Proofs.YthkhikdglmaiaaaDoor.X
namespace Go.Proofs.YthkhikdglmaiaaaDoor.X
open Go Go.RowKit Go.Proofs.YthkhikdglmaiaaaDoor.Abs
set_option maxRecDepth 100000
set_option linter.unusedVariables false
def portsCheck_ap : List VP1 := [.agg [.i .i64, .i .u64]]
def portsCheck_rp : SP := ⟨1, [(0, .v (.one (.i .i64)))], []⟩
def portsCheck_tree : (Int × (Int × Unit)) -> Tr (Int × Unit) :=
 fun (a0, a1, _) =>
 .ite (decide (a0 < (64 : Int))) (
 .ret ((1 : Int), ())) (
 .ite (decide ((65472 : Int) < a0)) (
 .ret ((1 : Int), ())) (
 .grd (true) (
 .ite (!decide (Int.tmod a0 (64 : Int) = (0 : Int))) (
 .ret ((1 : Int), ())) (
 .ret ((0 : Int), ())))))
theorem portsCheck_eq (x : (Int × (Int × Unit))) : fnTr Tryd.prog cod [tz64] [] 30 55 portsCheck_ap portsCheck_rp x = portsCheck_tree x := by kernel_rfl
def portsCheck_fn (x : (Int × (Int × Unit))) : Option (Int × Unit) := (portsCheck_tree x).eval
def portsCheck : FS Tryd.prog := ⟨55, portsCheck_ap, portsCheck_rp, portsCheck_fn, fun x r h => fnTr_sound (cod := cod) (Γ := [tz64]) (Λs := []) (n := 30) ((congrArg Tr.eval (portsCheck_eq x)).trans h)⟩
def portsLet_ap : List VP1 := [.agg [.i .i64, .i .u64], .one (.i .i64)]
def portsLet_rp : SP := ⟨1, [(0, .tup [.agg [.i .i64, .i .u64], .one (.i .i64), .one (.i .i64)])], []⟩
abbrev ab0 : Int := (if IntKind.signed IntKind.u64 = true then (-1 : Int) else IntKind.max IntKind.u64)
def portsLet_tree : (Int × (Int × (Int × Unit))) -> Tr (Int × (Int × (Int × (Int × Unit)))) :=
 fun (a0, a1, a2, _) =>
 .opt ((portsCheck_fn (a0, (a1, ())))) (fun r0 =>
 .ite (!decide (r0.1 = (0 : Int))) (
 .ite (!decide (r0.1 = (0 : Int))) (
 .ret ((0 : Int), ((0 : Int), ((0 : Int), (r0.1, ()))))) (
 .ite (decide (IntKind.wrap IntKind.i64 (a2 - a0) < (0 : Int))) (
 .grd (decide ((0 : Int) <= bits BinOp.and IntKind.i64 a2 (1 : Int))) (
 .ite (decide (bits BinOp.and IntKind.u64 (bits BinOp.xor IntKind.u64 ab0 a1) (IntKind.wrap IntKind.u64 ((6148914691236517205 : Int) * (2 : Int) ^ min (Int.toNat (bits BinOp.and IntKind.i64 a2 (1 : Int))) (64 : Nat))) = (0 : Int))) (
 .grd (decide ((0 : Int) <= bits BinOp.xor IntKind.u64 ab0 a1 /\ bits BinOp.xor IntKind.u64 ab0 a1 <= (18446744073709551615 : Int))) (
 .grd (decide ((0 : Int) <= ctzI (bits BinOp.xor IntKind.u64 ab0 a1))) (
 .ret (a0, (bits BinOp.or IntKind.u64 a1 (IntKind.wrap IntKind.u64 ((1 : Int) * (2 : Int) ^ min (Int.toNat (ctzI (bits BinOp.xor IntKind.u64 ab0 a1))) (64 : Nat))), (IntKind.wrap IntKind.i64 (a0 + ctzI (bits BinOp.xor IntKind.u64 ab0 a1)), ((0 : Int), ()))))))) (
 .grd (decide ((0 : Int) <= bits BinOp.and IntKind.u64 (bits BinOp.xor IntKind.u64 ab0 a1) (IntKind.wrap IntKind.u64 ((6148914691236517205 : Int) * (2 : Int) ^ min (Int.toNat (bits BinOp.and IntKind.i64 a2 (1 : Int))) (64 : Nat))) /\ bits BinOp.and IntKind.u64 (bits BinOp.xor IntKind.u64 ab0 a1) (IntKind.wrap IntKind.u64 ((6148914691236517205 : Int) * (2 : Int) ^ min (Int.toNat (bits BinOp.and IntKind.i64 a2 (1 : Int))) (64 : Nat))) <= (18446744073709551615 : Int))) (
 .grd (decide ((0 : Int) <= ctzI (bits BinOp.and IntKind.u64 (bits BinOp.xor IntKind.u64 ab0 a1) (IntKind.wrap IntKind.u64 ((6148914691236517205 : Int) * (2 : Int) ^ min (Int.toNat (bits BinOp.and IntKind.i64 a2 (1 : Int))) (64 : Nat)))))) (
 .ret (a0, (bits BinOp.or IntKind.u64 a1 (IntKind.wrap IntKind.u64 ((1 : Int) * (2 : Int) ^ min (Int.toNat (ctzI (bits BinOp.and IntKind.u64 (bits BinOp.xor IntKind.u64 ab0 a1) (IntKind.wrap IntKind.u64 ((6148914691236517205 : Int) * (2 : Int) ^ min (Int.toNat (bits BinOp.and IntKind.i64 a2 (1 : Int))) (64 : Nat)))))) (64 : Nat))), (IntKind.wrap IntKind.i64 (a0 + ctzI (bits BinOp.and IntKind.u64 (bits BinOp.xor IntKind.u64 ab0 a1) (IntKind.wrap IntKind.u64 ((6148914691236517205 : Int) * (2 : Int) ^ min (Int.toNat (bits BinOp.and IntKind.i64 a2 (1 : Int))) (64 : Nat))))), ((0 : Int), ()))))))))) (
 .ite (decide ((63 : Int) < IntKind.wrap IntKind.i64 (a2 - a0))) (
 .grd (decide ((0 : Int) <= bits BinOp.and IntKind.i64 a2 (1 : Int))) (
 .ite (decide (bits BinOp.and IntKind.u64 (bits BinOp.xor IntKind.u64 ab0 a1) (IntKind.wrap IntKind.u64 ((6148914691236517205 : Int) * (2 : Int) ^ min (Int.toNat (bits BinOp.and IntKind.i64 a2 (1 : Int))) (64 : Nat))) = (0 : Int))) (
 .grd (decide ((0 : Int) <= bits BinOp.xor IntKind.u64 ab0 a1 /\ bits BinOp.xor IntKind.u64 ab0 a1 <= (18446744073709551615 : Int))) (
 .grd (decide ((0 : Int) <= ctzI (bits BinOp.xor IntKind.u64 ab0 a1))) (
 .ret (a0, (bits BinOp.or IntKind.u64 a1 (IntKind.wrap IntKind.u64 ((1 : Int) * (2 : Int) ^ min (Int.toNat (ctzI (bits BinOp.xor IntKind.u64 ab0 a1))) (64 : Nat))), (IntKind.wrap IntKind.i64 (a0 + ctzI (bits BinOp.xor IntKind.u64 ab0 a1)), ((0 : Int), ()))))))) (
 .grd (decide ((0 : Int) <= bits BinOp.and IntKind.u64 (bits BinOp.xor IntKind.u64 ab0 a1) (IntKind.wrap IntKind.u64 ((6148914691236517205 : Int) * (2 : Int) ^ min (Int.toNat (bits BinOp.and IntKind.i64 a2 (1 : Int))) (64 : Nat))) /\ bits BinOp.and IntKind.u64 (bits BinOp.xor IntKind.u64 ab0 a1) (IntKind.wrap IntKind.u64 ((6148914691236517205 : Int) * (2 : Int) ^ min (Int.toNat (bits BinOp.and IntKind.i64 a2 (1 : Int))) (64 : Nat))) <= (18446744073709551615 : Int))) (
 .grd (decide ((0 : Int) <= ctzI (bits BinOp.and IntKind.u64 (bits BinOp.xor IntKind.u64 ab0 a1) (IntKind.wrap IntKind.u64 ((6148914691236517205 : Int) * (2 : Int) ^ min (Int.toNat (bits BinOp.and IntKind.i64 a2 (1 : Int))) (64 : Nat)))))) (
 .ret (a0, (bits BinOp.or IntKind.u64 a1 (IntKind.wrap IntKind.u64 ((1 : Int) * (2 : Int) ^ min (Int.toNat (ctzI (bits BinOp.and IntKind.u64 (bits BinOp.xor IntKind.u64 ab0 a1) (IntKind.wrap IntKind.u64 ((6148914691236517205 : Int) * (2 : Int) ^ min (Int.toNat (bits BinOp.and IntKind.i64 a2 (1 : Int))) (64 : Nat)))))) (64 : Nat))), (IntKind.wrap IntKind.i64 (a0 + ctzI (bits BinOp.and IntKind.u64 (bits BinOp.xor IntKind.u64 ab0 a1) (IntKind.wrap IntKind.u64 ((6148914691236517205 : Int) * (2 : Int) ^ min (Int.toNat (bits BinOp.and IntKind.i64 a2 (1 : Int))) (64 : Nat))))), ((0 : Int), ()))))))))) (
 .grd (decide ((0 : Int) <= IntKind.wrap IntKind.i64 (a2 - a0))) (
 .ite (decide (bits BinOp.and IntKind.u64 (Int.fdiv (bits BinOp.xor IntKind.u64 ab0 a1) ((2 : Int) ^ min (Int.toNat (IntKind.wrap IntKind.i64 (a2 - a0))) (64 : Nat))) (1 : Int) = (0 : Int))) (
 .grd (decide ((0 : Int) <= bits BinOp.and IntKind.i64 a2 (1 : Int))) (
 .ite (decide (bits BinOp.and IntKind.u64 (bits BinOp.xor IntKind.u64 ab0 a1) (IntKind.wrap IntKind.u64 ((6148914691236517205 : Int) * (2 : Int) ^ min (Int.toNat (bits BinOp.and IntKind.i64 a2 (1 : Int))) (64 : Nat))) = (0 : Int))) (
 .grd (decide ((0 : Int) <= bits BinOp.xor IntKind.u64 ab0 a1 /\ bits BinOp.xor IntKind.u64 ab0 a1 <= (18446744073709551615 : Int))) (
 .grd (decide ((0 : Int) <= ctzI (bits BinOp.xor IntKind.u64 ab0 a1))) (
 .ret (a0, (bits BinOp.or IntKind.u64 a1 (IntKind.wrap IntKind.u64 ((1 : Int) * (2 : Int) ^ min (Int.toNat (ctzI (bits BinOp.xor IntKind.u64 ab0 a1))) (64 : Nat))), (IntKind.wrap IntKind.i64 (a0 + ctzI (bits BinOp.xor IntKind.u64 ab0 a1)), ((0 : Int), ()))))))) (
 .grd (decide ((0 : Int) <= bits BinOp.and IntKind.u64 (bits BinOp.xor IntKind.u64 ab0 a1) (IntKind.wrap IntKind.u64 ((6148914691236517205 : Int) * (2 : Int) ^ min (Int.toNat (bits BinOp.and IntKind.i64 a2 (1 : Int))) (64 : Nat))) /\ bits BinOp.and IntKind.u64 (bits BinOp.xor IntKind.u64 ab0 a1) (IntKind.wrap IntKind.u64 ((6148914691236517205 : Int) * (2 : Int) ^ min (Int.toNat (bits BinOp.and IntKind.i64 a2 (1 : Int))) (64 : Nat))) <= (18446744073709551615 : Int))) (
 .grd (decide ((0 : Int) <= ctzI (bits BinOp.and IntKind.u64 (bits BinOp.xor IntKind.u64 ab0 a1) (IntKind.wrap IntKind.u64 ((6148914691236517205 : Int) * (2 : Int) ^ min (Int.toNat (bits BinOp.and IntKind.i64 a2 (1 : Int))) (64 : Nat)))))) (
 .ret (a0, (bits BinOp.or IntKind.u64 a1 (IntKind.wrap IntKind.u64 ((1 : Int) * (2 : Int) ^ min (Int.toNat (ctzI (bits BinOp.and IntKind.u64 (bits BinOp.xor IntKind.u64 ab0 a1) (IntKind.wrap IntKind.u64 ((6148914691236517205 : Int) * (2 : Int) ^ min (Int.toNat (bits BinOp.and IntKind.i64 a2 (1 : Int))) (64 : Nat)))))) (64 : Nat))), (IntKind.wrap IntKind.i64 (a0 + ctzI (bits BinOp.and IntKind.u64 (bits BinOp.xor IntKind.u64 ab0 a1) (IntKind.wrap IntKind.u64 ((6148914691236517205 : Int) * (2 : Int) ^ min (Int.toNat (bits BinOp.and IntKind.i64 a2 (1 : Int))) (64 : Nat))))), ((0 : Int), ()))))))))) (
 .grd (decide ((0 : Int) <= IntKind.wrap IntKind.i64 (a2 - a0))) (
 .ret (a0, (bits BinOp.or IntKind.u64 a1 (IntKind.wrap IntKind.u64 ((1 : Int) * (2 : Int) ^ min (Int.toNat (IntKind.wrap IntKind.i64 (a2 - a0))) (64 : Nat))), (IntKind.wrap IntKind.i64 (a0 + IntKind.wrap IntKind.i64 (a2 - a0)), ((0 : Int), ()))))))))))) (
 .ite (decide (a2 < (0 : Int))) (
 .ite (true) (
 .ret ((0 : Int), ((0 : Int), ((0 : Int), ((1 : Int), ()))))) (
 .ite (decide (IntKind.wrap IntKind.i64 (a2 - a0) < (0 : Int))) (
 .grd (decide ((0 : Int) <= bits BinOp.and IntKind.i64 a2 (1 : Int))) (
 .ite (decide (bits BinOp.and IntKind.u64 (bits BinOp.xor IntKind.u64 ab0 a1) (IntKind.wrap IntKind.u64 ((6148914691236517205 : Int) * (2 : Int) ^ min (Int.toNat (bits BinOp.and IntKind.i64 a2 (1 : Int))) (64 : Nat))) = (0 : Int))) (
 .grd (decide ((0 : Int) <= bits BinOp.xor IntKind.u64 ab0 a1 /\ bits BinOp.xor IntKind.u64 ab0 a1 <= (18446744073709551615 : Int))) (
 .grd (decide ((0 : Int) <= ctzI (bits BinOp.xor IntKind.u64 ab0 a1))) (
 .ret (a0, (bits BinOp.or IntKind.u64 a1 (IntKind.wrap IntKind.u64 ((1 : Int) * (2 : Int) ^ min (Int.toNat (ctzI (bits BinOp.xor IntKind.u64 ab0 a1))) (64 : Nat))), (IntKind.wrap IntKind.i64 (a0 + ctzI (bits BinOp.xor IntKind.u64 ab0 a1)), ((0 : Int), ()))))))) (
 .grd (decide ((0 : Int) <= bits BinOp.and IntKind.u64 (bits BinOp.xor IntKind.u64 ab0 a1) (IntKind.wrap IntKind.u64 ((6148914691236517205 : Int) * (2 : Int) ^ min (Int.toNat (bits BinOp.and IntKind.i64 a2 (1 : Int))) (64 : Nat))) /\ bits BinOp.and IntKind.u64 (bits BinOp.xor IntKind.u64 ab0 a1) (IntKind.wrap IntKind.u64 ((6148914691236517205 : Int) * (2 : Int) ^ min (Int.toNat (bits BinOp.and IntKind.i64 a2 (1 : Int))) (64 : Nat))) <= (18446744073709551615 : Int))) (
 .grd (decide ((0 : Int) <= ctzI (bits BinOp.and IntKind.u64 (bits BinOp.xor IntKind.u64 ab0 a1) (IntKind.wrap IntKind.u64 ((6148914691236517205 : Int) * (2 : Int) ^ min (Int.toNat (bits BinOp.and IntKind.i64 a2 (1 : Int))) (64 : Nat)))))) (
 .ret (a0, (bits BinOp.or IntKind.u64 a1 (IntKind.wrap IntKind.u64 ((1 : Int) * (2 : Int) ^ min (Int.toNat (ctzI (bits BinOp.and IntKind.u64 (bits BinOp.xor IntKind.u64 ab0 a1) (IntKind.wrap IntKind.u64 ((6148914691236517205 : Int) * (2 : Int) ^ min (Int.toNat (bits BinOp.and IntKind.i64 a2 (1 : Int))) (64 : Nat)))))) (64 : Nat))), (IntKind.wrap IntKind.i64 (a0 + ctzI (bits BinOp.and IntKind.u64 (bits BinOp.xor IntKind.u64 ab0 a1) (IntKind.wrap IntKind.u64 ((6148914691236517205 : Int) * (2 : Int) ^ min (Int.toNat (bits BinOp.and IntKind.i64 a2 (1 : Int))) (64 : Nat))))), ((0 : Int), ()))))))))) (
 .ite (decide ((63 : Int) < IntKind.wrap IntKind.i64 (a2 - a0))) (
 .grd (decide ((0 : Int) <= bits BinOp.and IntKind.i64 a2 (1 : Int))) (
 .ite (decide (bits BinOp.and IntKind.u64 (bits BinOp.xor IntKind.u64 ab0 a1) (IntKind.wrap IntKind.u64 ((6148914691236517205 : Int) * (2 : Int) ^ min (Int.toNat (bits BinOp.and IntKind.i64 a2 (1 : Int))) (64 : Nat))) = (0 : Int))) (
 .grd (decide ((0 : Int) <= bits BinOp.xor IntKind.u64 ab0 a1 /\ bits BinOp.xor IntKind.u64 ab0 a1 <= (18446744073709551615 : Int))) (
 .grd (decide ((0 : Int) <= ctzI (bits BinOp.xor IntKind.u64 ab0 a1))) (
 .ret (a0, (bits BinOp.or IntKind.u64 a1 (IntKind.wrap IntKind.u64 ((1 : Int) * (2 : Int) ^ min (Int.toNat (ctzI (bits BinOp.xor IntKind.u64 ab0 a1))) (64 : Nat))), (IntKind.wrap IntKind.i64 (a0 + ctzI (bits BinOp.xor IntKind.u64 ab0 a1)), ((0 : Int), ()))))))) (
 .grd (decide ((0 : Int) <= bits BinOp.and IntKind.u64 (bits BinOp.xor IntKind.u64 ab0 a1) (IntKind.wrap IntKind.u64 ((6148914691236517205 : Int) * (2 : Int) ^ min (Int.toNat (bits BinOp.and IntKind.i64 a2 (1 : Int))) (64 : Nat))) /\ bits BinOp.and IntKind.u64 (bits BinOp.xor IntKind.u64 ab0 a1) (IntKind.wrap IntKind.u64 ((6148914691236517205 : Int) * (2 : Int) ^ min (Int.toNat (bits BinOp.and IntKind.i64 a2 (1 : Int))) (64 : Nat))) <= (18446744073709551615 : Int))) (
 .grd (decide ((0 : Int) <= ctzI (bits BinOp.and IntKind.u64 (bits BinOp.xor IntKind.u64 ab0 a1) (IntKind.wrap IntKind.u64 ((6148914691236517205 : Int) * (2 : Int) ^ min (Int.toNat (bits BinOp.and IntKind.i64 a2 (1 : Int))) (64 : Nat)))))) (
 .ret (a0, (bits BinOp.or IntKind.u64 a1 (IntKind.wrap IntKind.u64 ((1 : Int) * (2 : Int) ^ min (Int.toNat (ctzI (bits BinOp.and IntKind.u64 (bits BinOp.xor IntKind.u64 ab0 a1) (IntKind.wrap IntKind.u64 ((6148914691236517205 : Int) * (2 : Int) ^ min (Int.toNat (bits BinOp.and IntKind.i64 a2 (1 : Int))) (64 : Nat)))))) (64 : Nat))), (IntKind.wrap IntKind.i64 (a0 + ctzI (bits BinOp.and IntKind.u64 (bits BinOp.xor IntKind.u64 ab0 a1) (IntKind.wrap IntKind.u64 ((6148914691236517205 : Int) * (2 : Int) ^ min (Int.toNat (bits BinOp.and IntKind.i64 a2 (1 : Int))) (64 : Nat))))), ((0 : Int), ()))))))))) (
 .grd (decide ((0 : Int) <= IntKind.wrap IntKind.i64 (a2 - a0))) (
 .ite (decide (bits BinOp.and IntKind.u64 (Int.fdiv (bits BinOp.xor IntKind.u64 ab0 a1) ((2 : Int) ^ min (Int.toNat (IntKind.wrap IntKind.i64 (a2 - a0))) (64 : Nat))) (1 : Int) = (0 : Int))) (
 .grd (decide ((0 : Int) <= bits BinOp.and IntKind.i64 a2 (1 : Int))) (
 .ite (decide (bits BinOp.and IntKind.u64 (bits BinOp.xor IntKind.u64 ab0 a1) (IntKind.wrap IntKind.u64 ((6148914691236517205 : Int) * (2 : Int) ^ min (Int.toNat (bits BinOp.and IntKind.i64 a2 (1 : Int))) (64 : Nat))) = (0 : Int))) (
 .grd (decide ((0 : Int) <= bits BinOp.xor IntKind.u64 ab0 a1 /\ bits BinOp.xor IntKind.u64 ab0 a1 <= (18446744073709551615 : Int))) (
 .grd (decide ((0 : Int) <= ctzI (bits BinOp.xor IntKind.u64 ab0 a1))) (
 .ret (a0, (bits BinOp.or IntKind.u64 a1 (IntKind.wrap IntKind.u64 ((1 : Int) * (2 : Int) ^ min (Int.toNat (ctzI (bits BinOp.xor IntKind.u64 ab0 a1))) (64 : Nat))), (IntKind.wrap IntKind.i64 (a0 + ctzI (bits BinOp.xor IntKind.u64 ab0 a1)), ((0 : Int), ()))))))) (
 .grd (decide ((0 : Int) <= bits BinOp.and IntKind.u64 (bits BinOp.xor IntKind.u64 ab0 a1) (IntKind.wrap IntKind.u64 ((6148914691236517205 : Int) * (2 : Int) ^ min (Int.toNat (bits BinOp.and IntKind.i64 a2 (1 : Int))) (64 : Nat))) /\ bits BinOp.and IntKind.u64 (bits BinOp.xor IntKind.u64 ab0 a1) (IntKind.wrap IntKind.u64 ((6148914691236517205 : Int) * (2 : Int) ^ min (Int.toNat (bits BinOp.and IntKind.i64 a2 (1 : Int))) (64 : Nat))) <= (18446744073709551615 : Int))) (
 .grd (decide ((0 : Int) <= ctzI (bits BinOp.and IntKind.u64 (bits BinOp.xor IntKind.u64 ab0 a1) (IntKind.wrap IntKind.u64 ((6148914691236517205 : Int) * (2 : Int) ^ min (Int.toNat (bits BinOp.and IntKind.i64 a2 (1 : Int))) (64 : Nat)))))) (
 .ret (a0, (bits BinOp.or IntKind.u64 a1 (IntKind.wrap IntKind.u64 ((1 : Int) * (2 : Int) ^ min (Int.toNat (ctzI (bits BinOp.and IntKind.u64 (bits BinOp.xor IntKind.u64 ab0 a1) (IntKind.wrap IntKind.u64 ((6148914691236517205 : Int) * (2 : Int) ^ min (Int.toNat (bits BinOp.and IntKind.i64 a2 (1 : Int))) (64 : Nat)))))) (64 : Nat))), (IntKind.wrap IntKind.i64 (a0 + ctzI (bits BinOp.and IntKind.u64 (bits BinOp.xor IntKind.u64 ab0 a1) (IntKind.wrap IntKind.u64 ((6148914691236517205 : Int) * (2 : Int) ^ min (Int.toNat (bits BinOp.and IntKind.i64 a2 (1 : Int))) (64 : Nat))))), ((0 : Int), ()))))))))) (
 .grd (decide ((0 : Int) <= IntKind.wrap IntKind.i64 (a2 - a0))) (
 .ret (a0, (bits BinOp.or IntKind.u64 a1 (IntKind.wrap IntKind.u64 ((1 : Int) * (2 : Int) ^ min (Int.toNat (IntKind.wrap IntKind.i64 (a2 - a0))) (64 : Nat))), (IntKind.wrap IntKind.i64 (a0 + IntKind.wrap IntKind.i64 (a2 - a0)), ((0 : Int), ()))))))))))) (
 .ite (decide ((65535 : Int) < a2)) (
 .ite (true) (
 .ret ((0 : Int), ((0 : Int), ((0 : Int), ((1 : Int), ()))))) (
 .ite (decide (IntKind.wrap IntKind.i64 (a2 - a0) < (0 : Int))) (
 .grd (decide ((0 : Int) <= bits BinOp.and IntKind.i64 a2 (1 : Int))) (
 .ite (decide (bits BinOp.and IntKind.u64 (bits BinOp.xor IntKind.u64 ab0 a1) (IntKind.wrap IntKind.u64 ((6148914691236517205 : Int) * (2 : Int) ^ min (Int.toNat (bits BinOp.and IntKind.i64 a2 (1 : Int))) (64 : Nat))) = (0 : Int))) (
 .grd (decide ((0 : Int) <= bits BinOp.xor IntKind.u64 ab0 a1 /\ bits BinOp.xor IntKind.u64 ab0 a1 <= (18446744073709551615 : Int))) (
 .grd (decide ((0 : Int) <= ctzI (bits BinOp.xor IntKind.u64 ab0 a1))) (
 .ret (a0, (bits BinOp.or IntKind.u64 a1 (IntKind.wrap IntKind.u64 ((1 : Int) * (2 : Int) ^ min (Int.toNat (ctzI (bits BinOp.xor IntKind.u64 ab0 a1))) (64 : Nat))), (IntKind.wrap IntKind.i64 (a0 + ctzI (bits BinOp.xor IntKind.u64 ab0 a1)), ((0 : Int), ()))))))) (
 .grd (decide ((0 : Int) <= bits BinOp.and IntKind.u64 (bits BinOp.xor IntKind.u64 ab0 a1) (IntKind.wrap IntKind.u64 ((6148914691236517205 : Int) * (2 : Int) ^ min (Int.toNat (bits BinOp.and IntKind.i64 a2 (1 : Int))) (64 : Nat))) /\ bits BinOp.and IntKind.u64 (bits BinOp.xor IntKind.u64 ab0 a1) (IntKind.wrap IntKind.u64 ((6148914691236517205 : Int) * (2 : Int) ^ min (Int.toNat (bits BinOp.and IntKind.i64 a2 (1 : Int))) (64 : Nat))) <= (18446744073709551615 : Int))) (
 .grd (decide ((0 : Int) <= ctzI (bits BinOp.and IntKind.u64 (bits BinOp.xor IntKind.u64 ab0 a1) (IntKind.wrap IntKind.u64 ((6148914691236517205 : Int) * (2 : Int) ^ min (Int.toNat (bits BinOp.and IntKind.i64 a2 (1 : Int))) (64 : Nat)))))) (
 .ret (a0, (bits BinOp.or IntKind.u64 a1 (IntKind.wrap IntKind.u64 ((1 : Int) * (2 : Int) ^ min (Int.toNat (ctzI (bits BinOp.and IntKind.u64 (bits BinOp.xor IntKind.u64 ab0 a1) (IntKind.wrap IntKind.u64 ((6148914691236517205 : Int) * (2 : Int) ^ min (Int.toNat (bits BinOp.and IntKind.i64 a2 (1 : Int))) (64 : Nat)))))) (64 : Nat))), (IntKind.wrap IntKind.i64 (a0 + ctzI (bits BinOp.and IntKind.u64 (bits BinOp.xor IntKind.u64 ab0 a1) (IntKind.wrap IntKind.u64 ((6148914691236517205 : Int) * (2 : Int) ^ min (Int.toNat (bits BinOp.and IntKind.i64 a2 (1 : Int))) (64 : Nat))))), ((0 : Int), ()))))))))) (
 .ite (decide ((63 : Int) < IntKind.wrap IntKind.i64 (a2 - a0))) (
 .grd (decide ((0 : Int) <= bits BinOp.and IntKind.i64 a2 (1 : Int))) (
 .ite (decide (bits BinOp.and IntKind.u64 (bits BinOp.xor IntKind.u64 ab0 a1) (IntKind.wrap IntKind.u64 ((6148914691236517205 : Int) * (2 : Int) ^ min (Int.toNat (bits BinOp.and IntKind.i64 a2 (1 : Int))) (64 : Nat))) = (0 : Int))) (
 .grd (decide ((0 : Int) <= bits BinOp.xor IntKind.u64 ab0 a1 /\ bits BinOp.xor IntKind.u64 ab0 a1 <= (18446744073709551615 : Int))) (
 .grd (decide ((0 : Int) <= ctzI (bits BinOp.xor IntKind.u64 ab0 a1))) (
 .ret (a0, (bits BinOp.or IntKind.u64 a1 (IntKind.wrap IntKind.u64 ((1 : Int) * (2 : Int) ^ min (Int.toNat (ctzI (bits BinOp.xor IntKind.u64 ab0 a1))) (64 : Nat))), (IntKind.wrap IntKind.i64 (a0 + ctzI (bits BinOp.xor IntKind.u64 ab0 a1)), ((0 : Int), ()))))))) (
 .grd (decide ((0 : Int) <= bits BinOp.and IntKind.u64 (bits BinOp.xor IntKind.u64 ab0 a1) (IntKind.wrap IntKind.u64 ((6148914691236517205 : Int) * (2 : Int) ^ min (Int.toNat (bits BinOp.and IntKind.i64 a2 (1 : Int))) (64 : Nat))) /\ bits BinOp.and IntKind.u64 (bits BinOp.xor IntKind.u64 ab0 a1) (IntKind.wrap IntKind.u64 ((6148914691236517205 : Int) * (2 : Int) ^ min (Int.toNat (bits BinOp.and IntKind.i64 a2 (1 : Int))) (64 : Nat))) <= (18446744073709551615 : Int))) (
 .grd (decide ((0 : Int) <= ctzI (bits BinOp.and IntKind.u64 (bits BinOp.xor IntKind.u64 ab0 a1) (IntKind.wrap IntKind.u64 ((6148914691236517205 : Int) * (2 : Int) ^ min (Int.toNat (bits BinOp.and IntKind.i64 a2 (1 : Int))) (64 : Nat)))))) (
 .ret (a0, (bits BinOp.or IntKind.u64 a1 (IntKind.wrap IntKind.u64 ((1 : Int) * (2 : Int) ^ min (Int.toNat (ctzI (bits BinOp.and IntKind.u64 (bits BinOp.xor IntKind.u64 ab0 a1) (IntKind.wrap IntKind.u64 ((6148914691236517205 : Int) * (2 : Int) ^ min (Int.toNat (bits BinOp.and IntKind.i64 a2 (1 : Int))) (64 : Nat)))))) (64 : Nat))), (IntKind.wrap IntKind.i64 (a0 + ctzI (bits BinOp.and IntKind.u64 (bits BinOp.xor IntKind.u64 ab0 a1) (IntKind.wrap IntKind.u64 ((6148914691236517205 : Int) * (2 : Int) ^ min (Int.toNat (bits BinOp.and IntKind.i64 a2 (1 : Int))) (64 : Nat))))), ((0 : Int), ()))))))))) (
 .grd (decide ((0 : Int) <= IntKind.wrap IntKind.i64 (a2 - a0))) (
 .ite (decide (bits BinOp.and IntKind.u64 (Int.fdiv (bits BinOp.xor IntKind.u64 ab0 a1) ((2 : Int) ^ min (Int.toNat (IntKind.wrap IntKind.i64 (a2 - a0))) (64 : Nat))) (1 : Int) = (0 : Int))) (
 .grd (decide ((0 : Int) <= bits BinOp.and IntKind.i64 a2 (1 : Int))) (
 .ite (decide (bits BinOp.and IntKind.u64 (bits BinOp.xor IntKind.u64 ab0 a1) (IntKind.wrap IntKind.u64 ((6148914691236517205 : Int) * (2 : Int) ^ min (Int.toNat (bits BinOp.and IntKind.i64 a2 (1 : Int))) (64 : Nat))) = (0 : Int))) (
 .grd (decide ((0 : Int) <= bits BinOp.xor IntKind.u64 ab0 a1 /\ bits BinOp.xor IntKind.u64 ab0 a1 <= (18446744073709551615 : Int))) (
 .grd (decide ((0 : Int) <= ctzI (bits BinOp.xor IntKind.u64 ab0 a1))) (
 .ret (a0, (bits BinOp.or IntKind.u64 a1 (IntKind.wrap IntKind.u64 ((1 : Int) * (2 : Int) ^ min (Int.toNat (ctzI (bits BinOp.xor IntKind.u64 ab0 a1))) (64 : Nat))), (IntKind.wrap IntKind.i64 (a0 + ctzI (bits BinOp.xor IntKind.u64 ab0 a1)), ((0 : Int), ()))))))) (
 .grd (decide ((0 : Int) <= bits BinOp.and IntKind.u64 (bits BinOp.xor IntKind.u64 ab0 a1) (IntKind.wrap IntKind.u64 ((6148914691236517205 : Int) * (2 : Int) ^ min (Int.toNat (bits BinOp.and IntKind.i64 a2 (1 : Int))) (64 : Nat))) /\ bits BinOp.and IntKind.u64 (bits BinOp.xor IntKind.u64 ab0 a1) (IntKind.wrap IntKind.u64 ((6148914691236517205 : Int) * (2 : Int) ^ min (Int.toNat (bits BinOp.and IntKind.i64 a2 (1 : Int))) (64 : Nat))) <= (18446744073709551615 : Int))) (
 .grd (decide ((0 : Int) <= ctzI (bits BinOp.and IntKind.u64 (bits BinOp.xor IntKind.u64 ab0 a1) (IntKind.wrap IntKind.u64 ((6148914691236517205 : Int) * (2 : Int) ^ min (Int.toNat (bits BinOp.and IntKind.i64 a2 (1 : Int))) (64 : Nat)))))) (
 .ret (a0, (bits BinOp.or IntKind.u64 a1 (IntKind.wrap IntKind.u64 ((1 : Int) * (2 : Int) ^ min (Int.toNat (ctzI (bits BinOp.and IntKind.u64 (bits BinOp.xor IntKind.u64 ab0 a1) (IntKind.wrap IntKind.u64 ((6148914691236517205 : Int) * (2 : Int) ^ min (Int.toNat (bits BinOp.and IntKind.i64 a2 (1 : Int))) (64 : Nat)))))) (64 : Nat))), (IntKind.wrap IntKind.i64 (a0 + ctzI (bits BinOp.and IntKind.u64 (bits BinOp.xor IntKind.u64 ab0 a1) (IntKind.wrap IntKind.u64 ((6148914691236517205 : Int) * (2 : Int) ^ min (Int.toNat (bits BinOp.and IntKind.i64 a2 (1 : Int))) (64 : Nat))))), ((0 : Int), ()))))))))) (
 .grd (decide ((0 : Int) <= IntKind.wrap IntKind.i64 (a2 - a0))) (
 .ret (a0, (bits BinOp.or IntKind.u64 a1 (IntKind.wrap IntKind.u64 ((1 : Int) * (2 : Int) ^ min (Int.toNat (IntKind.wrap IntKind.i64 (a2 - a0))) (64 : Nat))), (IntKind.wrap IntKind.i64 (a0 + IntKind.wrap IntKind.i64 (a2 - a0)), ((0 : Int), ()))))))))))) (
 .ite (decide (a1 = (18446744073709551615 : Int))) (
 .ite (true) (
 .ret ((0 : Int), ((0 : Int), ((0 : Int), ((6 : Int), ()))))) (
 .ite (decide (IntKind.wrap IntKind.i64 (a2 - a0) < (0 : Int))) (
 .grd (decide ((0 : Int) <= bits BinOp.and IntKind.i64 a2 (1 : Int))) (
 .ite (decide (bits BinOp.and IntKind.u64 (bits BinOp.xor IntKind.u64 ab0 a1) (IntKind.wrap IntKind.u64 ((6148914691236517205 : Int) * (2 : Int) ^ min (Int.toNat (bits BinOp.and IntKind.i64 a2 (1 : Int))) (64 : Nat))) = (0 : Int))) (
 .grd (decide ((0 : Int) <= bits BinOp.xor IntKind.u64 ab0 a1 /\ bits BinOp.xor IntKind.u64 ab0 a1 <= (18446744073709551615 : Int))) (
 .grd (decide ((0 : Int) <= ctzI (bits BinOp.xor IntKind.u64 ab0 a1))) (
 .ret (a0, (bits BinOp.or IntKind.u64 a1 (IntKind.wrap IntKind.u64 ((1 : Int) * (2 : Int) ^ min (Int.toNat (ctzI (bits BinOp.xor IntKind.u64 ab0 a1))) (64 : Nat))), (IntKind.wrap IntKind.i64 (a0 + ctzI (bits BinOp.xor IntKind.u64 ab0 a1)), ((0 : Int), ()))))))) (
 .grd (decide ((0 : Int) <= bits BinOp.and IntKind.u64 (bits BinOp.xor IntKind.u64 ab0 a1) (IntKind.wrap IntKind.u64 ((6148914691236517205 : Int) * (2 : Int) ^ min (Int.toNat (bits BinOp.and IntKind.i64 a2 (1 : Int))) (64 : Nat))) /\ bits BinOp.and IntKind.u64 (bits BinOp.xor IntKind.u64 ab0 a1) (IntKind.wrap IntKind.u64 ((6148914691236517205 : Int) * (2 : Int) ^ min (Int.toNat (bits BinOp.and IntKind.i64 a2 (1 : Int))) (64 : Nat))) <= (18446744073709551615 : Int))) (
 .grd (decide ((0 : Int) <= ctzI (bits BinOp.and IntKind.u64 (bits BinOp.xor IntKind.u64 ab0 a1) (IntKind.wrap IntKind.u64 ((6148914691236517205 : Int) * (2 : Int) ^ min (Int.toNat (bits BinOp.and IntKind.i64 a2 (1 : Int))) (64 : Nat)))))) (
 .ret (a0, (bits BinOp.or IntKind.u64 a1 (IntKind.wrap IntKind.u64 ((1 : Int) * (2 : Int) ^ min (Int.toNat (ctzI (bits BinOp.and IntKind.u64 (bits BinOp.xor IntKind.u64 ab0 a1) (IntKind.wrap IntKind.u64 ((6148914691236517205 : Int) * (2 : Int) ^ min (Int.toNat (bits BinOp.and IntKind.i64 a2 (1 : Int))) (64 : Nat)))))) (64 : Nat))), (IntKind.wrap IntKind.i64 (a0 + ctzI (bits BinOp.and IntKind.u64 (bits BinOp.xor IntKind.u64 ab0 a1) (IntKind.wrap IntKind.u64 ((6148914691236517205 : Int) * (2 : Int) ^ min (Int.toNat (bits BinOp.and IntKind.i64 a2 (1 : Int))) (64 : Nat))))), ((0 : Int), ()))))))))) (
 .ite (decide ((63 : Int) < IntKind.wrap IntKind.i64 (a2 - a0))) (
 .grd (decide ((0 : Int) <= bits BinOp.and IntKind.i64 a2 (1 : Int))) (
 .ite (decide (bits BinOp.and IntKind.u64 (bits BinOp.xor IntKind.u64 ab0 a1) (IntKind.wrap IntKind.u64 ((6148914691236517205 : Int) * (2 : Int) ^ min (Int.toNat (bits BinOp.and IntKind.i64 a2 (1 : Int))) (64 : Nat))) = (0 : Int))) (
 .grd (decide ((0 : Int) <= bits BinOp.xor IntKind.u64 ab0 a1 /\ bits BinOp.xor IntKind.u64 ab0 a1 <= (18446744073709551615 : Int))) (
 .grd (decide ((0 : Int) <= ctzI (bits BinOp.xor IntKind.u64 ab0 a1))) (
 .ret (a0, (bits BinOp.or IntKind.u64 a1 (IntKind.wrap IntKind.u64 ((1 : Int) * (2 : Int) ^ min (Int.toNat (ctzI (bits BinOp.xor IntKind.u64 ab0 a1))) (64 : Nat))), (IntKind.wrap IntKind.i64 (a0 + ctzI (bits BinOp.xor IntKind.u64 ab0 a1)), ((0 : Int), ()))))))) (
 .grd (decide ((0 : Int) <= bits BinOp.and IntKind.u64 (bits BinOp.xor IntKind.u64 ab0 a1) (IntKind.wrap IntKind.u64 ((6148914691236517205 : Int) * (2 : Int) ^ min (Int.toNat (bits BinOp.and IntKind.i64 a2 (1 : Int))) (64 : Nat))) /\ bits BinOp.and IntKind.u64 (bits BinOp.xor IntKind.u64 ab0 a1) (IntKind.wrap IntKind.u64 ((6148914691236517205 : Int) * (2 : Int) ^ min (Int.toNat (bits BinOp.and IntKind.i64 a2 (1 : Int))) (64 : Nat))) <= (18446744073709551615 : Int))) (
 .grd (decide ((0 : Int) <= ctzI (bits BinOp.and IntKind.u64 (bits BinOp.xor IntKind.u64 ab0 a1) (IntKind.wrap IntKind.u64 ((6148914691236517205 : Int) * (2 : Int) ^ min (Int.toNat (bits BinOp.and IntKind.i64 a2 (1 : Int))) (64 : Nat)))))) (
 .ret (a0, (bits BinOp.or IntKind.u64 a1 (IntKind.wrap IntKind.u64 ((1 : Int) * (2 : Int) ^ min (Int.toNat (ctzI (bits BinOp.and IntKind.u64 (bits BinOp.xor IntKind.u64 ab0 a1) (IntKind.wrap IntKind.u64 ((6148914691236517205 : Int) * (2 : Int) ^ min (Int.toNat (bits BinOp.and IntKind.i64 a2 (1 : Int))) (64 : Nat)))))) (64 : Nat))), (IntKind.wrap IntKind.i64 (a0 + ctzI (bits BinOp.and IntKind.u64 (bits BinOp.xor IntKind.u64 ab0 a1) (IntKind.wrap IntKind.u64 ((6148914691236517205 : Int) * (2 : Int) ^ min (Int.toNat (bits BinOp.and IntKind.i64 a2 (1 : Int))) (64 : Nat))))), ((0 : Int), ()))))))))) (
 .grd (decide ((0 : Int) <= IntKind.wrap IntKind.i64 (a2 - a0))) (
 .ite (decide (bits BinOp.and IntKind.u64 (Int.fdiv (bits BinOp.xor IntKind.u64 ab0 a1) ((2 : Int) ^ min (Int.toNat (IntKind.wrap IntKind.i64 (a2 - a0))) (64 : Nat))) (1 : Int) = (0 : Int))) (
 .grd (decide ((0 : Int) <= bits BinOp.and IntKind.i64 a2 (1 : Int))) (
 .ite (decide (bits BinOp.and IntKind.u64 (bits BinOp.xor IntKind.u64 ab0 a1) (IntKind.wrap IntKind.u64 ((6148914691236517205 : Int) * (2 : Int) ^ min (Int.toNat (bits BinOp.and IntKind.i64 a2 (1 : Int))) (64 : Nat))) = (0 : Int))) (
 .grd (decide ((0 : Int) <= bits BinOp.xor IntKind.u64 ab0 a1 /\ bits BinOp.xor IntKind.u64 ab0 a1 <= (18446744073709551615 : Int))) (
 .grd (decide ((0 : Int) <= ctzI (bits BinOp.xor IntKind.u64 ab0 a1))) (
 .ret (a0, (bits BinOp.or IntKind.u64 a1 (IntKind.wrap IntKind.u64 ((1 : Int) * (2 : Int) ^ min (Int.toNat (ctzI (bits BinOp.xor IntKind.u64 ab0 a1))) (64 : Nat))), (IntKind.wrap IntKind.i64 (a0 + ctzI (bits BinOp.xor IntKind.u64 ab0 a1)), ((0 : Int), ()))))))) (
 .grd (decide ((0 : Int) <= bits BinOp.and IntKind.u64 (bits BinOp.xor IntKind.u64 ab0 a1) (IntKind.wrap IntKind.u64 ((6148914691236517205 : Int) * (2 : Int) ^ min (Int.toNat (bits BinOp.and IntKind.i64 a2 (1 : Int))) (64 : Nat))) /\ bits BinOp.and IntKind.u64 (bits BinOp.xor IntKind.u64 ab0 a1) (IntKind.wrap IntKind.u64 ((6148914691236517205 : Int) * (2 : Int) ^ min (Int.toNat (bits BinOp.and IntKind.i64 a2 (1 : Int))) (64 : Nat))) <= (18446744073709551615 : Int))) (
 .grd (decide ((0 : Int) <= ctzI (bits BinOp.and IntKind.u64 (bits BinOp.xor IntKind.u64 ab0 a1) (IntKind.wrap IntKind.u64 ((6148914691236517205 : Int) * (2 : Int) ^ min (Int.toNat (bits BinOp.and IntKind.i64 a2 (1 : Int))) (64 : Nat)))))) (
 .ret (a0, (bits BinOp.or IntKind.u64 a1 (IntKind.wrap IntKind.u64 ((1 : Int) * (2 : Int) ^ min (Int.toNat (ctzI (bits BinOp.and IntKind.u64 (bits BinOp.xor IntKind.u64 ab0 a1) (IntKind.wrap IntKind.u64 ((6148914691236517205 : Int) * (2 : Int) ^ min (Int.toNat (bits BinOp.and IntKind.i64 a2 (1 : Int))) (64 : Nat)))))) (64 : Nat))), (IntKind.wrap IntKind.i64 (a0 + ctzI (bits BinOp.and IntKind.u64 (bits BinOp.xor IntKind.u64 ab0 a1) (IntKind.wrap IntKind.u64 ((6148914691236517205 : Int) * (2 : Int) ^ min (Int.toNat (bits BinOp.and IntKind.i64 a2 (1 : Int))) (64 : Nat))))), ((0 : Int), ()))))))))) (
 .grd (decide ((0 : Int) <= IntKind.wrap IntKind.i64 (a2 - a0))) (
 .ret (a0, (bits BinOp.or IntKind.u64 a1 (IntKind.wrap IntKind.u64 ((1 : Int) * (2 : Int) ^ min (Int.toNat (IntKind.wrap IntKind.i64 (a2 - a0))) (64 : Nat))), (IntKind.wrap IntKind.i64 (a0 + IntKind.wrap IntKind.i64 (a2 - a0)), ((0 : Int), ()))))))))))) (
 .ite (!decide (r0.1 = (0 : Int))) (
 .ret ((0 : Int), ((0 : Int), ((0 : Int), (r0.1, ()))))) (
 .ite (decide (IntKind.wrap IntKind.i64 (a2 - a0) < (0 : Int))) (
 .grd (decide ((0 : Int) <= bits BinOp.and IntKind.i64 a2 (1 : Int))) (
 .ite (decide (bits BinOp.and IntKind.u64 (bits BinOp.xor IntKind.u64 ab0 a1) (IntKind.wrap IntKind.u64 ((6148914691236517205 : Int) * (2 : Int) ^ min (Int.toNat (bits BinOp.and IntKind.i64 a2 (1 : Int))) (64 : Nat))) = (0 : Int))) (
 .grd (decide ((0 : Int) <= bits BinOp.xor IntKind.u64 ab0 a1 /\ bits BinOp.xor IntKind.u64 ab0 a1 <= (18446744073709551615 : Int))) (
 .grd (decide ((0 : Int) <= ctzI (bits BinOp.xor IntKind.u64 ab0 a1))) (
 .ret (a0, (bits BinOp.or IntKind.u64 a1 (IntKind.wrap IntKind.u64 ((1 : Int) * (2 : Int) ^ min (Int.toNat (ctzI (bits BinOp.xor IntKind.u64 ab0 a1))) (64 : Nat))), (IntKind.wrap IntKind.i64 (a0 + ctzI (bits BinOp.xor IntKind.u64 ab0 a1)), ((0 : Int), ()))))))) (
 .grd (decide ((0 : Int) <= bits BinOp.and IntKind.u64 (bits BinOp.xor IntKind.u64 ab0 a1) (IntKind.wrap IntKind.u64 ((6148914691236517205 : Int) * (2 : Int) ^ min (Int.toNat (bits BinOp.and IntKind.i64 a2 (1 : Int))) (64 : Nat))) /\ bits BinOp.and IntKind.u64 (bits BinOp.xor IntKind.u64 ab0 a1) (IntKind.wrap IntKind.u64 ((6148914691236517205 : Int) * (2 : Int) ^ min (Int.toNat (bits BinOp.and IntKind.i64 a2 (1 : Int))) (64 : Nat))) <= (18446744073709551615 : Int))) (
 .grd (decide ((0 : Int) <= ctzI (bits BinOp.and IntKind.u64 (bits BinOp.xor IntKind.u64 ab0 a1) (IntKind.wrap IntKind.u64 ((6148914691236517205 : Int) * (2 : Int) ^ min (Int.toNat (bits BinOp.and IntKind.i64 a2 (1 : Int))) (64 : Nat)))))) (
 .ret (a0, (bits BinOp.or IntKind.u64 a1 (IntKind.wrap IntKind.u64 ((1 : Int) * (2 : Int) ^ min (Int.toNat (ctzI (bits BinOp.and IntKind.u64 (bits BinOp.xor IntKind.u64 ab0 a1) (IntKind.wrap IntKind.u64 ((6148914691236517205 : Int) * (2 : Int) ^ min (Int.toNat (bits BinOp.and IntKind.i64 a2 (1 : Int))) (64 : Nat)))))) (64 : Nat))), (IntKind.wrap IntKind.i64 (a0 + ctzI (bits BinOp.and IntKind.u64 (bits BinOp.xor IntKind.u64 ab0 a1) (IntKind.wrap IntKind.u64 ((6148914691236517205 : Int) * (2 : Int) ^ min (Int.toNat (bits BinOp.and IntKind.i64 a2 (1 : Int))) (64 : Nat))))), ((0 : Int), ()))))))))) (
 .ite (decide ((63 : Int) < IntKind.wrap IntKind.i64 (a2 - a0))) (
 .grd (decide ((0 : Int) <= bits BinOp.and IntKind.i64 a2 (1 : Int))) (
 .ite (decide (bits BinOp.and IntKind.u64 (bits BinOp.xor IntKind.u64 ab0 a1) (IntKind.wrap IntKind.u64 ((6148914691236517205 : Int) * (2 : Int) ^ min (Int.toNat (bits BinOp.and IntKind.i64 a2 (1 : Int))) (64 : Nat))) = (0 : Int))) (
 .grd (decide ((0 : Int) <= bits BinOp.xor IntKind.u64 ab0 a1 /\ bits BinOp.xor IntKind.u64 ab0 a1 <= (18446744073709551615 : Int))) (
 .grd (decide ((0 : Int) <= ctzI (bits BinOp.xor IntKind.u64 ab0 a1))) (
 .ret (a0, (bits BinOp.or IntKind.u64 a1 (IntKind.wrap IntKind.u64 ((1 : Int) * (2 : Int) ^ min (Int.toNat (ctzI (bits BinOp.xor IntKind.u64 ab0 a1))) (64 : Nat))), (IntKind.wrap IntKind.i64 (a0 + ctzI (bits BinOp.xor IntKind.u64 ab0 a1)), ((0 : Int), ()))))))) (
 .grd (decide ((0 : Int) <= bits BinOp.and IntKind.u64 (bits BinOp.xor IntKind.u64 ab0 a1) (IntKind.wrap IntKind.u64 ((6148914691236517205 : Int) * (2 : Int) ^ min (Int.toNat (bits BinOp.and IntKind.i64 a2 (1 : Int))) (64 : Nat))) /\ bits BinOp.and IntKind.u64 (bits BinOp.xor IntKind.u64 ab0 a1) (IntKind.wrap IntKind.u64 ((6148914691236517205 : Int) * (2 : Int) ^ min (Int.toNat (bits BinOp.and IntKind.i64 a2 (1 : Int))) (64 : Nat))) <= (18446744073709551615 : Int))) (
 .grd (decide ((0 : Int) <= ctzI (bits BinOp.and IntKind.u64 (bits BinOp.xor IntKind.u64 ab0 a1) (IntKind.wrap IntKind.u64 ((6148914691236517205 : Int) * (2 : Int) ^ min (Int.toNat (bits BinOp.and IntKind.i64 a2 (1 : Int))) (64 : Nat)))))) (
 .ret (a0, (bits BinOp.or IntKind.u64 a1 (IntKind.wrap IntKind.u64 ((1 : Int) * (2 : Int) ^ min (Int.toNat (ctzI (bits BinOp.and IntKind.u64 (bits BinOp.xor IntKind.u64 ab0 a1) (IntKind.wrap IntKind.u64 ((6148914691236517205 : Int) * (2 : Int) ^ min (Int.toNat (bits BinOp.and IntKind.i64 a2 (1 : Int))) (64 : Nat)))))) (64 : Nat))), (IntKind.wrap IntKind.i64 (a0 + ctzI (bits BinOp.and IntKind.u64 (bits BinOp.xor IntKind.u64 ab0 a1) (IntKind.wrap IntKind.u64 ((6148914691236517205 : Int) * (2 : Int) ^ min (Int.toNat (bits BinOp.and IntKind.i64 a2 (1 : Int))) (64 : Nat))))), ((0 : Int), ()))))))))) (
 .grd (decide ((0 : Int) <= IntKind.wrap IntKind.i64 (a2 - a0))) (
 .ite (decide (bits BinOp.and IntKind.u64 (Int.fdiv (bits BinOp.xor IntKind.u64 ab0 a1) ((2 : Int) ^ min (Int.toNat (IntKind.wrap IntKind.i64 (a2 - a0))) (64 : Nat))) (1 : Int) = (0 : Int))) (
 .grd (decide ((0 : Int) <= bits BinOp.and IntKind.i64 a2 (1 : Int))) (
 .ite (decide (bits BinOp.and IntKind.u64 (bits BinOp.xor IntKind.u64 ab0 a1) (IntKind.wrap IntKind.u64 ((6148914691236517205 : Int) * (2 : Int) ^ min (Int.toNat (bits BinOp.and IntKind.i64 a2 (1 : Int))) (64 : Nat))) = (0 : Int))) (
 .grd (decide ((0 : Int) <= bits BinOp.xor IntKind.u64 ab0 a1 /\ bits BinOp.xor IntKind.u64 ab0 a1 <= (18446744073709551615 : Int))) (
 .grd (decide ((0 : Int) <= ctzI (bits BinOp.xor IntKind.u64 ab0 a1))) (
 .ret (a0, (bits BinOp.or IntKind.u64 a1 (IntKind.wrap IntKind.u64 ((1 : Int) * (2 : Int) ^ min (Int.toNat (ctzI (bits BinOp.xor IntKind.u64 ab0 a1))) (64 : Nat))), (IntKind.wrap IntKind.i64 (a0 + ctzI (bits BinOp.xor IntKind.u64 ab0 a1)), ((0 : Int), ()))))))) (
 .grd (decide ((0 : Int) <= bits BinOp.and IntKind.u64 (bits BinOp.xor IntKind.u64 ab0 a1) (IntKind.wrap IntKind.u64 ((6148914691236517205 : Int) * (2 : Int) ^ min (Int.toNat (bits BinOp.and IntKind.i64 a2 (1 : Int))) (64 : Nat))) /\ bits BinOp.and IntKind.u64 (bits BinOp.xor IntKind.u64 ab0 a1) (IntKind.wrap IntKind.u64 ((6148914691236517205 : Int) * (2 : Int) ^ min (Int.toNat (bits BinOp.and IntKind.i64 a2 (1 : Int))) (64 : Nat))) <= (18446744073709551615 : Int))) (
 .grd (decide ((0 : Int) <= ctzI (bits BinOp.and IntKind.u64 (bits BinOp.xor IntKind.u64 ab0 a1) (IntKind.wrap IntKind.u64 ((6148914691236517205 : Int) * (2 : Int) ^ min (Int.toNat (bits BinOp.and IntKind.i64 a2 (1 : Int))) (64 : Nat)))))) (
 .ret (a0, (bits BinOp.or IntKind.u64 a1 (IntKind.wrap IntKind.u64 ((1 : Int) * (2 : Int) ^ min (Int.toNat (ctzI (bits BinOp.and IntKind.u64 (bits BinOp.xor IntKind.u64 ab0 a1) (IntKind.wrap IntKind.u64 ((6148914691236517205 : Int) * (2 : Int) ^ min (Int.toNat (bits BinOp.and IntKind.i64 a2 (1 : Int))) (64 : Nat)))))) (64 : Nat))), (IntKind.wrap IntKind.i64 (a0 + ctzI (bits BinOp.and IntKind.u64 (bits BinOp.xor IntKind.u64 ab0 a1) (IntKind.wrap IntKind.u64 ((6148914691236517205 : Int) * (2 : Int) ^ min (Int.toNat (bits BinOp.and IntKind.i64 a2 (1 : Int))) (64 : Nat))))), ((0 : Int), ()))))))))) (
 .grd (decide ((0 : Int) <= IntKind.wrap IntKind.i64 (a2 - a0))) (
 .ret (a0, (bits BinOp.or IntKind.u64 a1 (IntKind.wrap IntKind.u64 ((1 : Int) * (2 : Int) ^ min (Int.toNat (IntKind.wrap IntKind.i64 (a2 - a0))) (64 : Nat))), (IntKind.wrap IntKind.i64 (a0 + IntKind.wrap IntKind.i64 (a2 - a0)), ((0 : Int), ())))))))))))))))
theorem portsLet_eq (x : (Int × (Int × (Int × Unit)))) : fnTr Tryd.prog cod [tz64, FS.pf portsCheck] [] 30 94 portsLet_ap portsLet_rp x = portsLet_tree x := by kernel_rfl
def portsLet_fn (x : (Int × (Int × (Int × Unit)))) : Option (Int × (Int × (Int × (Int × Unit)))) := (portsLet_tree x).eval
def portsLet : FS Tryd.prog := ⟨94, portsLet_ap, portsLet_rp, portsLet_fn, fun x r h => fnTr_sound (cod := cod) (Γ := [tz64, FS.pf portsCheck]) (Λs := []) (n := 30) ((congrArg Tr.eval (portsLet_eq x)).trans h)⟩
def portsEnd_ap : List VP1 := [.agg [.i .i64, .i .u64], .one (.i .i64)]
def portsEnd_rp : SP := ⟨1, [(0, .tup [.agg [.i .i64, .i .u64], .one (.i .i64)])], []⟩
def portsEnd_tree : (Int × (Int × (Int × Unit))) -> Tr (Int × (Int × (Int × Unit))) :=
 fun (a0, a1, a2, _) =>
 .opt ((portsCheck_fn (a0, (a1, ())))) (fun r0 =>
 .ite (!decide (r0.1 = (0 : Int))) (
 .ret ((0 : Int), ((0 : Int), (r0.1, ())))) (
 .ite (decide (a2 < a0)) (
 .ret ((0 : Int), ((0 : Int), ((7 : Int), ())))) (
 .ite (decide (IntKind.wrap IntKind.i64 (a0 + (63 : Int)) < a2)) (
 .ret ((0 : Int), ((0 : Int), ((7 : Int), ())))) (
 .grd (decide ((0 : Int) <= IntKind.wrap IntKind.i64 (a2 - a0))) (
 .ite (decide (bits BinOp.and IntKind.u64 (Int.fdiv a1 ((2 : Int) ^ min (Int.toNat (IntKind.wrap IntKind.i64 (a2 - a0))) (64 : Nat))) (1 : Int) = (0 : Int))) (
 .ret ((0 : Int), ((0 : Int), ((7 : Int), ())))) (
 .grd (decide ((0 : Int) <= IntKind.wrap IntKind.i64 (a2 - a0))) (
 .ret (a0, (bits BinOp.xor IntKind.u64 a1 (IntKind.wrap IntKind.u64 ((1 : Int) * (2 : Int) ^ min (Int.toNat (IntKind.wrap IntKind.i64 (a2 - a0))) (64 : Nat))), ((0 : Int), ()))))))))))
theorem portsEnd_eq (x : (Int × (Int × (Int × Unit)))) : fnTr Tryd.prog cod [tz64, FS.pf portsCheck, FS.pf portsLet] [] 30 64 portsEnd_ap portsEnd_rp x = portsEnd_tree x := by kernel_rfl
def portsEnd_fn (x : (Int × (Int × (Int × Unit)))) : Option (Int × (Int × (Int × Unit))) := (portsEnd_tree x).eval
def portsEnd : FS Tryd.prog := ⟨64, portsEnd_ap, portsEnd_rp, portsEnd_fn, fun x r h => fnTr_sound (cod := cod) (Γ := [tz64, FS.pf portsCheck, FS.pf portsLet]) (Λs := []) (n := 30) ((congrArg Tr.eval (portsEnd_eq x)).trans h)⟩
def confCheck_ap : List VP1 := [.agg [.i .u32, .i .i64, .i .i64, .i .i64, .i .i64, .i .i64, .st 10 false, .b]]
def confCheck_rp : SP := ⟨1, [(0, .v (.one (.i .i64)))], []⟩
def confCheck_tree : (Int × (Int × (Int × (Int × (Int × (Int × ((List TRule) × (Bool × Unit)))))))) -> Tr (Int × Unit) :=
 fun (a0, a1, a2, a3, a4, a5, a6, a7, _) =>
 .opt ((portsCheck_fn (a1, ((0 : Int), ())))) (fun r0 =>
 .ite (!decide (r0.1 = (0 : Int))) (
 .ret ((1 : Int), ())) (
 .opt ((portsCheck_fn (a2, ((0 : Int), ())))) (fun r1 =>
 .ite (!decide (r1.1 = (0 : Int))) (
 .ret ((1 : Int), ())) (
 .ite (decide (a3 < (1 : Int))) (
 .ret ((1 : Int), ())) (
 .ite (decide ((1000000 : Int) < a3)) (
 .ret ((1 : Int), ())) (
 .ite (decide (a4 < (0 : Int))) (
 .ret ((1 : Int), ())) (
 .ite (decide ((1000000 : Int) < a4)) (
 .ret ((1 : Int), ())) (
 .ite (decide (a5 < (1 : Int))) (
 .ret ((1 : Int), ())) (
 .ite (decide ((1000000000 : Int) < a5)) (
 .ret ((1 : Int), ())) (
 .opt ((ruCheck_fn (a6, ()))) (fun r2 =>
 .ret (r2.1, ()))))))))))))
noncomputable def gm38 : List (PF Go.Proofs.Tryd.prog) := [clRule, FS.pf ruNet, FS.pf ruHas, FS.pf ruBounds, FS.pf ruRight, FS.pf ruCheck, FS.pf ruMeets, FS.pf ruDecide, tz64, FS.pf portsCheck, FS.pf portsLet, FS.pf portsEnd]
theorem confCheck_eq (x : (Int × (Int × (Int × (Int × (Int × (Int × ((List TRule) × (Bool × Unit))))))))) : fnTr Tryd.prog cod gm38 [] 30 28 confCheck_ap confCheck_rp x = confCheck_tree x := by kernel_rfl
def confCheck_fn (x : (Int × (Int × (Int × (Int × (Int × (Int × ((List TRule) × (Bool × Unit))))))))) : Option (Int × Unit) := (confCheck_tree x).eval
def confCheck : FS Tryd.prog := ⟨28, confCheck_ap, confCheck_rp, confCheck_fn, fun x r h => fnTr_sound (cod := cod) (Γ := gm38) (Λs := []) (n := 30) ((congrArg Tr.eval (confCheck_eq x)).trans h)⟩
theorem clMap_h1 (xs : List (τ 17)) : (bodyTr Go.Proofs.Tryd.prog cod 39 [.one (.nn (.st 17 xs))]).eval = (cloneRes 112 17 40 xs).eval := by kernel_rfl
theorem clMap_h2 : (bodyTr Go.Proofs.Tryd.prog cod 39 [.one .nil]).eval = some (.one .nil, []) := by kernel_rfl
def clMap : PF Go.Proofs.Tryd.prog := clonePF Go.Proofs.Tryd.prog cod 39 112 17 40 clMap_h1 clMap_h2
def delMap_ap : SP := ⟨33, [(0, .v (.one (.own 1000100))), (1, .v (.one (.i .i64))), (2, .v (.one (.i .i64)))], [(1000100, .row 112 17 true true)]⟩
def delMap_rp : SP := ⟨1, [(0, .v (.one (.own 1000100)))], [(1000100, .row 112 17 true true)]⟩
def delMap_tree : (Int × (Int × ((List TMap) × Unit))) -> Tr ((List TMap) × Unit) :=
 fun (a0, a1, a2, _) =>
 .grd (decide ((0 : Int) <= a0 /\ a0 <= a1 /\ a1 <= (↑(List.length a2) : Int) /\ (↑(List.length a2) : Int) <= (↑(List.length a2) : Int))) (
 .ite (decide (a0 = a1)) (
 .grd (decide (List.length a2 = List.length a2)) (
 .ret (a2, ()))) (
 .grd (decide ((0 : Int) <= a0 /\ a0 <= (↑(List.length a2) : Int))) (
 .grd (decide ((0 : Int) <= a1 /\ a1 <= (↑(List.length a2) : Int) /\ (↑(List.length a2) : Int) <= (↑(List.length a2) : Int))) (
 .grd (decide (Int.toNat a1 + Int.toNat ((↑(List.length a2) : Int) - a1) <= List.length a2)) (
 .grd (decide (Int.toNat a0 + List.length (List.take (Int.toNat ((↑(List.length a2) : Int) - a1)) (List.drop (Int.toNat a1) a2)) <= List.length a2)) (
 .grd (decide ((0 : Int) <= (↑(Int.toNat a0 + List.length (List.take (Int.toNat ((↑(List.length a2) : Int) - a1)) (List.drop (Int.toNat a1) a2))) : Int) /\ (↑(Int.toNat a0 + List.length (List.take (Int.toNat ((↑(List.length a2) : Int) - a1)) (List.drop (Int.toNat a1) a2))) : Int) <= (↑(List.length a2) : Int) /\ (↑(List.length a2) : Int) <= (↑(List.length (List.take (Int.toNat a0) a2 ++ List.take (Int.toNat ((↑(List.length a2) : Int) - a1)) (List.drop (Int.toNat a1) a2) ++ List.drop (Int.toNat a0 + List.length (List.take (Int.toNat ((↑(List.length a2) : Int) - a1)) (List.drop (Int.toNat a1) a2))) a2)) : Int))) (
 .grd (decide (Int.toNat (↑(Int.toNat a0 + List.length (List.take (Int.toNat ((↑(List.length a2) : Int) - a1)) (List.drop (Int.toNat a1) a2))) : Int) + Int.toNat ((↑(List.length a2) : Int) - (↑(Int.toNat a0 + List.length (List.take (Int.toNat ((↑(List.length a2) : Int) - a1)) (List.drop (Int.toNat a1) a2))) : Int)) <= List.length (List.take (Int.toNat a0) a2 ++ List.take (Int.toNat ((↑(List.length a2) : Int) - a1)) (List.drop (Int.toNat a1) a2) ++ List.drop (Int.toNat a0 + List.length (List.take (Int.toNat ((↑(List.length a2) : Int) - a1)) (List.drop (Int.toNat a1) a2))) a2))) (
 .grd (decide (Int.toNat a0 + List.length (List.take (Int.toNat ((↑(List.length a2) : Int) - a1)) (List.drop (Int.toNat a1) a2)) = List.length (List.take (Int.toNat a0 + List.length (List.take (Int.toNat ((↑(List.length a2) : Int) - a1)) (List.drop (Int.toNat a1) a2))) (List.take (Int.toNat (↑(Int.toNat a0 + List.length (List.take (Int.toNat ((↑(List.length a2) : Int) - a1)) (List.drop (Int.toNat a1) a2))) : Int)) (List.take (Int.toNat a0) a2 ++ List.take (Int.toNat ((↑(List.length a2) : Int) - a1)) (List.drop (Int.toNat a1) a2) ++ List.drop (Int.toNat a0 + List.length (List.take (Int.toNat ((↑(List.length a2) : Int) - a1)) (List.drop (Int.toNat a1) a2))) a2) ++ List.replicate (Int.toNat ((↑(List.length a2) : Int) - (↑(Int.toNat a0 + List.length (List.take (Int.toNat ((↑(List.length a2) : Int) - a1)) (List.drop (Int.toNat a1) a2))) : Int))) (TMap.mk (0 : Int) (0 : Int) (0 : Int) (0 : Int) (0 : Int)) ++ List.drop (Int.toNat (↑(Int.toNat a0 + List.length (List.take (Int.toNat ((↑(List.length a2) : Int) - a1)) (List.drop (Int.toNat a1) a2))) : Int) + List.length (List.replicate (Int.toNat ((↑(List.length a2) : Int) - (↑(Int.toNat a0 + List.length (List.take (Int.toNat ((↑(List.length a2) : Int) - a1)) (List.drop (Int.toNat a1) a2))) : Int))) (TMap.mk (0 : Int) (0 : Int) (0 : Int) (0 : Int) (0 : Int)))) (List.take (Int.toNat a0) a2 ++ List.take (Int.toNat ((↑(List.length a2) : Int) - a1)) (List.drop (Int.toNat a1) a2) ++ List.drop (Int.toNat a0 + List.length (List.take (Int.toNat ((↑(List.length a2) : Int) - a1)) (List.drop (Int.toNat a1) a2))) a2))))) (
 .ret (List.take (Int.toNat a0 + List.length (List.take (Int.toNat ((↑(List.length a2) : Int) - a1)) (List.drop (Int.toNat a1) a2))) (List.take (Int.toNat (↑(Int.toNat a0 + List.length (List.take (Int.toNat ((↑(List.length a2) : Int) - a1)) (List.drop (Int.toNat a1) a2))) : Int)) (List.take (Int.toNat a0) a2 ++ List.take (Int.toNat ((↑(List.length a2) : Int) - a1)) (List.drop (Int.toNat a1) a2) ++ List.drop (Int.toNat a0 + List.length (List.take (Int.toNat ((↑(List.length a2) : Int) - a1)) (List.drop (Int.toNat a1) a2))) a2) ++ List.replicate (Int.toNat ((↑(List.length a2) : Int) - (↑(Int.toNat a0 + List.length (List.take (Int.toNat ((↑(List.length a2) : Int) - a1)) (List.drop (Int.toNat a1) a2))) : Int))) (TMap.mk (0 : Int) (0 : Int) (0 : Int) (0 : Int) (0 : Int)) ++ List.drop (Int.toNat (↑(Int.toNat a0 + List.length (List.take (Int.toNat ((↑(List.length a2) : Int) - a1)) (List.drop (Int.toNat a1) a2))) : Int) + List.length (List.replicate (Int.toNat ((↑(List.length a2) : Int) - (↑(Int.toNat a0 + List.length (List.take (Int.toNat ((↑(List.length a2) : Int) - a1)) (List.drop (Int.toNat a1) a2))) : Int))) (TMap.mk (0 : Int) (0 : Int) (0 : Int) (0 : Int) (0 : Int)))) (List.take (Int.toNat a0) a2 ++ List.take (Int.toNat ((↑(List.length a2) : Int) - a1)) (List.drop (Int.toNat a1) a2) ++ List.drop (Int.toNat a0 + List.length (List.take (Int.toNat ((↑(List.length a2) : Int) - a1)) (List.drop (Int.toNat a1) a2))) a2)), ()))))))))))
noncomputable def gm39 : List (PF Go.Proofs.Tryd.prog) := [tz64, FS.pf portsCheck, FS.pf portsLet, FS.pf portsEnd, clMap]
theorem delMap_eq (x : (Int × (Int × ((List TMap) × Unit)))) : gsTr Tryd.prog cod gm39 [] 30 93 delMap_ap delMap_rp x = delMap_tree x := by kernel_rfl
def delMap_fn (x : (Int × (Int × ((List TMap) × Unit)))) : Option ((List TMap) × Unit) := (delMap_tree x).eval
def delMap : GS Tryd.prog := ⟨93, [1, 0, 0], delMap_ap, delMap_rp, delMap_fn, fun x r h ys m g he hg => gs_sound (cod := cod) (Γ := gm39) (Λs := []) (n := 30) ((congrArg Tr.eval (delMap_eq x)).trans h) he hg⟩
def natWithin_L83_2 : LS := ⟨2, [(1000200, 1000200), (1000201, 1000201), (1000202, 1000202)], ⟨19, [(8, .v (.one (.i .i64))), (0, .v (.one (.st 17 false))), (1, .v (.one (.clp 84 [(1000200, 0), (1000201, 0), (1000202, 0)]))), (7, .v (.one (.i .i64)))], [(1000200, .cells [.i .i64]), (1000201, .cells [.i .u32]), (1000202, .cells [.i .i64])]⟩, [⟨none, [(1000200, 1000200), (1000201, 1000201), (1000202, 1000202)], ⟨19, [(4, .v (.one (.i .i64)))], [(1000200, .cells [.i .i64]), (1000201, .cells [.i .u32]), (1000202, .cells [.i .i64])]⟩⟩, ⟨some 0, [(1000200, 1000200), (1000201, 1000201), (1000202, 1000202)], ⟨19, [], [(1000200, .cells [.i .i64]), (1000201, .cells [.i .u32]), (1000202, .cells [.i .i64])]⟩⟩], []⟩
def natWithin_step83_2 : (Int × ((List TMap) × (Int × (Int × (Int × (Int × Unit)))))) -> Tr ((Int × ((List TMap) × (Int × (Int × (Int × (Int × Unit)))))) ⊕ ((Int × (Int × (Int × (Int × Unit)))) ⊕ (Int × (Int × (Int × Unit))))) :=
 fun (a0, a1, a2, a3, a4, a5, _) =>
 .ite (decide (a0 < a2)) (
 .grd (decide ((0 : Int) <= a0)) (
 .opt (a1[Int.toNat a0]?) (fun r0 =>
 .ite (decide (r0.proto = a3)) (
 .ite (decide (r0.addr = a4)) (
 .ite (decide (r0.port = a5)) (
 .ret (Sum.inr (Sum.inl (a0, (a3, (a4, (a5, ()))))))) (
 .ret (Sum.inl (IntKind.wrap IntKind.i64 (a0 + (1 : Int)), (a1, (a2, (a3, (a4, (a5, ()))))))))) (
 .ite (false) (
 .ret (Sum.inr (Sum.inl (a0, (a3, (a4, (a5, ()))))))) (
 .ret (Sum.inl (IntKind.wrap IntKind.i64 (a0 + (1 : Int)), (a1, (a2, (a3, (a4, (a5, ())))))))))) (
 .ite (false) (
 .ret (Sum.inr (Sum.inl (a0, (a3, (a4, (a5, ()))))))) (
 .ret (Sum.inl (IntKind.wrap IntKind.i64 (a0 + (1 : Int)), (a1, (a2, (a3, (a4, (a5, ())))))))))))) (
 .ret (Sum.inr (Sum.inr (a3, (a4, (a5, ()))))))
def natWithin_loop83_2 (x : (Int × ((List TMap) × (Int × (Int × (Int × (Int × Unit))))))) : Option ((Int × (Int × (Int × (Int × Unit)))) ⊕ (Int × (Int × (Int × Unit)))) := loopO 830002 (fun x => (natWithin_step83_2 x).eval) 18446744073709551616 x
def natWithin_ap : List VP1 := [.agg [.i .i64, .i .i64, .i .u64, .i .i64, .i .u64, .st 17 false], .one (.i .i64), .one (.i .u32), .one (.i .i64)]
def natWithin_rp : SP := ⟨1, [(0, .v (.one (.i .i64)))], []⟩
def natWithin_tree : (Int × (Int × (Int × (Int × (Int × ((List TMap) × (Int × (Int × (Int × Unit))))))))) -> Tr (Int × Unit) :=
 fun (a0, a1, a2, a3, a4, a5, a6, a7, a8, _) =>
 .opt ((natWithin_loop83_2 ((0 : Int), (a5, ((↑(List.length a5) : Int), (a6, (a7, (a8, ())))))))) (fun r0 =>
 .sum (r0) (fun r1 =>
 .ret (r1.1, ())) (fun r1 =>
 .ret ((-1 : Int), ())))
noncomputable def gm40 : List (PF Go.Proofs.Tryd.prog) := [tz64, FS.pf portsCheck, FS.pf portsLet, FS.pf portsEnd, clMap, GS.pf delMap]
theorem natWithin_eq (x : (Int × (Int × (Int × (Int × (Int × ((List TMap) × (Int × (Int × (Int × Unit)))))))))) : fnTr Tryd.prog cod gm40 [(83, natWithin_L83_2)] 30 63 natWithin_ap natWithin_rp x = natWithin_tree x := by kernel_rfl
def natWithin_fn (x : (Int × (Int × (Int × (Int × (Int × ((List TMap) × (Int × (Int × (Int × Unit)))))))))) : Option (Int × Unit) := (natWithin_tree x).eval
def natWithin : FS Tryd.prog := ⟨63, natWithin_ap, natWithin_rp, natWithin_fn, fun x r h => fnTr_sound (cod := cod) (Γ := gm40) (Λs := [(83, natWithin_L83_2)]) (n := 30) ((congrArg Tr.eval (natWithin_eq x)).trans h)⟩
def natCheck_L41_9 : LS := ⟨9, [(1, 1), (4, 4)], ⟨103, [(33, .v (.one (.i .i64))), (1, .v (.one (.ptr 1 0))), (5, .v (.one (.i .i64))), (4, .v (.one (.ptr 4 0))), (31, .v (.one (.st 17 false))), (32, .v (.one (.i .i64)))], [(1, .cells [.i .i64, .i .i64, .i .u64, .i .i64, .i .u64, .st 17 false]), (4, .cells [.i .i64, .i .i64, .i .u64, .i .i64, .i .u64, .st 17 false])]⟩, [⟨none, [], ⟨103, [(2, .v (.one (.i .i64)))], []⟩⟩, ⟨some 0, [(4, 4)], ⟨103, [(4, .v (.one (.ptr 4 0)))], [(4, .cells [.i .i64, .i .i64, .i .u64, .i .i64, .i .u64, .st 17 false])]⟩⟩], []⟩
abbrev ty8_ : Type := (Int × (Int × ((List TMap) × (Int × (Int × (Int × (Int × (Int × (Int × ((List TMap) × (Int × (Int × (Int × (Int × (Int × ((List TMap) × Unit))))))))))))))))
def natCheck_step41_9 : ty8_ -> Tr (ty8_ ⊕ ((Int × Unit) ⊕ (Int × (Int × (Int × (Int × (Int × ((List TMap) × Unit)))))))) :=
 fun (a0, a1, a2, a3, a4, a5, a6, a7, a8, a9, a10, a11, a12, a13, a14, a15, _) =>
 .ite (decide (a0 < a3)) (
 .grd (decide ((0 : Int) <= a0)) (
 .opt (a2[Int.toNat a0]?) (fun r0 =>
 .ite (decide (r0.proto = (17 : Int))) (
 .ite (false) (
 .ret (Sum.inr (Sum.inl ((4 : Int), ())))) (
 .ite (decide (r0.port < (0 : Int))) (
 .ret (Sum.inr (Sum.inl ((4 : Int), ())))) (
 .ite (decide ((65535 : Int) < r0.port)) (
 .ret (Sum.inr (Sum.inl ((4 : Int), ())))) (
 .ite (decide (r0.at' < a1)) (
 .ret (Sum.inr (Sum.inl ((4 : Int), ())))) (
 .ite (decide ((1099511627776 : Int) < r0.at')) (
 .ret (Sum.inr (Sum.inl ((4 : Int), ())))) (
 .opt ((natWithin_fn (a4, (a5, (a6, (a7, (a8, (a9, (r0.proto, (r0.addr, (r0.port, ()))))))))))) (fun r1 =>
 .ite (!decide (r1.1 = a0)) (
 .ret (Sum.inr (Sum.inl ((4 : Int), ())))) (
 .opt ((portsEnd_fn (a11, (a12, (r0.out, ()))))) (fun r2 =>
 .ite (!decide (r2.2.2.1 = (0 : Int))) (
 .ret (Sum.inr (Sum.inl ((4 : Int), ())))) (
 .ret (Sum.inl (IntKind.wrap IntKind.i64 (a0 + (1 : Int)), (r0.at', (a2, (a3, (a4, (a5, (a6, (a7, (a8, (a9, (a10, (r2.1, (r2.2.1, (a13, (a14, (a15, ()))))))))))))))))))))))))))) (
 .ite (decide (r0.proto = (6 : Int))) (
 .ite (false) (
 .ret (Sum.inr (Sum.inl ((4 : Int), ())))) (
 .ite (decide (r0.port < (0 : Int))) (
 .ret (Sum.inr (Sum.inl ((4 : Int), ())))) (
 .ite (decide ((65535 : Int) < r0.port)) (
 .ret (Sum.inr (Sum.inl ((4 : Int), ())))) (
 .ite (decide (r0.at' < a1)) (
 .ret (Sum.inr (Sum.inl ((4 : Int), ())))) (
 .ite (decide ((1099511627776 : Int) < r0.at')) (
 .ret (Sum.inr (Sum.inl ((4 : Int), ())))) (
 .opt ((natWithin_fn (a4, (a5, (a6, (a7, (a8, (a9, (r0.proto, (r0.addr, (r0.port, ()))))))))))) (fun r1 =>
 .ite (!decide (r1.1 = a0)) (
 .ret (Sum.inr (Sum.inl ((4 : Int), ())))) (
 .opt ((portsEnd_fn (a13, (a14, (r0.out, ()))))) (fun r2 =>
 .ite (!decide (r2.2.2.1 = (0 : Int))) (
 .ret (Sum.inr (Sum.inl ((4 : Int), ())))) (
 .ret (Sum.inl (IntKind.wrap IntKind.i64 (a0 + (1 : Int)), (r0.at', (a2, (a3, (a4, (a5, (a6, (a7, (a8, (a9, (a10, (a11, (a12, (r2.1, (r2.2.1, (a15, ()))))))))))))))))))))))))))) (
 .ite (true) (
 .ret (Sum.inr (Sum.inl ((4 : Int), ())))) (
 .ite (decide (r0.port < (0 : Int))) (
 .ret (Sum.inr (Sum.inl ((4 : Int), ())))) (
 .ite (decide ((65535 : Int) < r0.port)) (
 .ret (Sum.inr (Sum.inl ((4 : Int), ())))) (
 .ite (decide (r0.at' < a1)) (
 .ret (Sum.inr (Sum.inl ((4 : Int), ())))) (
 .ite (decide ((1099511627776 : Int) < r0.at')) (
 .ret (Sum.inr (Sum.inl ((4 : Int), ())))) (
 .opt ((natWithin_fn (a4, (a5, (a6, (a7, (a8, (a9, (r0.proto, (r0.addr, (r0.port, ()))))))))))) (fun r1 =>
 .ite (!decide (r1.1 = a0)) (
 .ret (Sum.inr (Sum.inl ((4 : Int), ())))) (
 .fail 3)))))))))))) (
 .ret (Sum.inr (Sum.inr (a10, (a11, (a12, (a13, (a14, (a15, ())))))))))
def natCheck_loop41_9 (x : ty8_) : Option ((Int × Unit) ⊕ (Int × (Int × (Int × (Int × (Int × ((List TMap) × Unit))))))) := loopO 410009 (fun x => (natCheck_step41_9 x).eval) 18446744073709551616 x
def natCheck_ap : List VP1 := [.agg [.i .i64, .i .i64, .i .u64, .i .i64, .i .u64, .st 17 false]]
def natCheck_rp : SP := ⟨1, [(0, .v (.one (.i .i64)))], []⟩
def natCheck_tree : (Int × (Int × (Int × (Int × (Int × ((List TMap) × Unit)))))) -> Tr (Int × Unit) :=
 fun (a0, a1, a2, a3, a4, a5, _) =>
 .ite (decide (a0 < (1 : Int))) (
 .ret ((1 : Int), ())) (
 .ite (decide ((1000000 : Int) < a0)) (
 .ret ((1 : Int), ())) (
 .opt ((portsCheck_fn (a1, (a2, ())))) (fun r0 =>
 .opt ((portsCheck_fn (a3, (a4, ())))) (fun r1 =>
 .ite (!decide ((if false = true then if r1.1 < r0.1 then r1.1 else r0.1 else if r1.1 > r0.1 then r1.1 else r0.1) = (0 : Int))) (
 .ret (if false = true then if r1.1 < r0.1 then r1.1 else r0.1 else if r1.1 > r0.1 then r1.1 else r0.1, ())) (
 .opt ((natCheck_loop41_9 ((0 : Int), ((0 : Int), (a5, ((↑(List.length a5) : Int), (a0, (a1, (a2, (a3, (a4, (a5, (a0, (a1, (a2, (a3, (a4, (a5, ())))))))))))))))))) (fun r2 =>
 .sum (r2) (fun r3 =>
 .ret (r3.1, ())) (fun r3 =>
 .ite (!decide (r3.2.2.1 = (0 : Int))) (
 .ret ((4 : Int), ())) (
 .ite (!decide (r3.2.2.2.2.1 = (0 : Int))) (
 .ret ((4 : Int), ())) (
 .ret ((0 : Int), ()))))))))))
noncomputable def gm41 : List (PF Go.Proofs.Tryd.prog) := [tz64, FS.pf portsCheck, FS.pf portsLet, FS.pf portsEnd, clMap, GS.pf delMap, FS.pf natWithin]
theorem natCheck_eq (x : (Int × (Int × (Int × (Int × (Int × ((List TMap) × Unit))))))) : fnTr Tryd.prog cod gm41 [(41, natCheck_L41_9)] 30 41 natCheck_ap natCheck_rp x = natCheck_tree x := by kernel_rfl
def natCheck_fn (x : (Int × (Int × (Int × (Int × (Int × ((List TMap) × Unit))))))) : Option (Int × Unit) := (natCheck_tree x).eval
def natCheck : FS Tryd.prog := ⟨41, natCheck_ap, natCheck_rp, natCheck_fn, fun x r h => fnTr_sound (cod := cod) (Γ := gm41) (Λs := [(41, natCheck_L41_9)]) (n := 30) ((congrArg Tr.eval (natCheck_eq x)).trans h)⟩
def natPlace : PF Go.Proofs.Tryd.prog := ⟨62, [1, 0], fun _ _ => none, fun _ _ _ _ _ h _ => by cases h⟩
def natExpire_L92_1 : LS := ⟨1, [(1000000, 1000000), (1000100, 1000100)], ⟨68, [(4, .v (.one (.i .i64))), (0, .v (.one (.ptr 1000000 0))), (1, .v (.one (.i .i64)))], [(1000000, .cells [.i .i64, .i .i64, .i .u64, .i .i64, .i .u64, .own 1000100]), (1000100, .row 112 17 true true)]⟩, [⟨some 0, [(1000000, 1000000), (1000100, 1000100)], ⟨68, [(4, .v (.one (.i .i64))), (0, .v (.one (.ptr 1000000 0)))], [(1000000, .cells [.i .i64, .i .i64, .i .u64, .i .i64, .i .u64, .own 1000100]), (1000100, .row 112 17 true true)]⟩⟩], []⟩
def natExpire_step92_1 : (Int × (Int × (Int × (Int × (Int × (Int × (Int × ((List TMap) × Unit)))))))) -> Tr ((Int × (Int × (Int × (Int × (Int × (Int × (Int × ((List TMap) × Unit)))))))) ⊕ (Int × (Int × (Int × (Int × (Int × (Int × ((List TMap) × Unit)))))))) :=
 fun (a0, a1, a2, a3, a4, a5, a6, a7, _) =>
 .ite (decide (a0 < (↑(List.length a7) : Int))) (
 .grd (decide ((0 : Int) <= a0 /\ a0 < (↑(List.length a7) : Int))) (
 .opt (a7[Int.toNat a0]?) (fun r0 =>
 .ite (decide (a2 < IntKind.wrap IntKind.i64 (a1 - r0.at'))) (
 .grd (decide ((0 : Int) <= a0 /\ a0 < (↑(List.length a7) : Int))) (
 .opt (a7[Int.toNat a0]?) (fun r1 =>
 .ite (decide (r1.proto = (17 : Int))) (
 .grd (decide ((0 : Int) <= a0 /\ a0 < (↑(List.length a7) : Int))) (
 .opt (a7[Int.toNat a0]?) (fun r2 =>
 .opt ((portsEnd_fn (a3, (a4, (r2.out, ()))))) (fun r3 =>
 .grd (decide (List.length a7 = List.length a7)) (
 .ret (Sum.inl (IntKind.wrap IntKind.i64 (a0 + (1 : Int)), (a1, (a2, (r3.1, (r3.2.1, (a5, (a6, (a7, ())))))))))))))) (
 .ite (decide (r1.proto = (6 : Int))) (
 .grd (decide ((0 : Int) <= a0 /\ a0 < (↑(List.length a7) : Int))) (
 .opt (a7[Int.toNat a0]?) (fun r2 =>
 .opt ((portsEnd_fn (a5, (a6, (r2.out, ()))))) (fun r3 =>
 .grd (decide (List.length a7 = List.length a7)) (
 .ret (Sum.inl (IntKind.wrap IntKind.i64 (a0 + (1 : Int)), (a1, (a2, (a3, (a4, (r3.1, (r3.2.1, (a7, ())))))))))))))) (
 .fail 3))))) (
 .grd (decide (List.length a7 = List.length a7)) (
 .ret (Sum.inr (a0, (a2, (a3, (a4, (a5, (a6, (a7, ()))))))))))))) (
 .grd (decide (List.length a7 = List.length a7)) (
 .ret (Sum.inr (a0, (a2, (a3, (a4, (a5, (a6, (a7, ()))))))))))
def natExpire_loop92_1 (x : (Int × (Int × (Int × (Int × (Int × (Int × (Int × ((List TMap) × Unit))))))))) : Option (Int × (Int × (Int × (Int × (Int × (Int × ((List TMap) × Unit))))))) := loopO 920001 (fun x => (natExpire_step92_1 x).eval) 18446744073709551616 x
def natExpire_ap : SP := ⟨68, [(0, .v (.one (.ptr 1000000 0))), (1, .v (.one (.i .i64)))], [(1000000, .cells [.i .i64, .i .i64, .i .u64, .i .i64, .i .u64, .own 1000100]), (1000100, .row 112 17 true true)]⟩
def natExpire_rp : SP := ⟨1, [(0, .tup [])], [(1000000, .cells [.i .i64, .i .i64, .i .u64, .i .i64, .i .u64, .own 1000100]), (1000100, .row 112 17 true true)]⟩
def natExpire_tree : (Int × (Int × (Int × (Int × (Int × (Int × ((List TMap) × Unit))))))) -> Tr (Int × (Int × (Int × (Int × (Int × ((List TMap) × Unit)))))) :=
 fun (a0, a1, a2, a3, a4, a5, a6, _) =>
 .grd (decide (List.length a6 = List.length a6)) (
 .opt ((natExpire_loop92_1 ((0 : Int), (a0, (a1, (a2, (a3, (a4, (a5, (a6, ())))))))))) (fun r0 =>
 .grd (decide (List.length r0.2.2.2.2.2.2.fst = List.length r0.2.2.2.2.2.2.1)) (
 .opt ((delMap_fn ((0 : Int), (r0.1, (r0.2.2.2.2.2.2.1, ()))))) (fun r1 =>
 .grd (decide (List.length r1.fst = List.length r1.1)) (
 .ret (r0.2.1, (r0.2.2.1, (r0.2.2.2.1, (r0.2.2.2.2.1, (r0.2.2.2.2.2.1, (r1.1, ())))))))))))
noncomputable def gm42 : List (PF Go.Proofs.Tryd.prog) := [tz64, FS.pf portsCheck, FS.pf portsLet, FS.pf portsEnd, clMap, GS.pf delMap, FS.pf natWithin, FS.pf natCheck, natPlace]
theorem natExpire_eq (x : (Int × (Int × (Int × (Int × (Int × (Int × ((List TMap) × Unit)))))))) : gsTr Tryd.prog cod gm42 [(92, natExpire_L92_1)] 30 92 natExpire_ap natExpire_rp x = natExpire_tree x := by kernel_rfl
def natExpire_fn (x : (Int × (Int × (Int × (Int × (Int × (Int × ((List TMap) × Unit)))))))) : Option (Int × (Int × (Int × (Int × (Int × ((List TMap) × Unit)))))) := (natExpire_tree x).eval
def natExpire : GS Tryd.prog := ⟨92, [1, 0], natExpire_ap, natExpire_rp, natExpire_fn, fun x r h ys m g he hg => gs_sound (cod := cod) (Γ := gm42) (Λs := [(92, natExpire_L92_1)]) (n := 30) ((congrArg Tr.eval (natExpire_eq x)).trans h) he hg⟩
def natOut_ap : List VP1 := [.agg [.i .i64, .i .i64, .i .u64, .i .i64, .i .u64, .st 17 false], .one (.i .i64), .one (.i .u32), .one (.i .i64), .one (.i .i64)]
def natOut_rp : SP := ⟨1, [(0, .tup [.agg [.i .i64, .i .i64, .i .u64, .i .i64, .i .u64, .st 17 true], .one (.i .i64), .one (.i .i64)])], []⟩
abbrev ty9_ : Type := (Int × (Int × (Int × (Int × (Int × ((List TMap) × (Int × (Int × (Int × (Int × Unit))))))))))
def natOut_tree : ty9_ -> Tr (Int × (Int × (Int × (Int × (Int × ((List TMap) × (Int × (Int × Unit)))))))) :=
 fun (a0, a1, a2, a3, a4, a5, a6, a7, a8, a9, _) =>
 .grd (decide (((0 : Nat) + List.length a5) * (40 : Nat) <= (140737488355328 : Nat) /\ (0 : Nat) + List.length a5 <= (9223372036854775807 : Nat))) (
 .opt ((natCheck_fn (a0, (a1, (a2, (a3, (a4, (a5, ())))))))) (fun r0 =>
 .ite (!decide (r0.1 = (0 : Int))) (
 .ret (a0, (a1, (a2, (a3, (a4, (a5, ((0 : Int), (r0.1, ()))))))))) (
 .ite (decide ((0 : Int) < (↑(List.length a5) : Int))) (
 .grd (decide ((0 : Int) <= IntKind.wrap IntKind.i64 ((↑(List.length a5) : Int) - (1 : Int)) /\ IntKind.wrap IntKind.i64 ((↑(List.length a5) : Int) - (1 : Int)) < (↑(List.length a5) : Int))) (
 .opt (a5[Int.toNat (IntKind.wrap IntKind.i64 ((↑(List.length a5) : Int) - (1 : Int)))]?) (fun r1 =>
 .ite (!decide (a6 = (6 : Int))) (
 .ite (!decide (a6 = (17 : Int))) (
 .ret (a0, (a1, (a2, (a3, (a4, (a5, ((0 : Int), ((7 : Int), ()))))))))) (
 .ite (decide (a8 < (0 : Int))) (
 .ret (a0, (a1, (a2, (a3, (a4, (a5, ((0 : Int), ((1 : Int), ()))))))))) (
 .ite (decide ((65535 : Int) < a8)) (
 .ret (a0, (a1, (a2, (a3, (a4, (a5, ((0 : Int), ((1 : Int), ()))))))))) (
 .ite (decide (a9 < r1.at')) (
 .ret (a0, (a1, (a2, (a3, (a4, (a5, ((0 : Int), ((1 : Int), ()))))))))) (
 .ite (decide ((1099511627776 : Int) < a9)) (
 .ret (a0, (a1, (a2, (a3, (a4, (a5, ((0 : Int), ((1 : Int), ()))))))))) (
 .grd (decide (((0 : Nat) + List.length a5) * (40 : Nat) <= (140737488355328 : Nat) /\ (0 : Nat) + List.length a5 <= (9223372036854775807 : Nat))) (
 .grd (decide (List.length a5 = List.length a5)) (
 .opt ((natExpire_fn (a9, (a0, (a1, (a2, (a3, (a4, (a5, ()))))))))) (fun r2 =>
 .opt ((natWithin_fn (r2.1, (r2.2.1, (r2.2.2.1, (r2.2.2.2.1, (r2.2.2.2.2.1, (r2.2.2.2.2.2.1, (a6, (a7, (a8, ()))))))))))) (fun r3 =>
 .ite (decide ((0 : Int) <= r3.1)) (
 .grd (decide ((0 : Int) <= r3.1 /\ r3.1 < (↑(List.length r2.2.2.2.2.2.fst) : Int))) (
 .opt (r2.2.2.2.2.2.1[Int.toNat r3.1]?) (fun r4 =>
 .grd (decide (List.length r2.2.2.2.2.2.fst = List.length r2.2.2.2.2.2.1)) (
 .opt ((delMap_fn (r3.1, (IntKind.wrap IntKind.i64 (r3.1 + (1 : Int)), (r2.2.2.2.2.2.1, ()))))) (fun r5 =>
 .grd (decide ((List.length r5.1 + List.length [TMap.mk a6 a7 a8 r4.out a9]) * (40 : Nat) <= (140737488355328 : Nat) /\ List.length r5.1 + List.length [TMap.mk a6 a7 a8 r4.out a9] <= (9223372036854775807 : Nat))) (
 .ret (r2.1, (r2.2.1, (r2.2.2.1, (r2.2.2.2.1, (r2.2.2.2.2.1, (r5.1 ++ [TMap.mk a6 a7 a8 r4.out a9], (r4.out, ((0 : Int), ())))))))))))))) (
 .ite (decide (a6 = (17 : Int))) (
 .opt ((portsLet_fn (r2.2.1, (r2.2.2.1, (a8, ()))))) (fun r4 =>
 .ite (!decide (r4.2.2.2.1 = (0 : Int))) (
 .ret (a0, (a1, (a2, (a3, (a4, (a5, ((0 : Int), (r4.2.2.2.1, ()))))))))) (
 .grd (decide ((List.length r2.2.2.2.2.2.1 + List.length [TMap.mk a6 a7 a8 r4.2.2.1 a9]) * (40 : Nat) <= (140737488355328 : Nat) /\ List.length r2.2.2.2.2.2.1 + List.length [TMap.mk a6 a7 a8 r4.2.2.1 a9] <= (9223372036854775807 : Nat))) (
 .ret (r2.1, (r4.1, (r4.2.1, (r2.2.2.2.1, (r2.2.2.2.2.1, (r2.2.2.2.2.2.1 ++ [TMap.mk a6 a7 a8 r4.2.2.1 a9], (r4.2.2.1, ((0 : Int), ())))))))))))) (
 .ite (decide (a6 = (6 : Int))) (
 .opt ((portsLet_fn (r2.2.2.2.1, (r2.2.2.2.2.1, (a8, ()))))) (fun r4 =>
 .ite (!decide (r4.2.2.2.1 = (0 : Int))) (
 .ret (a0, (a1, (a2, (a3, (a4, (a5, ((0 : Int), (r4.2.2.2.1, ()))))))))) (
 .grd (decide ((List.length r2.2.2.2.2.2.1 + List.length [TMap.mk a6 a7 a8 r4.2.2.1 a9]) * (40 : Nat) <= (140737488355328 : Nat) /\ List.length r2.2.2.2.2.2.1 + List.length [TMap.mk a6 a7 a8 r4.2.2.1 a9] <= (9223372036854775807 : Nat))) (
 .ret (r2.1, (r2.2.1, (r2.2.2.1, (r4.1, (r4.2.1, (r2.2.2.2.2.2.1 ++ [TMap.mk a6 a7 a8 r4.2.2.1 a9], (r4.2.2.1, ((0 : Int), ())))))))))))) (
 .fail 3))))))))))))) (
 .ite (decide (a8 < (0 : Int))) (
 .ret (a0, (a1, (a2, (a3, (a4, (a5, ((0 : Int), ((1 : Int), ()))))))))) (
 .ite (decide ((65535 : Int) < a8)) (
 .ret (a0, (a1, (a2, (a3, (a4, (a5, ((0 : Int), ((1 : Int), ()))))))))) (
 .ite (decide (a9 < r1.at')) (
 .ret (a0, (a1, (a2, (a3, (a4, (a5, ((0 : Int), ((1 : Int), ()))))))))) (
 .ite (decide ((1099511627776 : Int) < a9)) (
 .ret (a0, (a1, (a2, (a3, (a4, (a5, ((0 : Int), ((1 : Int), ()))))))))) (
 .grd (decide (((0 : Nat) + List.length a5) * (40 : Nat) <= (140737488355328 : Nat) /\ (0 : Nat) + List.length a5 <= (9223372036854775807 : Nat))) (
 .grd (decide (List.length a5 = List.length a5)) (
 .opt ((natExpire_fn (a9, (a0, (a1, (a2, (a3, (a4, (a5, ()))))))))) (fun r2 =>
 .opt ((natWithin_fn (r2.1, (r2.2.1, (r2.2.2.1, (r2.2.2.2.1, (r2.2.2.2.2.1, (r2.2.2.2.2.2.1, (a6, (a7, (a8, ()))))))))))) (fun r3 =>
 .ite (decide ((0 : Int) <= r3.1)) (
 .grd (decide ((0 : Int) <= r3.1 /\ r3.1 < (↑(List.length r2.2.2.2.2.2.fst) : Int))) (
 .opt (r2.2.2.2.2.2.1[Int.toNat r3.1]?) (fun r4 =>
 .grd (decide (List.length r2.2.2.2.2.2.fst = List.length r2.2.2.2.2.2.1)) (
 .opt ((delMap_fn (r3.1, (IntKind.wrap IntKind.i64 (r3.1 + (1 : Int)), (r2.2.2.2.2.2.1, ()))))) (fun r5 =>
 .grd (decide ((List.length r5.1 + List.length [TMap.mk a6 a7 a8 r4.out a9]) * (40 : Nat) <= (140737488355328 : Nat) /\ List.length r5.1 + List.length [TMap.mk a6 a7 a8 r4.out a9] <= (9223372036854775807 : Nat))) (
 .ret (r2.1, (r2.2.1, (r2.2.2.1, (r2.2.2.2.1, (r2.2.2.2.2.1, (r5.1 ++ [TMap.mk a6 a7 a8 r4.out a9], (r4.out, ((0 : Int), ())))))))))))))) (
 .ite (decide (a6 = (17 : Int))) (
 .opt ((portsLet_fn (r2.2.1, (r2.2.2.1, (a8, ()))))) (fun r4 =>
 .ite (!decide (r4.2.2.2.1 = (0 : Int))) (
 .ret (a0, (a1, (a2, (a3, (a4, (a5, ((0 : Int), (r4.2.2.2.1, ()))))))))) (
 .grd (decide ((List.length r2.2.2.2.2.2.1 + List.length [TMap.mk a6 a7 a8 r4.2.2.1 a9]) * (40 : Nat) <= (140737488355328 : Nat) /\ List.length r2.2.2.2.2.2.1 + List.length [TMap.mk a6 a7 a8 r4.2.2.1 a9] <= (9223372036854775807 : Nat))) (
 .ret (r2.1, (r4.1, (r4.2.1, (r2.2.2.2.1, (r2.2.2.2.2.1, (r2.2.2.2.2.2.1 ++ [TMap.mk a6 a7 a8 r4.2.2.1 a9], (r4.2.2.1, ((0 : Int), ())))))))))))) (
 .ite (decide (a6 = (6 : Int))) (
 .opt ((portsLet_fn (r2.2.2.2.1, (r2.2.2.2.2.1, (a8, ()))))) (fun r4 =>
 .ite (!decide (r4.2.2.2.1 = (0 : Int))) (
 .ret (a0, (a1, (a2, (a3, (a4, (a5, ((0 : Int), (r4.2.2.2.1, ()))))))))) (
 .grd (decide ((List.length r2.2.2.2.2.2.1 + List.length [TMap.mk a6 a7 a8 r4.2.2.1 a9]) * (40 : Nat) <= (140737488355328 : Nat) /\ List.length r2.2.2.2.2.2.1 + List.length [TMap.mk a6 a7 a8 r4.2.2.1 a9] <= (9223372036854775807 : Nat))) (
 .ret (r2.1, (r2.2.1, (r2.2.2.1, (r4.1, (r4.2.1, (r2.2.2.2.2.2.1 ++ [TMap.mk a6 a7 a8 r4.2.2.1 a9], (r4.2.2.1, ((0 : Int), ())))))))))))) (
 .fail 3))))))))))))))) (
 .ite (!decide (a6 = (6 : Int))) (
 .ite (!decide (a6 = (17 : Int))) (
 .ret (a0, (a1, (a2, (a3, (a4, (a5, ((0 : Int), ((7 : Int), ()))))))))) (
 .ite (decide (a8 < (0 : Int))) (
 .ret (a0, (a1, (a2, (a3, (a4, (a5, ((0 : Int), ((1 : Int), ()))))))))) (
 .ite (decide ((65535 : Int) < a8)) (
 .ret (a0, (a1, (a2, (a3, (a4, (a5, ((0 : Int), ((1 : Int), ()))))))))) (
 .ite (decide (a9 < (0 : Int))) (
 .ret (a0, (a1, (a2, (a3, (a4, (a5, ((0 : Int), ((1 : Int), ()))))))))) (
 .ite (decide ((1099511627776 : Int) < a9)) (
 .ret (a0, (a1, (a2, (a3, (a4, (a5, ((0 : Int), ((1 : Int), ()))))))))) (
 .grd (decide (((0 : Nat) + List.length a5) * (40 : Nat) <= (140737488355328 : Nat) /\ (0 : Nat) + List.length a5 <= (9223372036854775807 : Nat))) (
 .grd (decide (List.length a5 = List.length a5)) (
 .opt ((natExpire_fn (a9, (a0, (a1, (a2, (a3, (a4, (a5, ()))))))))) (fun r1 =>
 .opt ((natWithin_fn (r1.1, (r1.2.1, (r1.2.2.1, (r1.2.2.2.1, (r1.2.2.2.2.1, (r1.2.2.2.2.2.1, (a6, (a7, (a8, ()))))))))))) (fun r2 =>
 .ite (decide ((0 : Int) <= r2.1)) (
 .grd (decide ((0 : Int) <= r2.1 /\ r2.1 < (↑(List.length r1.2.2.2.2.2.fst) : Int))) (
 .opt (r1.2.2.2.2.2.1[Int.toNat r2.1]?) (fun r3 =>
 .grd (decide (List.length r1.2.2.2.2.2.fst = List.length r1.2.2.2.2.2.1)) (
 .opt ((delMap_fn (r2.1, (IntKind.wrap IntKind.i64 (r2.1 + (1 : Int)), (r1.2.2.2.2.2.1, ()))))) (fun r4 =>
 .grd (decide ((List.length r4.1 + List.length [TMap.mk a6 a7 a8 r3.out a9]) * (40 : Nat) <= (140737488355328 : Nat) /\ List.length r4.1 + List.length [TMap.mk a6 a7 a8 r3.out a9] <= (9223372036854775807 : Nat))) (
 .ret (r1.1, (r1.2.1, (r1.2.2.1, (r1.2.2.2.1, (r1.2.2.2.2.1, (r4.1 ++ [TMap.mk a6 a7 a8 r3.out a9], (r3.out, ((0 : Int), ())))))))))))))) (
 .ite (decide (a6 = (17 : Int))) (
 .opt ((portsLet_fn (r1.2.1, (r1.2.2.1, (a8, ()))))) (fun r3 =>
 .ite (!decide (r3.2.2.2.1 = (0 : Int))) (
 .ret (a0, (a1, (a2, (a3, (a4, (a5, ((0 : Int), (r3.2.2.2.1, ()))))))))) (
 .grd (decide ((List.length r1.2.2.2.2.2.1 + List.length [TMap.mk a6 a7 a8 r3.2.2.1 a9]) * (40 : Nat) <= (140737488355328 : Nat) /\ List.length r1.2.2.2.2.2.1 + List.length [TMap.mk a6 a7 a8 r3.2.2.1 a9] <= (9223372036854775807 : Nat))) (
 .ret (r1.1, (r3.1, (r3.2.1, (r1.2.2.2.1, (r1.2.2.2.2.1, (r1.2.2.2.2.2.1 ++ [TMap.mk a6 a7 a8 r3.2.2.1 a9], (r3.2.2.1, ((0 : Int), ())))))))))))) (
 .ite (decide (a6 = (6 : Int))) (
 .opt ((portsLet_fn (r1.2.2.2.1, (r1.2.2.2.2.1, (a8, ()))))) (fun r3 =>
 .ite (!decide (r3.2.2.2.1 = (0 : Int))) (
 .ret (a0, (a1, (a2, (a3, (a4, (a5, ((0 : Int), (r3.2.2.2.1, ()))))))))) (
 .grd (decide ((List.length r1.2.2.2.2.2.1 + List.length [TMap.mk a6 a7 a8 r3.2.2.1 a9]) * (40 : Nat) <= (140737488355328 : Nat) /\ List.length r1.2.2.2.2.2.1 + List.length [TMap.mk a6 a7 a8 r3.2.2.1 a9] <= (9223372036854775807 : Nat))) (
 .ret (r1.1, (r1.2.1, (r1.2.2.1, (r3.1, (r3.2.1, (r1.2.2.2.2.2.1 ++ [TMap.mk a6 a7 a8 r3.2.2.1 a9], (r3.2.2.1, ((0 : Int), ())))))))))))) (
 .fail 3))))))))))))) (
 .ite (decide (a8 < (0 : Int))) (
 .ret (a0, (a1, (a2, (a3, (a4, (a5, ((0 : Int), ((1 : Int), ()))))))))) (
 .ite (decide ((65535 : Int) < a8)) (
 .ret (a0, (a1, (a2, (a3, (a4, (a5, ((0 : Int), ((1 : Int), ()))))))))) (
 .ite (decide (a9 < (0 : Int))) (
 .ret (a0, (a1, (a2, (a3, (a4, (a5, ((0 : Int), ((1 : Int), ()))))))))) (
 .ite (decide ((1099511627776 : Int) < a9)) (
 .ret (a0, (a1, (a2, (a3, (a4, (a5, ((0 : Int), ((1 : Int), ()))))))))) (
 .grd (decide (((0 : Nat) + List.length a5) * (40 : Nat) <= (140737488355328 : Nat) /\ (0 : Nat) + List.length a5 <= (9223372036854775807 : Nat))) (
 .grd (decide (List.length a5 = List.length a5)) (
 .opt ((natExpire_fn (a9, (a0, (a1, (a2, (a3, (a4, (a5, ()))))))))) (fun r1 =>
 .opt ((natWithin_fn (r1.1, (r1.2.1, (r1.2.2.1, (r1.2.2.2.1, (r1.2.2.2.2.1, (r1.2.2.2.2.2.1, (a6, (a7, (a8, ()))))))))))) (fun r2 =>
 .ite (decide ((0 : Int) <= r2.1)) (
 .grd (decide ((0 : Int) <= r2.1 /\ r2.1 < (↑(List.length r1.2.2.2.2.2.fst) : Int))) (
 .opt (r1.2.2.2.2.2.1[Int.toNat r2.1]?) (fun r3 =>
 .grd (decide (List.length r1.2.2.2.2.2.fst = List.length r1.2.2.2.2.2.1)) (
 .opt ((delMap_fn (r2.1, (IntKind.wrap IntKind.i64 (r2.1 + (1 : Int)), (r1.2.2.2.2.2.1, ()))))) (fun r4 =>
 .grd (decide ((List.length r4.1 + List.length [TMap.mk a6 a7 a8 r3.out a9]) * (40 : Nat) <= (140737488355328 : Nat) /\ List.length r4.1 + List.length [TMap.mk a6 a7 a8 r3.out a9] <= (9223372036854775807 : Nat))) (
 .ret (r1.1, (r1.2.1, (r1.2.2.1, (r1.2.2.2.1, (r1.2.2.2.2.1, (r4.1 ++ [TMap.mk a6 a7 a8 r3.out a9], (r3.out, ((0 : Int), ())))))))))))))) (
 .ite (decide (a6 = (17 : Int))) (
 .opt ((portsLet_fn (r1.2.1, (r1.2.2.1, (a8, ()))))) (fun r3 =>
 .ite (!decide (r3.2.2.2.1 = (0 : Int))) (
 .ret (a0, (a1, (a2, (a3, (a4, (a5, ((0 : Int), (r3.2.2.2.1, ()))))))))) (
 .grd (decide ((List.length r1.2.2.2.2.2.1 + List.length [TMap.mk a6 a7 a8 r3.2.2.1 a9]) * (40 : Nat) <= (140737488355328 : Nat) /\ List.length r1.2.2.2.2.2.1 + List.length [TMap.mk a6 a7 a8 r3.2.2.1 a9] <= (9223372036854775807 : Nat))) (
 .ret (r1.1, (r3.1, (r3.2.1, (r1.2.2.2.1, (r1.2.2.2.2.1, (r1.2.2.2.2.2.1 ++ [TMap.mk a6 a7 a8 r3.2.2.1 a9], (r3.2.2.1, ((0 : Int), ())))))))))))) (
 .ite (decide (a6 = (6 : Int))) (
 .opt ((portsLet_fn (r1.2.2.2.1, (r1.2.2.2.2.1, (a8, ()))))) (fun r3 =>
 .ite (!decide (r3.2.2.2.1 = (0 : Int))) (
 .ret (a0, (a1, (a2, (a3, (a4, (a5, ((0 : Int), (r3.2.2.2.1, ()))))))))) (
 .grd (decide ((List.length r1.2.2.2.2.2.1 + List.length [TMap.mk a6 a7 a8 r3.2.2.1 a9]) * (40 : Nat) <= (140737488355328 : Nat) /\ List.length r1.2.2.2.2.2.1 + List.length [TMap.mk a6 a7 a8 r3.2.2.1 a9] <= (9223372036854775807 : Nat))) (
 .ret (r1.1, (r1.2.1, (r1.2.2.1, (r3.1, (r3.2.1, (r1.2.2.2.2.2.1 ++ [TMap.mk a6 a7 a8 r3.2.2.1 a9], (r3.2.2.1, ((0 : Int), ())))))))))))) (
 .fail 3))))))))))))))))
noncomputable def gm43 : List (PF Go.Proofs.Tryd.prog) := [tz64, FS.pf portsCheck, FS.pf portsLet, FS.pf portsEnd, clMap, GS.pf delMap, FS.pf natWithin, FS.pf natCheck, natPlace, GS.pf natExpire]
theorem natOut_eq (x : ty9_) : fnTr Tryd.prog cod gm43 [] 30 73 natOut_ap natOut_rp x = natOut_tree x := by kernel_rfl
def natOut_fn (x : ty9_) : Option (Int × (Int × (Int × (Int × (Int × ((List TMap) × (Int × (Int × Unit)))))))) := (natOut_tree x).eval
def natOut : FS Tryd.prog := ⟨73, natOut_ap, natOut_rp, natOut_fn, fun x r h => fnTr_sound (cod := cod) (Γ := gm43) (Λs := []) (n := 30) ((congrArg Tr.eval (natOut_eq x)).trans h)⟩
def natIn_L75_9 : LS := ⟨9, [(4, 4)], ⟨62, [(34, .v (.one (.i .i64))), (4, .v (.one (.ptr 4 0))), (3, .v (.one (.i .i64))), (2, .v (.one (.i .i64))), (1, .v (.one (.i .i64))), (32, .v (.one (.st 17 false))), (33, .v (.one (.i .i64)))], [(4, .cells [.i .i64, .i .i64, .i .u64, .i .i64, .i .u64, .st 17 false])]⟩, [⟨none, [], ⟨62, [(8, .v (.one (.i .u32))), (9, .v (.one (.i .i64))), (10, .v (.one (.i .i64)))], []⟩⟩, ⟨some 0, [], ⟨62, [], []⟩⟩], []⟩
abbrev ty10_ : Type := (Int × (Int × (Int × (Int × ((List TMap) × (Int × (Int × (Int × (Int × (Int × (Int × ((List TMap) × Unit))))))))))))
def natIn_step75_9 : ty10_ -> Tr (ty10_ ⊕ ((Int × (Int × (Int × Unit))) ⊕ Unit)) :=
 fun (a0, a1, a2, a3, a4, a5, a6, a7, a8, a9, a10, a11, _) =>
 .ite (decide (a0 < a5)) (
 .grd (decide ((0 : Int) <= a0)) (
 .opt (a4[Int.toNat a0]?) (fun r0 =>
 .ite (decide (r0.proto = a3)) (
 .ite (decide (r0.out = a2)) (
 .ite (decide (IntKind.wrap IntKind.i64 (a1 - r0.at') <= a6)) (
 .ret (Sum.inr (Sum.inl (r0.addr, (r0.port, ((0 : Int), ())))))) (
 .ret (Sum.inl (IntKind.wrap IntKind.i64 (a0 + (1 : Int)), (a1, (a2, (a3, (a4, (a5, (a6, (a7, (a8, (a9, (a10, (a11, ()))))))))))))))) (
 .ret (Sum.inl (IntKind.wrap IntKind.i64 (a0 + (1 : Int)), (a1, (a2, (a3, (a4, (a5, (a6, (a7, (a8, (a9, (a10, (a11, ()))))))))))))))) (
 .ret (Sum.inl (IntKind.wrap IntKind.i64 (a0 + (1 : Int)), (a1, (a2, (a3, (a4, (a5, (a6, (a7, (a8, (a9, (a10, (a11, ()))))))))))))))))) (
 .ret (Sum.inr (Sum.inr ())))
def natIn_loop75_9 (x : ty10_) : Option ((Int × (Int × (Int × Unit))) ⊕ Unit) := loopO 750009 (fun x => (natIn_step75_9 x).eval) 18446744073709551616 x
def natIn_ap : List VP1 := [.agg [.i .i64, .i .i64, .i .u64, .i .i64, .i .u64, .st 17 false], .one (.i .i64), .one (.i .i64), .one (.i .i64)]
def natIn_rp : SP := ⟨1, [(0, .tup [.one (.i .u32), .one (.i .i64), .one (.i .i64)])], []⟩
def natIn_tree : (Int × (Int × (Int × (Int × (Int × ((List TMap) × (Int × (Int × (Int × Unit))))))))) -> Tr (Int × (Int × (Int × Unit))) :=
 fun (a0, a1, a2, a3, a4, a5, a6, a7, a8, _) =>
 .opt ((natCheck_fn (a0, (a1, (a2, (a3, (a4, (a5, ())))))))) (fun r0 =>
 .ite (!decide (r0.1 = (0 : Int))) (
 .ret ((0 : Int), ((0 : Int), (r0.1, ())))) (
 .ite (!decide (a6 = (6 : Int))) (
 .ite (!decide (a6 = (17 : Int))) (
 .ret ((0 : Int), ((0 : Int), ((7 : Int), ())))) (
 .ite (decide (a8 < (0 : Int))) (
 .ret ((0 : Int), ((0 : Int), ((1 : Int), ())))) (
 .ite (decide ((1099511627776 : Int) < a8)) (
 .ret ((0 : Int), ((0 : Int), ((1 : Int), ())))) (
 .opt ((natIn_loop75_9 ((0 : Int), (a8, (a7, (a6, (a5, ((↑(List.length a5) : Int), (a0, (a1, (a2, (a3, (a4, (a5, ())))))))))))))) (fun r1 =>
 .sum (r1) (fun r2 =>
 .ret (r2.1, (r2.2.1, (r2.2.2.1, ())))) (fun r2 =>
 .ret ((0 : Int), ((0 : Int), ((7 : Int), ()))))))))) (
 .ite (decide (a8 < (0 : Int))) (
 .ret ((0 : Int), ((0 : Int), ((1 : Int), ())))) (
 .ite (decide ((1099511627776 : Int) < a8)) (
 .ret ((0 : Int), ((0 : Int), ((1 : Int), ())))) (
 .opt ((natIn_loop75_9 ((0 : Int), (a8, (a7, (a6, (a5, ((↑(List.length a5) : Int), (a0, (a1, (a2, (a3, (a4, (a5, ())))))))))))))) (fun r1 =>
 .sum (r1) (fun r2 =>
 .ret (r2.1, (r2.2.1, (r2.2.2.1, ())))) (fun r2 =>
 .ret ((0 : Int), ((0 : Int), ((7 : Int), ()))))))))))
noncomputable def gm44 : List (PF Go.Proofs.Tryd.prog) := [tz64, FS.pf portsCheck, FS.pf portsLet, FS.pf portsEnd, clMap, GS.pf delMap, FS.pf natWithin, FS.pf natCheck, natPlace, GS.pf natExpire, FS.pf natOut]
theorem natIn_eq (x : (Int × (Int × (Int × (Int × (Int × ((List TMap) × (Int × (Int × (Int × Unit)))))))))) : fnTr Tryd.prog cod gm44 [(75, natIn_L75_9)] 30 75 natIn_ap natIn_rp x = natIn_tree x := by kernel_rfl
def natIn_fn (x : (Int × (Int × (Int × (Int × (Int × ((List TMap) × (Int × (Int × (Int × Unit)))))))))) : Option (Int × (Int × (Int × Unit))) := (natIn_tree x).eval
def natIn : FS Tryd.prog := ⟨75, natIn_ap, natIn_rp, natIn_fn, fun x r h => fnTr_sound (cod := cod) (Γ := gm44) (Λs := [(75, natIn_L75_9)]) (n := 30) ((congrArg Tr.eval (natIn_eq x)).trans h)⟩
theorem clMeter_h1 (xs : List (τ 19)) : (bodyTr Go.Proofs.Tryd.prog cod 37 [.one (.nn (.st 19 xs))]).eval = (cloneRes 104 19 40 xs).eval := by kernel_rfl
theorem clMeter_h2 : (bodyTr Go.Proofs.Tryd.prog cod 37 [.one .nil]).eval = some (.one .nil, []) := by kernel_rfl
def clMeter : PF Go.Proofs.Tryd.prog := clonePF Go.Proofs.Tryd.prog cod 37 104 19 40 clMeter_h1 clMeter_h2
def delMeter_ap : SP := ⟨33, [(0, .v (.one (.own 1000100))), (1, .v (.one (.i .i64))), (2, .v (.one (.i .i64)))], [(1000100, .row 104 19 true true)]⟩
def delMeter_rp : SP := ⟨1, [(0, .v (.one (.own 1000100)))], [(1000100, .row 104 19 true true)]⟩
def delMeter_tree : (Int × (Int × ((List TMeter) × Unit))) -> Tr ((List TMeter) × Unit) :=
 fun (a0, a1, a2, _) =>
 .grd (decide ((0 : Int) <= a0 /\ a0 <= a1 /\ a1 <= (↑(List.length a2) : Int) /\ (↑(List.length a2) : Int) <= (↑(List.length a2) : Int))) (
 .ite (decide (a0 = a1)) (
 .grd (decide (List.length a2 = List.length a2)) (
 .ret (a2, ()))) (
 .grd (decide ((0 : Int) <= a0 /\ a0 <= (↑(List.length a2) : Int))) (
 .grd (decide ((0 : Int) <= a1 /\ a1 <= (↑(List.length a2) : Int) /\ (↑(List.length a2) : Int) <= (↑(List.length a2) : Int))) (
 .grd (decide (Int.toNat a1 + Int.toNat ((↑(List.length a2) : Int) - a1) <= List.length a2)) (
 .grd (decide (Int.toNat a0 + List.length (List.take (Int.toNat ((↑(List.length a2) : Int) - a1)) (List.drop (Int.toNat a1) a2)) <= List.length a2)) (
 .grd (decide ((0 : Int) <= (↑(Int.toNat a0 + List.length (List.take (Int.toNat ((↑(List.length a2) : Int) - a1)) (List.drop (Int.toNat a1) a2))) : Int) /\ (↑(Int.toNat a0 + List.length (List.take (Int.toNat ((↑(List.length a2) : Int) - a1)) (List.drop (Int.toNat a1) a2))) : Int) <= (↑(List.length a2) : Int) /\ (↑(List.length a2) : Int) <= (↑(List.length (List.take (Int.toNat a0) a2 ++ List.take (Int.toNat ((↑(List.length a2) : Int) - a1)) (List.drop (Int.toNat a1) a2) ++ List.drop (Int.toNat a0 + List.length (List.take (Int.toNat ((↑(List.length a2) : Int) - a1)) (List.drop (Int.toNat a1) a2))) a2)) : Int))) (
 .grd (decide (Int.toNat (↑(Int.toNat a0 + List.length (List.take (Int.toNat ((↑(List.length a2) : Int) - a1)) (List.drop (Int.toNat a1) a2))) : Int) + Int.toNat ((↑(List.length a2) : Int) - (↑(Int.toNat a0 + List.length (List.take (Int.toNat ((↑(List.length a2) : Int) - a1)) (List.drop (Int.toNat a1) a2))) : Int)) <= List.length (List.take (Int.toNat a0) a2 ++ List.take (Int.toNat ((↑(List.length a2) : Int) - a1)) (List.drop (Int.toNat a1) a2) ++ List.drop (Int.toNat a0 + List.length (List.take (Int.toNat ((↑(List.length a2) : Int) - a1)) (List.drop (Int.toNat a1) a2))) a2))) (
 .grd (decide (Int.toNat a0 + List.length (List.take (Int.toNat ((↑(List.length a2) : Int) - a1)) (List.drop (Int.toNat a1) a2)) = List.length (List.take (Int.toNat a0 + List.length (List.take (Int.toNat ((↑(List.length a2) : Int) - a1)) (List.drop (Int.toNat a1) a2))) (List.take (Int.toNat (↑(Int.toNat a0 + List.length (List.take (Int.toNat ((↑(List.length a2) : Int) - a1)) (List.drop (Int.toNat a1) a2))) : Int)) (List.take (Int.toNat a0) a2 ++ List.take (Int.toNat ((↑(List.length a2) : Int) - a1)) (List.drop (Int.toNat a1) a2) ++ List.drop (Int.toNat a0 + List.length (List.take (Int.toNat ((↑(List.length a2) : Int) - a1)) (List.drop (Int.toNat a1) a2))) a2) ++ List.replicate (Int.toNat ((↑(List.length a2) : Int) - (↑(Int.toNat a0 + List.length (List.take (Int.toNat ((↑(List.length a2) : Int) - a1)) (List.drop (Int.toNat a1) a2))) : Int))) (TMeter.mk (0 : Int) (0 : Int) (0 : Int) (0 : Int) (0 : Int)) ++ List.drop (Int.toNat (↑(Int.toNat a0 + List.length (List.take (Int.toNat ((↑(List.length a2) : Int) - a1)) (List.drop (Int.toNat a1) a2))) : Int) + List.length (List.replicate (Int.toNat ((↑(List.length a2) : Int) - (↑(Int.toNat a0 + List.length (List.take (Int.toNat ((↑(List.length a2) : Int) - a1)) (List.drop (Int.toNat a1) a2))) : Int))) (TMeter.mk (0 : Int) (0 : Int) (0 : Int) (0 : Int) (0 : Int)))) (List.take (Int.toNat a0) a2 ++ List.take (Int.toNat ((↑(List.length a2) : Int) - a1)) (List.drop (Int.toNat a1) a2) ++ List.drop (Int.toNat a0 + List.length (List.take (Int.toNat ((↑(List.length a2) : Int) - a1)) (List.drop (Int.toNat a1) a2))) a2))))) (
 .ret (List.take (Int.toNat a0 + List.length (List.take (Int.toNat ((↑(List.length a2) : Int) - a1)) (List.drop (Int.toNat a1) a2))) (List.take (Int.toNat (↑(Int.toNat a0 + List.length (List.take (Int.toNat ((↑(List.length a2) : Int) - a1)) (List.drop (Int.toNat a1) a2))) : Int)) (List.take (Int.toNat a0) a2 ++ List.take (Int.toNat ((↑(List.length a2) : Int) - a1)) (List.drop (Int.toNat a1) a2) ++ List.drop (Int.toNat a0 + List.length (List.take (Int.toNat ((↑(List.length a2) : Int) - a1)) (List.drop (Int.toNat a1) a2))) a2) ++ List.replicate (Int.toNat ((↑(List.length a2) : Int) - (↑(Int.toNat a0 + List.length (List.take (Int.toNat ((↑(List.length a2) : Int) - a1)) (List.drop (Int.toNat a1) a2))) : Int))) (TMeter.mk (0 : Int) (0 : Int) (0 : Int) (0 : Int) (0 : Int)) ++ List.drop (Int.toNat (↑(Int.toNat a0 + List.length (List.take (Int.toNat ((↑(List.length a2) : Int) - a1)) (List.drop (Int.toNat a1) a2))) : Int) + List.length (List.replicate (Int.toNat ((↑(List.length a2) : Int) - (↑(Int.toNat a0 + List.length (List.take (Int.toNat ((↑(List.length a2) : Int) - a1)) (List.drop (Int.toNat a1) a2))) : Int))) (TMeter.mk (0 : Int) (0 : Int) (0 : Int) (0 : Int) (0 : Int)))) (List.take (Int.toNat a0) a2 ++ List.take (Int.toNat ((↑(List.length a2) : Int) - a1)) (List.drop (Int.toNat a1) a2) ++ List.drop (Int.toNat a0 + List.length (List.take (Int.toNat ((↑(List.length a2) : Int) - a1)) (List.drop (Int.toNat a1) a2))) a2)), ()))))))))))
noncomputable def gm45 : List (PF Go.Proofs.Tryd.prog) := [FS.pf sumFold, FS.pf sumAdd, FS.pf sumOf, FS.pf sumRight, FS.pf sumFix, FS.pf dgWord, FS.pf dgLong, FS.pf dgWordAt, FS.pf dgUnder, FS.pf dgPort, FS.pf dgWrite, FS.pf dgRead, FS.pf ipWordAt, FS.pf ipLongAt, FS.pf ipByt, FS.pf ipRefused, FS.pf ipWord, FS.pf ipLong, FS.pf ipWrite, FS.pf ipRead, FS.pf ipHop, FS.pf tcWordAt, FS.pf tcLongAt, FS.pf tcParse, FS.pf tcRead, FS.pf swEnds, FS.pf swWord, GS.pf swPut, GS.pf swChange, FS.pf swSwapped, FS.pf swFrom, FS.pf swTo, clTalk, GS.pf delTalk, FS.pf trTurned, FS.pf trPort, FS.pf trRoad, FS.pf trForm, FS.pf trPlace, FS.pf trCheck, FS.pf trOld, GS.pf dfTalk, GS.pf trOpen, GS.pf trPasses, FS.pf trHear, FS.pf trFind, FS.pf buCheck, FS.pf buLev, FS.pf buTake, clRule, FS.pf ruNet, FS.pf ruHas, FS.pf ruBounds, FS.pf ruRight, FS.pf ruCheck, FS.pf ruMeets, FS.pf ruDecide, tz64, FS.pf portsCheck, FS.pf portsLet, FS.pf portsEnd, FS.pf confCheck, clMap, GS.pf delMap, FS.pf natWithin, FS.pf natCheck, natPlace, GS.pf natExpire, FS.pf natOut, FS.pf natIn, clMeter]
theorem delMeter_eq (x : (Int × (Int × ((List TMeter) × Unit)))) : gsTr Tryd.prog cod gm45 [] 30 68 delMeter_ap delMeter_rp x = delMeter_tree x := by kernel_rfl
def delMeter_fn (x : (Int × (Int × ((List TMeter) × Unit)))) : Option ((List TMeter) × Unit) := (delMeter_tree x).eval
def delMeter : GS Tryd.prog := ⟨68, [1, 0, 0], delMeter_ap, delMeter_rp, delMeter_fn, fun x r h ys m g he hg => gs_sound (cod := cod) (Γ := gm45) (Λs := []) (n := 30) ((congrArg Tr.eval (delMeter_eq x)).trans h) he hg⟩
def hsMeter_L65_2 : LS := ⟨2, [(1000200, 1000200)], ⟨19, [(8, .v (.one (.i .i64))), (0, .v (.one (.st 19 false))), (1, .v (.one (.clp 66 [(1000200, 0)]))), (7, .v (.one (.i .i64)))], [(1000200, .cells [.i .u32])]⟩, [⟨none, [(1000200, 1000200)], ⟨19, [(4, .v (.one (.i .i64)))], [(1000200, .cells [.i .u32])]⟩⟩, ⟨some 0, [(1000200, 1000200)], ⟨19, [], [(1000200, .cells [.i .u32])]⟩⟩], []⟩
def hsMeter_step65_2 : (Int × ((List TMeter) × (Int × (Int × Unit)))) -> Tr ((Int × ((List TMeter) × (Int × (Int × Unit)))) ⊕ ((Int × (Int × Unit)) ⊕ (Int × Unit))) :=
 fun (a0, a1, a2, a3, _) =>
 .ite (decide (a0 < a2)) (
 .grd (decide ((0 : Int) <= a0)) (
 .opt (a1[Int.toNat a0]?) (fun r0 =>
 .ite (decide (r0.addr = a3)) (
 .ret (Sum.inr (Sum.inl (a0, (a3, ()))))) (
 .ret (Sum.inl (IntKind.wrap IntKind.i64 (a0 + (1 : Int)), (a1, (a2, (a3, ()))))))))) (
 .ret (Sum.inr (Sum.inr (a3, ()))))
def hsMeter_loop65_2 (x : (Int × ((List TMeter) × (Int × (Int × Unit))))) : Option ((Int × (Int × Unit)) ⊕ (Int × Unit)) := loopO 650002 (fun x => (hsMeter_step65_2 x).eval) 18446744073709551616 x
def hsMeter_ap : List VP1 := [.agg [.i .u32, .i .i64, .i .i64, .i .i64, .i .i64, .i .i64, .st 10 false, .b, .st 19 false, .st 16 false, .i .i64, .i .i64, .i .u64, .i .i64, .i .u64, .st 17 false], .one (.i .u32)]
def hsMeter_rp : SP := ⟨1, [(0, .v (.one (.i .i64)))], []⟩
abbrev ty11_ : Type := (Int × (Int × (Int × (Int × (Int × (Int × ((List TRule) × (Bool × ((List TMeter) × ((List TTalk) × (Int × (Int × (Int × (Int × (Int × ((List TMap) × (Int × Unit)))))))))))))))))
def hsMeter_tree : ty11_ -> Tr (Int × Unit) :=
 fun (a0, a1, a2, a3, a4, a5, a6, a7, a8, a9, a10, a11, a12, a13, a14, a15, a16, _) =>
 .opt ((hsMeter_loop65_2 ((0 : Int), (a8, ((↑(List.length a8) : Int), (a16, ())))))) (fun r0 =>
 .sum (r0) (fun r1 =>
 .ret (r1.1, ())) (fun r1 =>
 .ret ((-1 : Int), ())))
noncomputable def gm46 : List (PF Go.Proofs.Tryd.prog) := [FS.pf sumFold, FS.pf sumAdd, FS.pf sumOf, FS.pf sumRight, FS.pf sumFix, FS.pf dgWord, FS.pf dgLong, FS.pf dgWordAt, FS.pf dgUnder, FS.pf dgPort, FS.pf dgWrite, FS.pf dgRead, FS.pf ipWordAt, FS.pf ipLongAt, FS.pf ipByt, FS.pf ipRefused, FS.pf ipWord, FS.pf ipLong, FS.pf ipWrite, FS.pf ipRead, FS.pf ipHop, FS.pf tcWordAt, FS.pf tcLongAt, FS.pf tcParse, FS.pf tcRead, FS.pf swEnds, FS.pf swWord, GS.pf swPut, GS.pf swChange, FS.pf swSwapped, FS.pf swFrom, FS.pf swTo, clTalk, GS.pf delTalk, FS.pf trTurned, FS.pf trPort, FS.pf trRoad, FS.pf trForm, FS.pf trPlace, FS.pf trCheck, FS.pf trOld, GS.pf dfTalk, GS.pf trOpen, GS.pf trPasses, FS.pf trHear, FS.pf trFind, FS.pf buCheck, FS.pf buLev, FS.pf buTake, clRule, FS.pf ruNet, FS.pf ruHas, FS.pf ruBounds, FS.pf ruRight, FS.pf ruCheck, FS.pf ruMeets, FS.pf ruDecide, tz64, FS.pf portsCheck, FS.pf portsLet, FS.pf portsEnd, FS.pf confCheck, clMap, GS.pf delMap, FS.pf natWithin, FS.pf natCheck, natPlace, GS.pf natExpire, FS.pf natOut, FS.pf natIn, clMeter, GS.pf delMeter]
theorem hsMeter_eq (x : ty11_) : fnTr Tryd.prog cod gm46 [(65, hsMeter_L65_2)] 30 43 hsMeter_ap hsMeter_rp x = hsMeter_tree x := by kernel_rfl
def hsMeter_fn (x : ty11_) : Option (Int × Unit) := (hsMeter_tree x).eval
def hsMeter : FS Tryd.prog := ⟨43, hsMeter_ap, hsMeter_rp, hsMeter_fn, fun x r h => fnTr_sound (cod := cod) (Γ := gm46) (Λs := [(65, hsMeter_L65_2)]) (n := 30) ((congrArg Tr.eval (hsMeter_eq x)).trans h)⟩
def hsLast_ap : List VP1 := [.agg [.i .u32, .i .i64, .i .i64, .i .i64, .i .i64, .i .i64, .st 10 false, .b, .st 19 false, .st 16 false, .i .i64, .i .i64, .i .u64, .i .i64, .i .u64, .st 17 false]]
def hsLast_rp : SP := ⟨1, [(0, .v (.one (.i .i64)))], []⟩
abbrev ty12_ : Type := (Int × (Int × (Int × (Int × (Int × (Int × ((List TRule) × (Bool × ((List TMeter) × ((List TTalk) × (Int × (Int × (Int × (Int × (Int × ((List TMap) × Unit))))))))))))))))
def hsLast_tree : ty12_ -> Tr (Int × Unit) :=
 fun (a0, a1, a2, a3, a4, a5, a6, a7, a8, a9, a10, a11, a12, a13, a14, a15, _) =>
 .ite (decide ((0 : Int) < (↑(List.length a8) : Int))) (
 .grd (decide ((0 : Int) <= IntKind.wrap IntKind.i64 ((↑(List.length a8) : Int) - (1 : Int)))) (
 .opt (a8[Int.toNat (IntKind.wrap IntKind.i64 ((↑(List.length a8) : Int) - (1 : Int)))]?) (fun r0 =>
 .ite (decide ((0 : Int) < (↑(List.length a9) : Int))) (
 .grd (decide ((0 : Int) <= IntKind.wrap IntKind.i64 ((↑(List.length a9) : Int) - (1 : Int)))) (
 .opt (a9[Int.toNat (IntKind.wrap IntKind.i64 ((↑(List.length a9) : Int) - (1 : Int)))]?) (fun r1 =>
 .ite (decide ((0 : Int) < (↑(List.length a15) : Int))) (
 .grd (decide ((0 : Int) <= IntKind.wrap IntKind.i64 ((↑(List.length a15) : Int) - (1 : Int)))) (
 .opt (a15[Int.toNat (IntKind.wrap IntKind.i64 ((↑(List.length a15) : Int) - (1 : Int)))]?) (fun r2 =>
 .ret (if false = true then if r2.at' < if false = true then if r1.at' < r0.at' then r1.at' else r0.at' else if r1.at' > r0.at' then r1.at' else r0.at' then r2.at' else if false = true then if r1.at' < r0.at' then r1.at' else r0.at' else if r1.at' > r0.at' then r1.at' else r0.at' else if r2.at' > if false = true then if r1.at' < r0.at' then r1.at' else r0.at' else if r1.at' > r0.at' then r1.at' else r0.at' then r2.at' else if false = true then if r1.at' < r0.at' then r1.at' else r0.at' else if r1.at' > r0.at' then r1.at' else r0.at', ())))) (
 .ret (if false = true then if r1.at' < r0.at' then r1.at' else r0.at' else if r1.at' > r0.at' then r1.at' else r0.at', ()))))) (
 .ite (decide ((0 : Int) < (↑(List.length a15) : Int))) (
 .grd (decide ((0 : Int) <= IntKind.wrap IntKind.i64 ((↑(List.length a15) : Int) - (1 : Int)))) (
 .opt (a15[Int.toNat (IntKind.wrap IntKind.i64 ((↑(List.length a15) : Int) - (1 : Int)))]?) (fun r1 =>
 .ret (if false = true then if r1.at' < r0.at' then r1.at' else r0.at' else if r1.at' > r0.at' then r1.at' else r0.at', ())))) (
 .ret (r0.at', ())))))) (
 .ite (decide ((0 : Int) < (↑(List.length a9) : Int))) (
 .grd (decide ((0 : Int) <= IntKind.wrap IntKind.i64 ((↑(List.length a9) : Int) - (1 : Int)))) (
 .opt (a9[Int.toNat (IntKind.wrap IntKind.i64 ((↑(List.length a9) : Int) - (1 : Int)))]?) (fun r0 =>
 .ite (decide ((0 : Int) < (↑(List.length a15) : Int))) (
 .grd (decide ((0 : Int) <= IntKind.wrap IntKind.i64 ((↑(List.length a15) : Int) - (1 : Int)))) (
 .opt (a15[Int.toNat (IntKind.wrap IntKind.i64 ((↑(List.length a15) : Int) - (1 : Int)))]?) (fun r1 =>
 .ret (if false = true then if r1.at' < if false = true then if r0.at' < (0 : Int) then r0.at' else (0 : Int) else if r0.at' > (0 : Int) then r0.at' else (0 : Int) then r1.at' else if false = true then if r0.at' < (0 : Int) then r0.at' else (0 : Int) else if r0.at' > (0 : Int) then r0.at' else (0 : Int) else if r1.at' > if false = true then if r0.at' < (0 : Int) then r0.at' else (0 : Int) else if r0.at' > (0 : Int) then r0.at' else (0 : Int) then r1.at' else if false = true then if r0.at' < (0 : Int) then r0.at' else (0 : Int) else if r0.at' > (0 : Int) then r0.at' else (0 : Int), ())))) (
 .ret (if false = true then if r0.at' < (0 : Int) then r0.at' else (0 : Int) else if r0.at' > (0 : Int) then r0.at' else (0 : Int), ()))))) (
 .ite (decide ((0 : Int) < (↑(List.length a15) : Int))) (
 .grd (decide ((0 : Int) <= IntKind.wrap IntKind.i64 ((↑(List.length a15) : Int) - (1 : Int)))) (
 .opt (a15[Int.toNat (IntKind.wrap IntKind.i64 ((↑(List.length a15) : Int) - (1 : Int)))]?) (fun r0 =>
 .ret (if false = true then if r0.at' < (0 : Int) then r0.at' else (0 : Int) else if r0.at' > (0 : Int) then r0.at' else (0 : Int), ())))) (
 .ret ((0 : Int), ()))))
noncomputable def gm47 : List (PF Go.Proofs.Tryd.prog) := [FS.pf sumFold, FS.pf sumAdd, FS.pf sumOf, FS.pf sumRight, FS.pf sumFix, FS.pf dgWord, FS.pf dgLong, FS.pf dgWordAt, FS.pf dgUnder, FS.pf dgPort, FS.pf dgWrite, FS.pf dgRead, FS.pf ipWordAt, FS.pf ipLongAt, FS.pf ipByt, FS.pf ipRefused, FS.pf ipWord, FS.pf ipLong, FS.pf ipWrite, FS.pf ipRead, FS.pf ipHop, FS.pf tcWordAt, FS.pf tcLongAt, FS.pf tcParse, FS.pf tcRead, FS.pf swEnds, FS.pf swWord, GS.pf swPut, GS.pf swChange, FS.pf swSwapped, FS.pf swFrom, FS.pf swTo, clTalk, GS.pf delTalk, FS.pf trTurned, FS.pf trPort, FS.pf trRoad, FS.pf trForm, FS.pf trPlace, FS.pf trCheck, FS.pf trOld, GS.pf dfTalk, GS.pf trOpen, GS.pf trPasses, FS.pf trHear, FS.pf trFind, FS.pf buCheck, FS.pf buLev, FS.pf buTake, clRule, FS.pf ruNet, FS.pf ruHas, FS.pf ruBounds, FS.pf ruRight, FS.pf ruCheck, FS.pf ruMeets, FS.pf ruDecide, tz64, FS.pf portsCheck, FS.pf portsLet, FS.pf portsEnd, FS.pf confCheck, clMap, GS.pf delMap, FS.pf natWithin, FS.pf natCheck, natPlace, GS.pf natExpire, FS.pf natOut, FS.pf natIn, clMeter, GS.pf delMeter, FS.pf hsMeter]
theorem hsLast_eq (x : ty12_) : fnTr Tryd.prog cod gm47 [] 30 22 hsLast_ap hsLast_rp x = hsLast_tree x := by kernel_rfl
def hsLast_fn (x : ty12_) : Option (Int × Unit) := (hsLast_tree x).eval
def hsLast : FS Tryd.prog := ⟨22, hsLast_ap, hsLast_rp, hsLast_fn, fun x r h => fnTr_sound (cod := cod) (Γ := gm47) (Λs := []) (n := 30) ((congrArg Tr.eval (hsLast_eq x)).trans h)⟩
def hsCheck_L21_12 : LS := ⟨12, [(1, 1), (5, 5)], ⟨103, [(62, .v (.one (.i .i64))), (1, .v (.one (.ptr 1 0))), (7, .v (.one (.i .i64))), (5, .v (.one (.ptr 5 0))), (60, .v (.one (.st 19 false))), (61, .v (.one (.i .i64)))], [(1, .cells [.i .u32, .i .i64, .i .i64, .i .i64, .i .i64, .i .i64, .st 10 false, .b, .st 19 false, .st 16 false, .i .i64, .i .i64, .i .u64, .i .i64, .i .u64, .st 17 false]), (5, .cells [.i .u32, .i .i64, .i .i64, .i .i64, .i .i64, .i .i64, .st 10 false, .b])]⟩, [⟨none, [], ⟨103, [(2, .v (.one (.i .i64)))], []⟩⟩, ⟨some 2, [], ⟨103, [], []⟩⟩], []⟩
abbrev ty13_ : Type := (Int × (Int × ((List TMeter) × (Int × (Int × (Int × (Int × (Int × (Int × (Int × ((List TRule) × (Bool × ((List TMeter) × ((List TTalk) × (Int × (Int × (Int × (Int × (Int × ((List TMap) × (Int × (Int × (Int × (Int × (Int × (Int × ((List TRule) × (Bool × Unit))))))))))))))))))))))))))))
def hsCheck_step21_12 : ty13_ -> Tr (ty13_ ⊕ ((Int × Unit) ⊕ Unit)) :=
 fun (a0, a1, a2, a3, a4, a5, a6, a7, a8, a9, a10, a11, a12, a13, a14, a15, a16, a17, a18, a19, a20, a21, a22, a23, a24, a25, a26, a27, _) =>
 .ite (decide (a0 < a3)) (
 .grd (decide ((0 : Int) <= a0)) (
 .opt (a2[Int.toNat a0]?) (fun r0 =>
 .opt ((buCheck_fn (r0.rate, (r0.most, (r0.has, (r0.at', ())))))) (fun r1 =>
 .ite (!decide (r1.1 = (0 : Int))) (
 .ret (Sum.inr (Sum.inl ((4 : Int), ())))) (
 .ite (!decide (r0.rate = a24)) (
 .ret (Sum.inr (Sum.inl ((4 : Int), ())))) (
 .ite (!decide (r0.most = a25)) (
 .ret (Sum.inr (Sum.inl ((4 : Int), ())))) (
 .ite (decide (r0.at' < a1)) (
 .ret (Sum.inr (Sum.inl ((4 : Int), ())))) (
 .opt ((hsMeter_fn (a4, (a5, (a6, (a7, (a8, (a9, (a10, (a11, (a12, (a13, (a14, (a15, (a16, (a17, (a18, (a19, (r0.addr, ()))))))))))))))))))) (fun r2 =>
 .ite (!decide (r2.1 = a0)) (
 .ret (Sum.inr (Sum.inl ((4 : Int), ())))) (
 .ret (Sum.inl (IntKind.wrap IntKind.i64 (a0 + (1 : Int)), (r0.at', (a2, (a3, (a4, (a5, (a6, (a7, (a8, (a9, (a10, (a11, (a12, (a13, (a14, (a15, (a16, (a17, (a18, (a19, (a20, (a21, (a22, (a23, (a24, (a25, (a26, (a27, ()))))))))))))))))))))))))))))))))))))))) (
 .ret (Sum.inr (Sum.inr ())))
def hsCheck_loop21_12 (x : ty13_) : Option ((Int × Unit) ⊕ Unit) := loopO 210012 (fun x => (hsCheck_step21_12 x).eval) 18446744073709551616 x
def hsCheck_L21_2 : LS := ⟨2, [(1, 1)], ⟨103, [(21, .v (.one (.i .i64))), (20, .v (.agg [.i .i64, .i .i64, .i .i64])), (1, .v (.one (.ptr 1 0)))], [(1, .cells [.i .u32, .i .i64, .i .i64, .i .i64, .i .i64, .i .i64, .st 10 false, .b, .st 19 false, .st 16 false, .i .i64, .i .i64, .i .u64, .i .i64, .i .u64, .st 17 false])]⟩, [⟨none, [], ⟨103, [(2, .v (.one (.i .i64)))], []⟩⟩, ⟨some 0, [(1, 1)], ⟨103, [(1, .v (.one (.ptr 1 0)))], [(1, .cells [.i .u32, .i .i64, .i .i64, .i .i64, .i .i64, .i .i64, .st 10 false, .b, .st 19 false, .st 16 false, .i .i64, .i .i64, .i .u64, .i .i64, .i .u64, .st 17 false])]⟩⟩], []⟩
abbrev ty14_ : Type := (Int × (Int × (Int × (Int × (Int × (Int × (Int × (Int × (Int × (Int × ((List TRule) × (Bool × ((List TMeter) × ((List TTalk) × (Int × (Int × (Int × (Int × (Int × ((List TMap) × Unit))))))))))))))))))))
def hsCheck_step21_2 : ty14_ -> Tr (ty14_ ⊕ ((Int × Unit) ⊕ ty12_)) :=
 fun (a0, a1, a2, a3, a4, a5, a6, a7, a8, a9, a10, a11, a12, a13, a14, a15, a16, a17, a18, a19, _) =>
 .ite (decide (a0 < (3 : Int))) (
 .grd (decide ((0 : Int) <= a0)) (
 .opt ([a1, a2, a3][Int.toNat a0]?) (fun r0 =>
 .ite (!decide (r0 = (0 : Int))) (
 .ret (Sum.inr (Sum.inl (r0, ())))) (
 .ret (Sum.inl (IntKind.wrap IntKind.i64 (a0 + (1 : Int)), (a1, (a2, (a3, (a4, (a5, (a6, (a7, (a8, (a9, (a10, (a11, (a12, (a13, (a14, (a15, (a16, (a17, (a18, (a19, ()))))))))))))))))))))))))) (
 .ret (Sum.inr (Sum.inr (a4, (a5, (a6, (a7, (a8, (a9, (a10, (a11, (a12, (a13, (a14, (a15, (a16, (a17, (a18, (a19, ())))))))))))))))))))
def hsCheck_loop21_2 (x : ty14_) : Option ((Int × Unit) ⊕ ty12_) := loopO 210002 (fun x => (hsCheck_step21_2 x).eval) 18446744073709551616 x
def hsCheck_ap : List VP1 := [.agg [.i .u32, .i .i64, .i .i64, .i .i64, .i .i64, .i .i64, .st 10 false, .b, .st 19 false, .st 16 false, .i .i64, .i .i64, .i .u64, .i .i64, .i .u64, .st 17 false]]
def hsCheck_rp : SP := ⟨1, [(0, .v (.one (.i .i64)))], []⟩
def hsCheck_tree : ty12_ -> Tr (Int × Unit) :=
 fun (a0, a1, a2, a3, a4, a5, a6, a7, a8, a9, a10, a11, a12, a13, a14, a15, _) =>
 .opt ((confCheck_fn (a0, (a1, (a2, (a3, (a4, (a5, (a6, (a7, ())))))))))) (fun r0 =>
 .opt ((trCheck_fn (a9, ()))) (fun r1 =>
 .opt ((natCheck_fn (a10, (a11, (a12, (a13, (a14, (a15, ())))))))) (fun r2 =>
 .opt ((hsCheck_loop21_2 ((0 : Int), (r0.1, (r1.1, (r2.1, (a0, (a1, (a2, (a3, (a4, (a5, (a6, (a7, (a8, (a9, (a10, (a11, (a12, (a13, (a14, (a15, ())))))))))))))))))))))) (fun r3 =>
 .sum (r3) (fun r4 =>
 .ret (r4.1, ())) (fun r4 =>
 .ite (decide ((64 : Int) < (↑(List.length r4.2.2.2.2.2.2.2.2.1) : Int))) (
 .ret ((4 : Int), ())) (
 .ite (!decide (r4.2.2.2.2.2.2.2.2.2.2.1 = r4.2.2.2.1)) (
 .ret ((4 : Int), ())) (
 .ite (!decide (r4.2.2.2.2.2.2.2.2.2.2.2.1 = r4.2.1)) (
 .ret ((4 : Int), ())) (
 .ite (!decide (r4.2.2.2.2.2.2.2.2.2.2.2.2.2.1 = r4.2.2.1)) (
 .ret ((4 : Int), ())) (
 .opt ((hsCheck_loop21_12 ((0 : Int), ((0 : Int), (r4.2.2.2.2.2.2.2.2.1, ((↑(List.length r4.2.2.2.2.2.2.2.2.1) : Int), (r4.1, (r4.2.1, (r4.2.2.1, (r4.2.2.2.1, (r4.2.2.2.2.1, (r4.2.2.2.2.2.1, (r4.2.2.2.2.2.2.1, (r4.2.2.2.2.2.2.2.1, (r4.2.2.2.2.2.2.2.2.1, (r4.2.2.2.2.2.2.2.2.2.1, (r4.2.2.2.2.2.2.2.2.2.2.1, (r4.2.2.2.2.2.2.2.2.2.2.2.1, (r4.2.2.2.2.2.2.2.2.2.2.2.2.1, (r4.2.2.2.2.2.2.2.2.2.2.2.2.2.1, (r4.2.2.2.2.2.2.2.2.2.2.2.2.2.2.1, (r4.2.2.2.2.2.2.2.2.2.2.2.2.2.2.2.1, (r4.1, (r4.2.1, (r4.2.2.1, (r4.2.2.2.1, (r4.2.2.2.2.1, (r4.2.2.2.2.2.1, (r4.2.2.2.2.2.2.1, (r4.2.2.2.2.2.2.2.1, ())))))))))))))))))))))))))))))) (fun r5 =>
 .sum (r5) (fun r6 =>
 .ret (r6.1, ())) (fun r6 =>
 .ret ((0 : Int), ()))))))))))))
noncomputable def gm48 : List (PF Go.Proofs.Tryd.prog) := [FS.pf sumFold, FS.pf sumAdd, FS.pf sumOf, FS.pf sumRight, FS.pf sumFix, FS.pf dgWord, FS.pf dgLong, FS.pf dgWordAt, FS.pf dgUnder, FS.pf dgPort, FS.pf dgWrite, FS.pf dgRead, FS.pf ipWordAt, FS.pf ipLongAt, FS.pf ipByt, FS.pf ipRefused, FS.pf ipWord, FS.pf ipLong, FS.pf ipWrite, FS.pf ipRead, FS.pf ipHop, FS.pf tcWordAt, FS.pf tcLongAt, FS.pf tcParse, FS.pf tcRead, FS.pf swEnds, FS.pf swWord, GS.pf swPut, GS.pf swChange, FS.pf swSwapped, FS.pf swFrom, FS.pf swTo, clTalk, GS.pf delTalk, FS.pf trTurned, FS.pf trPort, FS.pf trRoad, FS.pf trForm, FS.pf trPlace, FS.pf trCheck, FS.pf trOld, GS.pf dfTalk, GS.pf trOpen, GS.pf trPasses, FS.pf trHear, FS.pf trFind, FS.pf buCheck, FS.pf buLev, FS.pf buTake, clRule, FS.pf ruNet, FS.pf ruHas, FS.pf ruBounds, FS.pf ruRight, FS.pf ruCheck, FS.pf ruMeets, FS.pf ruDecide, tz64, FS.pf portsCheck, FS.pf portsLet, FS.pf portsEnd, FS.pf confCheck, clMap, GS.pf delMap, FS.pf natWithin, FS.pf natCheck, natPlace, GS.pf natExpire, FS.pf natOut, FS.pf natIn, clMeter, GS.pf delMeter, FS.pf hsMeter, FS.pf hsLast]
theorem hsCheck_eq (x : ty12_) : fnTr Tryd.prog cod gm48 [(21, hsCheck_L21_12), (21, hsCheck_L21_2)] 30 21 hsCheck_ap hsCheck_rp x = hsCheck_tree x := by kernel_rfl
def hsCheck_fn (x : ty12_) : Option (Int × Unit) := (hsCheck_tree x).eval
def hsCheck : FS Tryd.prog := ⟨21, hsCheck_ap, hsCheck_rp, hsCheck_fn, fun x r h => fnTr_sound (cod := cod) (Γ := gm48) (Λs := [(21, hsCheck_L21_12), (21, hsCheck_L21_2)]) (n := 30) ((congrArg Tr.eval (hsCheck_eq x)).trans h)⟩
def hsNew_ap : List VP1 := [.agg [.i .u32, .i .i64, .i .i64, .i .i64, .i .i64, .i .i64, .st 10 false, .b]]
def hsNew_rp : SP := ⟨1, [(0, .tup [.agg [.i .u32, .i .i64, .i .i64, .i .i64, .i .i64, .i .i64, .st 10 true, .b, .st 19 true, .st 16 true, .i .i64, .i .i64, .i .u64, .i .i64, .i .u64, .st 17 true], .one (.i .i64)])], []⟩
def hsNew_tree : (Int × (Int × (Int × (Int × (Int × (Int × ((List TRule) × (Bool × Unit)))))))) -> Tr ty11_ :=
 fun (a0, a1, a2, a3, a4, a5, a6, a7, _) =>
 .opt ((confCheck_fn (a0, (a1, (a2, (a3, (a4, (a5, (a6, (a7, ())))))))))) (fun r0 =>
 .ite (!decide (r0.1 = (0 : Int))) (
 .ret ((0 : Int), ((0 : Int), ((0 : Int), ((0 : Int), ((0 : Int), ((0 : Int), ([], (false, ([], ([], ((0 : Int), ((0 : Int), ((0 : Int), ((0 : Int), ((0 : Int), ([], (r0.1, ())))))))))))))))))) (
 .grd (decide (((0 : Nat) + List.length a6) * (80 : Nat) <= (140737488355328 : Nat) /\ (0 : Nat) + List.length a6 <= (9223372036854775807 : Nat))) (
 .ret (a0, (a1, (a2, (a3, (a4, (a5, (a6, (a7, ([], ([], (a3, (a1, ((0 : Int), (a2, ((0 : Int), ([], ((0 : Int), ()))))))))))))))))))))
noncomputable def gm49 : List (PF Go.Proofs.Tryd.prog) := [FS.pf sumFold, FS.pf sumAdd, FS.pf sumOf, FS.pf sumRight, FS.pf sumFix, FS.pf dgWord, FS.pf dgLong, FS.pf dgWordAt, FS.pf dgUnder, FS.pf dgPort, FS.pf dgWrite, FS.pf dgRead, FS.pf ipWordAt, FS.pf ipLongAt, FS.pf ipByt, FS.pf ipRefused, FS.pf ipWord, FS.pf ipLong, FS.pf ipWrite, FS.pf ipRead, FS.pf ipHop, FS.pf tcWordAt, FS.pf tcLongAt, FS.pf tcParse, FS.pf tcRead, FS.pf swEnds, FS.pf swWord, GS.pf swPut, GS.pf swChange, FS.pf swSwapped, FS.pf swFrom, FS.pf swTo, clTalk, GS.pf delTalk, FS.pf trTurned, FS.pf trPort, FS.pf trRoad, FS.pf trForm, FS.pf trPlace, FS.pf trCheck, FS.pf trOld, GS.pf dfTalk, GS.pf trOpen, GS.pf trPasses, FS.pf trHear, FS.pf trFind, FS.pf buCheck, FS.pf buLev, FS.pf buTake, clRule, FS.pf ruNet, FS.pf ruHas, FS.pf ruBounds, FS.pf ruRight, FS.pf ruCheck, FS.pf ruMeets, FS.pf ruDecide, tz64, FS.pf portsCheck, FS.pf portsLet, FS.pf portsEnd, FS.pf confCheck, clMap, GS.pf delMap, FS.pf natWithin, FS.pf natCheck, natPlace, GS.pf natExpire, FS.pf natOut, FS.pf natIn, clMeter, GS.pf delMeter, FS.pf hsMeter, FS.pf hsLast, FS.pf hsCheck]
theorem hsNew_eq (x : (Int × (Int × (Int × (Int × (Int × (Int × ((List TRule) × (Bool × Unit))))))))) : fnTr Tryd.prog cod gm49 [] 30 11 hsNew_ap hsNew_rp x = hsNew_tree x := by kernel_rfl
def hsNew_fn (x : (Int × (Int × (Int × (Int × (Int × (Int × ((List TRule) × (Bool × Unit))))))))) : Option ty11_ := (hsNew_tree x).eval
def hsNew : FS Tryd.prog := ⟨11, hsNew_ap, hsNew_rp, hsNew_fn, fun x r h => fnTr_sound (cod := cod) (Γ := gm49) (Λs := []) (n := 30) ((congrArg Tr.eval (hsNew_eq x)).trans h)⟩
def wMeasured_ap : SP := ⟨115, [(0, .v (.one (.ptr 1000000 0)))], [(1000000, .cells [.i .u32, .i .i64, .i .i64, .i .i64, .i .i64, .i .i64, .st 10 false, .b, .own 1000100, .st 16 false, .i .i64, .i .i64, .i .u64, .i .i64, .i .u64, .st 17 false, .i .u32, .i .u32, .i .i64, .i .i64, .i .i64, .s, .i .i64]), (1000100, .row 104 19 true true)]⟩
def wMeasured_rp : SP := ⟨1, [(0, .v (.one (.b)))], [(1000000, .cells [.i .u32, .i .i64, .i .i64, .i .i64, .i .i64, .i .i64, .st 10 false, .b, .own 1000100, .st 16 false, .i .i64, .i .i64, .i .u64, .i .i64, .i .u64, .st 17 false, .i .u32, .i .u32, .i .i64, .i .i64, .i .i64, .s, .i .i64]), (1000100, .row 104 19 true true)]⟩
abbrev ty15_ : Type := (Int × (Int × (Int × (Int × (Int × (Int × ((List TRule) × (Bool × ((List TTalk) × (Int × (Int × (Int × (Int × (Int × ((List TMap) × (Int × (Int × (Int × (Int × (Int × ((List UInt8) × (Int × ((List TMeter) × Unit)))))))))))))))))))))))
abbrev ty16_ : Type := (Bool × (Int × (Int × (Int × (Int × (Int × (Int × ((List TRule) × (Bool × ((List TTalk) × (Int × (Int × (Int × (Int × (Int × ((List TMap) × (Int × (Int × (Int × (Int × (Int × ((List UInt8) × (Int × ((List TMeter) × Unit))))))))))))))))))))))))
def wMeasured_tree : ty15_ -> Tr ty16_ :=
 fun (a0, a1, a2, a3, a4, a5, a6, a7, a8, a9, a10, a11, a12, a13, a14, a15, a16, a17, a18, a19, a20, a21, a22, _) =>
 .opt ((hsMeter_fn (a0, (a1, (a2, (a3, (a4, (a5, (a6, (a7, (a22, (a8, (a9, (a10, (a11, (a12, (a13, (a14, (a15, ()))))))))))))))))))) (fun r0 =>
 .ite (decide ((0 : Int) <= r0.1)) (
 .grd (decide ((0 : Int) <= r0.1 /\ r0.1 < (↑(List.length a22) : Int))) (
 .opt (a22[Int.toNat r0.1]?) (fun r1 =>
 .grd (decide (List.length a22 = List.length a22)) (
 .opt ((delMeter_fn (r0.1, (IntKind.wrap IntKind.i64 (r0.1 + (1 : Int)), (a22, ()))))) (fun r2 =>
 .opt ((buTake_fn (r1.rate, (r1.most, (r1.has, (r1.at', (a21, ((↑(List.length a20) : Int), ())))))))) (fun r3 =>
 .grd (decide ((List.length r2.1 + List.length [TMeter.mk a15 r3.1 r3.2.1 r3.2.2.1 r3.2.2.2.1]) * (40 : Nat) <= (140737488355328 : Nat) /\ List.length r2.1 + List.length [TMeter.mk a15 r3.1 r3.2.1 r3.2.2.1 r3.2.2.2.1] <= (9223372036854775807 : Nat))) (
 .grd (decide (List.length (r2.1 ++ [TMeter.mk a15 r3.1 r3.2.1 r3.2.2.1 r3.2.2.2.1]) = List.length (r2.1 ++ [TMeter.mk a15 r3.1 r3.2.1 r3.2.2.1 r3.2.2.2.1]))) (
 .ret (r3.2.2.2.2.1, (a0, (a1, (a2, (a3, (a4, (a5, (a6, (a7, (a8, (a9, (a10, (a11, (a12, (a13, (a14, (a15, (a16, (a17, (a18, (a19, (a20, (a21, (r2.1 ++ [TMeter.mk a15 r3.1 r3.2.1 r3.2.2.1 r3.2.2.2.1], ())))))))))))))))))))))))))))))))) (
 .ite (decide ((↑(List.length a22) : Int) = (64 : Int))) (
 .grd (decide (List.length a22 = List.length a22)) (
 .opt ((delMeter_fn ((0 : Int), ((1 : Int), (a22, ()))))) (fun r1 =>
 .opt ((buTake_fn (a4, (a5, (a5, (a21, (a21, ((↑(List.length a20) : Int), ())))))))) (fun r2 =>
 .grd (decide ((List.length r1.1 + List.length [TMeter.mk a15 r2.1 r2.2.1 r2.2.2.1 r2.2.2.2.1]) * (40 : Nat) <= (140737488355328 : Nat) /\ List.length r1.1 + List.length [TMeter.mk a15 r2.1 r2.2.1 r2.2.2.1 r2.2.2.2.1] <= (9223372036854775807 : Nat))) (
 .grd (decide (List.length (r1.1 ++ [TMeter.mk a15 r2.1 r2.2.1 r2.2.2.1 r2.2.2.2.1]) = List.length (r1.1 ++ [TMeter.mk a15 r2.1 r2.2.1 r2.2.2.1 r2.2.2.2.1]))) (
 .ret (r2.2.2.2.2.1, (a0, (a1, (a2, (a3, (a4, (a5, (a6, (a7, (a8, (a9, (a10, (a11, (a12, (a13, (a14, (a15, (a16, (a17, (a18, (a19, (a20, (a21, (r1.1 ++ [TMeter.mk a15 r2.1 r2.2.1 r2.2.2.1 r2.2.2.2.1], ())))))))))))))))))))))))))))))) (
 .opt ((buTake_fn (a4, (a5, (a5, (a21, (a21, ((↑(List.length a20) : Int), ())))))))) (fun r1 =>
 .grd (decide ((List.length a22 + List.length [TMeter.mk a15 r1.1 r1.2.1 r1.2.2.1 r1.2.2.2.1]) * (40 : Nat) <= (140737488355328 : Nat) /\ List.length a22 + List.length [TMeter.mk a15 r1.1 r1.2.1 r1.2.2.1 r1.2.2.2.1] <= (9223372036854775807 : Nat))) (
 .grd (decide (List.length (a22 ++ [TMeter.mk a15 r1.1 r1.2.1 r1.2.2.1 r1.2.2.2.1]) = List.length (a22 ++ [TMeter.mk a15 r1.1 r1.2.1 r1.2.2.1 r1.2.2.2.1]))) (
 .ret (r1.2.2.2.2.1, (a0, (a1, (a2, (a3, (a4, (a5, (a6, (a7, (a8, (a9, (a10, (a11, (a12, (a13, (a14, (a15, (a16, (a17, (a18, (a19, (a20, (a21, (a22 ++ [TMeter.mk a15 r1.1 r1.2.1 r1.2.2.1 r1.2.2.2.1], ()))))))))))))))))))))))))))))))
noncomputable def gm50 : List (PF Go.Proofs.Tryd.prog) := [FS.pf sumFold, FS.pf sumAdd, FS.pf sumOf, FS.pf sumRight, FS.pf sumFix, FS.pf dgWord, FS.pf dgLong, FS.pf dgWordAt, FS.pf dgUnder, FS.pf dgPort, FS.pf dgWrite, FS.pf dgRead, FS.pf ipWordAt, FS.pf ipLongAt, FS.pf ipByt, FS.pf ipRefused, FS.pf ipWord, FS.pf ipLong, FS.pf ipWrite, FS.pf ipRead, FS.pf ipHop, FS.pf tcWordAt, FS.pf tcLongAt, FS.pf tcParse, FS.pf tcRead, FS.pf swEnds, FS.pf swWord, GS.pf swPut, GS.pf swChange, FS.pf swSwapped, FS.pf swFrom, FS.pf swTo, clTalk, GS.pf delTalk, FS.pf trTurned, FS.pf trPort, FS.pf trRoad, FS.pf trForm, FS.pf trPlace, FS.pf trCheck, FS.pf trOld, GS.pf dfTalk, GS.pf trOpen, GS.pf trPasses, FS.pf trHear, FS.pf trFind, FS.pf buCheck, FS.pf buLev, FS.pf buTake, clRule, FS.pf ruNet, FS.pf ruHas, FS.pf ruBounds, FS.pf ruRight, FS.pf ruCheck, FS.pf ruMeets, FS.pf ruDecide, tz64, FS.pf portsCheck, FS.pf portsLet, FS.pf portsEnd, FS.pf confCheck, clMap, GS.pf delMap, FS.pf natWithin, FS.pf natCheck, natPlace, GS.pf natExpire, FS.pf natOut, FS.pf natIn, clMeter, GS.pf delMeter, FS.pf hsMeter, FS.pf hsLast, FS.pf hsCheck, FS.pf hsNew]
theorem wMeasured_eq (x : ty15_) : gsTr Tryd.prog cod gm50 [] 30 45 wMeasured_ap wMeasured_rp x = wMeasured_tree x := by kernel_rfl
def wMeasured_fn (x : ty15_) : Option ty16_ := (wMeasured_tree x).eval
def wMeasured : GS Tryd.prog := ⟨45, [1], wMeasured_ap, wMeasured_rp, wMeasured_fn, fun x r h ys m g he hg => gs_sound (cod := cod) (Γ := gm50) (Λs := []) (n := 30) ((congrArg Tr.eval (wMeasured_eq x)).trans h) he hg⟩
def wKnown_ap : SP := ⟨24, [(0, .v (.one (.ptr 1000000 0))), (1, .v (.agg [.i .u32, .i .u32, .i .i64, .i .i64]))], [(1000000, .cells [.i .u32, .i .i64, .i .i64, .i .i64, .i .i64, .i .i64, .st 10 false, .b, .own 1000100, .st 16 false, .i .i64, .i .i64, .i .u64, .i .i64, .i .u64, .st 17 false, .i .u32, .i .u32, .i .i64, .i .i64, .i .i64, .s, .i .i64]), (1000100, .row 104 19 true true)]⟩
def wKnown_rp : SP := ⟨1, [(0, .v (.one (.b)))], [(1000000, .cells [.i .u32, .i .i64, .i .i64, .i .i64, .i .i64, .i .i64, .st 10 false, .b, .own 1000100, .st 16 false, .i .i64, .i .i64, .i .u64, .i .i64, .i .u64, .st 17 false, .i .u32, .i .u32, .i .i64, .i .i64, .i .i64, .s, .i .i64]), (1000100, .row 104 19 true true)]⟩
abbrev ty17_ : Type := (Int × (Int × (Int × (Int × (Int × (Int × (Int × (Int × (Int × (Int × ((List TRule) × (Bool × ((List TTalk) × (Int × (Int × (Int × (Int × (Int × ((List TMap) × (Int × (Int × (Int × (Int × (Int × ((List UInt8) × (Int × ((List TMeter) × Unit)))))))))))))))))))))))))))
def wKnown_tree : ty17_ -> Tr ty16_ :=
 fun (a0, a1, a2, a3, a4, a5, a6, a7, a8, a9, a10, a11, a12, a13, a14, a15, a16, a17, a18, a19, a20, a21, a22, a23, a24, a25, a26, _) =>
 .opt ((trFind_fn (a12, (a0, (a1, (a2, (a3, (a25, ())))))))) (fun r0 =>
 .grd (decide (List.length a26 = List.length a26)) (
 .ret (r0.2.2.2.2.2.2.2.1, (a4, (a5, (a6, (a7, (a8, (a9, (a10, (a11, (a12, (a13, (a14, (a15, (a16, (a17, (a18, (a19, (a20, (a21, (a22, (a23, (a24, (a25, (a26, ()))))))))))))))))))))))))))
noncomputable def gm51 : List (PF Go.Proofs.Tryd.prog) := [FS.pf sumFold, FS.pf sumAdd, FS.pf sumOf, FS.pf sumRight, FS.pf sumFix, FS.pf dgWord, FS.pf dgLong, FS.pf dgWordAt, FS.pf dgUnder, FS.pf dgPort, FS.pf dgWrite, FS.pf dgRead, FS.pf ipWordAt, FS.pf ipLongAt, FS.pf ipByt, FS.pf ipRefused, FS.pf ipWord, FS.pf ipLong, FS.pf ipWrite, FS.pf ipRead, FS.pf ipHop, FS.pf tcWordAt, FS.pf tcLongAt, FS.pf tcParse, FS.pf tcRead, FS.pf swEnds, FS.pf swWord, GS.pf swPut, GS.pf swChange, FS.pf swSwapped, FS.pf swFrom, FS.pf swTo, clTalk, GS.pf delTalk, FS.pf trTurned, FS.pf trPort, FS.pf trRoad, FS.pf trForm, FS.pf trPlace, FS.pf trCheck, FS.pf trOld, GS.pf dfTalk, GS.pf trOpen, GS.pf trPasses, FS.pf trHear, FS.pf trFind, FS.pf buCheck, FS.pf buLev, FS.pf buTake, clRule, FS.pf ruNet, FS.pf ruHas, FS.pf ruBounds, FS.pf ruRight, FS.pf ruCheck, FS.pf ruMeets, FS.pf ruDecide, tz64, FS.pf portsCheck, FS.pf portsLet, FS.pf portsEnd, FS.pf confCheck, clMap, GS.pf delMap, FS.pf natWithin, FS.pf natCheck, natPlace, GS.pf natExpire, FS.pf natOut, FS.pf natIn, clMeter, GS.pf delMeter, FS.pf hsMeter, FS.pf hsLast, FS.pf hsCheck, FS.pf hsNew, GS.pf wMeasured]
theorem wKnown_eq (x : ty17_) : gsTr Tryd.prog cod gm51 [] 30 70 wKnown_ap wKnown_rp x = wKnown_tree x := by kernel_rfl
def wKnown_fn (x : ty17_) : Option ty16_ := (wKnown_tree x).eval
def wKnown : GS Tryd.prog := ⟨70, [1, 0], wKnown_ap, wKnown_rp, wKnown_fn, fun x r h ys m g he hg => gs_sound (cod := cod) (Γ := gm51) (Λs := []) (n := 30) ((congrArg Tr.eval (wKnown_eq x)).trans h) he hg⟩
def wTalked_ap : SP := ⟨59, [(0, .v (.one (.ptr 1000000 0))), (1, .v (.agg [.i .u32, .i .u32, .i .i64, .i .i64]))], [(1000000, .cells [.i .u32, .i .i64, .i .i64, .i .i64, .i .i64, .i .i64, .st 10 false, .b, .own 1000100, .st 16 false, .i .i64, .i .i64, .i .u64, .i .i64, .i .u64, .st 17 false, .i .u32, .i .u32, .i .i64, .i .i64, .i .i64, .s, .i .i64]), (1000100, .row 104 19 true true)]⟩
def wTalked_rp : SP := ⟨1, [(0, .v (.one (.b)))], [(1000000, .cells [.i .u32, .i .i64, .i .i64, .i .i64, .i .i64, .i .i64, .st 10 false, .b, .own 1000100, .st 16 false, .i .i64, .i .i64, .i .u64, .i .i64, .i .u64, .st 17 false, .i .u32, .i .u32, .i .i64, .i .i64, .i .i64, .s, .i .i64]), (1000100, .row 104 19 true true)]⟩
def wTalked_tree : ty17_ -> Tr ty16_ :=
 fun (a0, a1, a2, a3, a4, a5, a6, a7, a8, a9, a10, a11, a12, a13, a14, a15, a16, a17, a18, a19, a20, a21, a22, a23, a24, a25, a26, _) =>
 .opt ((ipRead_fn (a24, ()))) (fun r0 =>
 .opt ((tcRead_fn (r0.2.2.2.2.2.2.2.2.2.2.1, (r0.2.2.2.2.2.2.2.1, (r0.2.2.2.2.2.2.2.2.1, ()))))) (fun r1 =>
 .opt ((trHear_fn (a12, (a0, (a1, (a2, (a3, (r1.2.2.2.2.1, (a25, ()))))))))) (fun r2 =>
 .ite (decide (r2.2.2.1 = (0 : Int))) (
 .ite (decide (r2.2.2.1 = (0 : Int))) (
 .grd (decide (List.length a26 = List.length a26)) (
 .ret (r2.2.1, (a4, (a5, (a6, (a7, (a8, (a9, (a10, (a11, (r2.1, (a13, (a14, (a15, (a16, (a17, (a18, (a19, (a20, (a21, (a22, (a23, (a24, (a25, (a26, ())))))))))))))))))))))))))) (
 .grd (decide (List.length a26 = List.length a26)) (
 .ret (false, (a4, (a5, (a6, (a7, (a8, (a9, (a10, (a11, (r2.1, (a13, (a14, (a15, (a16, (a17, (a18, (a19, (a20, (a21, (a22, (a23, (a24, (a25, (a26, ()))))))))))))))))))))))))))) (
 .ite (decide (r2.2.2.1 = (0 : Int))) (
 .grd (decide (List.length a26 = List.length a26)) (
 .ret (r2.2.1, (a4, (a5, (a6, (a7, (a8, (a9, (a10, (a11, (a12, (a13, (a14, (a15, (a16, (a17, (a18, (a19, (a20, (a21, (a22, (a23, (a24, (a25, (a26, ())))))))))))))))))))))))))) (
 .grd (decide (List.length a26 = List.length a26)) (
 .ret (false, (a4, (a5, (a6, (a7, (a8, (a9, (a10, (a11, (a12, (a13, (a14, (a15, (a16, (a17, (a18, (a19, (a20, (a21, (a22, (a23, (a24, (a25, (a26, ()))))))))))))))))))))))))))))))
noncomputable def gm52 : List (PF Go.Proofs.Tryd.prog) := [FS.pf sumFold, FS.pf sumAdd, FS.pf sumOf, FS.pf sumRight, FS.pf sumFix, FS.pf dgWord, FS.pf dgLong, FS.pf dgWordAt, FS.pf dgUnder, FS.pf dgPort, FS.pf dgWrite, FS.pf dgRead, FS.pf ipWordAt, FS.pf ipLongAt, FS.pf ipByt, FS.pf ipRefused, FS.pf ipWord, FS.pf ipLong, FS.pf ipWrite, FS.pf ipRead, FS.pf ipHop, FS.pf tcWordAt, FS.pf tcLongAt, FS.pf tcParse, FS.pf tcRead, FS.pf swEnds, FS.pf swWord, GS.pf swPut, GS.pf swChange, FS.pf swSwapped, FS.pf swFrom, FS.pf swTo, clTalk, GS.pf delTalk, FS.pf trTurned, FS.pf trPort, FS.pf trRoad, FS.pf trForm, FS.pf trPlace, FS.pf trCheck, FS.pf trOld, GS.pf dfTalk, GS.pf trOpen, GS.pf trPasses, FS.pf trHear, FS.pf trFind, FS.pf buCheck, FS.pf buLev, FS.pf buTake, clRule, FS.pf ruNet, FS.pf ruHas, FS.pf ruBounds, FS.pf ruRight, FS.pf ruCheck, FS.pf ruMeets, FS.pf ruDecide, tz64, FS.pf portsCheck, FS.pf portsLet, FS.pf portsEnd, FS.pf confCheck, clMap, GS.pf delMap, FS.pf natWithin, FS.pf natCheck, natPlace, GS.pf natExpire, FS.pf natOut, FS.pf natIn, clMeter, GS.pf delMeter, FS.pf hsMeter, FS.pf hsLast, FS.pf hsCheck, FS.pf hsNew, GS.pf wMeasured, GS.pf wKnown]
theorem wTalked_eq (x : ty17_) : gsTr Tryd.prog cod gm52 [] 30 72 wTalked_ap wTalked_rp x = wTalked_tree x := by kernel_rfl
def wTalked_fn (x : ty17_) : Option ty16_ := (wTalked_tree x).eval
def wTalked : GS Tryd.prog := ⟨72, [1, 0], wTalked_ap, wTalked_rp, wTalked_fn, fun x r h ys m g he hg => gs_sound (cod := cod) (Γ := gm52) (Λs := []) (n := 30) ((congrArg Tr.eval (wTalked_eq x)).trans h) he hg⟩
def wLeaves_ap : SP := ⟨108, [(0, .v (.one (.ptr 1000000 0)))], [(1000000, .cells [.i .u32, .i .i64, .i .i64, .i .i64, .i .i64, .i .i64, .st 10 false, .b, .own 1000100, .st 16 false, .i .i64, .i .i64, .i .u64, .i .i64, .i .u64, .st 17 false, .i .u32, .i .u32, .i .i64, .i .i64, .i .i64, .s, .i .i64]), (1000100, .row 104 19 true true)]⟩
def wLeaves_rp : SP := ⟨1, [(0, .tup [.one (.s), .one (.i .i64)])], [(1000000, .cells [.i .u32, .i .i64, .i .i64, .i .i64, .i .i64, .i .i64, .st 10 false, .b, .own 1000100, .st 16 false, .i .i64, .i .i64, .i .u64, .i .i64, .i .u64, .st 17 false, .i .u32, .i .u32, .i .i64, .i .i64, .i .i64, .s, .i .i64]), (1000100, .row 104 19 true true)]⟩
abbrev ty18_ : Type := ((List UInt8) × (Int × (Int × (Int × (Int × (Int × (Int × (Int × ((List TRule) × (Bool × ((List TTalk) × (Int × (Int × (Int × (Int × (Int × ((List TMap) × (Int × (Int × (Int × (Int × (Int × ((List UInt8) × (Int × ((List TMeter) × Unit)))))))))))))))))))))))))
def wLeaves_tree : ty15_ -> Tr ty18_ :=
 fun (a0, a1, a2, a3, a4, a5, a6, a7, a8, a9, a10, a11, a12, a13, a14, a15, a16, a17, a18, a19, a20, a21, a22, _) =>
 .ite (!decide (a17 = (6 : Int))) (
 .opt ((ruDecide_fn (a6, (a15, (a16, (a17, (a18, (a19, (a7, ()))))))))) (fun r0 =>
 .ite (!r0.1) (
 .grd (decide (List.length a22 = List.length a22)) (
 .ret ([], ((4 : Int), (a0, (a1, (a2, (a3, (a4, (a5, (a6, (a7, (a8, (a9, (a10, (a11, (a12, (a13, (a14, (a15, (a16, (a17, (a18, (a19, (a20, (a21, (a22, ()))))))))))))))))))))))))))) (
 .ite (decide (a17 = (6 : Int))) (
 .grd (decide (List.length a22 = List.length a22)) (
 .opt ((wTalked_fn (a15, (a16, (a18, (a19, (a0, (a1, (a2, (a3, (a4, (a5, (a6, (a7, (a8, (a9, (a10, (a11, (a12, (a13, (a14, (a15, (a16, (a17, (a18, (a19, (a20, (a21, (a22, ()))))))))))))))))))))))))))))) (fun r1 =>
 .ite (!r1.1) (
 .grd (decide (List.length r1.2.2.2.2.2.2.2.2.2.2.2.2.2.2.2.2.2.2.2.2.2.2.2.fst = List.length r1.2.2.2.2.2.2.2.2.2.2.2.2.2.2.2.2.2.2.2.2.2.2.2.1)) (
 .ret ([], ((4 : Int), (r1.2.1, (r1.2.2.1, (r1.2.2.2.1, (r1.2.2.2.2.1, (r1.2.2.2.2.2.1, (r1.2.2.2.2.2.2.1, (r1.2.2.2.2.2.2.2.1, (r1.2.2.2.2.2.2.2.2.1, (r1.2.2.2.2.2.2.2.2.2.1, (r1.2.2.2.2.2.2.2.2.2.2.1, (r1.2.2.2.2.2.2.2.2.2.2.2.1, (r1.2.2.2.2.2.2.2.2.2.2.2.2.1, (r1.2.2.2.2.2.2.2.2.2.2.2.2.2.1, (r1.2.2.2.2.2.2.2.2.2.2.2.2.2.2.1, (r1.2.2.2.2.2.2.2.2.2.2.2.2.2.2.2.1, (r1.2.2.2.2.2.2.2.2.2.2.2.2.2.2.2.2.1, (r1.2.2.2.2.2.2.2.2.2.2.2.2.2.2.2.2.2.1, (r1.2.2.2.2.2.2.2.2.2.2.2.2.2.2.2.2.2.2.1, (r1.2.2.2.2.2.2.2.2.2.2.2.2.2.2.2.2.2.2.2.1, (r1.2.2.2.2.2.2.2.2.2.2.2.2.2.2.2.2.2.2.2.2.1, (r1.2.2.2.2.2.2.2.2.2.2.2.2.2.2.2.2.2.2.2.2.2.1, (r1.2.2.2.2.2.2.2.2.2.2.2.2.2.2.2.2.2.2.2.2.2.2.1, (r1.2.2.2.2.2.2.2.2.2.2.2.2.2.2.2.2.2.2.2.2.2.2.2.1, ()))))))))))))))))))))))))))) (
 .opt ((natOut_fn (r1.2.2.2.2.2.2.2.2.2.2.1, (r1.2.2.2.2.2.2.2.2.2.2.2.1, (r1.2.2.2.2.2.2.2.2.2.2.2.2.1, (r1.2.2.2.2.2.2.2.2.2.2.2.2.2.1, (r1.2.2.2.2.2.2.2.2.2.2.2.2.2.2.1, (r1.2.2.2.2.2.2.2.2.2.2.2.2.2.2.2.1, (a17, (a15, (a18, (r1.2.2.2.2.2.2.2.2.2.2.2.2.2.2.2.2.2.2.2.2.2.2.1, ())))))))))))) (fun r2 =>
 .ite (!decide (r2.2.2.2.2.2.2.2.1 = (0 : Int))) (
 .grd (decide (List.length r1.2.2.2.2.2.2.2.2.2.2.2.2.2.2.2.2.2.2.2.2.2.2.2.fst = List.length r1.2.2.2.2.2.2.2.2.2.2.2.2.2.2.2.2.2.2.2.2.2.2.2.1)) (
 .ret ([], ((5 : Int), (r1.2.1, (r1.2.2.1, (r1.2.2.2.1, (r1.2.2.2.2.1, (r1.2.2.2.2.2.1, (r1.2.2.2.2.2.2.1, (r1.2.2.2.2.2.2.2.1, (r1.2.2.2.2.2.2.2.2.1, (r1.2.2.2.2.2.2.2.2.2.1, (r1.2.2.2.2.2.2.2.2.2.2.1, (r1.2.2.2.2.2.2.2.2.2.2.2.1, (r1.2.2.2.2.2.2.2.2.2.2.2.2.1, (r1.2.2.2.2.2.2.2.2.2.2.2.2.2.1, (r1.2.2.2.2.2.2.2.2.2.2.2.2.2.2.1, (r1.2.2.2.2.2.2.2.2.2.2.2.2.2.2.2.1, (r1.2.2.2.2.2.2.2.2.2.2.2.2.2.2.2.2.1, (r1.2.2.2.2.2.2.2.2.2.2.2.2.2.2.2.2.2.1, (r1.2.2.2.2.2.2.2.2.2.2.2.2.2.2.2.2.2.2.1, (r1.2.2.2.2.2.2.2.2.2.2.2.2.2.2.2.2.2.2.2.1, (r1.2.2.2.2.2.2.2.2.2.2.2.2.2.2.2.2.2.2.2.2.1, (r1.2.2.2.2.2.2.2.2.2.2.2.2.2.2.2.2.2.2.2.2.2.1, (r1.2.2.2.2.2.2.2.2.2.2.2.2.2.2.2.2.2.2.2.2.2.2.1, (r1.2.2.2.2.2.2.2.2.2.2.2.2.2.2.2.2.2.2.2.2.2.2.2.1, ()))))))))))))))))))))))))))) (
 .opt ((swFrom_fn (r1.2.2.2.2.2.2.2.2.2.2.2.2.2.2.2.2.2.2.2.2.2.1, (r1.2.1, (r2.2.2.2.2.2.2.1, ()))))) (fun r3 =>
 .grd (decide (List.length r1.2.2.2.2.2.2.2.2.2.2.2.2.2.2.2.2.2.2.2.2.2.2.2.fst = List.length r1.2.2.2.2.2.2.2.2.2.2.2.2.2.2.2.2.2.2.2.2.2.2.2.1)) (
 .ret (r3.1, ((0 : Int), (r1.2.1, (r1.2.2.1, (r1.2.2.2.1, (r1.2.2.2.2.1, (r1.2.2.2.2.2.1, (r1.2.2.2.2.2.2.1, (r1.2.2.2.2.2.2.2.1, (r1.2.2.2.2.2.2.2.2.1, (r1.2.2.2.2.2.2.2.2.2.1, (r2.1, (r2.2.1, (r2.2.2.1, (r2.2.2.2.1, (r2.2.2.2.2.1, (r2.2.2.2.2.2.1, (r1.2.2.2.2.2.2.2.2.2.2.2.2.2.2.2.2.1, (r1.2.2.2.2.2.2.2.2.2.2.2.2.2.2.2.2.2.1, (r1.2.2.2.2.2.2.2.2.2.2.2.2.2.2.2.2.2.2.1, (r1.2.2.2.2.2.2.2.2.2.2.2.2.2.2.2.2.2.2.2.1, (r1.2.2.2.2.2.2.2.2.2.2.2.2.2.2.2.2.2.2.2.2.1, (r1.2.2.2.2.2.2.2.2.2.2.2.2.2.2.2.2.2.2.2.2.2.1, (r1.2.2.2.2.2.2.2.2.2.2.2.2.2.2.2.2.2.2.2.2.2.2.1, (r1.2.2.2.2.2.2.2.2.2.2.2.2.2.2.2.2.2.2.2.2.2.2.2.1, ()))))))))))))))))))))))))))))))))) (
 .opt ((natOut_fn (a9, (a10, (a11, (a12, (a13, (a14, (a17, (a15, (a18, (a21, ())))))))))))) (fun r1 =>
 .ite (!decide (r1.2.2.2.2.2.2.2.1 = (0 : Int))) (
 .grd (decide (List.length a22 = List.length a22)) (
 .ret ([], ((5 : Int), (a0, (a1, (a2, (a3, (a4, (a5, (a6, (a7, (a8, (a9, (a10, (a11, (a12, (a13, (a14, (a15, (a16, (a17, (a18, (a19, (a20, (a21, (a22, ()))))))))))))))))))))))))))) (
 .opt ((swFrom_fn (a20, (a0, (r1.2.2.2.2.2.2.1, ()))))) (fun r2 =>
 .grd (decide (List.length a22 = List.length a22)) (
 .ret (r2.1, ((0 : Int), (a0, (a1, (a2, (a3, (a4, (a5, (a6, (a7, (a8, (r1.1, (r1.2.1, (r1.2.2.1, (r1.2.2.2.1, (r1.2.2.2.2.1, (r1.2.2.2.2.2.1, (a15, (a16, (a17, (a18, (a19, (a20, (a21, (a22, ()))))))))))))))))))))))))))))))))) (
 .grd (decide (List.length a22 = List.length a22)) (
 .opt ((wKnown_fn (a15, (a16, (a18, (a19, (a0, (a1, (a2, (a3, (a4, (a5, (a6, (a7, (a8, (a9, (a10, (a11, (a12, (a13, (a14, (a15, (a16, (a17, (a18, (a19, (a20, (a21, (a22, ()))))))))))))))))))))))))))))) (fun r0 =>
 .ite (!r0.1) (
 .opt ((ruDecide_fn (r0.2.2.2.2.2.2.2.1, (a15, (a16, (a17, (a18, (a19, (r0.2.2.2.2.2.2.2.2.1, ()))))))))) (fun r1 =>
 .ite (!r1.1) (
 .grd (decide (List.length r0.2.2.2.2.2.2.2.2.2.2.2.2.2.2.2.2.2.2.2.2.2.2.2.fst = List.length r0.2.2.2.2.2.2.2.2.2.2.2.2.2.2.2.2.2.2.2.2.2.2.2.1)) (
 .ret ([], ((4 : Int), (r0.2.1, (r0.2.2.1, (r0.2.2.2.1, (r0.2.2.2.2.1, (r0.2.2.2.2.2.1, (r0.2.2.2.2.2.2.1, (r0.2.2.2.2.2.2.2.1, (r0.2.2.2.2.2.2.2.2.1, (r0.2.2.2.2.2.2.2.2.2.1, (r0.2.2.2.2.2.2.2.2.2.2.1, (r0.2.2.2.2.2.2.2.2.2.2.2.1, (r0.2.2.2.2.2.2.2.2.2.2.2.2.1, (r0.2.2.2.2.2.2.2.2.2.2.2.2.2.1, (r0.2.2.2.2.2.2.2.2.2.2.2.2.2.2.1, (r0.2.2.2.2.2.2.2.2.2.2.2.2.2.2.2.1, (r0.2.2.2.2.2.2.2.2.2.2.2.2.2.2.2.2.1, (r0.2.2.2.2.2.2.2.2.2.2.2.2.2.2.2.2.2.1, (r0.2.2.2.2.2.2.2.2.2.2.2.2.2.2.2.2.2.2.1, (r0.2.2.2.2.2.2.2.2.2.2.2.2.2.2.2.2.2.2.2.1, (r0.2.2.2.2.2.2.2.2.2.2.2.2.2.2.2.2.2.2.2.2.1, (r0.2.2.2.2.2.2.2.2.2.2.2.2.2.2.2.2.2.2.2.2.2.1, (r0.2.2.2.2.2.2.2.2.2.2.2.2.2.2.2.2.2.2.2.2.2.2.1, (r0.2.2.2.2.2.2.2.2.2.2.2.2.2.2.2.2.2.2.2.2.2.2.2.1, ()))))))))))))))))))))))))))) (
 .ite (decide (a17 = (6 : Int))) (
 .grd (decide (List.length r0.2.2.2.2.2.2.2.2.2.2.2.2.2.2.2.2.2.2.2.2.2.2.2.fst = List.length r0.2.2.2.2.2.2.2.2.2.2.2.2.2.2.2.2.2.2.2.2.2.2.2.1)) (
 .opt ((wTalked_fn (a15, (a16, (a18, (a19, (r0.2.1, (r0.2.2.1, (r0.2.2.2.1, (r0.2.2.2.2.1, (r0.2.2.2.2.2.1, (r0.2.2.2.2.2.2.1, (r0.2.2.2.2.2.2.2.1, (r0.2.2.2.2.2.2.2.2.1, (r0.2.2.2.2.2.2.2.2.2.1, (r0.2.2.2.2.2.2.2.2.2.2.1, (r0.2.2.2.2.2.2.2.2.2.2.2.1, (r0.2.2.2.2.2.2.2.2.2.2.2.2.1, (r0.2.2.2.2.2.2.2.2.2.2.2.2.2.1, (r0.2.2.2.2.2.2.2.2.2.2.2.2.2.2.1, (r0.2.2.2.2.2.2.2.2.2.2.2.2.2.2.2.1, (r0.2.2.2.2.2.2.2.2.2.2.2.2.2.2.2.2.1, (r0.2.2.2.2.2.2.2.2.2.2.2.2.2.2.2.2.2.1, (r0.2.2.2.2.2.2.2.2.2.2.2.2.2.2.2.2.2.2.1, (r0.2.2.2.2.2.2.2.2.2.2.2.2.2.2.2.2.2.2.2.1, (r0.2.2.2.2.2.2.2.2.2.2.2.2.2.2.2.2.2.2.2.2.1, (r0.2.2.2.2.2.2.2.2.2.2.2.2.2.2.2.2.2.2.2.2.2.1, (r0.2.2.2.2.2.2.2.2.2.2.2.2.2.2.2.2.2.2.2.2.2.2.1, (r0.2.2.2.2.2.2.2.2.2.2.2.2.2.2.2.2.2.2.2.2.2.2.2.1, ()))))))))))))))))))))))))))))) (fun r2 =>
 .ite (!r2.1) (
 .grd (decide (List.length r2.2.2.2.2.2.2.2.2.2.2.2.2.2.2.2.2.2.2.2.2.2.2.2.fst = List.length r2.2.2.2.2.2.2.2.2.2.2.2.2.2.2.2.2.2.2.2.2.2.2.2.1)) (
 .ret ([], ((4 : Int), (r2.2.1, (r2.2.2.1, (r2.2.2.2.1, (r2.2.2.2.2.1, (r2.2.2.2.2.2.1, (r2.2.2.2.2.2.2.1, (r2.2.2.2.2.2.2.2.1, (r2.2.2.2.2.2.2.2.2.1, (r2.2.2.2.2.2.2.2.2.2.1, (r2.2.2.2.2.2.2.2.2.2.2.1, (r2.2.2.2.2.2.2.2.2.2.2.2.1, (r2.2.2.2.2.2.2.2.2.2.2.2.2.1, (r2.2.2.2.2.2.2.2.2.2.2.2.2.2.1, (r2.2.2.2.2.2.2.2.2.2.2.2.2.2.2.1, (r2.2.2.2.2.2.2.2.2.2.2.2.2.2.2.2.1, (r2.2.2.2.2.2.2.2.2.2.2.2.2.2.2.2.2.1, (r2.2.2.2.2.2.2.2.2.2.2.2.2.2.2.2.2.2.1, (r2.2.2.2.2.2.2.2.2.2.2.2.2.2.2.2.2.2.2.1, (r2.2.2.2.2.2.2.2.2.2.2.2.2.2.2.2.2.2.2.2.1, (r2.2.2.2.2.2.2.2.2.2.2.2.2.2.2.2.2.2.2.2.2.1, (r2.2.2.2.2.2.2.2.2.2.2.2.2.2.2.2.2.2.2.2.2.2.1, (r2.2.2.2.2.2.2.2.2.2.2.2.2.2.2.2.2.2.2.2.2.2.2.1, (r2.2.2.2.2.2.2.2.2.2.2.2.2.2.2.2.2.2.2.2.2.2.2.2.1, ()))))))))))))))))))))))))))) (
 .opt ((natOut_fn (r2.2.2.2.2.2.2.2.2.2.2.1, (r2.2.2.2.2.2.2.2.2.2.2.2.1, (r2.2.2.2.2.2.2.2.2.2.2.2.2.1, (r2.2.2.2.2.2.2.2.2.2.2.2.2.2.1, (r2.2.2.2.2.2.2.2.2.2.2.2.2.2.2.1, (r2.2.2.2.2.2.2.2.2.2.2.2.2.2.2.2.1, (a17, (a15, (a18, (r2.2.2.2.2.2.2.2.2.2.2.2.2.2.2.2.2.2.2.2.2.2.2.1, ())))))))))))) (fun r3 =>
 .ite (!decide (r3.2.2.2.2.2.2.2.1 = (0 : Int))) (
 .grd (decide (List.length r2.2.2.2.2.2.2.2.2.2.2.2.2.2.2.2.2.2.2.2.2.2.2.2.fst = List.length r2.2.2.2.2.2.2.2.2.2.2.2.2.2.2.2.2.2.2.2.2.2.2.2.1)) (
 .ret ([], ((5 : Int), (r2.2.1, (r2.2.2.1, (r2.2.2.2.1, (r2.2.2.2.2.1, (r2.2.2.2.2.2.1, (r2.2.2.2.2.2.2.1, (r2.2.2.2.2.2.2.2.1, (r2.2.2.2.2.2.2.2.2.1, (r2.2.2.2.2.2.2.2.2.2.1, (r2.2.2.2.2.2.2.2.2.2.2.1, (r2.2.2.2.2.2.2.2.2.2.2.2.1, (r2.2.2.2.2.2.2.2.2.2.2.2.2.1, (r2.2.2.2.2.2.2.2.2.2.2.2.2.2.1, (r2.2.2.2.2.2.2.2.2.2.2.2.2.2.2.1, (r2.2.2.2.2.2.2.2.2.2.2.2.2.2.2.2.1, (r2.2.2.2.2.2.2.2.2.2.2.2.2.2.2.2.2.1, (r2.2.2.2.2.2.2.2.2.2.2.2.2.2.2.2.2.2.1, (r2.2.2.2.2.2.2.2.2.2.2.2.2.2.2.2.2.2.2.1, (r2.2.2.2.2.2.2.2.2.2.2.2.2.2.2.2.2.2.2.2.1, (r2.2.2.2.2.2.2.2.2.2.2.2.2.2.2.2.2.2.2.2.2.1, (r2.2.2.2.2.2.2.2.2.2.2.2.2.2.2.2.2.2.2.2.2.2.1, (r2.2.2.2.2.2.2.2.2.2.2.2.2.2.2.2.2.2.2.2.2.2.2.1, (r2.2.2.2.2.2.2.2.2.2.2.2.2.2.2.2.2.2.2.2.2.2.2.2.1, ()))))))))))))))))))))))))))) (
 .opt ((swFrom_fn (r2.2.2.2.2.2.2.2.2.2.2.2.2.2.2.2.2.2.2.2.2.2.1, (r2.2.1, (r3.2.2.2.2.2.2.1, ()))))) (fun r4 =>
 .grd (decide (List.length r2.2.2.2.2.2.2.2.2.2.2.2.2.2.2.2.2.2.2.2.2.2.2.2.fst = List.length r2.2.2.2.2.2.2.2.2.2.2.2.2.2.2.2.2.2.2.2.2.2.2.2.1)) (
 .ret (r4.1, ((0 : Int), (r2.2.1, (r2.2.2.1, (r2.2.2.2.1, (r2.2.2.2.2.1, (r2.2.2.2.2.2.1, (r2.2.2.2.2.2.2.1, (r2.2.2.2.2.2.2.2.1, (r2.2.2.2.2.2.2.2.2.1, (r2.2.2.2.2.2.2.2.2.2.1, (r3.1, (r3.2.1, (r3.2.2.1, (r3.2.2.2.1, (r3.2.2.2.2.1, (r3.2.2.2.2.2.1, (r2.2.2.2.2.2.2.2.2.2.2.2.2.2.2.2.2.1, (r2.2.2.2.2.2.2.2.2.2.2.2.2.2.2.2.2.2.1, (r2.2.2.2.2.2.2.2.2.2.2.2.2.2.2.2.2.2.2.1, (r2.2.2.2.2.2.2.2.2.2.2.2.2.2.2.2.2.2.2.2.1, (r2.2.2.2.2.2.2.2.2.2.2.2.2.2.2.2.2.2.2.2.2.1, (r2.2.2.2.2.2.2.2.2.2.2.2.2.2.2.2.2.2.2.2.2.2.1, (r2.2.2.2.2.2.2.2.2.2.2.2.2.2.2.2.2.2.2.2.2.2.2.1, (r2.2.2.2.2.2.2.2.2.2.2.2.2.2.2.2.2.2.2.2.2.2.2.2.1, ()))))))))))))))))))))))))))))))))) (
 .opt ((natOut_fn (r0.2.2.2.2.2.2.2.2.2.2.1, (r0.2.2.2.2.2.2.2.2.2.2.2.1, (r0.2.2.2.2.2.2.2.2.2.2.2.2.1, (r0.2.2.2.2.2.2.2.2.2.2.2.2.2.1, (r0.2.2.2.2.2.2.2.2.2.2.2.2.2.2.1, (r0.2.2.2.2.2.2.2.2.2.2.2.2.2.2.2.1, (a17, (a15, (a18, (r0.2.2.2.2.2.2.2.2.2.2.2.2.2.2.2.2.2.2.2.2.2.2.1, ())))))))))))) (fun r2 =>
 .ite (!decide (r2.2.2.2.2.2.2.2.1 = (0 : Int))) (
 .grd (decide (List.length r0.2.2.2.2.2.2.2.2.2.2.2.2.2.2.2.2.2.2.2.2.2.2.2.fst = List.length r0.2.2.2.2.2.2.2.2.2.2.2.2.2.2.2.2.2.2.2.2.2.2.2.1)) (
 .ret ([], ((5 : Int), (r0.2.1, (r0.2.2.1, (r0.2.2.2.1, (r0.2.2.2.2.1, (r0.2.2.2.2.2.1, (r0.2.2.2.2.2.2.1, (r0.2.2.2.2.2.2.2.1, (r0.2.2.2.2.2.2.2.2.1, (r0.2.2.2.2.2.2.2.2.2.1, (r0.2.2.2.2.2.2.2.2.2.2.1, (r0.2.2.2.2.2.2.2.2.2.2.2.1, (r0.2.2.2.2.2.2.2.2.2.2.2.2.1, (r0.2.2.2.2.2.2.2.2.2.2.2.2.2.1, (r0.2.2.2.2.2.2.2.2.2.2.2.2.2.2.1, (r0.2.2.2.2.2.2.2.2.2.2.2.2.2.2.2.1, (r0.2.2.2.2.2.2.2.2.2.2.2.2.2.2.2.2.1, (r0.2.2.2.2.2.2.2.2.2.2.2.2.2.2.2.2.2.1, (r0.2.2.2.2.2.2.2.2.2.2.2.2.2.2.2.2.2.2.1, (r0.2.2.2.2.2.2.2.2.2.2.2.2.2.2.2.2.2.2.2.1, (r0.2.2.2.2.2.2.2.2.2.2.2.2.2.2.2.2.2.2.2.2.1, (r0.2.2.2.2.2.2.2.2.2.2.2.2.2.2.2.2.2.2.2.2.2.1, (r0.2.2.2.2.2.2.2.2.2.2.2.2.2.2.2.2.2.2.2.2.2.2.1, (r0.2.2.2.2.2.2.2.2.2.2.2.2.2.2.2.2.2.2.2.2.2.2.2.1, ()))))))))))))))))))))))))))) (
 .opt ((swFrom_fn (r0.2.2.2.2.2.2.2.2.2.2.2.2.2.2.2.2.2.2.2.2.2.1, (r0.2.1, (r2.2.2.2.2.2.2.1, ()))))) (fun r3 =>
 .grd (decide (List.length r0.2.2.2.2.2.2.2.2.2.2.2.2.2.2.2.2.2.2.2.2.2.2.2.fst = List.length r0.2.2.2.2.2.2.2.2.2.2.2.2.2.2.2.2.2.2.2.2.2.2.2.1)) (
 .ret (r3.1, ((0 : Int), (r0.2.1, (r0.2.2.1, (r0.2.2.2.1, (r0.2.2.2.2.1, (r0.2.2.2.2.2.1, (r0.2.2.2.2.2.2.1, (r0.2.2.2.2.2.2.2.1, (r0.2.2.2.2.2.2.2.2.1, (r0.2.2.2.2.2.2.2.2.2.1, (r2.1, (r2.2.1, (r2.2.2.1, (r2.2.2.2.1, (r2.2.2.2.2.1, (r2.2.2.2.2.2.1, (r0.2.2.2.2.2.2.2.2.2.2.2.2.2.2.2.2.1, (r0.2.2.2.2.2.2.2.2.2.2.2.2.2.2.2.2.2.1, (r0.2.2.2.2.2.2.2.2.2.2.2.2.2.2.2.2.2.2.1, (r0.2.2.2.2.2.2.2.2.2.2.2.2.2.2.2.2.2.2.2.1, (r0.2.2.2.2.2.2.2.2.2.2.2.2.2.2.2.2.2.2.2.2.1, (r0.2.2.2.2.2.2.2.2.2.2.2.2.2.2.2.2.2.2.2.2.2.1, (r0.2.2.2.2.2.2.2.2.2.2.2.2.2.2.2.2.2.2.2.2.2.2.1, (r0.2.2.2.2.2.2.2.2.2.2.2.2.2.2.2.2.2.2.2.2.2.2.2.1, ()))))))))))))))))))))))))))))))))) (
 .ite (decide (a17 = (6 : Int))) (
 .grd (decide (List.length r0.2.2.2.2.2.2.2.2.2.2.2.2.2.2.2.2.2.2.2.2.2.2.2.fst = List.length r0.2.2.2.2.2.2.2.2.2.2.2.2.2.2.2.2.2.2.2.2.2.2.2.1)) (
 .opt ((wTalked_fn (a15, (a16, (a18, (a19, (r0.2.1, (r0.2.2.1, (r0.2.2.2.1, (r0.2.2.2.2.1, (r0.2.2.2.2.2.1, (r0.2.2.2.2.2.2.1, (r0.2.2.2.2.2.2.2.1, (r0.2.2.2.2.2.2.2.2.1, (r0.2.2.2.2.2.2.2.2.2.1, (r0.2.2.2.2.2.2.2.2.2.2.1, (r0.2.2.2.2.2.2.2.2.2.2.2.1, (r0.2.2.2.2.2.2.2.2.2.2.2.2.1, (r0.2.2.2.2.2.2.2.2.2.2.2.2.2.1, (r0.2.2.2.2.2.2.2.2.2.2.2.2.2.2.1, (r0.2.2.2.2.2.2.2.2.2.2.2.2.2.2.2.1, (r0.2.2.2.2.2.2.2.2.2.2.2.2.2.2.2.2.1, (r0.2.2.2.2.2.2.2.2.2.2.2.2.2.2.2.2.2.1, (r0.2.2.2.2.2.2.2.2.2.2.2.2.2.2.2.2.2.2.1, (r0.2.2.2.2.2.2.2.2.2.2.2.2.2.2.2.2.2.2.2.1, (r0.2.2.2.2.2.2.2.2.2.2.2.2.2.2.2.2.2.2.2.2.1, (r0.2.2.2.2.2.2.2.2.2.2.2.2.2.2.2.2.2.2.2.2.2.1, (r0.2.2.2.2.2.2.2.2.2.2.2.2.2.2.2.2.2.2.2.2.2.2.1, (r0.2.2.2.2.2.2.2.2.2.2.2.2.2.2.2.2.2.2.2.2.2.2.2.1, ()))))))))))))))))))))))))))))) (fun r1 =>
 .ite (!r1.1) (
 .grd (decide (List.length r1.2.2.2.2.2.2.2.2.2.2.2.2.2.2.2.2.2.2.2.2.2.2.2.fst = List.length r1.2.2.2.2.2.2.2.2.2.2.2.2.2.2.2.2.2.2.2.2.2.2.2.1)) (
 .ret ([], ((4 : Int), (r1.2.1, (r1.2.2.1, (r1.2.2.2.1, (r1.2.2.2.2.1, (r1.2.2.2.2.2.1, (r1.2.2.2.2.2.2.1, (r1.2.2.2.2.2.2.2.1, (r1.2.2.2.2.2.2.2.2.1, (r1.2.2.2.2.2.2.2.2.2.1, (r1.2.2.2.2.2.2.2.2.2.2.1, (r1.2.2.2.2.2.2.2.2.2.2.2.1, (r1.2.2.2.2.2.2.2.2.2.2.2.2.1, (r1.2.2.2.2.2.2.2.2.2.2.2.2.2.1, (r1.2.2.2.2.2.2.2.2.2.2.2.2.2.2.1, (r1.2.2.2.2.2.2.2.2.2.2.2.2.2.2.2.1, (r1.2.2.2.2.2.2.2.2.2.2.2.2.2.2.2.2.1, (r1.2.2.2.2.2.2.2.2.2.2.2.2.2.2.2.2.2.1, (r1.2.2.2.2.2.2.2.2.2.2.2.2.2.2.2.2.2.2.1, (r1.2.2.2.2.2.2.2.2.2.2.2.2.2.2.2.2.2.2.2.1, (r1.2.2.2.2.2.2.2.2.2.2.2.2.2.2.2.2.2.2.2.2.1, (r1.2.2.2.2.2.2.2.2.2.2.2.2.2.2.2.2.2.2.2.2.2.1, (r1.2.2.2.2.2.2.2.2.2.2.2.2.2.2.2.2.2.2.2.2.2.2.1, (r1.2.2.2.2.2.2.2.2.2.2.2.2.2.2.2.2.2.2.2.2.2.2.2.1, ()))))))))))))))))))))))))))) (
 .opt ((natOut_fn (r1.2.2.2.2.2.2.2.2.2.2.1, (r1.2.2.2.2.2.2.2.2.2.2.2.1, (r1.2.2.2.2.2.2.2.2.2.2.2.2.1, (r1.2.2.2.2.2.2.2.2.2.2.2.2.2.1, (r1.2.2.2.2.2.2.2.2.2.2.2.2.2.2.1, (r1.2.2.2.2.2.2.2.2.2.2.2.2.2.2.2.1, (a17, (a15, (a18, (r1.2.2.2.2.2.2.2.2.2.2.2.2.2.2.2.2.2.2.2.2.2.2.1, ())))))))))))) (fun r2 =>
 .ite (!decide (r2.2.2.2.2.2.2.2.1 = (0 : Int))) (
 .grd (decide (List.length r1.2.2.2.2.2.2.2.2.2.2.2.2.2.2.2.2.2.2.2.2.2.2.2.fst = List.length r1.2.2.2.2.2.2.2.2.2.2.2.2.2.2.2.2.2.2.2.2.2.2.2.1)) (
 .ret ([], ((5 : Int), (r1.2.1, (r1.2.2.1, (r1.2.2.2.1, (r1.2.2.2.2.1, (r1.2.2.2.2.2.1, (r1.2.2.2.2.2.2.1, (r1.2.2.2.2.2.2.2.1, (r1.2.2.2.2.2.2.2.2.1, (r1.2.2.2.2.2.2.2.2.2.1, (r1.2.2.2.2.2.2.2.2.2.2.1, (r1.2.2.2.2.2.2.2.2.2.2.2.1, (r1.2.2.2.2.2.2.2.2.2.2.2.2.1, (r1.2.2.2.2.2.2.2.2.2.2.2.2.2.1, (r1.2.2.2.2.2.2.2.2.2.2.2.2.2.2.1, (r1.2.2.2.2.2.2.2.2.2.2.2.2.2.2.2.1, (r1.2.2.2.2.2.2.2.2.2.2.2.2.2.2.2.2.1, (r1.2.2.2.2.2.2.2.2.2.2.2.2.2.2.2.2.2.1, (r1.2.2.2.2.2.2.2.2.2.2.2.2.2.2.2.2.2.2.1, (r1.2.2.2.2.2.2.2.2.2.2.2.2.2.2.2.2.2.2.2.1, (r1.2.2.2.2.2.2.2.2.2.2.2.2.2.2.2.2.2.2.2.2.1, (r1.2.2.2.2.2.2.2.2.2.2.2.2.2.2.2.2.2.2.2.2.2.1, (r1.2.2.2.2.2.2.2.2.2.2.2.2.2.2.2.2.2.2.2.2.2.2.1, (r1.2.2.2.2.2.2.2.2.2.2.2.2.2.2.2.2.2.2.2.2.2.2.2.1, ()))))))))))))))))))))))))))) (
 .opt ((swFrom_fn (r1.2.2.2.2.2.2.2.2.2.2.2.2.2.2.2.2.2.2.2.2.2.1, (r1.2.1, (r2.2.2.2.2.2.2.1, ()))))) (fun r3 =>
 .grd (decide (List.length r1.2.2.2.2.2.2.2.2.2.2.2.2.2.2.2.2.2.2.2.2.2.2.2.fst = List.length r1.2.2.2.2.2.2.2.2.2.2.2.2.2.2.2.2.2.2.2.2.2.2.2.1)) (
 .ret (r3.1, ((0 : Int), (r1.2.1, (r1.2.2.1, (r1.2.2.2.1, (r1.2.2.2.2.1, (r1.2.2.2.2.2.1, (r1.2.2.2.2.2.2.1, (r1.2.2.2.2.2.2.2.1, (r1.2.2.2.2.2.2.2.2.1, (r1.2.2.2.2.2.2.2.2.2.1, (r2.1, (r2.2.1, (r2.2.2.1, (r2.2.2.2.1, (r2.2.2.2.2.1, (r2.2.2.2.2.2.1, (r1.2.2.2.2.2.2.2.2.2.2.2.2.2.2.2.2.1, (r1.2.2.2.2.2.2.2.2.2.2.2.2.2.2.2.2.2.1, (r1.2.2.2.2.2.2.2.2.2.2.2.2.2.2.2.2.2.2.1, (r1.2.2.2.2.2.2.2.2.2.2.2.2.2.2.2.2.2.2.2.1, (r1.2.2.2.2.2.2.2.2.2.2.2.2.2.2.2.2.2.2.2.2.1, (r1.2.2.2.2.2.2.2.2.2.2.2.2.2.2.2.2.2.2.2.2.2.1, (r1.2.2.2.2.2.2.2.2.2.2.2.2.2.2.2.2.2.2.2.2.2.2.1, (r1.2.2.2.2.2.2.2.2.2.2.2.2.2.2.2.2.2.2.2.2.2.2.2.1, ()))))))))))))))))))))))))))))))))) (
 .opt ((natOut_fn (r0.2.2.2.2.2.2.2.2.2.2.1, (r0.2.2.2.2.2.2.2.2.2.2.2.1, (r0.2.2.2.2.2.2.2.2.2.2.2.2.1, (r0.2.2.2.2.2.2.2.2.2.2.2.2.2.1, (r0.2.2.2.2.2.2.2.2.2.2.2.2.2.2.1, (r0.2.2.2.2.2.2.2.2.2.2.2.2.2.2.2.1, (a17, (a15, (a18, (r0.2.2.2.2.2.2.2.2.2.2.2.2.2.2.2.2.2.2.2.2.2.2.1, ())))))))))))) (fun r1 =>
 .ite (!decide (r1.2.2.2.2.2.2.2.1 = (0 : Int))) (
 .grd (decide (List.length r0.2.2.2.2.2.2.2.2.2.2.2.2.2.2.2.2.2.2.2.2.2.2.2.fst = List.length r0.2.2.2.2.2.2.2.2.2.2.2.2.2.2.2.2.2.2.2.2.2.2.2.1)) (
 .ret ([], ((5 : Int), (r0.2.1, (r0.2.2.1, (r0.2.2.2.1, (r0.2.2.2.2.1, (r0.2.2.2.2.2.1, (r0.2.2.2.2.2.2.1, (r0.2.2.2.2.2.2.2.1, (r0.2.2.2.2.2.2.2.2.1, (r0.2.2.2.2.2.2.2.2.2.1, (r0.2.2.2.2.2.2.2.2.2.2.1, (r0.2.2.2.2.2.2.2.2.2.2.2.1, (r0.2.2.2.2.2.2.2.2.2.2.2.2.1, (r0.2.2.2.2.2.2.2.2.2.2.2.2.2.1, (r0.2.2.2.2.2.2.2.2.2.2.2.2.2.2.1, (r0.2.2.2.2.2.2.2.2.2.2.2.2.2.2.2.1, (r0.2.2.2.2.2.2.2.2.2.2.2.2.2.2.2.2.1, (r0.2.2.2.2.2.2.2.2.2.2.2.2.2.2.2.2.2.1, (r0.2.2.2.2.2.2.2.2.2.2.2.2.2.2.2.2.2.2.1, (r0.2.2.2.2.2.2.2.2.2.2.2.2.2.2.2.2.2.2.2.1, (r0.2.2.2.2.2.2.2.2.2.2.2.2.2.2.2.2.2.2.2.2.1, (r0.2.2.2.2.2.2.2.2.2.2.2.2.2.2.2.2.2.2.2.2.2.1, (r0.2.2.2.2.2.2.2.2.2.2.2.2.2.2.2.2.2.2.2.2.2.2.1, (r0.2.2.2.2.2.2.2.2.2.2.2.2.2.2.2.2.2.2.2.2.2.2.2.1, ()))))))))))))))))))))))))))) (
 .opt ((swFrom_fn (r0.2.2.2.2.2.2.2.2.2.2.2.2.2.2.2.2.2.2.2.2.2.1, (r0.2.1, (r1.2.2.2.2.2.2.1, ()))))) (fun r2 =>
 .grd (decide (List.length r0.2.2.2.2.2.2.2.2.2.2.2.2.2.2.2.2.2.2.2.2.2.2.2.fst = List.length r0.2.2.2.2.2.2.2.2.2.2.2.2.2.2.2.2.2.2.2.2.2.2.2.1)) (
 .ret (r2.1, ((0 : Int), (r0.2.1, (r0.2.2.1, (r0.2.2.2.1, (r0.2.2.2.2.1, (r0.2.2.2.2.2.1, (r0.2.2.2.2.2.2.1, (r0.2.2.2.2.2.2.2.1, (r0.2.2.2.2.2.2.2.2.1, (r0.2.2.2.2.2.2.2.2.2.1, (r1.1, (r1.2.1, (r1.2.2.1, (r1.2.2.2.1, (r1.2.2.2.2.1, (r1.2.2.2.2.2.1, (r0.2.2.2.2.2.2.2.2.2.2.2.2.2.2.2.2.1, (r0.2.2.2.2.2.2.2.2.2.2.2.2.2.2.2.2.2.1, (r0.2.2.2.2.2.2.2.2.2.2.2.2.2.2.2.2.2.2.1, (r0.2.2.2.2.2.2.2.2.2.2.2.2.2.2.2.2.2.2.2.1, (r0.2.2.2.2.2.2.2.2.2.2.2.2.2.2.2.2.2.2.2.2.1, (r0.2.2.2.2.2.2.2.2.2.2.2.2.2.2.2.2.2.2.2.2.2.1, (r0.2.2.2.2.2.2.2.2.2.2.2.2.2.2.2.2.2.2.2.2.2.2.1, (r0.2.2.2.2.2.2.2.2.2.2.2.2.2.2.2.2.2.2.2.2.2.2.2.1, ()))))))))))))))))))))))))))))))))))
noncomputable def gm53 : List (PF Go.Proofs.Tryd.prog) := [FS.pf sumFold, FS.pf sumAdd, FS.pf sumOf, FS.pf sumRight, FS.pf sumFix, FS.pf dgWord, FS.pf dgLong, FS.pf dgWordAt, FS.pf dgUnder, FS.pf dgPort, FS.pf dgWrite, FS.pf dgRead, FS.pf ipWordAt, FS.pf ipLongAt, FS.pf ipByt, FS.pf ipRefused, FS.pf ipWord, FS.pf ipLong, FS.pf ipWrite, FS.pf ipRead, FS.pf ipHop, FS.pf tcWordAt, FS.pf tcLongAt, FS.pf tcParse, FS.pf tcRead, FS.pf swEnds, FS.pf swWord, GS.pf swPut, GS.pf swChange, FS.pf swSwapped, FS.pf swFrom, FS.pf swTo, clTalk, GS.pf delTalk, FS.pf trTurned, FS.pf trPort, FS.pf trRoad, FS.pf trForm, FS.pf trPlace, FS.pf trCheck, FS.pf trOld, GS.pf dfTalk, GS.pf trOpen, GS.pf trPasses, FS.pf trHear, FS.pf trFind, FS.pf buCheck, FS.pf buLev, FS.pf buTake, clRule, FS.pf ruNet, FS.pf ruHas, FS.pf ruBounds, FS.pf ruRight, FS.pf ruCheck, FS.pf ruMeets, FS.pf ruDecide, tz64, FS.pf portsCheck, FS.pf portsLet, FS.pf portsEnd, FS.pf confCheck, clMap, GS.pf delMap, FS.pf natWithin, FS.pf natCheck, natPlace, GS.pf natExpire, FS.pf natOut, FS.pf natIn, clMeter, GS.pf delMeter, FS.pf hsMeter, FS.pf hsLast, FS.pf hsCheck, FS.pf hsNew, GS.pf wMeasured, GS.pf wKnown, GS.pf wTalked]
theorem wLeaves_eq (x : ty15_) : gsTr Tryd.prog cod gm53 [] 30 46 wLeaves_ap wLeaves_rp x = wLeaves_tree x := by kernel_rfl
def wLeaves_fn (x : ty15_) : Option ty18_ := (wLeaves_tree x).eval
def wLeaves : GS Tryd.prog := ⟨46, [1], wLeaves_ap, wLeaves_rp, wLeaves_fn, fun x r h ys m g he hg => gs_sound (cod := cod) (Γ := gm53) (Λs := []) (n := 30) ((congrArg Tr.eval (wLeaves_eq x)).trans h) he hg⟩
def wEnters_ap : SP := ⟨68, [(0, .v (.one (.ptr 1000000 0)))], [(1000000, .cells [.i .u32, .i .i64, .i .i64, .i .i64, .i .i64, .i .i64, .st 10 false, .b, .own 1000100, .st 16 false, .i .i64, .i .i64, .i .u64, .i .i64, .i .u64, .st 17 false, .i .u32, .i .u32, .i .i64, .i .i64, .i .i64, .s, .i .i64]), (1000100, .row 104 19 true true)]⟩
def wEnters_rp : SP := ⟨1, [(0, .tup [.one (.s), .one (.i .i64)])], [(1000000, .cells [.i .u32, .i .i64, .i .i64, .i .i64, .i .i64, .i .i64, .st 10 false, .b, .own 1000100, .st 16 false, .i .i64, .i .i64, .i .u64, .i .i64, .i .u64, .st 17 false, .i .u32, .i .u32, .i .i64, .i .i64, .i .i64, .s, .i .i64]), (1000100, .row 104 19 true true)]⟩
def wEnters_tree : ty15_ -> Tr ty18_ :=
 fun (a0, a1, a2, a3, a4, a5, a6, a7, a8, a9, a10, a11, a12, a13, a14, a15, a16, a17, a18, a19, a20, a21, a22, _) =>
 .opt ((natIn_fn (a9, (a10, (a11, (a12, (a13, (a14, (a17, (a19, (a21, ()))))))))))) (fun r0 =>
 .ite (!decide (r0.2.2.1 = (0 : Int))) (
 .grd (decide (List.length a22 = List.length a22)) (
 .ret ([], ((4 : Int), (a0, (a1, (a2, (a3, (a4, (a5, (a6, (a7, (a8, (a9, (a10, (a11, (a12, (a13, (a14, (a15, (a16, (a17, (a18, (a19, (a20, (a21, (a22, ()))))))))))))))))))))))))))) (
 .ite (decide (a17 = (6 : Int))) (
 .grd (decide (List.length a22 = List.length a22)) (
 .opt ((wKnown_fn (a15, (r0.1, (a18, (r0.2.1, (a0, (a1, (a2, (a3, (a4, (a5, (a6, (a7, (a8, (a9, (a10, (a11, (a12, (a13, (a14, (a15, (a16, (a17, (a18, (a19, (a20, (a21, (a22, ()))))))))))))))))))))))))))))) (fun r1 =>
 .ite (!r1.1) (
 .grd (decide (List.length r1.2.2.2.2.2.2.2.2.2.2.2.2.2.2.2.2.2.2.2.2.2.2.2.fst = List.length r1.2.2.2.2.2.2.2.2.2.2.2.2.2.2.2.2.2.2.2.2.2.2.2.1)) (
 .ret ([], ((4 : Int), (r1.2.1, (r1.2.2.1, (r1.2.2.2.1, (r1.2.2.2.2.1, (r1.2.2.2.2.2.1, (r1.2.2.2.2.2.2.1, (r1.2.2.2.2.2.2.2.1, (r1.2.2.2.2.2.2.2.2.1, (r1.2.2.2.2.2.2.2.2.2.1, (r1.2.2.2.2.2.2.2.2.2.2.1, (r1.2.2.2.2.2.2.2.2.2.2.2.1, (r1.2.2.2.2.2.2.2.2.2.2.2.2.1, (r1.2.2.2.2.2.2.2.2.2.2.2.2.2.1, (r1.2.2.2.2.2.2.2.2.2.2.2.2.2.2.1, (r1.2.2.2.2.2.2.2.2.2.2.2.2.2.2.2.1, (r1.2.2.2.2.2.2.2.2.2.2.2.2.2.2.2.2.1, (r1.2.2.2.2.2.2.2.2.2.2.2.2.2.2.2.2.2.1, (r1.2.2.2.2.2.2.2.2.2.2.2.2.2.2.2.2.2.2.1, (r1.2.2.2.2.2.2.2.2.2.2.2.2.2.2.2.2.2.2.2.1, (r1.2.2.2.2.2.2.2.2.2.2.2.2.2.2.2.2.2.2.2.2.1, (r1.2.2.2.2.2.2.2.2.2.2.2.2.2.2.2.2.2.2.2.2.2.1, (r1.2.2.2.2.2.2.2.2.2.2.2.2.2.2.2.2.2.2.2.2.2.2.1, (r1.2.2.2.2.2.2.2.2.2.2.2.2.2.2.2.2.2.2.2.2.2.2.2.1, ()))))))))))))))))))))))))))) (
 .grd (decide (List.length r1.2.2.2.2.2.2.2.2.2.2.2.2.2.2.2.2.2.2.2.2.2.2.2.fst = List.length r1.2.2.2.2.2.2.2.2.2.2.2.2.2.2.2.2.2.2.2.2.2.2.2.1)) (
 .opt ((wTalked_fn (a15, (r0.1, (a18, (r0.2.1, (r1.2.1, (r1.2.2.1, (r1.2.2.2.1, (r1.2.2.2.2.1, (r1.2.2.2.2.2.1, (r1.2.2.2.2.2.2.1, (r1.2.2.2.2.2.2.2.1, (r1.2.2.2.2.2.2.2.2.1, (r1.2.2.2.2.2.2.2.2.2.1, (r1.2.2.2.2.2.2.2.2.2.2.1, (r1.2.2.2.2.2.2.2.2.2.2.2.1, (r1.2.2.2.2.2.2.2.2.2.2.2.2.1, (r1.2.2.2.2.2.2.2.2.2.2.2.2.2.1, (r1.2.2.2.2.2.2.2.2.2.2.2.2.2.2.1, (r1.2.2.2.2.2.2.2.2.2.2.2.2.2.2.2.1, (r1.2.2.2.2.2.2.2.2.2.2.2.2.2.2.2.2.1, (r1.2.2.2.2.2.2.2.2.2.2.2.2.2.2.2.2.2.1, (r1.2.2.2.2.2.2.2.2.2.2.2.2.2.2.2.2.2.2.1, (r1.2.2.2.2.2.2.2.2.2.2.2.2.2.2.2.2.2.2.2.1, (r1.2.2.2.2.2.2.2.2.2.2.2.2.2.2.2.2.2.2.2.2.1, (r1.2.2.2.2.2.2.2.2.2.2.2.2.2.2.2.2.2.2.2.2.2.1, (r1.2.2.2.2.2.2.2.2.2.2.2.2.2.2.2.2.2.2.2.2.2.2.1, (r1.2.2.2.2.2.2.2.2.2.2.2.2.2.2.2.2.2.2.2.2.2.2.2.1, ()))))))))))))))))))))))))))))) (fun r2 =>
 .ite (!r2.1) (
 .grd (decide (List.length r2.2.2.2.2.2.2.2.2.2.2.2.2.2.2.2.2.2.2.2.2.2.2.2.fst = List.length r2.2.2.2.2.2.2.2.2.2.2.2.2.2.2.2.2.2.2.2.2.2.2.2.1)) (
 .ret ([], ((4 : Int), (r2.2.1, (r2.2.2.1, (r2.2.2.2.1, (r2.2.2.2.2.1, (r2.2.2.2.2.2.1, (r2.2.2.2.2.2.2.1, (r2.2.2.2.2.2.2.2.1, (r2.2.2.2.2.2.2.2.2.1, (r2.2.2.2.2.2.2.2.2.2.1, (r2.2.2.2.2.2.2.2.2.2.2.1, (r2.2.2.2.2.2.2.2.2.2.2.2.1, (r2.2.2.2.2.2.2.2.2.2.2.2.2.1, (r2.2.2.2.2.2.2.2.2.2.2.2.2.2.1, (r2.2.2.2.2.2.2.2.2.2.2.2.2.2.2.1, (r2.2.2.2.2.2.2.2.2.2.2.2.2.2.2.2.1, (r2.2.2.2.2.2.2.2.2.2.2.2.2.2.2.2.2.1, (r2.2.2.2.2.2.2.2.2.2.2.2.2.2.2.2.2.2.1, (r2.2.2.2.2.2.2.2.2.2.2.2.2.2.2.2.2.2.2.1, (r2.2.2.2.2.2.2.2.2.2.2.2.2.2.2.2.2.2.2.2.1, (r2.2.2.2.2.2.2.2.2.2.2.2.2.2.2.2.2.2.2.2.2.1, (r2.2.2.2.2.2.2.2.2.2.2.2.2.2.2.2.2.2.2.2.2.2.1, (r2.2.2.2.2.2.2.2.2.2.2.2.2.2.2.2.2.2.2.2.2.2.2.1, (r2.2.2.2.2.2.2.2.2.2.2.2.2.2.2.2.2.2.2.2.2.2.2.2.1, ()))))))))))))))))))))))))))) (
 .opt ((swTo_fn (r2.2.2.2.2.2.2.2.2.2.2.2.2.2.2.2.2.2.2.2.2.2.1, (r0.1, (r0.2.1, ()))))) (fun r3 =>
 .grd (decide (List.length r2.2.2.2.2.2.2.2.2.2.2.2.2.2.2.2.2.2.2.2.2.2.2.2.fst = List.length r2.2.2.2.2.2.2.2.2.2.2.2.2.2.2.2.2.2.2.2.2.2.2.2.1)) (
 .ret (r3.1, ((0 : Int), (r2.2.1, (r2.2.2.1, (r2.2.2.2.1, (r2.2.2.2.2.1, (r2.2.2.2.2.2.1, (r2.2.2.2.2.2.2.1, (r2.2.2.2.2.2.2.2.1, (r2.2.2.2.2.2.2.2.2.1, (r2.2.2.2.2.2.2.2.2.2.1, (r2.2.2.2.2.2.2.2.2.2.2.1, (r2.2.2.2.2.2.2.2.2.2.2.2.1, (r2.2.2.2.2.2.2.2.2.2.2.2.2.1, (r2.2.2.2.2.2.2.2.2.2.2.2.2.2.1, (r2.2.2.2.2.2.2.2.2.2.2.2.2.2.2.1, (r2.2.2.2.2.2.2.2.2.2.2.2.2.2.2.2.1, (r2.2.2.2.2.2.2.2.2.2.2.2.2.2.2.2.2.1, (r2.2.2.2.2.2.2.2.2.2.2.2.2.2.2.2.2.2.1, (r2.2.2.2.2.2.2.2.2.2.2.2.2.2.2.2.2.2.2.1, (r2.2.2.2.2.2.2.2.2.2.2.2.2.2.2.2.2.2.2.2.1, (r2.2.2.2.2.2.2.2.2.2.2.2.2.2.2.2.2.2.2.2.2.1, (r2.2.2.2.2.2.2.2.2.2.2.2.2.2.2.2.2.2.2.2.2.2.1, (r2.2.2.2.2.2.2.2.2.2.2.2.2.2.2.2.2.2.2.2.2.2.2.1, (r2.2.2.2.2.2.2.2.2.2.2.2.2.2.2.2.2.2.2.2.2.2.2.2.1, ())))))))))))))))))))))))))))))))))) (
 .opt ((swTo_fn (a20, (r0.1, (r0.2.1, ()))))) (fun r1 =>
 .grd (decide (List.length a22 = List.length a22)) (
 .ret (r1.1, ((0 : Int), (a0, (a1, (a2, (a3, (a4, (a5, (a6, (a7, (a8, (a9, (a10, (a11, (a12, (a13, (a14, (a15, (a16, (a17, (a18, (a19, (a20, (a21, (a22, ()))))))))))))))))))))))))))))))
noncomputable def gm54 : List (PF Go.Proofs.Tryd.prog) := [FS.pf sumFold, FS.pf sumAdd, FS.pf sumOf, FS.pf sumRight, FS.pf sumFix, FS.pf dgWord, FS.pf dgLong, FS.pf dgWordAt, FS.pf dgUnder, FS.pf dgPort, FS.pf dgWrite, FS.pf dgRead, FS.pf ipWordAt, FS.pf ipLongAt, FS.pf ipByt, FS.pf ipRefused, FS.pf ipWord, FS.pf ipLong, FS.pf ipWrite, FS.pf ipRead, FS.pf ipHop, FS.pf tcWordAt, FS.pf tcLongAt, FS.pf tcParse, FS.pf tcRead, FS.pf swEnds, FS.pf swWord, GS.pf swPut, GS.pf swChange, FS.pf swSwapped, FS.pf swFrom, FS.pf swTo, clTalk, GS.pf delTalk, FS.pf trTurned, FS.pf trPort, FS.pf trRoad, FS.pf trForm, FS.pf trPlace, FS.pf trCheck, FS.pf trOld, GS.pf dfTalk, GS.pf trOpen, GS.pf trPasses, FS.pf trHear, FS.pf trFind, FS.pf buCheck, FS.pf buLev, FS.pf buTake, clRule, FS.pf ruNet, FS.pf ruHas, FS.pf ruBounds, FS.pf ruRight, FS.pf ruCheck, FS.pf ruMeets, FS.pf ruDecide, tz64, FS.pf portsCheck, FS.pf portsLet, FS.pf portsEnd, FS.pf confCheck, clMap, GS.pf delMap, FS.pf natWithin, FS.pf natCheck, natPlace, GS.pf natExpire, FS.pf natOut, FS.pf natIn, clMeter, GS.pf delMeter, FS.pf hsMeter, FS.pf hsLast, FS.pf hsCheck, FS.pf hsNew, GS.pf wMeasured, GS.pf wKnown, GS.pf wTalked, GS.pf wLeaves]
theorem wEnters_eq (x : ty15_) : gsTr Tryd.prog cod gm54 [] 30 47 wEnters_ap wEnters_rp x = wEnters_tree x := by kernel_rfl
def wEnters_fn (x : ty15_) : Option ty18_ := (wEnters_tree x).eval
def wEnters : GS Tryd.prog := ⟨47, [1], wEnters_ap, wEnters_rp, wEnters_fn, fun x r h ys m g he hg => gs_sound (cod := cod) (Γ := gm54) (Λs := []) (n := 30) ((congrArg Tr.eval (wEnters_eq x)).trans h) he hg⟩
def wGoes_ap : SP := ⟨57, [(0, .v (.one (.ptr 1000000 0))), (1, .v (.one (.b))), (2, .v (.one (.s)))], [(1000000, .cells [.i .u32, .i .i64, .i .i64, .i .i64, .i .i64, .i .i64, .st 10 false, .b, .own 1000100, .st 16 false, .i .i64, .i .i64, .i .u64, .i .i64, .i .u64, .st 17 false, .i .u32, .i .u32, .i .i64, .i .i64, .i .i64, .s, .i .i64]), (1000100, .row 104 19 true true)]⟩
def wGoes_rp : SP := ⟨1, [(0, .tup [.one (.s), .one (.i .i64)])], [(1000000, .cells [.i .u32, .i .i64, .i .i64, .i .i64, .i .i64, .i .i64, .st 10 false, .b, .own 1000100, .st 16 false, .i .i64, .i .i64, .i .u64, .i .i64, .i .u64, .st 17 false, .i .u32, .i .u32, .i .i64, .i .i64, .i .i64, .s, .i .i64]), (1000100, .row 104 19 true true)]⟩
abbrev ty19_ : Type := (Bool × ((List UInt8) × (Int × (Int × (Int × (Int × (Int × (Int × ((List TRule) × (Bool × ((List TTalk) × (Int × (Int × (Int × (Int × (Int × ((List TMap) × (Int × (Int × (Int × (Int × (Int × ((List UInt8) × (Int × ((List TMeter) × Unit)))))))))))))))))))))))))
def wGoes_tree : ty19_ -> Tr ty18_ :=
 fun (a0, a1, a2, a3, a4, a5, a6, a7, a8, a9, a10, a11, a12, a13, a14, a15, a16, a17, a18, a19, a20, a21, a22, a23, a24, _) =>
 .opt ((swEnds_fn (a1, ()))) (fun r0 =>
 .ite (!decide (r0.2.2.2.2.2.1 = (0 : Int))) (
 .grd (decide (List.length a24 = List.length a24)) (
 .ret ([], ((1 : Int), (a2, (a3, (a4, (a5, (a6, (a7, (a8, (a9, (a10, (a11, (a12, (a13, (a14, (a15, (a16, (r0.1, (r0.2.1, (r0.2.2.1, (r0.2.2.2.1, (r0.2.2.2.2.1, (a22, (a23, (a24, ()))))))))))))))))))))))))))) (
 .ite (!a0) (
 .ite (!decide (r0.2.1 = a2)) (
 .grd (decide (List.length a24 = List.length a24)) (
 .ret ([], ((4 : Int), (a2, (a3, (a4, (a5, (a6, (a7, (a8, (a9, (a10, (a11, (a12, (a13, (a14, (a15, (a16, (r0.1, (r0.2.1, (r0.2.2.1, (r0.2.2.2.1, (r0.2.2.2.2.1, (a22, (a23, (a24, ()))))))))))))))))))))))))))) (
 .opt ((ipHop_fn (a1, ()))) (fun r1 =>
 .ite (!decide (r1.2.1 = (0 : Int))) (
 .grd (decide (List.length a24 = List.length a24)) (
 .ret ([], ((2 : Int), (a2, (a3, (a4, (a5, (a6, (a7, (a8, (a9, (a10, (a11, (a12, (a13, (a14, (a15, (a16, (r0.1, (r0.2.1, (r0.2.2.1, (r0.2.2.2.1, (r0.2.2.2.2.1, (r1.1, (a23, (a24, ()))))))))))))))))))))))))))) (
 .grd (decide (List.length a24 = List.length a24)) (
 .opt ((wMeasured_fn (a2, (a3, (a4, (a5, (a6, (a7, (a8, (a9, (a10, (a11, (a12, (a13, (a14, (a15, (a16, (r0.1, (r0.2.1, (r0.2.2.1, (r0.2.2.2.1, (r0.2.2.2.2.1, (r1.1, (a23, (a24, ()))))))))))))))))))))))))) (fun r2 =>
 .ite (!r2.1) (
 .grd (decide (List.length r2.2.2.2.2.2.2.2.2.2.2.2.2.2.2.2.2.2.2.2.2.2.2.2.fst = List.length r2.2.2.2.2.2.2.2.2.2.2.2.2.2.2.2.2.2.2.2.2.2.2.2.1)) (
 .ret ([], ((3 : Int), (r2.2.1, (r2.2.2.1, (r2.2.2.2.1, (r2.2.2.2.2.1, (r2.2.2.2.2.2.1, (r2.2.2.2.2.2.2.1, (r2.2.2.2.2.2.2.2.1, (r2.2.2.2.2.2.2.2.2.1, (r2.2.2.2.2.2.2.2.2.2.1, (r2.2.2.2.2.2.2.2.2.2.2.1, (r2.2.2.2.2.2.2.2.2.2.2.2.1, (r2.2.2.2.2.2.2.2.2.2.2.2.2.1, (r2.2.2.2.2.2.2.2.2.2.2.2.2.2.1, (r2.2.2.2.2.2.2.2.2.2.2.2.2.2.2.1, (r2.2.2.2.2.2.2.2.2.2.2.2.2.2.2.2.1, (r2.2.2.2.2.2.2.2.2.2.2.2.2.2.2.2.2.1, (r2.2.2.2.2.2.2.2.2.2.2.2.2.2.2.2.2.2.1, (r2.2.2.2.2.2.2.2.2.2.2.2.2.2.2.2.2.2.2.1, (r2.2.2.2.2.2.2.2.2.2.2.2.2.2.2.2.2.2.2.2.1, (r2.2.2.2.2.2.2.2.2.2.2.2.2.2.2.2.2.2.2.2.2.1, (r2.2.2.2.2.2.2.2.2.2.2.2.2.2.2.2.2.2.2.2.2.2.1, (r2.2.2.2.2.2.2.2.2.2.2.2.2.2.2.2.2.2.2.2.2.2.2.1, (r2.2.2.2.2.2.2.2.2.2.2.2.2.2.2.2.2.2.2.2.2.2.2.2.1, ()))))))))))))))))))))))))))) (
 .ite (a0) (
 .grd (decide (List.length r2.2.2.2.2.2.2.2.2.2.2.2.2.2.2.2.2.2.2.2.2.2.2.2.fst = List.length r2.2.2.2.2.2.2.2.2.2.2.2.2.2.2.2.2.2.2.2.2.2.2.2.1)) (
 .opt ((wLeaves_fn (r2.2.1, (r2.2.2.1, (r2.2.2.2.1, (r2.2.2.2.2.1, (r2.2.2.2.2.2.1, (r2.2.2.2.2.2.2.1, (r2.2.2.2.2.2.2.2.1, (r2.2.2.2.2.2.2.2.2.1, (r2.2.2.2.2.2.2.2.2.2.1, (r2.2.2.2.2.2.2.2.2.2.2.1, (r2.2.2.2.2.2.2.2.2.2.2.2.1, (r2.2.2.2.2.2.2.2.2.2.2.2.2.1, (r2.2.2.2.2.2.2.2.2.2.2.2.2.2.1, (r2.2.2.2.2.2.2.2.2.2.2.2.2.2.2.1, (r2.2.2.2.2.2.2.2.2.2.2.2.2.2.2.2.1, (r2.2.2.2.2.2.2.2.2.2.2.2.2.2.2.2.2.1, (r2.2.2.2.2.2.2.2.2.2.2.2.2.2.2.2.2.2.1, (r2.2.2.2.2.2.2.2.2.2.2.2.2.2.2.2.2.2.2.1, (r2.2.2.2.2.2.2.2.2.2.2.2.2.2.2.2.2.2.2.2.1, (r2.2.2.2.2.2.2.2.2.2.2.2.2.2.2.2.2.2.2.2.2.1, (r2.2.2.2.2.2.2.2.2.2.2.2.2.2.2.2.2.2.2.2.2.2.1, (r2.2.2.2.2.2.2.2.2.2.2.2.2.2.2.2.2.2.2.2.2.2.2.1, (r2.2.2.2.2.2.2.2.2.2.2.2.2.2.2.2.2.2.2.2.2.2.2.2.1, ()))))))))))))))))))))))))) (fun r3 =>
 .grd (decide (List.length r3.2.2.2.2.2.2.2.2.2.2.2.2.2.2.2.2.2.2.2.2.2.2.2.2.fst = List.length r3.2.2.2.2.2.2.2.2.2.2.2.2.2.2.2.2.2.2.2.2.2.2.2.2.1)) (
 .ret (r3.1, (r3.2.1, (r3.2.2.1, (r3.2.2.2.1, (r3.2.2.2.2.1, (r3.2.2.2.2.2.1, (r3.2.2.2.2.2.2.1, (r3.2.2.2.2.2.2.2.1, (r3.2.2.2.2.2.2.2.2.1, (r3.2.2.2.2.2.2.2.2.2.1, (r3.2.2.2.2.2.2.2.2.2.2.1, (r3.2.2.2.2.2.2.2.2.2.2.2.1, (r3.2.2.2.2.2.2.2.2.2.2.2.2.1, (r3.2.2.2.2.2.2.2.2.2.2.2.2.2.1, (r3.2.2.2.2.2.2.2.2.2.2.2.2.2.2.1, (r3.2.2.2.2.2.2.2.2.2.2.2.2.2.2.2.1, (r3.2.2.2.2.2.2.2.2.2.2.2.2.2.2.2.2.1, (r3.2.2.2.2.2.2.2.2.2.2.2.2.2.2.2.2.2.1, (r3.2.2.2.2.2.2.2.2.2.2.2.2.2.2.2.2.2.2.1, (r3.2.2.2.2.2.2.2.2.2.2.2.2.2.2.2.2.2.2.2.1, (r3.2.2.2.2.2.2.2.2.2.2.2.2.2.2.2.2.2.2.2.2.1, (r3.2.2.2.2.2.2.2.2.2.2.2.2.2.2.2.2.2.2.2.2.2.1, (r3.2.2.2.2.2.2.2.2.2.2.2.2.2.2.2.2.2.2.2.2.2.2.1, (r3.2.2.2.2.2.2.2.2.2.2.2.2.2.2.2.2.2.2.2.2.2.2.2.1, (r3.2.2.2.2.2.2.2.2.2.2.2.2.2.2.2.2.2.2.2.2.2.2.2.2.1, ()))))))))))))))))))))))))))))) (
 .grd (decide (List.length r2.2.2.2.2.2.2.2.2.2.2.2.2.2.2.2.2.2.2.2.2.2.2.2.fst = List.length r2.2.2.2.2.2.2.2.2.2.2.2.2.2.2.2.2.2.2.2.2.2.2.2.1)) (
 .opt ((wEnters_fn (r2.2.1, (r2.2.2.1, (r2.2.2.2.1, (r2.2.2.2.2.1, (r2.2.2.2.2.2.1, (r2.2.2.2.2.2.2.1, (r2.2.2.2.2.2.2.2.1, (r2.2.2.2.2.2.2.2.2.1, (r2.2.2.2.2.2.2.2.2.2.1, (r2.2.2.2.2.2.2.2.2.2.2.1, (r2.2.2.2.2.2.2.2.2.2.2.2.1, (r2.2.2.2.2.2.2.2.2.2.2.2.2.1, (r2.2.2.2.2.2.2.2.2.2.2.2.2.2.1, (r2.2.2.2.2.2.2.2.2.2.2.2.2.2.2.1, (r2.2.2.2.2.2.2.2.2.2.2.2.2.2.2.2.1, (r2.2.2.2.2.2.2.2.2.2.2.2.2.2.2.2.2.1, (r2.2.2.2.2.2.2.2.2.2.2.2.2.2.2.2.2.2.1, (r2.2.2.2.2.2.2.2.2.2.2.2.2.2.2.2.2.2.2.1, (r2.2.2.2.2.2.2.2.2.2.2.2.2.2.2.2.2.2.2.2.1, (r2.2.2.2.2.2.2.2.2.2.2.2.2.2.2.2.2.2.2.2.2.1, (r2.2.2.2.2.2.2.2.2.2.2.2.2.2.2.2.2.2.2.2.2.2.1, (r2.2.2.2.2.2.2.2.2.2.2.2.2.2.2.2.2.2.2.2.2.2.2.1, (r2.2.2.2.2.2.2.2.2.2.2.2.2.2.2.2.2.2.2.2.2.2.2.2.1, ()))))))))))))))))))))))))) (fun r3 =>
 .grd (decide (List.length r3.2.2.2.2.2.2.2.2.2.2.2.2.2.2.2.2.2.2.2.2.2.2.2.2.fst = List.length r3.2.2.2.2.2.2.2.2.2.2.2.2.2.2.2.2.2.2.2.2.2.2.2.2.1)) (
 .ret (r3.1, (r3.2.1, (r3.2.2.1, (r3.2.2.2.1, (r3.2.2.2.2.1, (r3.2.2.2.2.2.1, (r3.2.2.2.2.2.2.1, (r3.2.2.2.2.2.2.2.1, (r3.2.2.2.2.2.2.2.2.1, (r3.2.2.2.2.2.2.2.2.2.1, (r3.2.2.2.2.2.2.2.2.2.2.1, (r3.2.2.2.2.2.2.2.2.2.2.2.1, (r3.2.2.2.2.2.2.2.2.2.2.2.2.1, (r3.2.2.2.2.2.2.2.2.2.2.2.2.2.1, (r3.2.2.2.2.2.2.2.2.2.2.2.2.2.2.1, (r3.2.2.2.2.2.2.2.2.2.2.2.2.2.2.2.1, (r3.2.2.2.2.2.2.2.2.2.2.2.2.2.2.2.2.1, (r3.2.2.2.2.2.2.2.2.2.2.2.2.2.2.2.2.2.1, (r3.2.2.2.2.2.2.2.2.2.2.2.2.2.2.2.2.2.2.1, (r3.2.2.2.2.2.2.2.2.2.2.2.2.2.2.2.2.2.2.2.1, (r3.2.2.2.2.2.2.2.2.2.2.2.2.2.2.2.2.2.2.2.2.1, (r3.2.2.2.2.2.2.2.2.2.2.2.2.2.2.2.2.2.2.2.2.2.1, (r3.2.2.2.2.2.2.2.2.2.2.2.2.2.2.2.2.2.2.2.2.2.2.1, (r3.2.2.2.2.2.2.2.2.2.2.2.2.2.2.2.2.2.2.2.2.2.2.2.1, (r3.2.2.2.2.2.2.2.2.2.2.2.2.2.2.2.2.2.2.2.2.2.2.2.2.1, ())))))))))))))))))))))))))))))))))))) (
 .opt ((ipHop_fn (a1, ()))) (fun r1 =>
 .ite (!decide (r1.2.1 = (0 : Int))) (
 .grd (decide (List.length a24 = List.length a24)) (
 .ret ([], ((2 : Int), (a2, (a3, (a4, (a5, (a6, (a7, (a8, (a9, (a10, (a11, (a12, (a13, (a14, (a15, (a16, (r0.1, (r0.2.1, (r0.2.2.1, (r0.2.2.2.1, (r0.2.2.2.2.1, (r1.1, (a23, (a24, ()))))))))))))))))))))))))))) (
 .grd (decide (List.length a24 = List.length a24)) (
 .opt ((wMeasured_fn (a2, (a3, (a4, (a5, (a6, (a7, (a8, (a9, (a10, (a11, (a12, (a13, (a14, (a15, (a16, (r0.1, (r0.2.1, (r0.2.2.1, (r0.2.2.2.1, (r0.2.2.2.2.1, (r1.1, (a23, (a24, ()))))))))))))))))))))))))) (fun r2 =>
 .ite (!r2.1) (
 .grd (decide (List.length r2.2.2.2.2.2.2.2.2.2.2.2.2.2.2.2.2.2.2.2.2.2.2.2.fst = List.length r2.2.2.2.2.2.2.2.2.2.2.2.2.2.2.2.2.2.2.2.2.2.2.2.1)) (
 .ret ([], ((3 : Int), (r2.2.1, (r2.2.2.1, (r2.2.2.2.1, (r2.2.2.2.2.1, (r2.2.2.2.2.2.1, (r2.2.2.2.2.2.2.1, (r2.2.2.2.2.2.2.2.1, (r2.2.2.2.2.2.2.2.2.1, (r2.2.2.2.2.2.2.2.2.2.1, (r2.2.2.2.2.2.2.2.2.2.2.1, (r2.2.2.2.2.2.2.2.2.2.2.2.1, (r2.2.2.2.2.2.2.2.2.2.2.2.2.1, (r2.2.2.2.2.2.2.2.2.2.2.2.2.2.1, (r2.2.2.2.2.2.2.2.2.2.2.2.2.2.2.1, (r2.2.2.2.2.2.2.2.2.2.2.2.2.2.2.2.1, (r2.2.2.2.2.2.2.2.2.2.2.2.2.2.2.2.2.1, (r2.2.2.2.2.2.2.2.2.2.2.2.2.2.2.2.2.2.1, (r2.2.2.2.2.2.2.2.2.2.2.2.2.2.2.2.2.2.2.1, (r2.2.2.2.2.2.2.2.2.2.2.2.2.2.2.2.2.2.2.2.1, (r2.2.2.2.2.2.2.2.2.2.2.2.2.2.2.2.2.2.2.2.2.1, (r2.2.2.2.2.2.2.2.2.2.2.2.2.2.2.2.2.2.2.2.2.2.1, (r2.2.2.2.2.2.2.2.2.2.2.2.2.2.2.2.2.2.2.2.2.2.2.1, (r2.2.2.2.2.2.2.2.2.2.2.2.2.2.2.2.2.2.2.2.2.2.2.2.1, ()))))))))))))))))))))))))))) (
 .ite (a0) (
 .grd (decide (List.length r2.2.2.2.2.2.2.2.2.2.2.2.2.2.2.2.2.2.2.2.2.2.2.2.fst = List.length r2.2.2.2.2.2.2.2.2.2.2.2.2.2.2.2.2.2.2.2.2.2.2.2.1)) (
 .opt ((wLeaves_fn (r2.2.1, (r2.2.2.1, (r2.2.2.2.1, (r2.2.2.2.2.1, (r2.2.2.2.2.2.1, (r2.2.2.2.2.2.2.1, (r2.2.2.2.2.2.2.2.1, (r2.2.2.2.2.2.2.2.2.1, (r2.2.2.2.2.2.2.2.2.2.1, (r2.2.2.2.2.2.2.2.2.2.2.1, (r2.2.2.2.2.2.2.2.2.2.2.2.1, (r2.2.2.2.2.2.2.2.2.2.2.2.2.1, (r2.2.2.2.2.2.2.2.2.2.2.2.2.2.1, (r2.2.2.2.2.2.2.2.2.2.2.2.2.2.2.1, (r2.2.2.2.2.2.2.2.2.2.2.2.2.2.2.2.1, (r2.2.2.2.2.2.2.2.2.2.2.2.2.2.2.2.2.1, (r2.2.2.2.2.2.2.2.2.2.2.2.2.2.2.2.2.2.1, (r2.2.2.2.2.2.2.2.2.2.2.2.2.2.2.2.2.2.2.1, (r2.2.2.2.2.2.2.2.2.2.2.2.2.2.2.2.2.2.2.2.1, (r2.2.2.2.2.2.2.2.2.2.2.2.2.2.2.2.2.2.2.2.2.1, (r2.2.2.2.2.2.2.2.2.2.2.2.2.2.2.2.2.2.2.2.2.2.1, (r2.2.2.2.2.2.2.2.2.2.2.2.2.2.2.2.2.2.2.2.2.2.2.1, (r2.2.2.2.2.2.2.2.2.2.2.2.2.2.2.2.2.2.2.2.2.2.2.2.1, ()))))))))))))))))))))))))) (fun r3 =>
 .grd (decide (List.length r3.2.2.2.2.2.2.2.2.2.2.2.2.2.2.2.2.2.2.2.2.2.2.2.2.fst = List.length r3.2.2.2.2.2.2.2.2.2.2.2.2.2.2.2.2.2.2.2.2.2.2.2.2.1)) (
 .ret (r3.1, (r3.2.1, (r3.2.2.1, (r3.2.2.2.1, (r3.2.2.2.2.1, (r3.2.2.2.2.2.1, (r3.2.2.2.2.2.2.1, (r3.2.2.2.2.2.2.2.1, (r3.2.2.2.2.2.2.2.2.1, (r3.2.2.2.2.2.2.2.2.2.1, (r3.2.2.2.2.2.2.2.2.2.2.1, (r3.2.2.2.2.2.2.2.2.2.2.2.1, (r3.2.2.2.2.2.2.2.2.2.2.2.2.1, (r3.2.2.2.2.2.2.2.2.2.2.2.2.2.1, (r3.2.2.2.2.2.2.2.2.2.2.2.2.2.2.1, (r3.2.2.2.2.2.2.2.2.2.2.2.2.2.2.2.1, (r3.2.2.2.2.2.2.2.2.2.2.2.2.2.2.2.2.1, (r3.2.2.2.2.2.2.2.2.2.2.2.2.2.2.2.2.2.1, (r3.2.2.2.2.2.2.2.2.2.2.2.2.2.2.2.2.2.2.1, (r3.2.2.2.2.2.2.2.2.2.2.2.2.2.2.2.2.2.2.2.1, (r3.2.2.2.2.2.2.2.2.2.2.2.2.2.2.2.2.2.2.2.2.1, (r3.2.2.2.2.2.2.2.2.2.2.2.2.2.2.2.2.2.2.2.2.2.1, (r3.2.2.2.2.2.2.2.2.2.2.2.2.2.2.2.2.2.2.2.2.2.2.1, (r3.2.2.2.2.2.2.2.2.2.2.2.2.2.2.2.2.2.2.2.2.2.2.2.1, (r3.2.2.2.2.2.2.2.2.2.2.2.2.2.2.2.2.2.2.2.2.2.2.2.2.1, ()))))))))))))))))))))))))))))) (
 .grd (decide (List.length r2.2.2.2.2.2.2.2.2.2.2.2.2.2.2.2.2.2.2.2.2.2.2.2.fst = List.length r2.2.2.2.2.2.2.2.2.2.2.2.2.2.2.2.2.2.2.2.2.2.2.2.1)) (
 .opt ((wEnters_fn (r2.2.1, (r2.2.2.1, (r2.2.2.2.1, (r2.2.2.2.2.1, (r2.2.2.2.2.2.1, (r2.2.2.2.2.2.2.1, (r2.2.2.2.2.2.2.2.1, (r2.2.2.2.2.2.2.2.2.1, (r2.2.2.2.2.2.2.2.2.2.1, (r2.2.2.2.2.2.2.2.2.2.2.1, (r2.2.2.2.2.2.2.2.2.2.2.2.1, (r2.2.2.2.2.2.2.2.2.2.2.2.2.1, (r2.2.2.2.2.2.2.2.2.2.2.2.2.2.1, (r2.2.2.2.2.2.2.2.2.2.2.2.2.2.2.1, (r2.2.2.2.2.2.2.2.2.2.2.2.2.2.2.2.1, (r2.2.2.2.2.2.2.2.2.2.2.2.2.2.2.2.2.1, (r2.2.2.2.2.2.2.2.2.2.2.2.2.2.2.2.2.2.1, (r2.2.2.2.2.2.2.2.2.2.2.2.2.2.2.2.2.2.2.1, (r2.2.2.2.2.2.2.2.2.2.2.2.2.2.2.2.2.2.2.2.1, (r2.2.2.2.2.2.2.2.2.2.2.2.2.2.2.2.2.2.2.2.2.1, (r2.2.2.2.2.2.2.2.2.2.2.2.2.2.2.2.2.2.2.2.2.2.1, (r2.2.2.2.2.2.2.2.2.2.2.2.2.2.2.2.2.2.2.2.2.2.2.1, (r2.2.2.2.2.2.2.2.2.2.2.2.2.2.2.2.2.2.2.2.2.2.2.2.1, ()))))))))))))))))))))))))) (fun r3 =>
 .grd (decide (List.length r3.2.2.2.2.2.2.2.2.2.2.2.2.2.2.2.2.2.2.2.2.2.2.2.2.fst = List.length r3.2.2.2.2.2.2.2.2.2.2.2.2.2.2.2.2.2.2.2.2.2.2.2.2.1)) (
 .ret (r3.1, (r3.2.1, (r3.2.2.1, (r3.2.2.2.1, (r3.2.2.2.2.1, (r3.2.2.2.2.2.1, (r3.2.2.2.2.2.2.1, (r3.2.2.2.2.2.2.2.1, (r3.2.2.2.2.2.2.2.2.1, (r3.2.2.2.2.2.2.2.2.2.1, (r3.2.2.2.2.2.2.2.2.2.2.1, (r3.2.2.2.2.2.2.2.2.2.2.2.1, (r3.2.2.2.2.2.2.2.2.2.2.2.2.1, (r3.2.2.2.2.2.2.2.2.2.2.2.2.2.1, (r3.2.2.2.2.2.2.2.2.2.2.2.2.2.2.1, (r3.2.2.2.2.2.2.2.2.2.2.2.2.2.2.2.1, (r3.2.2.2.2.2.2.2.2.2.2.2.2.2.2.2.2.1, (r3.2.2.2.2.2.2.2.2.2.2.2.2.2.2.2.2.2.1, (r3.2.2.2.2.2.2.2.2.2.2.2.2.2.2.2.2.2.2.1, (r3.2.2.2.2.2.2.2.2.2.2.2.2.2.2.2.2.2.2.2.1, (r3.2.2.2.2.2.2.2.2.2.2.2.2.2.2.2.2.2.2.2.2.1, (r3.2.2.2.2.2.2.2.2.2.2.2.2.2.2.2.2.2.2.2.2.2.1, (r3.2.2.2.2.2.2.2.2.2.2.2.2.2.2.2.2.2.2.2.2.2.2.1, (r3.2.2.2.2.2.2.2.2.2.2.2.2.2.2.2.2.2.2.2.2.2.2.2.1, (r3.2.2.2.2.2.2.2.2.2.2.2.2.2.2.2.2.2.2.2.2.2.2.2.2.1, ())))))))))))))))))))))))))))))))))))))
noncomputable def gm55 : List (PF Go.Proofs.Tryd.prog) := [FS.pf sumFold, FS.pf sumAdd, FS.pf sumOf, FS.pf sumRight, FS.pf sumFix, FS.pf dgWord, FS.pf dgLong, FS.pf dgWordAt, FS.pf dgUnder, FS.pf dgPort, FS.pf dgWrite, FS.pf dgRead, FS.pf ipWordAt, FS.pf ipLongAt, FS.pf ipByt, FS.pf ipRefused, FS.pf ipWord, FS.pf ipLong, FS.pf ipWrite, FS.pf ipRead, FS.pf ipHop, FS.pf tcWordAt, FS.pf tcLongAt, FS.pf tcParse, FS.pf tcRead, FS.pf swEnds, FS.pf swWord, GS.pf swPut, GS.pf swChange, FS.pf swSwapped, FS.pf swFrom, FS.pf swTo, clTalk, GS.pf delTalk, FS.pf trTurned, FS.pf trPort, FS.pf trRoad, FS.pf trForm, FS.pf trPlace, FS.pf trCheck, FS.pf trOld, GS.pf dfTalk, GS.pf trOpen, GS.pf trPasses, FS.pf trHear, FS.pf trFind, FS.pf buCheck, FS.pf buLev, FS.pf buTake, clRule, FS.pf ruNet, FS.pf ruHas, FS.pf ruBounds, FS.pf ruRight, FS.pf ruCheck, FS.pf ruMeets, FS.pf ruDecide, tz64, FS.pf portsCheck, FS.pf portsLet, FS.pf portsEnd, FS.pf confCheck, clMap, GS.pf delMap, FS.pf natWithin, FS.pf natCheck, natPlace, GS.pf natExpire, FS.pf natOut, FS.pf natIn, clMeter, GS.pf delMeter, FS.pf hsMeter, FS.pf hsLast, FS.pf hsCheck, FS.pf hsNew, GS.pf wMeasured, GS.pf wKnown, GS.pf wTalked, GS.pf wLeaves, GS.pf wEnters]
theorem wGoes_eq (x : ty19_) : gsTr Tryd.prog cod gm55 [] 30 23 wGoes_ap wGoes_rp x = wGoes_tree x := by kernel_rfl
def wGoes_fn (x : ty19_) : Option ty18_ := (wGoes_tree x).eval
def wGoes : GS Tryd.prog := ⟨23, [1, 0, 0], wGoes_ap, wGoes_rp, wGoes_fn, fun x r h ys m g he hg => gs_sound (cod := cod) (Γ := gm55) (Λs := []) (n := 30) ((congrArg Tr.eval (wGoes_eq x)).trans h) he hg⟩
def hsHear_ap : List VP1 := [.agg [.i .u32, .i .i64, .i .i64, .i .i64, .i .i64, .i .i64, .st 10 false, .b, .st 19 false, .st 16 false, .i .i64, .i .i64, .i .u64, .i .i64, .i .u64, .st 17 false], .one (.b), .one (.s), .one (.i .i64)]
def hsHear_rp : SP := ⟨1, [(0, .tup [.agg [.i .u32, .i .i64, .i .i64, .i .i64, .i .i64, .i .i64, .st 10 false, .b, .st 19 false, .st 16 false, .i .i64, .i .i64, .i .u64, .i .i64, .i .u64, .st 17 false], .one (.s), .one (.i .i64), .one (.i .i64)])], []⟩
abbrev ty20_ : Type := (Int × (Int × (Int × (Int × (Int × (Int × ((List TRule) × (Bool × ((List TMeter) × ((List TTalk) × (Int × (Int × (Int × (Int × (Int × ((List TMap) × (Bool × ((List UInt8) × (Int × Unit)))))))))))))))))))
abbrev ty21_ : Type := (Int × (Int × (Int × (Int × (Int × (Int × ((List TRule) × (Bool × ((List TMeter) × ((List TTalk) × (Int × (Int × (Int × (Int × (Int × ((List TMap) × ((List UInt8) × (Int × (Int × Unit)))))))))))))))))))
def hsHear_tree : ty20_ -> Tr ty21_ :=
 fun (a0, a1, a2, a3, a4, a5, a6, a7, a8, a9, a10, a11, a12, a13, a14, a15, a16, a17, a18, _) =>
 .grd (decide (((0 : Nat) + List.length a6) * (80 : Nat) <= (140737488355328 : Nat) /\ (0 : Nat) + List.length a6 <= (9223372036854775807 : Nat))) (
 .grd (decide (((0 : Nat) + List.length a8) * (40 : Nat) <= (140737488355328 : Nat) /\ (0 : Nat) + List.length a8 <= (9223372036854775807 : Nat))) (
 .grd (decide (((0 : Nat) + List.length a9) * (48 : Nat) <= (140737488355328 : Nat) /\ (0 : Nat) + List.length a9 <= (9223372036854775807 : Nat))) (
 .grd (decide (((0 : Nat) + List.length a15) * (40 : Nat) <= (140737488355328 : Nat) /\ (0 : Nat) + List.length a15 <= (9223372036854775807 : Nat))) (
 .opt ((hsCheck_fn (a0, (a1, (a2, (a3, (a4, (a5, (a6, (a7, (a8, (a9, (a10, (a11, (a12, (a13, (a14, (a15, ())))))))))))))))))) (fun r0 =>
 .ite (!decide (r0.1 = (0 : Int))) (
 .ret (a0, (a1, (a2, (a3, (a4, (a5, (a6, (a7, (a8, (a9, (a10, (a11, (a12, (a13, (a14, (a15, ([], ((0 : Int), (r0.1, ())))))))))))))))))))) (
 .opt ((hsLast_fn (a0, (a1, (a2, (a3, (a4, (a5, (a6, (a7, (a8, (a9, (a10, (a11, (a12, (a13, (a14, (a15, ())))))))))))))))))) (fun r1 =>
 .ite (decide (a18 < r1.1)) (
 .ret (a0, (a1, (a2, (a3, (a4, (a5, (a6, (a7, (a8, (a9, (a10, (a11, (a12, (a13, (a14, (a15, ([], ((0 : Int), ((1 : Int), ())))))))))))))))))))) (
 .ite (decide ((1099511627776 : Int) < a18)) (
 .ret (a0, (a1, (a2, (a3, (a4, (a5, (a6, (a7, (a8, (a9, (a10, (a11, (a12, (a13, (a14, (a15, ([], ((0 : Int), ((1 : Int), ())))))))))))))))))))) (
 .grd (decide (List.length a8 = List.length a8)) (
 .opt ((wGoes_fn (a16, (a17, (a0, (a1, (a2, (a3, (a4, (a5, (a6, (a7, (a9, (a10, (a11, (a12, (a13, (a14, (a15, ((0 : Int), ((0 : Int), ((0 : Int), ((0 : Int), ((0 : Int), ([], (a18, (a8, ()))))))))))))))))))))))))))) (fun r2 =>
 .ret (r2.2.2.1, (r2.2.2.2.1, (r2.2.2.2.2.1, (r2.2.2.2.2.2.1, (r2.2.2.2.2.2.2.1, (r2.2.2.2.2.2.2.2.1, (r2.2.2.2.2.2.2.2.2.1, (r2.2.2.2.2.2.2.2.2.2.1, (r2.2.2.2.2.2.2.2.2.2.2.2.2.2.2.2.2.2.2.2.2.2.2.2.2.1, (r2.2.2.2.2.2.2.2.2.2.2.1, (r2.2.2.2.2.2.2.2.2.2.2.2.1, (r2.2.2.2.2.2.2.2.2.2.2.2.2.1, (r2.2.2.2.2.2.2.2.2.2.2.2.2.2.1, (r2.2.2.2.2.2.2.2.2.2.2.2.2.2.2.1, (r2.2.2.2.2.2.2.2.2.2.2.2.2.2.2.2.1, (r2.2.2.2.2.2.2.2.2.2.2.2.2.2.2.2.2.1, (r2.1, (r2.2.1, ((0 : Int), ()))))))))))))))))))))))))))))))
noncomputable def gm56 : List (PF Go.Proofs.Tryd.prog) := [cdRule, cdTalk, cdMap, FS.pf sumFold, FS.pf sumAdd, FS.pf sumOf, FS.pf sumRight, FS.pf sumFix, FS.pf dgWord, FS.pf dgLong, FS.pf dgWordAt, FS.pf dgUnder, FS.pf dgPort, FS.pf dgWrite, FS.pf dgRead, FS.pf ipWordAt, FS.pf ipLongAt, FS.pf ipByt, FS.pf ipRefused, FS.pf ipWord, FS.pf ipLong, FS.pf ipWrite, FS.pf ipRead, FS.pf ipHop, FS.pf tcWordAt, FS.pf tcLongAt, FS.pf tcParse, FS.pf tcRead, FS.pf swEnds, FS.pf swWord, GS.pf swPut, GS.pf swChange, FS.pf swSwapped, FS.pf swFrom, FS.pf swTo, clTalk, GS.pf delTalk, FS.pf trTurned, FS.pf trPort, FS.pf trRoad, FS.pf trForm, FS.pf trPlace, FS.pf trCheck, FS.pf trOld, GS.pf dfTalk, GS.pf trOpen, GS.pf trPasses, FS.pf trHear, FS.pf trFind, FS.pf buCheck, FS.pf buLev, FS.pf buTake, clRule, FS.pf ruNet, FS.pf ruHas, FS.pf ruBounds, FS.pf ruRight, FS.pf ruCheck, FS.pf ruMeets, FS.pf ruDecide, tz64, FS.pf portsCheck, FS.pf portsLet, FS.pf portsEnd, FS.pf confCheck, clMap, GS.pf delMap, FS.pf natWithin, FS.pf natCheck, natPlace, GS.pf natExpire, FS.pf natOut, FS.pf natIn, clMeter, GS.pf delMeter, FS.pf hsMeter, FS.pf hsLast, FS.pf hsCheck, FS.pf hsNew, GS.pf wMeasured, GS.pf wKnown, GS.pf wTalked, GS.pf wLeaves, GS.pf wEnters, GS.pf wGoes]
theorem hsHear_eq (x : ty20_) : fnTr Tryd.prog cod gm56 [] 30 8 hsHear_ap hsHear_rp x = hsHear_tree x := by kernel_rfl
def hsHear_fn (x : ty20_) : Option ty21_ := (hsHear_tree x).eval
def hsHear : FS Tryd.prog := ⟨8, hsHear_ap, hsHear_rp, hsHear_fn, fun x r h => fnTr_sound (cod := cod) (Γ := gm56) (Λs := []) (n := 30) ((congrArg Tr.eval (hsHear_eq x)).trans h)⟩
def hsRun_L13_6 : LS := ⟨6, [(7, 7), (2, 2), (4, 4)], ⟨46, [(19, .v (.one (.i .i64))), (7, .v (.one (.own 7))), (2, .v (.one (.ptr 2 0))), (17, .v (.one (.st 24 false))), (4, .v (.one (.ptr 4 0))), (18, .v (.one (.i .i64)))], [(7, .row 60 25 true true), (2, .cells [.i .u32, .i .i64, .i .i64, .i .i64, .i .i64, .i .i64, .st 10 false, .b, .st 19 false, .st 16 false, .i .i64, .i .i64, .i .u64, .i .i64, .i .u64, .st 17 false]), (4, .cells [.i .u32, .i .i64, .i .i64, .i .i64, .i .i64, .i .i64, .nil, .b, .nil, .nil, .i .i64, .i .i64, .i .u64, .i .i64, .i .u64, .nil])]⟩, [⟨some 0, [(4, 4), (7, 7), (2, 2)], ⟨46, [(4, .v (.one (.ptr 4 0))), (7, .v (.one (.own 7))), (2, .v (.one (.ptr 2 0)))], [(4, .cells [.i .u32, .i .i64, .i .i64, .i .i64, .i .i64, .i .i64, .nil, .b, .nil, .nil, .i .i64, .i .i64, .i .u64, .i .i64, .i .u64, .nil]), (7, .row 60 25 true true), (2, .cells [.i .u32, .i .i64, .i .i64, .i .i64, .i .i64, .i .i64, .st 10 false, .b, .st 19 false, .st 16 false, .i .i64, .i .i64, .i .u64, .i .i64, .i .u64, .st 17 false])]⟩⟩], [(7, 60, 25)]⟩
abbrev ty22_ : Type := (Int × ((List TCame) × (Int × ((List TWent) × (Int × (Int × (Int × (Int × (Int × (Int × ((List TRule) × (Bool × ((List TMeter) × ((List TTalk) × (Int × (Int × (Int × (Int × (Int × ((List TMap) × (Int × (Int × (Int × (Int × (Int × (Int × (Bool × (Int × (Int × (Int × (Int × (Int × Unit))))))))))))))))))))))))))))))))
abbrev ty23_ : Type := (Int × (Int × (Int × (Int × (Int × (Int × (Bool × (Int × (Int × (Int × (Int × (Int × ((List TWent) × (Int × (Int × (Int × (Int × (Int × (Int × ((List TRule) × (Bool × ((List TMeter) × ((List TTalk) × (Int × (Int × (Int × (Int × (Int × ((List TMap) × Unit)))))))))))))))))))))))))))))
def hsRun_step13_6 : ty22_ -> Tr (ty22_ ⊕ ty23_) :=
 fun (a0, a1, a2, a3, a4, a5, a6, a7, a8, a9, a10, a11, a12, a13, a14, a15, a16, a17, a18, a19, a20, a21, a22, a23, a24, a25, a26, a27, a28, a29, a30, a31, _) =>
 .ite (decide (a0 < a2)) (
 .grd (decide ((0 : Int) <= a0)) (
 .opt (a1[Int.toNat a0]?) (fun r0 =>
 .opt ((hsHear_fn (a4, (a5, (a6, (a7, (a8, (a9, (a10, (a11, (a12, (a13, (a14, (a15, (a16, (a17, (a18, (a19, (r0.inside, (r0.data, (r0.at', ()))))))))))))))))))))) (fun r1 =>
 .grd (decide ((List.length a3 + List.length [TWent.mk r1.2.2.2.2.2.2.2.2.2.2.2.2.2.2.2.2.1 r1.2.2.2.2.2.2.2.2.2.2.2.2.2.2.2.2.2.1 r1.2.2.2.2.2.2.2.2.2.2.2.2.2.2.2.2.2.2.1]) * (32 : Nat) <= (140737488355328 : Nat) /\ List.length a3 + List.length [TWent.mk r1.2.2.2.2.2.2.2.2.2.2.2.2.2.2.2.2.1 r1.2.2.2.2.2.2.2.2.2.2.2.2.2.2.2.2.2.1 r1.2.2.2.2.2.2.2.2.2.2.2.2.2.2.2.2.2.2.1] <= (9223372036854775807 : Nat))) (
 .grd (decide (List.length (a3 ++ [TWent.mk r1.2.2.2.2.2.2.2.2.2.2.2.2.2.2.2.2.1 r1.2.2.2.2.2.2.2.2.2.2.2.2.2.2.2.2.2.1 r1.2.2.2.2.2.2.2.2.2.2.2.2.2.2.2.2.2.2.1]) = List.length (a3 ++ [TWent.mk r1.2.2.2.2.2.2.2.2.2.2.2.2.2.2.2.2.1 r1.2.2.2.2.2.2.2.2.2.2.2.2.2.2.2.2.2.1 r1.2.2.2.2.2.2.2.2.2.2.2.2.2.2.2.2.2.2.1]))) (
 .ret (Sum.inl (IntKind.wrap IntKind.i64 (a0 + (1 : Int)), (a1, (a2, (a3 ++ [TWent.mk r1.2.2.2.2.2.2.2.2.2.2.2.2.2.2.2.2.1 r1.2.2.2.2.2.2.2.2.2.2.2.2.2.2.2.2.2.1 r1.2.2.2.2.2.2.2.2.2.2.2.2.2.2.2.2.2.2.1], (r1.1, (r1.2.1, (r1.2.2.1, (r1.2.2.2.1, (r1.2.2.2.2.1, (r1.2.2.2.2.2.1, (r1.2.2.2.2.2.2.1, (r1.2.2.2.2.2.2.2.1, (r1.2.2.2.2.2.2.2.2.1, (r1.2.2.2.2.2.2.2.2.2.1, (r1.2.2.2.2.2.2.2.2.2.2.1, (r1.2.2.2.2.2.2.2.2.2.2.2.1, (r1.2.2.2.2.2.2.2.2.2.2.2.2.1, (r1.2.2.2.2.2.2.2.2.2.2.2.2.2.1, (r1.2.2.2.2.2.2.2.2.2.2.2.2.2.2.1, (r1.2.2.2.2.2.2.2.2.2.2.2.2.2.2.2.1, (a20, (a21, (a22, (a23, (a24, (a25, (a26, (a27, (a28, (a29, (a30, (a31, ()))))))))))))))))))))))))))))))))))))))) (
 .grd (decide (List.length a3 = List.length a3)) (
 .ret (Sum.inr (a20, (a21, (a22, (a23, (a24, (a25, (a26, (a27, (a28, (a29, (a30, (a31, (a3, (a4, (a5, (a6, (a7, (a8, (a9, (a10, (a11, (a12, (a13, (a14, (a15, (a16, (a17, (a18, (a19, ()))))))))))))))))))))))))))))))))
def hsRun_loop13_6 (x : ty22_) : Option ty23_ := loopO 130006 (fun x => (hsRun_step13_6 x).eval) 18446744073709551616 x
def hsRun_ap : List VP1 := [.agg [.i .u32, .i .i64, .i .i64, .i .i64, .i .i64, .i .i64, .st 10 false, .b, .st 19 false, .st 16 false, .i .i64, .i .i64, .i .u64, .i .i64, .i .u64, .st 17 false], .one (.st 24 false)]
def hsRun_rp : SP := ⟨1, [(0, .tup [.agg [.i .u32, .i .i64, .i .i64, .i .i64, .i .i64, .i .i64, .st 10 false, .b, .st 19 false, .st 16 false, .i .i64, .i .i64, .i .u64, .i .i64, .i .u64, .st 17 false], .one (.st 25 false), .one (.i .i64)])], []⟩
abbrev ty24_ : Type := (Int × (Int × (Int × (Int × (Int × (Int × ((List TRule) × (Bool × ((List TMeter) × ((List TTalk) × (Int × (Int × (Int × (Int × (Int × ((List TMap) × ((List TCame) × Unit)))))))))))))))))
abbrev ty25_ : Type := (Int × (Int × (Int × (Int × (Int × (Int × ((List TRule) × (Bool × ((List TMeter) × ((List TTalk) × (Int × (Int × (Int × (Int × (Int × ((List TMap) × ((List TWent) × (Int × Unit))))))))))))))))))
def hsRun_tree : ty24_ -> Tr ty25_ :=
 fun (a0, a1, a2, a3, a4, a5, a6, a7, a8, a9, a10, a11, a12, a13, a14, a15, a16, _) =>
 .ite (decide ((300 : Int) < (↑(List.length a16) : Int))) (
 .ret ((0 : Int), ((0 : Int), ((0 : Int), ((0 : Int), ((0 : Int), ((0 : Int), ([], (false, ([], ([], ((0 : Int), ((0 : Int), ((0 : Int), ((0 : Int), ((0 : Int), ([], ([], ((2 : Int), ()))))))))))))))))))) (
 .grd (decide (((0 : Nat) + List.length a6) * (80 : Nat) <= (140737488355328 : Nat) /\ (0 : Nat) + List.length a6 <= (9223372036854775807 : Nat))) (
 .grd (decide (((0 : Nat) + List.length a8) * (40 : Nat) <= (140737488355328 : Nat) /\ (0 : Nat) + List.length a8 <= (9223372036854775807 : Nat))) (
 .grd (decide (((0 : Nat) + List.length a9) * (48 : Nat) <= (140737488355328 : Nat) /\ (0 : Nat) + List.length a9 <= (9223372036854775807 : Nat))) (
 .grd (decide (((0 : Nat) + List.length a15) * (40 : Nat) <= (140737488355328 : Nat) /\ (0 : Nat) + List.length a15 <= (9223372036854775807 : Nat))) (
 .grd (true) (
 .opt ((hsRun_loop13_6 ((0 : Int), (a16, ((↑(List.length a16) : Int), ([], (a0, (a1, (a2, (a3, (a4, (a5, (a6, (a7, (a8, (a9, (a10, (a11, (a12, (a13, (a14, (a15, ((0 : Int), ((0 : Int), ((0 : Int), ((0 : Int), ((0 : Int), ((0 : Int), (false, ((0 : Int), ((0 : Int), ((0 : Int), ((0 : Int), ((0 : Int), ())))))))))))))))))))))))))))))))))) (fun r0 =>
 .ret (r0.2.2.2.2.2.2.2.2.2.2.2.2.2.1, (r0.2.2.2.2.2.2.2.2.2.2.2.2.2.2.1, (r0.2.2.2.2.2.2.2.2.2.2.2.2.2.2.2.1, (r0.2.2.2.2.2.2.2.2.2.2.2.2.2.2.2.2.1, (r0.2.2.2.2.2.2.2.2.2.2.2.2.2.2.2.2.2.1, (r0.2.2.2.2.2.2.2.2.2.2.2.2.2.2.2.2.2.2.1, (r0.2.2.2.2.2.2.2.2.2.2.2.2.2.2.2.2.2.2.2.1, (r0.2.2.2.2.2.2.2.2.2.2.2.2.2.2.2.2.2.2.2.2.1, (r0.2.2.2.2.2.2.2.2.2.2.2.2.2.2.2.2.2.2.2.2.2.1, (r0.2.2.2.2.2.2.2.2.2.2.2.2.2.2.2.2.2.2.2.2.2.2.1, (r0.2.2.2.2.2.2.2.2.2.2.2.2.2.2.2.2.2.2.2.2.2.2.2.1, (r0.2.2.2.2.2.2.2.2.2.2.2.2.2.2.2.2.2.2.2.2.2.2.2.2.1, (r0.2.2.2.2.2.2.2.2.2.2.2.2.2.2.2.2.2.2.2.2.2.2.2.2.2.1, (r0.2.2.2.2.2.2.2.2.2.2.2.2.2.2.2.2.2.2.2.2.2.2.2.2.2.2.1, (r0.2.2.2.2.2.2.2.2.2.2.2.2.2.2.2.2.2.2.2.2.2.2.2.2.2.2.2.1, (r0.2.2.2.2.2.2.2.2.2.2.2.2.2.2.2.2.2.2.2.2.2.2.2.2.2.2.2.2.1, (r0.2.2.2.2.2.2.2.2.2.2.2.2.1, ((0 : Int), ())))))))))))))))))))))))))
noncomputable def gm57 : List (PF Go.Proofs.Tryd.prog) := [cdMeter, cdRule, cdTalk, cdMap, FS.pf sumFold, FS.pf sumAdd, FS.pf sumOf, FS.pf sumRight, FS.pf sumFix, FS.pf dgWord, FS.pf dgLong, FS.pf dgWordAt, FS.pf dgUnder, FS.pf dgPort, FS.pf dgWrite, FS.pf dgRead, FS.pf ipWordAt, FS.pf ipLongAt, FS.pf ipByt, FS.pf ipRefused, FS.pf ipWord, FS.pf ipLong, FS.pf ipWrite, FS.pf ipRead, FS.pf ipHop, FS.pf tcWordAt, FS.pf tcLongAt, FS.pf tcParse, FS.pf tcRead, FS.pf swEnds, FS.pf swWord, GS.pf swPut, GS.pf swChange, FS.pf swSwapped, FS.pf swFrom, FS.pf swTo, clTalk, GS.pf delTalk, FS.pf trTurned, FS.pf trPort, FS.pf trRoad, FS.pf trForm, FS.pf trPlace, FS.pf trCheck, FS.pf trOld, GS.pf dfTalk, GS.pf trOpen, GS.pf trPasses, FS.pf trHear, FS.pf trFind, FS.pf buCheck, FS.pf buLev, FS.pf buTake, clRule, FS.pf ruNet, FS.pf ruHas, FS.pf ruBounds, FS.pf ruRight, FS.pf ruCheck, FS.pf ruMeets, FS.pf ruDecide, tz64, FS.pf portsCheck, FS.pf portsLet, FS.pf portsEnd, FS.pf confCheck, clMap, GS.pf delMap, FS.pf natWithin, FS.pf natCheck, natPlace, GS.pf natExpire, FS.pf natOut, FS.pf natIn, clMeter, GS.pf delMeter, FS.pf hsMeter, FS.pf hsLast, FS.pf hsCheck, FS.pf hsNew, GS.pf wMeasured, GS.pf wKnown, GS.pf wTalked, GS.pf wLeaves, GS.pf wEnters, GS.pf wGoes, FS.pf hsHear]
theorem hsRun_eq (x : ty24_) : fnTr Tryd.prog cod gm57 [(13, hsRun_L13_6)] 30 13 hsRun_ap hsRun_rp x = hsRun_tree x := by kernel_rfl
def hsRun_fn (x : ty24_) : Option ty25_ := (hsRun_tree x).eval
def hsRun : FS Tryd.prog := ⟨13, hsRun_ap, hsRun_rp, hsRun_fn, fun x r h => fnTr_sound (cod := cod) (Γ := gm57) (Λs := [(13, hsRun_L13_6)]) (n := 30) ((congrArg Tr.eval (hsRun_eq x)).trans h)⟩
def letterPacket_ap : List VP1 := [.agg [.i .i64, .i .i64, .s], .one (.i .u32), .one (.i .u32)]
def letterPacket_rp : SP := ⟨1, [(0, .tup [.one (.s), .one (.b)])], []⟩
def letterPacket_tree : (Int × (Int × ((List UInt8) × (Int × (Int × Unit))))) -> Tr ((List UInt8) × (Bool × Unit)) :=
 fun (a0, a1, a2, a3, a4, _) =>
 .opt ((dgWrite_fn (a0, (a1, (a2, (a3, (a4, ()))))))) (fun r0 =>
 .opt ((ipWrite_fn ((0 : Int), ((0 : Int), (false, (false, ((0 : Int), ((9 : Int), ((17 : Int), (a3, (a4, ([], (r0.1, ()))))))))))))) (fun r1 =>
 .ite (decide (r0.2.1 = (0 : Int))) (
 .ret (r1.1, (decide (r1.2.1 = (0 : Int)), ()))) (
 .ret (r1.1, (false, ())))))
noncomputable def gm58 : List (PF Go.Proofs.Tryd.prog) := [FS.pf sumFold, FS.pf sumAdd, FS.pf sumOf, FS.pf sumRight, FS.pf sumFix, FS.pf dgWord, FS.pf dgLong, FS.pf dgWordAt, FS.pf dgUnder, FS.pf dgPort, FS.pf dgWrite, FS.pf dgRead, FS.pf ipWordAt, FS.pf ipLongAt, FS.pf ipByt, FS.pf ipRefused, FS.pf ipWord, FS.pf ipLong, FS.pf ipWrite, FS.pf ipRead, FS.pf ipHop, FS.pf tcWordAt, FS.pf tcLongAt, FS.pf tcParse, FS.pf tcRead, FS.pf swEnds, FS.pf swWord, GS.pf swPut, GS.pf swChange, FS.pf swSwapped, FS.pf swFrom, FS.pf swTo]
theorem letterPacket_eq (x : (Int × (Int × ((List UInt8) × (Int × (Int × Unit)))))) : fnTr Tryd.prog cod gm58 [] 30 7 letterPacket_ap letterPacket_rp x = letterPacket_tree x := by kernel_rfl
def letterPacket_fn (x : (Int × (Int × ((List UInt8) × (Int × (Int × Unit)))))) : Option ((List UInt8) × (Bool × Unit)) := (letterPacket_tree x).eval
def letterPacket : FS Tryd.prog := ⟨7, letterPacket_ap, letterPacket_rp, letterPacket_fn, fun x r h => fnTr_sound (cod := cod) (Γ := gm58) (Λs := []) (n := 30) ((congrArg Tr.eval (letterPacket_eq x)).trans h)⟩
def kHouseLives_ap : List VP1 := []
def kHouseLives_rp : SP := ⟨1, [(0, .v (.one (.b)))], []⟩
def kHouseLives_tree : Unit -> Tr (Bool × Unit) :=
 fun (_) =>
 .opt ((hsNew_fn ((3325256705 : Int), ((1024 : Int), ((2048 : Int), ((100 : Int), ((1000 : Int), ((100000 : Int), ([], (true, ())))))))))) (fun r0 =>
 .opt ((letterPacket_fn ((1030 : Int), ((53 : Int), ([(120 : UInt8)], ((5 : Int), ((6 : Int), ()))))))) (fun r1 =>
 .opt ((hsHear_fn (r0.1, (r0.2.1, (r0.2.2.1, (r0.2.2.2.1, (r0.2.2.2.2.1, (r0.2.2.2.2.2.1, (r0.2.2.2.2.2.2.1, (r0.2.2.2.2.2.2.2.1, (r0.2.2.2.2.2.2.2.2.1, (r0.2.2.2.2.2.2.2.2.2.1, (r0.2.2.2.2.2.2.2.2.2.2.1, (r0.2.2.2.2.2.2.2.2.2.2.2.1, (r0.2.2.2.2.2.2.2.2.2.2.2.2.1, (r0.2.2.2.2.2.2.2.2.2.2.2.2.2.1, (r0.2.2.2.2.2.2.2.2.2.2.2.2.2.2.1, (r0.2.2.2.2.2.2.2.2.2.2.2.2.2.2.2.1, (true, (r1.1, ((0 : Int), ()))))))))))))))))))))) (fun r2 =>
 .opt ((swEnds_fn (r2.2.2.2.2.2.2.2.2.2.2.2.2.2.2.2.2.1, ()))) (fun r3 =>
 .ite (r1.2.1) (
 .ite (decide (r0.2.2.2.2.2.2.2.2.2.2.2.2.2.2.2.2.1 = (0 : Int))) (
 .ite (decide (r2.2.2.2.2.2.2.2.2.2.2.2.2.2.2.2.2.2.2.1 = (0 : Int))) (
 .ite (decide (r2.2.2.2.2.2.2.2.2.2.2.2.2.2.2.2.2.2.1 = (0 : Int))) (
 .ite (decide (r3.2.2.2.2.2.1 = (0 : Int))) (
 .ret (decide (r3.1 = (3325256705 : Int)) && (decide (r3.2.1 = (6 : Int)) && (decide (r3.2.2.1 = (17 : Int)) && (decide (r3.2.2.2.1 = (1030 : Int)) && (decide (r3.2.2.2.2.1 = (53 : Int)) && true)))), ())) (
 .ret (false, ()))) (
 .ret (false, ()))) (
 .ret (false, ()))) (
 .ret (false, ()))) (
 .ret (false, ()))))))
noncomputable def gm59 : List (PF Go.Proofs.Tryd.prog) := [cdMeter, cdRule, cdTalk, cdMap, FS.pf sumFold, FS.pf sumAdd, FS.pf sumOf, FS.pf sumRight, FS.pf sumFix, FS.pf dgWord, FS.pf dgLong, FS.pf dgWordAt, FS.pf dgUnder, FS.pf dgPort, FS.pf dgWrite, FS.pf dgRead, FS.pf ipWordAt, FS.pf ipLongAt, FS.pf ipByt, FS.pf ipRefused, FS.pf ipWord, FS.pf ipLong, FS.pf ipWrite, FS.pf ipRead, FS.pf ipHop, FS.pf tcWordAt, FS.pf tcLongAt, FS.pf tcParse, FS.pf tcRead, FS.pf swEnds, FS.pf swWord, GS.pf swPut, GS.pf swChange, FS.pf swSwapped, FS.pf swFrom, FS.pf swTo, clTalk, GS.pf delTalk, FS.pf trTurned, FS.pf trPort, FS.pf trRoad, FS.pf trForm, FS.pf trPlace, FS.pf trCheck, FS.pf trOld, GS.pf dfTalk, GS.pf trOpen, GS.pf trPasses, FS.pf trHear, FS.pf trFind, FS.pf buCheck, FS.pf buLev, FS.pf buTake, clRule, FS.pf ruNet, FS.pf ruHas, FS.pf ruBounds, FS.pf ruRight, FS.pf ruCheck, FS.pf ruMeets, FS.pf ruDecide, tz64, FS.pf portsCheck, FS.pf portsLet, FS.pf portsEnd, FS.pf confCheck, clMap, GS.pf delMap, FS.pf natWithin, FS.pf natCheck, natPlace, GS.pf natExpire, FS.pf natOut, FS.pf natIn, clMeter, GS.pf delMeter, FS.pf hsMeter, FS.pf hsLast, FS.pf hsCheck, FS.pf hsNew, GS.pf wMeasured, GS.pf wKnown, GS.pf wTalked, GS.pf wLeaves, GS.pf wEnters, GS.pf wGoes, FS.pf hsHear, FS.pf hsRun, FS.pf letterPacket]
theorem kHouseLives_eq (x : Unit) : fnTr Tryd.prog cod gm59 [] 30 10 kHouseLives_ap kHouseLives_rp x = kHouseLives_tree x := by kernel_rfl
def kHouseLives_fn (x : Unit) : Option (Bool × Unit) := (kHouseLives_tree x).eval
def kHouseLives : FS Tryd.prog := ⟨10, kHouseLives_ap, kHouseLives_rp, kHouseLives_fn, fun x r h => fnTr_sound (cod := cod) (Γ := gm59) (Λs := []) (n := 30) ((congrArg Tr.eval (kHouseLives_eq x)).trans h)⟩
theorem clCame_h1 (xs : List (τ 24)) : (bodyTr Go.Proofs.Tryd.prog cod 12 [.one (.nn (.st 24 xs))]).eval = (cloneRes 55 24 32 xs).eval := by kernel_rfl
theorem clCame_h2 : (bodyTr Go.Proofs.Tryd.prog cod 12 [.one .nil]).eval = some (.one .nil, []) := by kernel_rfl
def clCame : PF Go.Proofs.Tryd.prog := clonePF Go.Proofs.Tryd.prog cod 12 55 24 32 clCame_h1 clCame_h2
def kHouseBack_ap : List VP1 := [.agg [.i .u32, .i .i64, .i .i64, .i .i64, .i .i64, .i .i64, .st 10 false, .b, .st 19 false, .st 16 false, .i .i64, .i .i64, .i .u64, .i .i64, .i .u64, .st 17 false], .agg [.i .i64, .i .i64, .s], .agg [.i .i64, .i .i64, .s], .one (.i .u32), .one (.i .u32), .one (.i .i64)]
def kHouseBack_rp : SP := ⟨1, [(0, .v (.one (.b)))], []⟩
abbrev ty26_ : Type := (Int × (Int × (Int × (Int × (Int × (Int × ((List TRule) × (Bool × ((List TMeter) × ((List TTalk) × (Int × (Int × (Int × (Int × (Int × ((List TMap) × (Int × (Int × ((List UInt8) × (Int × (Int × ((List UInt8) × (Int × (Int × (Int × Unit)))))))))))))))))))))))))
def kHouseBack_tree : ty26_ -> Tr (Bool × Unit) :=
 fun (a0, a1, a2, a3, a4, a5, a6, a7, a8, a9, a10, a11, a12, a13, a14, a15, a16, a17, a18, a19, a20, a21, a22, a23, a24, _) =>
 .opt ((letterPacket_fn (a16, (a17, (a18, (a22, (a23, ()))))))) (fun r0 =>
 .opt ((hsHear_fn (a0, (a1, (a2, (a3, (a4, (a5, (a6, (a7, (a8, (a9, (a10, (a11, (a12, (a13, (a14, (a15, (true, (r0.1, (a24, ()))))))))))))))))))))) (fun r1 =>
 .opt ((swEnds_fn (r1.2.2.2.2.2.2.2.2.2.2.2.2.2.2.2.2.1, ()))) (fun r2 =>
 .opt ((kHouseLives_fn ())) (fun r3 =>
 .ite (!r3.1) (
 .opt ((kHouseLives_fn ())) (fun r4 =>
 .ret (r4.1, ()))) (
 .ite (!r0.2.1) (
 .opt ((kHouseLives_fn ())) (fun r4 =>
 .ret (r4.1, ()))) (
 .ite (!decide (r1.2.2.2.2.2.2.2.2.2.2.2.2.2.2.2.2.2.2.1 = (0 : Int))) (
 .opt ((kHouseLives_fn ())) (fun r4 =>
 .ret (r4.1, ()))) (
 .ite (!decide (r1.2.2.2.2.2.2.2.2.2.2.2.2.2.2.2.2.2.1 = (0 : Int))) (
 .opt ((kHouseLives_fn ())) (fun r4 =>
 .ret (r4.1, ()))) (
 .ite (!decide (r2.2.2.2.2.2.1 = (0 : Int))) (
 .opt ((kHouseLives_fn ())) (fun r4 =>
 .ret (r4.1, ()))) (
 .opt ((letterPacket_fn (r2.2.2.2.2.1, (r2.2.2.2.1, (a21, (a23, (r2.1, ()))))))) (fun r4 =>
 .opt ((hsHear_fn (r1.1, (r1.2.1, (r1.2.2.1, (r1.2.2.2.1, (r1.2.2.2.2.1, (r1.2.2.2.2.2.1, (r1.2.2.2.2.2.2.1, (r1.2.2.2.2.2.2.2.1, (r1.2.2.2.2.2.2.2.2.1, (r1.2.2.2.2.2.2.2.2.2.1, (r1.2.2.2.2.2.2.2.2.2.2.1, (r1.2.2.2.2.2.2.2.2.2.2.2.1, (r1.2.2.2.2.2.2.2.2.2.2.2.2.1, (r1.2.2.2.2.2.2.2.2.2.2.2.2.2.1, (r1.2.2.2.2.2.2.2.2.2.2.2.2.2.2.1, (r1.2.2.2.2.2.2.2.2.2.2.2.2.2.2.2.1, (false, (r4.1, (a24, ()))))))))))))))))))))) (fun r5 =>
 .ite (!r4.2.1) (
 .ite (decide (r5.2.2.2.2.2.2.2.2.2.2.2.2.2.2.2.2.2.2.1 = (0 : Int))) (
 .ret (true, ())) (
 .ret (!r4.2.1, ()))) (
 .ite (!decide (r5.2.2.2.2.2.2.2.2.2.2.2.2.2.2.2.2.2.2.1 = (0 : Int))) (
 .ite (decide (r5.2.2.2.2.2.2.2.2.2.2.2.2.2.2.2.2.2.2.1 = (0 : Int))) (
 .ret (true, ())) (
 .ret (!r4.2.1, ()))) (
 .ite (decide (r5.2.2.2.2.2.2.2.2.2.2.2.2.2.2.2.2.2.1 = (3 : Int))) (
 .ite (decide (r5.2.2.2.2.2.2.2.2.2.2.2.2.2.2.2.2.2.2.1 = (0 : Int))) (
 .ret (true, ())) (
 .ret (!r4.2.1, ()))) (
 .opt ((swEnds_fn (r5.2.2.2.2.2.2.2.2.2.2.2.2.2.2.2.2.1, ()))) (fun r6 =>
 .ite (decide (r5.2.2.2.2.2.2.2.2.2.2.2.2.2.2.2.2.2.1 = (0 : Int))) (
 .ite (decide (r6.2.2.2.2.2.1 = (0 : Int))) (
 .ret (decide (r6.1 = a23) && (decide (r6.2.1 = a22) && (decide (r6.2.2.1 = (17 : Int)) && (decide (r6.2.2.2.1 = a17) && (decide (r6.2.2.2.2.1 = a16) && true)))), ())) (
 .ret (false, ()))) (
 .ret (false, ())))))))))))))))))
noncomputable def gm60 : List (PF Go.Proofs.Tryd.prog) := [cdMeter, cdRule, cdTalk, cdMap, FS.pf sumFold, FS.pf sumAdd, FS.pf sumOf, FS.pf sumRight, FS.pf sumFix, FS.pf dgWord, FS.pf dgLong, FS.pf dgWordAt, FS.pf dgUnder, FS.pf dgPort, FS.pf dgWrite, FS.pf dgRead, FS.pf ipWordAt, FS.pf ipLongAt, FS.pf ipByt, FS.pf ipRefused, FS.pf ipWord, FS.pf ipLong, FS.pf ipWrite, FS.pf ipRead, FS.pf ipHop, FS.pf tcWordAt, FS.pf tcLongAt, FS.pf tcParse, FS.pf tcRead, FS.pf swEnds, FS.pf swWord, GS.pf swPut, GS.pf swChange, FS.pf swSwapped, FS.pf swFrom, FS.pf swTo, clTalk, GS.pf delTalk, FS.pf trTurned, FS.pf trPort, FS.pf trRoad, FS.pf trForm, FS.pf trPlace, FS.pf trCheck, FS.pf trOld, GS.pf dfTalk, GS.pf trOpen, GS.pf trPasses, FS.pf trHear, FS.pf trFind, FS.pf buCheck, FS.pf buLev, FS.pf buTake, clRule, FS.pf ruNet, FS.pf ruHas, FS.pf ruBounds, FS.pf ruRight, FS.pf ruCheck, FS.pf ruMeets, FS.pf ruDecide, tz64, FS.pf portsCheck, FS.pf portsLet, FS.pf portsEnd, FS.pf confCheck, clMap, GS.pf delMap, FS.pf natWithin, FS.pf natCheck, natPlace, GS.pf natExpire, FS.pf natOut, FS.pf natIn, clMeter, GS.pf delMeter, FS.pf hsMeter, FS.pf hsLast, FS.pf hsCheck, FS.pf hsNew, GS.pf wMeasured, GS.pf wKnown, GS.pf wTalked, GS.pf wLeaves, GS.pf wEnters, GS.pf wGoes, FS.pf hsHear, FS.pf hsRun, FS.pf letterPacket, FS.pf kHouseLives, clCame]
theorem kHouseBack_eq (x : ty26_) : fnTr Tryd.prog cod gm60 [] 30 3 kHouseBack_ap kHouseBack_rp x = kHouseBack_tree x := by kernel_rfl
def kHouseBack_fn (x : ty26_) : Option (Bool × Unit) := (kHouseBack_tree x).eval
def kHouseBack : FS Tryd.prog := ⟨3, kHouseBack_ap, kHouseBack_rp, kHouseBack_fn, fun x r h => fnTr_sound (cod := cod) (Γ := gm60) (Λs := []) (n := 30) ((congrArg Tr.eval (kHouseBack_eq x)).trans h)⟩
end Go.Proofs.YthkhikdglmaiaaaDoor.X
namespace Go.Proofs.YthkhikdglmaiaaaDoor.Abs
set_option linter.unusedVariables false
theorem loopO_succ {A B : Type} (tag : Nat) (f : A -> Option (A ⊕ B)) (n : Nat) (a : A) : loopO tag f (n + 1) a = match f a with | none => none | some (.inl a') => loopO tag f n a' | some (.inr b) => some b := rfl
theorem loopO_out {A B : Type} {tag : Nat} {f : A -> Option (A ⊕ B)} {n : Nat} {a : A} {b : B} (h : f a = some (.inr b)) : loopO tag f (n + 1) a = some b := by rw [loopO_succ, h]
theorem loopO_in {A B : Type} {tag : Nat} {f : A -> Option (A ⊕ B)} {n : Nat} {a a' : A} (h : f a = some (.inl a')) : loopO tag f (n + 1) a = loopO tag f n a' := by rw [loopO_succ, h]

theorem loopO_fn {A B : Type} {tag : Nat} {f : A -> Option (A ⊕ B)} (P : A -> Prop) (g : A -> B) (μ : A -> Nat)
    (h : ∀ a, P a -> f a = some (.inr (g a)) \/ ∃ a', f a = some (.inl a') /\ P a' /\ μ a' < μ a /\ g a' = g a) : ∀ (n : Nat) (a : A), P a -> μ a < n -> loopO tag f n a = some (g a) := by
  intro n
  induction n with
  | zero => intro a _ hn; omega
  | succ n ih =>
    intro a ha hn
    rcases h a ha with e | ⟨a', e, h1, h2, h3⟩
    · exact loopO_out e
    · rw [loopO_in e, ih a' h1 (by omega), h3]
theorem loopO_ex {A B : Type} {tag : Nat} {f : A -> Option (A ⊕ B)} (P : A -> Prop) (Q : B -> Prop) (μ : A -> Nat)
    (h : ∀ a, P a -> (∃ b, f a = some (.inr b) /\ Q b) \/ ∃ a', f a = some (.inl a') /\ P a' /\ μ a' < μ a) : ∀ (n : Nat) (a : A), P a -> μ a < n -> ∃ b, loopO tag f n a = some b /\ Q b := by
  intro n
  induction n with
  | zero => intro a _ hn; omega
  | succ n ih =>
    intro a ha hn
    rcases h a ha with ⟨b, e, hb⟩ | ⟨a', e, h1, h2⟩
    · exact ⟨b, loopO_out e, hb⟩
    · rw [loopO_in e]; exact ih a' h1 (by omega)
end Go.Proofs.YthkhikdglmaiaaaDoor.Abs
namespace Go.Proofs.YthkhikdglmaiaaaDoor.Bits
open Go
@[go_sem] theorem signed_u8 : IntKind.u8.signed = false := rfl
@[go_sem] theorem signed_u16 : IntKind.u16.signed = false := rfl
@[go_sem] theorem signed_u32 : IntKind.u32.signed = false := rfl
@[go_sem] theorem signed_u64 : IntKind.u64.signed = false := rfl
@[go_sem] theorem signed_i64 : IntKind.i64.signed = true := rfl

theorem ofInt_nat (w : Nat) (n : Nat) (h : n < 2 ^ w) : (BitVec.ofInt w (n : Int)).toNat = n := by
  rw [BitVec.ofInt_natCast, BitVec.toNat_ofNat]; exact Nat.mod_eq_of_lt h

theorem wrap_nat (k : IntKind) (n : Nat) (h : n < 2 ^ k.bits) (hs : k.signed = true -> n < 2 ^ (k.bits - 1)) : k.wrap (n : Int) = (n : Int) := by
  have hb : (2 : Int) ^ k.bits = ((2 ^ k.bits : Nat) : Int) := by norm_cast
  have h2 : (2 : Nat) ^ k.bits = 2 ^ (k.bits - 1) + 2 ^ (k.bits - 1) := by cases k <;> rfl
  have hm : n % 2 ^ k.bits = n := Nat.mod_eq_of_lt h
  unfold IntKind.wrap
  by_cases hk : k.signed = true
  · have := hs hk
    cases k <;> simp_all [IntKind.bits, IntKind.signed] <;> omega
  · cases k <;> simp_all [IntKind.bits, IntKind.signed] <;> omega

theorem bits_and_nat (k : IntKind) (a b : Nat) (ha : a < 2 ^ k.bits) (hb : b < 2 ^ k.bits) (hs : k.signed = true -> a < 2 ^ (k.bits - 1)) :
    bits .and k (a : Int) (b : Int) = ((a &&& b : Nat) : Int) := by
  have h1 := ofInt_nat k.bits a ha
  have h2 := ofInt_nat k.bits b hb
  have h3 : a &&& b <= a := Nat.and_le_left
  show k.wrap ((BitVec.ofInt k.bits (a : Int) &&& BitVec.ofInt k.bits (b : Int)).toNat : Int) = _
  rw [BitVec.toNat_and, h1, h2]
  exact wrap_nat k _ (by omega) (fun h => by have := hs h; omega)

theorem bits_or_nat (k : IntKind) (a b : Nat) (ha : a < 2 ^ k.bits) (hb : b < 2 ^ k.bits) (hs : k.signed = true -> a < 2 ^ (k.bits - 1) /\ b < 2 ^ (k.bits - 1)) :
    bits .or k (a : Int) (b : Int) = ((a ||| b : Nat) : Int) := by
  have h1 := ofInt_nat k.bits a ha
  have h2 := ofInt_nat k.bits b hb
  show k.wrap ((BitVec.ofInt k.bits (a : Int) ||| BitVec.ofInt k.bits (b : Int)).toNat : Int) = _
  rw [BitVec.toNat_or, h1, h2]
  exact wrap_nat k _ (Nat.or_lt_two_pow ha hb) (fun h => Nat.or_lt_two_pow (hs h).1 (hs h).2)

theorem bits_xor_nat (k : IntKind) (a b : Nat) (ha : a < 2 ^ k.bits) (hb : b < 2 ^ k.bits) (hs : k.signed = true -> a < 2 ^ (k.bits - 1) /\ b < 2 ^ (k.bits - 1)) :
    bits .xor k (a : Int) (b : Int) = ((a ^^^ b : Nat) : Int) := by
  have h1 := ofInt_nat k.bits a ha
  have h2 := ofInt_nat k.bits b hb
  show k.wrap ((BitVec.ofInt k.bits (a : Int) ^^^ BitVec.ofInt k.bits (b : Int)).toNat : Int) = _
  rw [BitVec.toNat_xor, h1, h2]
  exact wrap_nat k _ (Nat.xor_lt_two_pow ha hb) (fun h => Nat.xor_lt_two_pow (hs h).1 (hs h).2)

theorem bits_and_mask (k : IntKind) (j : Nat) (x : Int) (h0 : 0 <= x) (h1 : x < 2 ^ k.bits) (hj : j < k.bits) (hs : k.signed = true -> x < 2 ^ (k.bits - 1)) :
    bits .and k x (2 ^ j - 1) = x % 2 ^ j := by
  obtain ⟨n, rfl⟩ := Int.eq_ofNat_of_zero_le h0
  have e : ((2 : Int) ^ j - 1) = ((2 ^ j - 1 : Nat) : Int) := by
    rw [Int.ofNat_sub (Nat.one_le_two_pow)]; norm_cast
  have hlt : (2 : Nat) ^ j < 2 ^ k.bits := Nat.pow_lt_pow_right (by omega) hj
  have h1' : n < 2 ^ k.bits := by exact_mod_cast h1
  rw [e, bits_and_nat k n _ h1' (by omega) (fun h => by exact_mod_cast hs h), Nat.and_two_pow_sub_one_eq_mod]
  norm_cast

theorem bits_or_disjoint (k : IntKind) (j : Nat) (x y : Int) (hx : 0 <= x) (hy : 0 <= y) (hy' : y < 2 ^ j) (h1 : x * 2 ^ j + y < 2 ^ k.bits) (hs : k.signed = true -> x * 2 ^ j + y < 2 ^ (k.bits - 1)) :
    bits .or k (x * 2 ^ j) y = x * 2 ^ j + y := by
  obtain ⟨a, rfl⟩ := Int.eq_ofNat_of_zero_le hx
  obtain ⟨b, rfl⟩ := Int.eq_ofNat_of_zero_le hy
  have hb : b < 2 ^ j := by exact_mod_cast hy'
  have e : ((a : Int) * 2 ^ j) = ((a * 2 ^ j : Nat) : Int) := by norm_cast
  have h1' : a * 2 ^ j + b < 2 ^ k.bits := by exact_mod_cast h1
  have hs' : k.signed = true -> a * 2 ^ j + b < 2 ^ (k.bits - 1) := fun h => by exact_mod_cast hs h
  rw [e, bits_or_nat k _ b (by omega) (by omega) (fun h => by have := hs' h; omega)]
  have : a * 2 ^ j ||| b = a * 2 ^ j + b := by
    rw [<- Nat.shiftLeft_eq, Nat.shiftLeft_add_eq_or_of_lt hb]
  rw [this]; norm_cast

theorem bits_not (k : IntKind) (x : Int) (hk : k.signed = false) (h0 : 0 <= x) (h1 : x < 2 ^ k.bits) : bits .xor k (2 ^ k.bits - 1) x = 2 ^ k.bits - 1 - x := by
  obtain ⟨n, rfl⟩ := Int.eq_ofNat_of_zero_le h0
  have hn : n < 2 ^ k.bits := by exact_mod_cast h1
  have h2 := ofInt_nat k.bits n hn
  have ho : BitVec.ofInt k.bits (2 ^ k.bits - 1) = BitVec.allOnes k.bits := by
    apply BitVec.eq_of_toNat_eq
    have e : ((2 : Int) ^ k.bits - 1) = ((2 ^ k.bits - 1 : Nat) : Int) := by
      rw [Int.ofNat_sub (Nat.one_le_two_pow)]; norm_cast
    rw [e, ofInt_nat _ _ (by omega), BitVec.toNat_allOnes]
  show k.wrap ((BitVec.ofInt k.bits (2 ^ k.bits - 1) ^^^ BitVec.ofInt k.bits (n : Int)).toNat : Int) = _
  rw [ho, BitVec.allOnes_xor, BitVec.toNat_not, h2, wrap_nat k _ (by omega) (fun h => by rw [hk] at h; cases h)]
  rw [Nat.sub_sub, Int.ofNat_sub (by omega)]
  push_cast
  omega

theorem not_u16 (x : Int) (h0 : 0 <= x) (h1 : x <= 65535) : bits .xor .u16 IntKind.u16.max x = 65535 - x := bits_not .u16 x rfl h0 (by show x < 65536; omega)
theorem not_u64 (x : Int) (h0 : 0 <= x) (h1 : x <= 18446744073709551615) : bits .xor .u64 IntKind.u64.max x = 18446744073709551615 - x := bits_not .u64 x rfl h0 (by show x < 18446744073709551616; omega)

end Go.Proofs.YthkhikdglmaiaaaDoor.Bits
namespace Go.Proofs.YthkhikdglmaiaaaDoor.X
open Go Go.RowKit Go.Proofs.YthkhikdglmaiaaaDoor.Abs Go.Proofs.YthkhikdglmaiaaaDoor.Bits
set_option linter.unusedVariables false
set_option linter.unusedSimpArgs false
theorem wrap8u (x : Int) : IntKind.u8.wrap x = x % 256 := by
  simp only [IntKind.wrap, IntKind.bits, IntKind.signed]
  simp
theorem wrap16u (x : Int) : IntKind.u16.wrap x = x % 65536 := by
  simp only [IntKind.wrap, IntKind.bits, IntKind.signed]
  simp
theorem wrap32u (x : Int) : IntKind.u32.wrap x = x % 4294967296 := by
  simp only [IntKind.wrap, IntKind.bits, IntKind.signed]
  simp
theorem wrap64u (x : Int) : IntKind.u64.wrap x = x % 18446744073709551616 := by
  simp only [IntKind.wrap, IntKind.bits, IntKind.signed]
  simp
theorem fdiv_pos (x : Int) {y : Int} (h : 0 <= y) : x.fdiv y = x / y := Int.fdiv_eq_ediv_of_nonneg _ h
theorem fdiv8 (x : Int) : x.fdiv ((2 : Int) ^ (8 : Nat)) = x / 256 := fdiv_pos x (by decide)
theorem fdiv16 (x : Int) : x.fdiv ((2 : Int) ^ (16 : Nat)) = x / 65536 := fdiv_pos x (by decide)
theorem u8n (b : UInt8) : b.toNat < 256 := UInt8.toNat_lt b
def byteOf (x : Int) : UInt8 := UInt8.ofNat (x % 256).toNat
theorem byteOf_nat (x : Int) : ((byteOf x).toNat : Int) = x % 256 := by
  unfold byteOf
  rw [UInt8.toNat_ofNat']; omega
theorem byteOf_self (b : UInt8) : byteOf (b.toNat : Int) = b := by
  have h := u8n b
  apply UInt8.toNat_inj.1
  have := byteOf_nat (b.toNat : Int)
  omega
def wd (x : Int) : List UInt8 := [byteOf (x / 256), byteOf x]
@[simp] theorem wd_len (x : Int) : (wd x).length = 2 := rfl
def wv (a b : UInt8) : Int := (a.toNat : Int) * 256 + (b.toNat : Int)
theorem wv_bound (a b : UInt8) : 0 <= wv a b /\ wv a b <= 65535 := by
  have := u8n a; have := u8n b; unfold wv; omega
theorem wv_wd (x : Int) : wv (byteOf (x / 256)) (byteOf x) = x % 65536 := by
  unfold wv; rw [byteOf_nat, byteOf_nat]; omega
theorem wd_wv (a b : UInt8) : wd (wv a b) = [a, b] := by
  have h1 := u8n a; have h2 := u8n b
  have e1 : byteOf (wv a b / 256) = a := by
    rw [show wv a b / 256 = (a.toNat : Int) by unfold wv; omega]; exact byteOf_self a
  have e2 : byteOf (wv a b) = b := by
    apply UInt8.toNat_inj.1
    have := byteOf_nat (wv a b)
    unfold wv at this ⊢; omega
  unfold wd; rw [e1, e2]
def wAt (l : List UInt8) (i : Nat) : Int := wv (l.getD i 0) (l.getD (i + 1) 0)
theorem wAt_bound (l : List UInt8) (i : Nat) : 0 <= wAt l i /\ wAt l i <= 65535 := wv_bound _ _
theorem wAt_app_left (l k : List UInt8) (i : Nat) (h : i + 1 < l.length) : wAt (l ++ k) i = wAt l i := by
  unfold wAt
  rw [List.getD_eq_getElem?_getD, List.getD_eq_getElem?_getD, List.getD_eq_getElem?_getD, List.getD_eq_getElem?_getD, List.getElem?_append_left (by omega), List.getElem?_append_left h]
theorem wAt_app_right (l k : List UInt8) (i : Nat) (h : l.length <= i) : wAt (l ++ k) i = wAt k (i - l.length) := by
  unfold wAt
  rw [List.getD_eq_getElem?_getD, List.getD_eq_getElem?_getD, List.getD_eq_getElem?_getD, List.getD_eq_getElem?_getD, List.getElem?_append_right h, List.getElem?_append_right (by omega), show i + 1 - l.length = i - l.length + 1 by omega]
def lAt (l : List UInt8) (i : Nat) : Int := wAt l i * 65536 + wAt l (i + 2)
theorem lAt_bound (l : List UInt8) (i : Nat) : 0 <= lAt l i /\ lAt l i <= 4294967295 := by
  have := wAt_bound l i; have := wAt_bound l (i + 2); unfold lAt; omega
def lg (x : Int) : List UInt8 := wd (x / 65536) ++ wd x
@[simp] theorem lg_len (x : Int) : (lg x).length = 4 := rfl
theorem or_i64 (a b : UInt8) : bits .or .i64 (IntKind.i64.wrap (IntKind.i64.wrap (a.toNat : Int) * (2 : Int) ^ (8 : Nat))) (IntKind.i64.wrap (b.toNat : Int)) = wv a b := by
  have h1 := u8n a; have h2 := u8n b
  have e1 : IntKind.i64.wrap (a.toNat : Int) = a.toNat := wrapI64 ⟨by omega, by omega⟩
  have e2 : IntKind.i64.wrap (b.toNat : Int) = b.toNat := wrapI64 ⟨by omega, by omega⟩
  have e3 : IntKind.i64.wrap ((a.toNat : Int) * 2 ^ 8) = (a.toNat : Int) * 2 ^ 8 := wrapI64 ⟨by omega, by omega⟩
  rw [e1, e2, e3, bits_or_disjoint .i64 8 a.toNat b.toNat (by omega) (by omega) (by omega) (by show _ < (2 : Int) ^ 64; omega) (fun _ => by show _ < (2 : Int) ^ 63; omega)]
  unfold wv; omega
theorem or_u64 (a b : UInt8) : bits .or .u64 (IntKind.u64.wrap (IntKind.u64.wrap (a.toNat : Int) * (2 : Int) ^ (8 : Nat))) (IntKind.u64.wrap (b.toNat : Int)) = wv a b := by
  have h1 := u8n a; have h2 := u8n b
  rw [wrap64u, wrap64u, wrap64u]
  have e1 : ((a.toNat : Int) % 18446744073709551616 * 2 ^ 8) % 18446744073709551616 = (a.toNat : Int) * 2 ^ 8 := by omega
  have e2 : (b.toNat : Int) % 18446744073709551616 = b.toNat := by omega
  rw [e1, e2, bits_or_disjoint .u64 8 a.toNat b.toNat (by omega) (by omega) (by omega) (by show _ < (2 : Int) ^ 64; omega) (fun h => by cases h)]
  unfold wv; omega
theorem or_u16 (a b : UInt8) : bits .or .u16 (IntKind.u16.wrap (IntKind.u16.wrap (a.toNat : Int) * (2 : Int) ^ (8 : Nat))) (IntKind.u16.wrap (b.toNat : Int)) = wv a b := by
  have h1 := u8n a; have h2 := u8n b
  rw [wrap16u, wrap16u, wrap16u]
  have e1 : ((a.toNat : Int) % 65536 * 2 ^ 8) % 65536 = (a.toNat : Int) * 2 ^ 8 := by omega
  have e2 : (b.toNat : Int) % 65536 = b.toNat := by omega
  rw [e1, e2, bits_or_disjoint .u16 8 a.toNat b.toNat (by omega) (by omega) (by omega) (by show _ < (2 : Int) ^ 16; omega) (fun h => by cases h)]
  unfold wv; omega

def ws : List UInt8 -> Nat
  | [] => 0
  | [a] => a.toNat * 256
  | a :: b :: r => a.toNat * 256 + b.toNat + ws r
theorem ws_app : ∀ (l k : List UInt8), l.length % 2 = 0 -> ws (l ++ k) = ws l + ws k
  | [], k, _ => by simp [ws]
  | [a], k, h => by simp at h
  | a :: b :: r, k, h => by
    have := ws_app r k (by simp at h; omega)
    simp only [List.cons_append, ws, this]; omega
theorem ws_wd (x : Int) : (ws (wd x) : Int) = x % 65536 := by
  have := wv_wd x
  unfold wv at this
  simp only [wd, ws]; omega
theorem ws_wd_app (x : Int) (l : List UInt8) : (ws (wd x ++ l) : Int) = x % 65536 + ws l := by
  have h := ws_app (wd x) l (by simp); have := ws_wd x; omega
theorem ws_cons2 (a b : UInt8) (r : List UInt8) : (ws (a :: b :: r) : Int) = wv a b + ws r := by
  simp only [ws, wv]; omega
def ear (n : Nat) : Nat := if n = 0 then 0 else (n - 1) % 65535 + 1
theorem ear_le (n : Nat) : ear n <= 65535 := by unfold ear; split <;> omega
theorem ear_small (n : Nat) (h : n <= 65535) : ear n = n := by unfold ear; split <;> omega
theorem ear_mod (n : Nat) : ear n % 65535 = n % 65535 := by unfold ear; split <;> omega
theorem ear_full (n : Nat) : ear n = 65535 ↔ (n ≠ 0 /\ n % 65535 = 0) := by unfold ear; split <;> omega
theorem ear_zero (n : Nat) : ear n = 0 ↔ n = 0 := by unfold ear; split <;> omega
theorem ear_round (n : Nat) : ear (n / 65536 + n % 65536) = ear n := by unfold ear; split <;> split <;> omega
theorem ev_opt {α β : Type} {o : Option β} {k : β -> Tr α} {b : β} {r : Option α} (h : o = some b) (h2 : (k b).eval = r) : (Tr.opt o k).eval = r := by rw [h]; exact h2
theorem ev_t {α : Type} {c : Bool} {t e : Tr α} {r : Option α} (h : c = true) (h2 : t.eval = r) : (Tr.ite c t e).eval = r := by rw [h]; exact h2
theorem ev_f {α : Type} {c : Bool} {t e : Tr α} {r : Option α} (h : c = false) (h2 : e.eval = r) : (Tr.ite c t e).eval = r := by rw [h]; exact h2
theorem ev_g {α : Type} {c : Bool} {t : Tr α} {r : Option α} (h : c = true) (h2 : t.eval = r) : (Tr.grd c t).eval = r := by rw [h]; exact h2
theorem ev_ite {α : Type} {c : Bool} {t e : Tr α} {r : Option α} (h1 : c = true -> t.eval = r) (h2 : c = false -> e.eval = r) : (Tr.ite c t e).eval = r := by
  cases c
  · exact h2 rfl
  · exact h1 rfl
theorem ev_r {α : Type} {a b : α} (h : a = b) : (Tr.ret a).eval = some b := by rw [h]; rfl

theorem ws_set : ∀ (l : List UInt8) (i : Nat) (b : UInt8), i < l.length -> (ws (l.set i b) : Int) = ws l + ((b.toNat : Int) - ((l.getD i 0).toNat : Int)) * (if i % 2 = 0 then 256 else 1)
  | [a], 0, b, _ => by simp [ws]; omega
  | a :: c :: r, 0, b, _ => by simp [ws]; omega
  | a :: c :: r, 1, b, _ => by simp [ws]; omega
  | a :: c :: r, i + 2, b, h => by
    have := ws_set r i b (by simp at h; omega)
    have e1 : (a :: c :: r).set (i + 2) b = a :: c :: r.set i b := rfl
    have e2 : (a :: c :: r).getD (i + 2) 0 = r.getD i 0 := rfl
    rw [e1, e2]
    simp only [ws]
    rw [show (i + 2) % 2 = i % 2 by omega]
    omega
  | [a], i + 1, b, h => by simp at h
  | [], i, b, h => by simp at h
def hit {T : Type} (p : T -> Bool) : List T -> Option (Nat × T)
  | [] => none
  | x :: r => match p x with
    | true => some (0, x)
    | false => (hit p r).map fun q => (q.1 + 1, q.2)
theorem hit_at {T : Type} {p : T -> Bool} : ∀ {l : List T} {i : Nat} {x : T}, hit p l = some (i, x) -> l[i]? = some x /\ p x = true
  | [], i, x, h => by cases h
  | y :: r, i, x, h => by
    simp only [hit] at h
    split at h
    · rename_i e; cases h; exact ⟨rfl, e⟩
    · obtain ⟨q, hq, e⟩ := Option.map_eq_some_iff.1 h
      cases e
      obtain ⟨h1, h2⟩ := hit_at (x := q.2) (i := q.1) hq
      exact ⟨by simpa using h1, h2⟩
theorem hit_none {T : Type} {p : T -> Bool} : ∀ {l : List T}, hit p l = none ↔ ∀ x ∈ l, p x = false
  | [] => by simp [hit]
  | y :: r => by
    simp only [hit, List.mem_cons, forall_eq_or_imp]
    cases e : p y with
    | true => simp
    | false => simp [hit_none (l := r)]
theorem hit_app {T : Type} (p : T -> Bool) : ∀ (a b : List T), hit p (a ++ b) = (hit p a).or ((hit p b).map fun q => (q.1 + a.length, q.2))
  | [], b => by simp [hit]
  | x :: a, b => by
    simp only [List.cons_append, hit, hit_app p a b]
    cases p x with
    | true => rfl
    | false =>
      cases h1 : hit p a with
      | some q => rfl
      | none =>
        cases h2 : hit p b with
        | none => rfl
        | some q => simp [Nat.add_assoc, Nat.add_comm]
theorem hit_lt {T : Type} {p : T -> Bool} {l : List T} {i : Nat} {x : T} (h : hit p l = some (i, x)) : i < l.length := by
  have := (hit_at h).1
  exact (List.getElem?_eq_some_iff.1 this).1
def fst {T : Type} (p : T -> Bool) (l : List T) : Option T := (hit p l).map (·.2)
theorem fst_app {T : Type} (p : T -> Bool) (a b : List T) : fst p (a ++ b) = (fst p a).or (fst p b) := by
  unfold fst
  rw [hit_app]
  cases hit p a <;> simp [Function.comp_def]
theorem fst_cons {T : Type} (p : T -> Bool) (x : T) (l : List T) : fst p (x :: l) = match p x with | true => some x | false => fst p l := by
  unfold fst
  simp only [hit]
  cases p x <;> simp [Function.comp_def]

theorem loop_hit {A B T : Type} {tag : Nat} {f : A -> Option (A ⊕ B)} {l : List T} (st : Nat -> A) (p : T -> Bool) (out : Option (Nat × T) -> B)
    (h1 : ∀ (i : Nat) (x : T), l[i]? = some x -> f (st i) = match p x with | true => some (.inr (out (some (i, x)))) | false => some (.inl (st (i + 1))))
    (h2 : f (st l.length) = some (.inr (out none))) (n : Nat) (hn : l.length < n) : loopO tag f n (st 0) = some (out (hit p l)) := by
  have key : ∀ (r : List T) (k n : Nat), l.drop k = r -> k <= l.length -> r.length < n -> loopO tag f n (st k) = some (out ((hit p r).map fun q => (q.1 + k, q.2))) := by
    intro r
    induction r with
    | nil =>
      intro k n hk hle hn
      obtain ⟨n, rfl⟩ : ∃ m, n = m + 1 := ⟨n - 1, by simp at hn; omega⟩
      have : k = l.length := by have := congrArg List.length hk; simp at this; omega
      subst this
      exact loopO_out h2
    | cons x r ih =>
      intro k n hk hle hn
      obtain ⟨n, rfl⟩ : ∃ m, n = m + 1 := ⟨n - 1, by simp at hn; omega⟩
      have hx : l[k]? = some x := by have := congrArg (·[0]?) hk; simpa using this
      have hk2 : l.drop (k + 1) = r := by rw [<- List.drop_drop, hk]; rfl
      have := h1 k x hx
      simp only [hit]
      cases hp : p x with
      | true => rw [hp] at this; rw [loopO_out this]; simp
      | false =>
        rw [hp] at this
        have hlt := (List.getElem?_eq_some_iff.1 hx).1
        rw [loopO_in this, ih (k + 1) n hk2 (by omega) (by simp at hn; omega)]
        cases hit p r with
        | none => rfl
        | some q => simp only [Option.map_some]; rw [show q.1 + (k + 1) = q.1 + 1 + k by omega]
  have := key l 0 n rfl (by omega) hn
  rw [this]
  cases hit p l <;> rfl
theorem cond_and (b x : Bool) : (cond b (some (x, ())) (some (false, ())) : Option (Bool × Unit)) = some (b && x, ()) := by cases b <;> rfl
theorem cond_or (a b x : Bool) : (cond a (some (x, ())) (some (b && x, ())) : Option (Bool × Unit)) = some ((a || b) && x, ()) := by cases a <;> rfl
theorem next_i64 (i : Nat) (h : (i : Int) + 1 < 9223372036854775808) : IntKind.wrap IntKind.i64 ((i : Int) + (1 : Int)) = ((i + 1 : Nat) : Int) := by
  have := wrap_nat .i64 (i + 1) (by show i + 1 < 2 ^ 64; omega) (fun _ => by show i + 1 < 2 ^ 63; omega)
  simpa using this
theorem prev_i64 (i : Nat) (h : 0 < i) (h2 : i < 9223372036854775808) : IntKind.wrap IntKind.i64 ((i : Int) - (1 : Int)) = ((i - 1 : Nat) : Int) := by
  have := wrap_nat .i64 (i - 1) (by show i - 1 < 2 ^ 64; omega) (fun _ => by show i - 1 < 2 ^ 63; omega)
  rw [<- this]; congr 1; omega
theorem del_eq {α : Type} (l : List α) (i j : Nat) (hij : i <= j) (hj : j <= l.length) (X Y Z : List α) :
    List.take (i + (List.take (l.length - j) (List.drop j l)).length) (List.take (i + (List.take (l.length - j) (List.drop j l)).length) (List.take i l ++ List.take (l.length - j) (List.drop j l) ++ X) ++ Y ++ Z) = l.take i ++ l.drop j := by
  have hB : List.take (l.length - j) (List.drop j l) = List.drop j l := List.take_of_length_le (by simp)
  rw [hB]
  have hl : (List.take i l ++ List.drop j l).length = i + (List.drop j l).length := by simp; omega
  rw [<- hl, List.take_left' rfl, List.append_assoc, List.take_left' rfl]
end Go.Proofs.YthkhikdglmaiaaaDoor.X
namespace Go.Proofs.YthkhikdglmaiaaaDoor.Abs
open Go Go.RowKit Go.Proofs.YthkhikdglmaiaaaDoor.Read
set_option linter.unusedVariables false
def ShAll (Q : TypeId -> List D -> Prop) : List TypeId -> List D -> Prop
  | [], ds => ds = []
  | t :: r, ds => ∃ a b, ds = a ++ b /\ Q t a /\ ShAll Q r b

def Sh (P : Program) : Nat -> TypeId -> List D -> Prop
  | 0, _, _ => False
  | n + 1, t, ds => match P.underlying t with
    | some .bool => ∃ b, ds = [.b b]
    | some (.int k) => ∃ x, ds = [.i k x] /\ k.min <= x /\ x <= k.max
    | some .string => ∃ l : List UInt8, ds = [.s l] /\ l.length <= 140737488351232
    | some (.struct fs) => ShAll (Sh P n) (fs.toList.map (·.type)) ds
    | some (.array m e) => ShAll (Sh P n) (List.replicate m e) ds
    | some (.slice e) => ∃ rows, ds = [.sl (P.cellsOf e) rows] /\ rows.length <= maxLen /\ rows.length * P.bytesOf e <= 140737488351232 /\ ∀ r ∈ rows, Sh P n e r
    | _ => False

def contig (P : Program) : List Field -> Nat -> Option Nat
  | [], o => some o
  | f :: r, o => if f.offset = o then contig P r (o + P.cellsOf f.type) else none

def okT (P : Program) : Nat -> TypeId -> Bool
  | 0, _ => false
  | n + 1, t => match P.underlying t with
    | some .bool | some (.int _) | some .string => true
    | some (.struct fs) => contig P fs.toList 0 == some (P.cellsOf t) && fs.toList.all (fun f => okT P n f.type)
    | some (.array m e) => P.cellsOf t == m * P.cellsOf e && okT P n e
    | some (.slice e) => decide (0 < P.cellsOf e) && okT P n e
    | _ => false

def RepAll (w : World) (U : Nat -> Prop) : List Value -> List D -> Prop
  | [], [] => True
  | v :: r, d :: q => RepI w U v d /\ RepAll w U r q
  | _, _ => False
theorem RepAll.length {w : World} {U : Nat -> Prop} : ∀ {l : List Value} {q : List D}, RepAll w U l q -> l.length = q.length
  | [], [], _ => rfl
  | v :: r, d :: q, h => by simp [RepAll.length h.2]
  | [], d :: q, h => h.elim
  | v :: r, [], h => h.elim
theorem RepAll.app {w : World} {U : Nat -> Prop} : ∀ {l l2 : List Value} {q q2 : List D}, RepAll w U l q -> RepAll w U l2 q2 -> RepAll w U (l ++ l2) (q ++ q2)
  | [], l2, [], q2, _, h2 => h2
  | v :: r, l2, d :: q, q2, h, h2 => ⟨h.1, RepAll.app h.2 h2⟩
  | [], l2, d :: q, q2, h, h2 => h.elim
  | v :: r, l2, [], q2, h, h2 => h.elim
theorem RepAll.at {w : World} {U : Nat -> Prop} : ∀ {l : List Value} {q : List D}, RepAll w U l q -> ∀ (j : Nat) v d, l[j]? = some v -> q[j]? = some d -> RepI w U v d
  | v :: r, d :: q, h, 0, v', d', h1, h2 => by simp at h1 h2; subst h1; subst h2; exact h.1
  | v :: r, d :: q, h, j + 1, v', d', h1, h2 => RepAll.at h.2 j v' d' (by simpa using h1) (by simpa using h2)
  | [], [], h, j, v', d', h1, h2 => by simp at h1
  | [], d :: q, h, j, v', d', h1, h2 => h.elim
  | v :: r, [], h, j, v', d', h1, h2 => h.elim

theorem struct_all {P : Program} {w : World} {U : Nat -> Prop} {cs : List Value} {n : Nat} (ih : ∀ t l, okT P n t = true -> Rd P w t l -> ∃ ds, RepAll w U l ds /\ Sh P n t ds) :
    ∀ (fs : List Field) (o tot : Nat), contig P fs o = some tot -> tot = cs.length -> (∀ f ∈ fs, okT P n f.type = true /\ Rd P w f.type ((cs.drop f.offset).take (P.cellsOf f.type))) ->
      ∃ ds, RepAll w U (cs.drop o) ds /\ ShAll (Sh P n) (fs.map (·.type)) ds
  | [], o, tot, h, ht, _ => by
    simp only [contig, Option.some.injEq] at h
    subst h; subst ht
    exact ⟨[], by simp [RepAll], rfl⟩
  | f :: r, o, tot, h, ht, hf => by
    unfold contig at h
    split at h
    · rename_i e
      obtain ⟨h1, h2⟩ := hf f List.mem_cons_self
      obtain ⟨d1, k1, k2⟩ := ih _ _ h1 h2
      obtain ⟨d2, k3, k4⟩ := struct_all ih r _ tot h ht fun g hg => hf g (List.mem_cons_of_mem _ hg)
      refine ⟨d1 ++ d2, ?_, d1, d2, rfl, k2, k4⟩
      have := k1.app k3
      rw [e, <- List.drop_drop, List.take_append_drop] at this
      exact this
    · cases h

theorem array_all {P : Program} {w : World} {U : Nat -> Prop} {cs : List Value} {n : Nat} {e : TypeId} (ih : ∀ l, Rd P w e l -> ∃ ds, RepAll w U l ds /\ Sh P n e ds) :
    ∀ (m k : Nat), (k + m) * P.cellsOf e = cs.length -> (∀ i, i < k + m -> Rd P w e ((cs.drop (i * P.cellsOf e)).take (P.cellsOf e))) ->
      ∃ ds, RepAll w U (cs.drop (k * P.cellsOf e)) ds /\ ShAll (Sh P n) (List.replicate m e) ds
  | 0, k, h, _ => ⟨[], by rw [List.drop_eq_nil_of_le (by rw [<- h]; exact Nat.le_refl _)]; trivial, rfl⟩
  | m + 1, k, h, hf => by
    obtain ⟨d1, k1, k2⟩ := ih _ (hf k (by omega))
    obtain ⟨d2, k3, k4⟩ := array_all ih m (k + 1) (by rw [<- h]; congr 1; omega) fun i hi => hf i (by omega)
    refine ⟨d1 ++ d2, ?_, d1, d2, rfl, k2, k4⟩
    have := k1.app k3
    rw [show (k + 1) * P.cellsOf e = k * P.cellsOf e + P.cellsOf e by rw [Nat.succ_mul], <- List.drop_drop, List.take_append_drop] at this
    exact this


theorem bounds_wf {k : IntKind} {x : Int} (h : (Lit.int k x).wf = true) : k.min <= x /\ x <= k.max := by
  cases k <;> (simp only [Lit.wf, Bool.and_eq_true, decide_eq_true_eq] at h; exact h)

theorem rd_rep {P : Program} {w : World} {U : Nat -> Prop} (hU : ∀ b, b < w.heap.size -> U b) : ∀ (n : Nat) (t : TypeId) (cs : List Value), okT P n t = true -> Rd P w t cs -> ∃ ds, RepAll w U cs ds /\ Sh P n t ds
  | 0, t, cs, h, _ => by simp [okT] at h
  | n + 1, t, cs, h, hr => by
    unfold okT at h
    split at h
    · rename_i ht
      obtain ⟨b, rfl⟩ := hr.bool ht
      simp only [Sh, ht]
      exact ⟨[.b b], ⟨.b b, trivial⟩, b, rfl⟩
    · rename_i k ht
      obtain ⟨x, rfl, hx⟩ := hr.int ht
      simp only [Sh, ht]
      exact ⟨[.i k x], ⟨.i k x, trivial⟩, x, rfl, bounds_wf hx⟩
    · rename_i ht
      obtain ⟨s, rfl, hs⟩ := hr.string ht
      simp only [Sh, ht]
      refine ⟨[.s s.data.toList], ⟨?_, trivial⟩, _, rfl, by rw [Array.length_toList]; exact hs⟩
      exact RepI.s s.data.toList
    · rename_i fs ht
      simp only [Sh, ht]
      simp only [Bool.and_eq_true, beq_iff_eq, List.all_eq_true] at h
      obtain ⟨hl, hf⟩ := hr.struct ht
      obtain ⟨ds, h1, h2⟩ := struct_all (U := U) (n := n) (fun t l => rd_rep hU n t l) fs.toList 0 _ h.1 hl.symm fun f hf' => by
        obtain ⟨i, hi, rfl⟩ := List.getElem_of_mem hf'
        exact ⟨h.2 _ (List.getElem_mem _), hf i _ (by simp)⟩
      exact ⟨ds, h1, h2⟩
    · rename_i m e ht
      simp only [Sh, ht]
      simp only [Bool.and_eq_true, beq_iff_eq] at h
      obtain ⟨hl, hf⟩ := hr.array ht
      obtain ⟨ds, h1, h2⟩ := array_all (U := U) (n := n) (fun l => rd_rep hU n e l h.2) m 0 (by rw [hl, h.1, Nat.zero_add]) fun i hi => hf i (by omega)
      exact ⟨ds, by simpa using h1, h2⟩
    · rename_i e ht
      simp only [Sh, ht]
      obtain ⟨a, len, cap, rfl, hlc, hcm, hcb, hn, hx⟩ := hr.slice ht
      have hb : ∀ l : Nat, l <= cap -> l * P.bytesOf e <= 140737488351232 := fun l hl => Nat.le_trans (Nat.mul_le_mul_right _ hl) hcb
      by_cases h0 : len = 0
      · subst h0
        exact ⟨[.sl (P.cellsOf e) []], ⟨.nil a cap _ hn, trivial⟩, [], rfl, by simp, by simp, by simp⟩
      · cases a with
        | none => have := hn rfl; omega
        | some x =>
          obtain ⟨vals, hvl, hv⟩ := exists_list (P := fun i (p : List Value × List D) => w.cells? 0 (x.add (i * P.cellsOf e)) (P.cellsOf e) = some p.1 /\ RepAll w U p.1 p.2 /\ Sh P n e p.2) len fun i hi => by
            obtain ⟨row, h1, h2⟩ := hx x rfl i (by omega)
            obtain ⟨ds, h3, h4⟩ := rd_rep hU n e row (by simp at h; exact h.2) h2
            exact ⟨(row, ds), h1, h3, h4⟩
          refine ⟨[.sl (P.cellsOf e) (vals.map (·.2))], ⟨?_, trivial⟩, _, rfl, by simp; omega, by simp only [List.length_map, hvl]; exact hb len hlc, ?_⟩
          · by_cases hz : P.cellsOf e = 0
            · simp [hz] at h
            · have hx0 := hv 0 (by omega)
              obtain ⟨q1, q2⟩ := cells_at hx0.1
              obtain ⟨q3, q4⟩ := spot_none (q2 0 (by omega))
              obtain ⟨b, o, sp⟩ := x
              have hsp : sp = none /\ b < w.heap.size := by
                rw [Nat.zero_mul] at q3 q4
                unfold Addr.add at q3 q4
                simp at q3 q4
                exact ⟨q3, q4⟩
              obtain ⟨rfl, hb2⟩ := hsp
              have := RepI.sl (w := w) (U := U) b o cap (P.cellsOf e) (vals.map (·.2)) (fun i j => ((vals[i]?).bind fun p => p.1[j]?).getD undef) (hU b hb2)
              rw [List.length_map, hvl] at this
              refine this ?_ hlc ?_ ?_
              · intro r hr'
                obtain ⟨p, hp, rfl⟩ := List.mem_map.1 hr'
                obtain ⟨i, hi, rfl⟩ := List.getElem_of_mem hp
                rw [<- (hv i hi).2.1.length, (cells_at (hv i hi).1).1]
              · intro i j r d h1 h2
                rw [List.getElem?_map, Option.map_eq_some_iff] at h1
                obtain ⟨p, hp, rfl⟩ := h1
                obtain ⟨hi, rfl⟩ := List.getElem?_eq_some_iff.1 hp
                obtain ⟨k1, k2, k3⟩ := hv i hi
                obtain ⟨m1, m2⟩ := cells_at k1
                obtain ⟨hj, -⟩ := List.getElem?_eq_some_iff.1 h2
                have hj' : j < (vals[i]).1.length := by rw [k2.length]; exact hj
                have := m2 j hj'
                rw [add_none, add_none] at this
                rw [hp]
                simp only [Option.bind_some]
                rw [List.getElem?_eq_getElem hj', Option.getD_some]
                exact this
              · intro i j r d h1 h2
                rw [List.getElem?_map, Option.map_eq_some_iff] at h1
                obtain ⟨p, hp, rfl⟩ := h1
                obtain ⟨hi, rfl⟩ := List.getElem?_eq_some_iff.1 hp
                obtain ⟨k1, k2, k3⟩ := hv i hi
                obtain ⟨hj, -⟩ := List.getElem?_eq_some_iff.1 h2
                have hj' : j < (vals[i]).1.length := by rw [k2.length]; exact hj
                rw [hp]
                simp only [Option.bind_some]
                rw [List.getElem?_eq_getElem hj', Option.getD_some]
                exact k2.at j _ d (List.getElem?_eq_getElem hj') h2
          · intro r hr'
            obtain ⟨p, hp, rfl⟩ := List.mem_map.1 hr'
            obtain ⟨i, hi, rfl⟩ := List.getElem_of_mem hp
            exact (hv i hi).2.2
    · cases h

def RepArgs (w : World) (us : List Value) (ys : List V) : Prop := us.length = ys.length /\ ∀ (j : Nat) u y, us[j]? = some u -> ys[j]? = some y -> RepV w (fun _ => none) (fun b => b < w.heap.size) w.heap.size u y
theorem RepArgs.nil {w : World} : RepArgs w [] [] := ⟨rfl, fun j u y h => by simp at h⟩
theorem RepArgs.cons {w : World} {u : Value} {y : V} {us : List Value} {ys : List V} (h : RepV w (fun _ => none) (fun b => b < w.heap.size) w.heap.size u y) (hr : RepArgs w us ys) : RepArgs w (u :: us) (y :: ys) := by
  refine ⟨by simp [hr.1], fun j u' y' h1 h2 => ?_⟩
  cases j with
  | zero => simp at h1 h2; subst h1; subst h2; exact h
  | succ j => exact hr.2 j u' y' (by simpa using h1) (by simpa using h2)

theorem RepArgs.agg {w : World} {cs : Array Value} {ds : List D} {us : List Value} {ys : List V} (h : RepAll w (fun b => b < w.heap.size) cs.toList ds) (hr : RepArgs w us ys) : RepArgs w (.agg cs :: us) (.agg (ds.map C.d) :: ys) := by
  refine hr.cons ?_
  have := RepV.agg (w := w) (β := fun _ => none) (U := fun b => b < w.heap.size) (base := w.heap.size) cs.toList (ds.map C.d) (by rw [h.length, List.length_map]) ?_ ?_
  · exact this
  · intro u hu
    obtain ⟨j, hj, rfl⟩ := List.getElem_of_mem hu
    have hj2 : j < ds.length := by rw [<- h.length]; exact hj
    exact (h.at j _ _ (List.getElem?_eq_getElem hj) (List.getElem?_eq_getElem hj2)).oneCell
  · intro j u c hu hc
    rw [List.getElem?_map, Option.map_eq_some_iff] at hc
    obtain ⟨d, hd, rfl⟩ := hc
    exact h.at j u d hu hd
theorem RepArgs.one {w : World} {v : Value} {d : D} {us : List Value} {ys : List V} (h : RepI w (fun b => b < w.heap.size) v d) (hr : RepArgs w us ys) : RepArgs w (v :: us) (vd d :: ys) := hr.cons (.one _ _ h)
theorem RepArgs.s {w : World} {s : ByteArray} {us : List Value} {ys : List V} (hr : RepArgs w us ys) : RepArgs w (.string s :: us) (Abs.vs s.data.toList :: ys) := hr.one (.s s.data.toList)
theorem RepArgs.i {w : World} {k : IntKind} {n : Int} {us : List Value} {ys : List V} (hr : RepArgs w us ys) : RepArgs w (.int k n :: us) (vi k n :: ys) := hr.one (.i k n)
theorem RepArgs.b {w : World} {x : Bool} {us : List Value} {ys : List V} (hr : RepArgs w us ys) : RepArgs w (.bool x :: us) (vb x :: ys) := hr.one (.b x)

theorem glob_of {w : World} (h : ∀ e ∈ globs, ∃ x y, w.heap[e.1]? = some (.cells e.2 x y)) (h2 : ∀ g ∈ gints, g < w.heap.size /\ ∃ m, w.cell? ⟨g, 0, none⟩ = some (.int .i64 m)) : Glob (fun b => b < w.heap.size) w := by
  refine ⟨fun e he => ?_, h2⟩
  obtain ⟨x, y, hx⟩ := h e he
  exact ⟨(Array.getElem?_eq_some_iff.1 hx).1, x, y, hx⟩
theorem law_calls {P : Program} {f : FuncId} {ys : List V} {w : World} {us : Array Value} (h : AFn P f ys (vb true)) (hr : RepArgs w us.toList ys) (hn : decide (ys.length <= 900) = true) (hgl : Glob (fun b => b < w.heap.size) w) : Calls P f us w fun e w' => e = .returned (.bool true) /\ Below w.heap.size w w' := by
  have h0 : SimB w (fun b => b < w.heap.size) (fun _ _ => False) (fun _ => none) (fun _ => none) (fun b => b < w.heap.size) ⟨ys.length, argsEnv 0 ys, []⟩ ⟨us, []⟩ w := by
    refine { n := by simpa using hr.1, small := of_decide_eq_true hn, args := fun _ _ => rfl, ver0 := (fun k v ver e => by cases e), hist := (fun k p e => by cases e), defers := rfl, env := fun t => ?_, mem := (fun k b e => by cases e), dom := (fun k p e => by cases e), apart := (fun k p b e => by cases e), inj := (fun k k' p p' b b' x j _ e => by cases e), stab := fun b h => h, glob := hgl, old := fun b h => h, new := fun b h _ => h, chg := Chg.refl _ _ _, may := (fun k p b c j e => by cases e) }
    show RepV _ _ _ _ _ ((look t (argsEnv 0 ys)).getD (.one .bad))
    rw [look_argsEnv, if_pos (Nat.zero_le _), Nat.sub_zero]
    cases hy : ys[t]? with
    | none => exact .one _ _ trivial
    | some y =>
      have ht : t < ys.length := (List.getElem?_eq_some_iff.1 hy).1
      have ht2 : t < us.toList.length := by rw [hr.1]; exact ht
      have := hr.2 t _ y (List.getElem?_eq_getElem ht2) hy
      have e : us.getD t undef = us.toList[t] := by simp only [Array.length_toList] at ht2; simp [Array.getD, ht2]
      rw [e]; exact this
  refine (h w _ _ _ us h0).mono ?_
  rintro e w' ⟨v, r, m', rfl, ⟨rfl, rfl⟩, β, U, hs⟩
  have := hs.env 0
  refine ⟨?_, hs.chg.below fun _ _ h => h⟩
  have e : (⟨1, [(0, vb true)], []⟩ : St).get 0 = vb true := rfl
  rw [e] at this
  have hv := this.bool
  simp at hv
  subst hv; rfl
set_option linter.unusedSimpArgs false
def PD.same : PD -> PD -> Bool
  | .i k, .i k' => decide (k = k')
  | .b, .b => true
  | .s, .s => true
  | .st c, .st c' => Nat.beq c c'
  | _, _ => false
def pdsSame : List PD -> List PD -> Bool
  | [], [] => true
  | p :: ps, q :: qs => p.same q && pdsSame ps qs
  | _, _ => false
theorem same_eq {p q : PD} (h : p.same q = true) : p = q := by
  cases p <;> cases q <;> first | rfl | (cases h; done) | (simp only [PD.same, decide_eq_true_eq] at h; rw [h]) | exact congrArg PD.st (Nat.eq_of_beq_eq_true h)
theorem pdsSame_eq : ∀ {l m : List PD}, pdsSame l m = true -> l = m
  | [], [], _ => rfl
  | p :: ps, q :: qs, h => by
    simp only [pdsSame, Bool.and_eq_true] at h
    rw [same_eq h.1, pdsSame_eq h.2]
  | [], _ :: _, h => by cases h
  | _ :: _, [], h => by cases h
def pdsE : Nat -> List PD
  | 0 => [.i .i64]
  | 1 => [.b]
  | 2 => [.i .u8]
  | 3 => [.s]
  | 4 => [.i .i64, .s]
  | 5 => [.i .i64, .s, .b]
  | 6 => [.i .u32, .i .u32, .i .i64, .i .i64, .i .i64, .i .i64, .s, .st 5]
  | 7 => [.b, .i .u64, .i .i64]
  | 8 => [.i .i64, .i .i64]
  | 9 => [.i .i64, .i .i64, .b, .i .i64]
  | 10 => [.i .u32, .i .i64, .i .u32, .i .i64, .i .i64, .i .i64, .i .i64, .i .i64, .i .i64, .b]
  | 11 => [.i .i64, .i .i64]
  | 12 => [.i .i64, .i .i64, .st 0]
  | 13 => [.i .i64, .i .i64]
  | 14 => [.i .i64, .i .i64]
  | 15 => [.i .u8, .i .u8, .i .u8, .i .u8, .i .u8, .i .u8, .i .i64, .i .i64]
  | 16 => [.i .u32, .i .u32, .i .i64, .i .i64, .i .i64, .i .i64, .i .i64]
  | 17 => [.i .i64, .i .u32, .i .i64, .i .i64, .i .i64]
  | 18 => [.i .u32, .i .u32, .i .i64, .i .i64, .i .u32, .i .u32, .i .u32, .b, .i .i64]
  | 19 => [.i .u32, .i .i64, .i .i64, .i .i64, .i .i64]
  | 20 => [.i .i64, .i .i64, .b, .b, .i .i64, .i .i64, .i .i64, .i .u32, .i .u32, .s, .s]
  | 21 => [.i .u32, .i .i64]
  | 22 => [.st 0]
  | 23 => [.i .i64, .i .i64, .i .u32, .i .u32, .i .i64, .i .i64, .i .i64, .st 4, .s]
  | 24 => [.b, .s, .i .i64]
  | 25 => [.s, .i .i64, .i .i64]
  | 26 => [.i .u32, .i .u32, .i .i64, .i .i64]
  | 27 => [.i .u64]
  | 28 => [.i .u32]
  | _ => []
def bsz : Nat -> Nat
  | 0 => 8
  | 1 => 1
  | 2 => 1
  | 3 => 16
  | 4 => 24
  | 5 => 32
  | 6 => 80
  | 7 => 24
  | 8 => 16
  | 9 => 32
  | 10 => 80
  | 11 => 16
  | 12 => 40
  | 13 => 16
  | 14 => 16
  | 15 => 24
  | 16 => 48
  | 17 => 40
  | 18 => 48
  | 19 => 40
  | 20 => 88
  | 21 => 16
  | 22 => 24
  | 23 => 88
  | 24 => 32
  | 25 => 32
  | 26 => 24
  | 27 => 8
  | 28 => 4
  | _ => 0
theorem enc_of : ∀ (c : Nat) (x : PdsT (pdsE c) Unit), c < 29 -> (∀ d ∈ (putDs (pdsE c) x).1, c = 2 -> ∃ n : Int, d = .i .u8 n /\ 0 <= n /\ n <= 255) -> ∃ t : τ c, enc c t = (putDs (pdsE c) x).1 := by
  intro c x hc hb
  match c, x, hc, hb with
  | 0, (x0, ()), _, _ => exact ⟨x0, rfl⟩
  | 1, (x0, ()), _, _ => exact ⟨x0, rfl⟩
  | 2, (n, ()), _, hb =>
    obtain ⟨m, h1, h2, h3⟩ := hb (.i .u8 n) (show D.i .u8 n ∈ [D.i .u8 n] from List.mem_singleton.2 rfl) rfl
    cases h1
    refine ⟨UInt8.ofNat n.toNat, ?_⟩
    have e : (UInt8.ofNat n.toNat).toNat = n.toNat := by rw [UInt8.toNat_ofNat']; omega
    show [D.i .u8 ((UInt8.ofNat n.toNat).toNat : Int)] = [D.i .u8 n]
    rw [e]; congr 2; omega
  | 3, (x0, ()), _, _ => exact ⟨x0, rfl⟩
  | 4, (x0, x1, ()), _, _ => exact ⟨TOption.mk x0 x1, rfl⟩
  | 5, (x0, x1, x2, ()), _, _ => exact ⟨TPart.mk x0 x1 x2, rfl⟩
  | 6, (x0, x1, x2, x3, x4, x5, x6, x7, ()), _, _ => exact ⟨THeap.mk x0 x1 x2 x3 x4 x5 x6 x7, rfl⟩
  | 7, (x0, x1, x2, ()), _, _ => exact ⟨TSlot.mk x0 x1 x2, rfl⟩
  | 8, (x0, x1, ()), _, _ => exact ⟨TStay.mk x0 x1, rfl⟩
  | 9, (x0, x1, x2, x3, ()), _, _ => exact ⟨TNode.mk x0 x1 x2 x3, rfl⟩
  | 10, (x0, x1, x2, x3, x4, x5, x6, x7, x8, x9, ()), _, _ => exact ⟨TRule.mk x0 x1 x2 x3 x4 x5 x6 x7 x8 x9, rfl⟩
  | 11, (x0, x1, ()), _, _ => exact ⟨TDrop.mk x0 x1, rfl⟩
  | 12, (x0, x1, x2, ()), _, _ => exact ⟨TQueue.mk x0 x1 x2, rfl⟩
  | 13, (x0, x1, ()), _, _ => exact ⟨TSent.mk x0 x1, rfl⟩
  | 14, (x0, x1, ()), _, _ => exact ⟨TDue.mk x0 x1, rfl⟩
  | 15, (x0, x1, x2, x3, x4, x5, x6, x7, ()), _, _ => exact ⟨TStation.mk x0 x1 x2 x3 x4 x5 x6 x7, rfl⟩
  | 16, (x0, x1, x2, x3, x4, x5, x6, ()), _, _ => exact ⟨TTalk.mk x0 x1 x2 x3 x4 x5 x6, rfl⟩
  | 17, (x0, x1, x2, x3, x4, ()), _, _ => exact ⟨TMap.mk x0 x1 x2 x3 x4, rfl⟩
  | 18, (x0, x1, x2, x3, x4, x5, x6, x7, x8, ()), _, _ => exact ⟨TGuarded.mk x0 x1 x2 x3 x4 x5 x6 x7 x8, rfl⟩
  | 19, (x0, x1, x2, x3, x4, ()), _, _ => exact ⟨TMeter.mk x0 x1 x2 x3 x4, rfl⟩
  | 20, (x0, x1, x2, x3, x4, x5, x6, x7, x8, x9, x10, ()), _, _ => exact ⟨TPacket.mk x0 x1 x2 x3 x4 x5 x6 x7 x8 x9 x10, rfl⟩
  | 21, (x0, x1, ()), _, _ => exact ⟨TNet.mk x0 x1, rfl⟩
  | 22, (x0, ()), _, _ => exact ⟨x0, rfl⟩
  | 23, (x0, x1, x2, x3, x4, x5, x6, x7, x8, ()), _, _ => exact ⟨TSegment.mk x0 x1 x2 x3 x4 x5 x6 x7 x8, rfl⟩
  | 24, (x0, x1, x2, ()), _, _ => exact ⟨TCame.mk x0 x1 x2, rfl⟩
  | 25, (x0, x1, x2, ()), _, _ => exact ⟨TWent.mk x0 x1 x2, rfl⟩
  | 26, (x0, x1, x2, x3, ()), _, _ => exact ⟨TRoad.mk x0 x1 x2 x3, rfl⟩
  | 27, (x0, ()), _, _ => exact ⟨x0, rfl⟩
  | 28, (x0, ()), _, _ => exact ⟨x0, rfl⟩
  | n + 29, _, h, _ => omega

def BndD : Nat -> D -> Prop
  | _, .i k x => k.min <= x /\ x <= k.max
  | _, .b _ => True
  | _, .s l => l.length <= 140737488351232
  | n + 1, .st c xs => xs.length * bsz c <= 140737488351232 /\ ∀ x ∈ xs, ∀ d ∈ enc c x, BndD n d
  | _, _ => False
theorem BndD.up : ∀ (n : Nat) (d : D), BndD n d -> BndD (n + 1) d := by
  intro n
  induction n with
  | zero => intro d h; cases d <;> first | exact h | exact h.elim
  | succ n ih =>
    intro d h
    cases d with
    | st c xs => exact ⟨h.1, fun x hx d hd => ih d (h.2 x hx d hd)⟩
    | _ => first | exact h | exact h.elim

def WkS (d d' : D) : Prop := ∀ (w : World) (U : Nat -> Prop) (v : Value), RepI w U v d -> RepI w U v d'
def WkSs (l l' : List D) : Prop := l.length = l'.length /\ ∀ (j : Nat) d d', l[j]? = some d -> l'[j]? = some d' -> WkS d d'
theorem WkSs.app {a b a' b' : List D} (h : WkSs a a') (k : WkSs b b') : WkSs (a ++ b) (a' ++ b') := by
  refine ⟨by simp [h.1, k.1], fun j d d' h1 h2 => ?_⟩
  by_cases hj : j < a.length
  · rw [List.getElem?_append_left hj] at h1
    rw [List.getElem?_append_left (by rw [<- h.1]; exact hj)] at h2
    exact h.2 j d d' h1 h2
  · rw [List.getElem?_append_right (by omega)] at h1
    rw [List.getElem?_append_right (by rw [<- h.1]; omega), <- h.1] at h2
    exact k.2 _ d d' h1 h2
theorem WkSs.rfl (l : List D) : WkSs l l := ⟨Eq.refl _, fun j d d' h1 h2 => by rw [h1] at h2; cases h2; exact fun _ _ _ h => h⟩
theorem RepAll.wkS {w : World} {U : Nat -> Prop} {cs : List Value} {ds ds' : List D} (h : RepAll w U cs ds) (k : WkSs ds ds') : RepAll w U cs ds' := by
  have key : ∀ (cs : List Value) (ds ds' : List D), RepAll w U cs ds -> WkSs ds ds' -> RepAll w U cs ds' := by
    intro cs
    induction cs with
    | nil =>
      intro ds ds' h k
      cases ds with
      | nil => cases ds' with | nil => trivial | cons => have := k.1; simp at this
      | cons => exact h.elim
    | cons v cs ih =>
      intro ds ds' h k
      cases ds with
      | nil => exact h.elim
      | cons d ds =>
        cases ds' with
        | nil => have := k.1; simp at this
        | cons d' ds' =>
          refine ⟨k.2 0 d d' (by simp) (by simp) _ _ _ h.1, ih ds ds' h.2 ⟨by have := k.1; simpa using this, fun j d d' h1 h2 => k.2 (j + 1) d d' (by simpa using h1) (by simpa using h2)⟩⟩
  exact key cs ds ds' h k

theorem wkS_rows {sz c : Nat} {rows : List (List D)} {xs : List (τ c)} (hsz : sz = esz c) (hl : rows.length = xs.length) (h : ∀ (i : Nat) r x, rows[i]? = some r -> xs[i]? = some x -> WkSs r (enc c x)) : WkS (.sl sz rows) (.st c xs) := by
  subst hsz
  intro w U v hr
  refine RepI.toSt ?_
  have hl' : rows.length = (xs.map (enc c)).length := by simpa using hl
  cases hr with
  | nil a cap _ hn =>
    have : xs = [] := List.length_eq_zero_iff.1 (by simpa using hl.symm)
    subst this
    exact .nil a cap _ hn
  | sl b o cap _ _ vals hU hlen hcap hc hrr =>
    have main := RepI.sl (w := w) (U := U) b o cap (esz c) (xs.map (enc c)) vals hU (fun r hr => by obtain ⟨t, _, rfl⟩ := List.mem_map.1 hr; exact enc_len c t) (by rw [<- hl']; exact hcap)
      (fun i j r d hi hj => by
        rw [List.getElem?_map, Option.map_eq_some_iff] at hi
        obtain ⟨x, hx, rfl⟩ := hi
        have hlt : i < rows.length := by rw [hl]; exact (List.getElem?_eq_some_iff.1 hx).1
        have hw := h i _ x (List.getElem?_eq_getElem hlt) hx
        have hjlt : j < (rows[i]).length := by rw [hw.1]; exact (List.getElem?_eq_some_iff.1 hj).1
        exact hc i j _ _ (List.getElem?_eq_getElem hlt) (List.getElem?_eq_getElem hjlt))
      (fun i j r d hi hj => by
        rw [List.getElem?_map, Option.map_eq_some_iff] at hi
        obtain ⟨x, hx, rfl⟩ := hi
        have hlt : i < rows.length := by rw [hl]; exact (List.getElem?_eq_some_iff.1 hx).1
        have hw := h i _ x (List.getElem?_eq_getElem hlt) hx
        have hjlt : j < (rows[i]).length := by rw [hw.1]; exact (List.getElem?_eq_some_iff.1 hj).1
        exact hw.2 j _ d (List.getElem?_eq_getElem hjlt) hj _ _ _ (hrr i j _ _ (List.getElem?_eq_getElem hlt) (List.getElem?_eq_getElem hjlt)))
    rw [<- hl'] at main
    exact main

def tyDs (P : Program) (cod : TypeId -> Nat) : Nat -> TypeId -> Option (List PD)
  | 0, _ => none
  | n + 1, t => match P.underlying t with
    | some .bool => some [.b]
    | some (.int k) => some [.i k]
    | some .string => some [.s]
    | some (.struct fs) => (fs.toList.map (·.type)).foldr (fun t r => match tyDs P cod n t, r with | some a, some b => some (a ++ b) | _, _ => none) (some [])
    | some (.array m e) => (List.replicate m e).foldr (fun t r => match tyDs P cod n t, r with | some a, some b => some (a ++ b) | _, _ => none) (some [])
    | some (.slice e) => if cod t < 29 /\ esz (cod t) = P.cellsOf e /\ bsz (cod t) = P.bytesOf e then match tyDs P cod n e with
      | some ps => match pdsSame ps (pdsE (cod t)) with | true => some [.st (cod t)] | false => none
      | none => none
      else none
    | _ => none

theorem putDs_app : ∀ (a b : List PD) (x : PdsT a Unit) (y : PdsT b Unit), ∃ z : PdsT (a ++ b) Unit, (putDs (a ++ b) z).1 = (putDs a x).1 ++ (putDs b y).1
  | [], b, x, y => ⟨y, rfl⟩
  | .i k :: a, b, (n, x), y => by obtain ⟨z, hz⟩ := putDs_app a b x y; exact ⟨(n, z), by simp [putDs, hz]⟩
  | .b :: a, b, (n, x), y => by obtain ⟨z, hz⟩ := putDs_app a b x y; exact ⟨(n, z), by simp [putDs, hz]⟩
  | .s :: a, b, (n, x), y => by obtain ⟨z, hz⟩ := putDs_app a b x y; exact ⟨(n, z), by simp [putDs, hz]⟩
  | .st c :: a, b, (n, x), y => by obtain ⟨z, hz⟩ := putDs_app a b x y; exact ⟨(n, z), by simp [putDs, hz]⟩

theorem list_choose {α β : Type} {Q : α -> β -> Prop} : ∀ (l : List α), (∀ a ∈ l, ∃ b, Q a b) -> ∃ m : List β, l.length = m.length /\ ∀ (i : Nat) a b, l[i]? = some a -> m[i]? = some b -> Q a b
  | [], _ => ⟨[], rfl, fun i a b h => by simp at h⟩
  | a :: l, h => by
    obtain ⟨b, hb⟩ := h a (by simp)
    obtain ⟨m, h1, h2⟩ := list_choose l (fun a ha => h a (by simp [ha]))
    refine ⟨b :: m, by simp [h1], fun i a' b' e1 e2 => ?_⟩
    cases i with
    | zero => simp at e1 e2; subst e1; subst e2; exact hb
    | succ i => exact h2 i a' b' (by simpa using e1) (by simpa using e2)

theorem u8_of {ps : List PD} (h : ps = [.i .u8]) {x : PdsT ps Unit} {d : D} (hd : d ∈ (putDs ps x).1) : ∃ n : Int, d = .i .u8 n := by
  subst h
  obtain ⟨n, u⟩ := x
  have hd' : d ∈ [D.i .u8 n] := hd
  exact ⟨n, List.mem_singleton.1 hd'⟩

theorem sh_typed {P : Program} {cod : TypeId -> Nat} : ∀ (n : Nat) (t : TypeId) (ds : List D) (ps : List PD), tyDs P cod n t = some ps -> Sh P n t ds -> ∃ x : PdsT ps Unit, WkSs ds (putDs ps x).1 /\ ∀ d ∈ (putDs ps x).1, BndD n d
  | 0, t, ds, ps, h, _ => by cases h
  | n + 1, t, ds, ps, h, hs => by
    have parts : ∀ (ts : List TypeId) (ds : List D) (ps : List PD), ts.foldr (fun t r => match tyDs P cod n t, r with | some a, some b => some (a ++ b) | _, _ => none) (some []) = some ps -> ShAll (Sh P n) ts ds ->
        ∃ x : PdsT ps Unit, WkSs ds (putDs ps x).1 /\ ∀ d ∈ (putDs ps x).1, BndD (n + 1) d := by
      intro ts
      induction ts with
      | nil =>
        intro ds ps h hs
        cases h
        have : ds = [] := hs
        subst this
        exact ⟨(), WkSs.rfl _, fun d hd => by cases hd⟩
      | cons t ts ih =>
        intro ds ps h hs
        rw [List.foldr_cons] at h
        split at h
        · rename_i a b h1 h2
          cases h
          obtain ⟨d1, d2, rfl, s1, s2⟩ := hs
          obtain ⟨x, hx, bx⟩ := sh_typed n t d1 a h1 s1
          obtain ⟨y, hy, byy⟩ := ih d2 b h2 s2
          obtain ⟨z, hz⟩ := putDs_app a b x y
          refine ⟨z, by rw [hz]; exact hx.app hy, fun d hd => ?_⟩
          rw [hz] at hd
          rcases List.mem_append.1 hd with hd | hd
          · exact BndD.up n d (bx d hd)
          · exact byy d hd
        · cases h
    unfold tyDs at h
    unfold Sh at hs
    split at h
    · rename_i hu
      cases h
      rw [hu] at hs
      obtain ⟨b, rfl⟩ := hs
      exact ⟨(b, ()), WkSs.rfl _, fun d hd => by simp [putDs] at hd; subst hd; trivial⟩
    · rename_i k hu
      cases h
      rw [hu] at hs
      obtain ⟨x, rfl, h1, h2⟩ := hs
      exact ⟨(x, ()), WkSs.rfl _, fun d hd => by simp [putDs] at hd; subst hd; exact ⟨h1, h2⟩⟩
    · rename_i hu
      cases h
      rw [hu] at hs
      obtain ⟨l, rfl, h1⟩ := hs
      exact ⟨(l, ()), WkSs.rfl _, fun d hd => by simp [putDs] at hd; subst hd; exact h1⟩
    · rename_i fs hu
      rw [hu] at hs
      exact parts _ ds ps h hs
    · rename_i m e hu
      rw [hu] at hs
      exact parts _ ds ps h hs
    · rename_i e hu
      rw [hu] at hs
      obtain ⟨rows, rfl, h1, h2, h3⟩ := hs
      split at h
      case isFalse => cases h
      rename_i hc
      obtain ⟨c1, c2, c3⟩ := hc
      split at h
      case h_2 => cases h
      rename_i ps' hps
      split at h
      case h_2 => cases h
      rename_i heq
      have heq := pdsSame_eq heq
      subst heq
      cases h
      obtain ⟨xs, hl, hx⟩ := list_choose (Q := fun (r : List D) (x : τ (cod t)) => WkSs r (enc (cod t) x) /\ ∀ d ∈ enc (cod t) x, BndD n d) rows (fun r hr => by
        obtain ⟨x, hx, bx⟩ := sh_typed n e r _ hps (h3 r hr)
        obtain ⟨y, hy⟩ := enc_of (cod t) x c1 (fun d hd he => by
          have hb := bx d hd
          obtain ⟨n', rfl⟩ := u8_of (by rw [he]; rfl) hd
          have hb' : IntKind.u8.min <= n' /\ n' <= IntKind.u8.max := by cases n <;> exact hb
          exact ⟨n', rfl, hb'.1, hb'.2⟩)
        exact ⟨y, by rw [hy]; exact hx, by rw [hy]; exact bx⟩)
      refine ⟨(xs, ()), ?_, fun d hd => ?_⟩
      · refine ⟨rfl, fun j d d' e1 e2 => ?_⟩
        cases j with
        | zero =>
          simp [putDs] at e1 e2
          subst e1; subst e2
          exact wkS_rows c2.symm hl (fun i r x a1 a2 => (hx i r x a1 a2).1)
        | succ j => simp at e1
      · simp [putDs] at hd
        subst hd
        refine ⟨by rw [<- hl, c3]; exact h2, fun x hxm d hd => ?_⟩
        obtain ⟨i, hi⟩ := List.mem_iff_getElem?.1 hxm
        have hlt : i < rows.length := by rw [hl]; exact (List.getElem?_eq_some_iff.1 hi).1
        exact (hx i _ x (List.getElem?_eq_getElem hlt) hi).2 d hd
    · cases h

theorem rd_typed {P : Program} {cod : TypeId -> Nat} {w : World} {t : TypeId} {cs : List Value} {ps : List PD} (hok : okT P 6 t = true) (hps : tyDs P cod 6 t = some ps) (hr : Rd P w t cs) :
    ∃ x : PdsT ps Unit, RepAll w (fun b => b < w.heap.size) cs (putDs ps x).1 /\ ∀ d ∈ (putDs ps x).1, BndD 6 d := by
  obtain ⟨ds, h1, h2⟩ := rd_rep (U := fun b => b < w.heap.size) (fun _ h => h) 6 t cs hok hr
  obtain ⟨x, h3, h4⟩ := sh_typed 6 t ds ps hps h2
  exact ⟨x, h1.wkS h3, h4⟩
theorem RepArgs.d1 {w : World} {v : Value} {d : D} {us : List Value} {ys : List V} (h : RepAll w (fun b => b < w.heap.size) [v] [d]) (hr : RepArgs w us ys) : RepArgs w (v :: us) (vd d :: ys) := hr.one h.1
theorem law_told {P : Program} (F : FS P) (hrp : F.rp = ⟨1, [(0, .v (.one .b))], []⟩) {x : VPsT F.ap Unit} (h : ∃ r, F.fn x = some r /\ (F.rp.put r).get 0 = vb true /\ (F.rp.put r).mem = []) {w : World} {us : Array Value} (hr : RepArgs w us.toList (putVs (fun _ => 0) F.ap x).1)
    (hn : decide ((putVs (fun _ => 0) F.ap x).1.length <= 900) = true) (hgl : ∀ e ∈ globs, ∃ x y, w.heap[e.1]? = some (.cells e.2 x y) := by intro e he; exact absurd he (by simp [Go.Proofs.YthkhikdglmaiaaaDoor.Abs.globs])) (hgi : ∀ g ∈ gints, g < w.heap.size /\ ∃ m, w.cell? ⟨g, 0, none⟩ = some (.int .i64 m) := by intro e he; exact absurd he (by simp [Go.Proofs.YthkhikdglmaiaaaDoor.Abs.gints])) : Calls P F.f us w fun e w' => e = .returned (.bool true) /\ Below w.heap.size w w' := by
  obtain ⟨r, h1, h2, h3⟩ := h
  have := F.ok x r h1
  rw [h2, h3] at this
  exact law_calls this hr hn (glob_of hgl hgi)
end Go.Proofs.YthkhikdglmaiaaaDoor.Abs
