/- Functions of the program, as trees (printed by a program of mine: tool/XTool, xg.py), each with the proof that the machine comes to what its tree says. Conditions: none. -/
import Derived.Test.YtmnbhoklphakjaaCod
import Derived.KernelRfl
namespace Go.Proofs.Ytmnbhoklphakjaa.X
open Go Go.RowKit Go.Proofs.Ytmnbhoklphakjaa.Abs
set_option maxRecDepth 100000
set_option linter.unusedVariables false
def seLess_ap : List VP1 := [.one (.i .u32), .one (.i .u32)]
def seLess_rp : SP := ⟨1, [(0, .v (.one (.b)))], []⟩
def seLess_tree : (Int × (Int × Unit)) → Tr (Bool × Unit) :=
  fun (a0, a1, _) =>
  .ret (decide ((0 : Int) < IntKind.wrap IntKind.i32 (IntKind.wrap IntKind.u32 (a1 - a0))), ())
theorem seLess_eq (x : (Int × (Int × Unit))) : fnTr Try.prog cod [] [] 30 16 seLess_ap seLess_rp x = seLess_tree x := by kernel_rfl
def seLess_fn (x : (Int × (Int × Unit))) : Option (Bool × Unit) := (seLess_tree x).eval
def seLess : FS Try.prog := ⟨16, seLess_ap, seLess_rp, seLess_fn, fun x r h => fnTr_sound (cod := cod) (Γ := []) (Λs := []) (n := 30) ((congrArg Tr.eval (seLess_eq x)).trans h)⟩
def seWithin_ap : List VP1 := [.one (.i .u32), .one (.i .u32), .one (.i .u32)]
def seWithin_rp : SP := ⟨1, [(0, .v (.one (.b)))], []⟩
def seWithin_tree : (Int × (Int × (Int × Unit))) → Tr (Bool × Unit) :=
  fun (a0, a1, a2, _) =>
  .ret (decide (IntKind.wrap IntKind.u32 (a0 - a1) < a2), ())
theorem seWithin_eq (x : (Int × (Int × (Int × Unit)))) : fnTr Try.prog cod [FS.pf seLess] [] 30 19 seWithin_ap seWithin_rp x = seWithin_tree x := by kernel_rfl
def seWithin_fn (x : (Int × (Int × (Int × Unit)))) : Option (Bool × Unit) := (seWithin_tree x).eval
def seWithin : FS Try.prog := ⟨19, seWithin_ap, seWithin_rp, seWithin_fn, fun x r h => fnTr_sound (cod := cod) (Γ := [FS.pf seLess]) (Λs := []) (n := 30) ((congrArg Tr.eval (seWithin_eq x)).trans h)⟩
def seTrim_L25_3 : LS := ⟨3, [], ⟨76, [(10, .v (.one (.s))), (11, .v (.one (.i .u32))), (12, .v (.one (.i .i64))), (1, .v (.one (.s))), (0, .v (.one (.i .u32))), (3, .v (.one (.i .u32))), (2, .v (.one (.i .u32)))], []⟩, [⟨some 0, [], ⟨76, [(10, .v (.one (.s))), (11, .v (.one (.i .u32)))], []⟩⟩], []⟩
def seTrim_step25_3 : ((List UInt8) × (Int × (Int × ((List UInt8) × (Int × (Int × (Int × Unit))))))) → Tr (((List UInt8) × (Int × (Int × ((List UInt8) × (Int × (Int × (Int × Unit))))))) ⊕ ((List UInt8) × (Int × Unit))) :=
  fun (a0, a1, a2, a3, a4, a5, a6, _) =>
  .ite (decide (a2 < (↑(List.length a3) : Int))) (
   .ite (decide (a5 ≤ IntKind.wrap IntKind.u32 (IntKind.wrap IntKind.u32 (a4 + IntKind.wrap IntKind.u32 a2) - a6))) (
    .ite (decide (IntKind.wrap IntKind.u64 (IntKind.wrap IntKind.i64 ((↑(List.length a3) : Int) - a2)) ≤ IntKind.wrap IntKind.u64 ((4294967296 : Int) - IntKind.wrap IntKind.u64 (IntKind.wrap IntKind.u32 (IntKind.wrap IntKind.u32 (a4 + IntKind.wrap IntKind.u32 a2) - a6))))) (
     .ret (Sum.inr (a0, (a1, ())))) (
     .ret (Sum.inl (a0, (a1, (IntKind.wrap IntKind.i64 (a2 + IntKind.wrap IntKind.i64 (IntKind.wrap IntKind.u64 ((4294967296 : Int) - IntKind.wrap IntKind.u64 (IntKind.wrap IntKind.u32 (IntKind.wrap IntKind.u32 (a4 + IntKind.wrap IntKind.u32 a2) - a6))))), (a3, (a4, (a5, (a6, ())))))))))) (
    .ite (decide ((↑(List.length a0) : Int) < IntKind.wrap IntKind.i64 (if true = true then if IntKind.wrap IntKind.u64 (IntKind.wrap IntKind.i64 ((↑(List.length a3) : Int) - a2)) < IntKind.wrap IntKind.u64 (IntKind.wrap IntKind.u32 (a5 - IntKind.wrap IntKind.u32 (IntKind.wrap IntKind.u32 (a4 + IntKind.wrap IntKind.u32 a2) - a6))) then IntKind.wrap IntKind.u64 (IntKind.wrap IntKind.i64 ((↑(List.length a3) : Int) - a2)) else IntKind.wrap IntKind.u64 (IntKind.wrap IntKind.u32 (a5 - IntKind.wrap IntKind.u32 (IntKind.wrap IntKind.u32 (a4 + IntKind.wrap IntKind.u32 a2) - a6))) else if IntKind.wrap IntKind.u64 (IntKind.wrap IntKind.i64 ((↑(List.length a3) : Int) - a2)) > IntKind.wrap IntKind.u64 (IntKind.wrap IntKind.u32 (a5 - IntKind.wrap IntKind.u32 (IntKind.wrap IntKind.u32 (a4 + IntKind.wrap IntKind.u32 a2) - a6))) then IntKind.wrap IntKind.u64 (IntKind.wrap IntKind.i64 ((↑(List.length a3) : Int) - a2)) else IntKind.wrap IntKind.u64 (IntKind.wrap IntKind.u32 (a5 - IntKind.wrap IntKind.u32 (IntKind.wrap IntKind.u32 (a4 + IntKind.wrap IntKind.u32 a2) - a6)))))) (
     .grd (decide ((0 : Int) ≤ a2 ∧ a2 ≤ IntKind.wrap IntKind.i64 (a2 + IntKind.wrap IntKind.i64 (if true = true then if IntKind.wrap IntKind.u64 (IntKind.wrap IntKind.i64 ((↑(List.length a3) : Int) - a2)) < IntKind.wrap IntKind.u64 (IntKind.wrap IntKind.u32 (a5 - IntKind.wrap IntKind.u32 (IntKind.wrap IntKind.u32 (a4 + IntKind.wrap IntKind.u32 a2) - a6))) then IntKind.wrap IntKind.u64 (IntKind.wrap IntKind.i64 ((↑(List.length a3) : Int) - a2)) else IntKind.wrap IntKind.u64 (IntKind.wrap IntKind.u32 (a5 - IntKind.wrap IntKind.u32 (IntKind.wrap IntKind.u32 (a4 + IntKind.wrap IntKind.u32 a2) - a6))) else if IntKind.wrap IntKind.u64 (IntKind.wrap IntKind.i64 ((↑(List.length a3) : Int) - a2)) > IntKind.wrap IntKind.u64 (IntKind.wrap IntKind.u32 (a5 - IntKind.wrap IntKind.u32 (IntKind.wrap IntKind.u32 (a4 + IntKind.wrap IntKind.u32 a2) - a6))) then IntKind.wrap IntKind.u64 (IntKind.wrap IntKind.i64 ((↑(List.length a3) : Int) - a2)) else IntKind.wrap IntKind.u64 (IntKind.wrap IntKind.u32 (a5 - IntKind.wrap IntKind.u32 (IntKind.wrap IntKind.u32 (a4 + IntKind.wrap IntKind.u32 a2) - a6))))) ∧ IntKind.wrap IntKind.i64 (a2 + IntKind.wrap IntKind.i64 (if true = true then if IntKind.wrap IntKind.u64 (IntKind.wrap IntKind.i64 ((↑(List.length a3) : Int) - a2)) < IntKind.wrap IntKind.u64 (IntKind.wrap IntKind.u32 (a5 - IntKind.wrap IntKind.u32 (IntKind.wrap IntKind.u32 (a4 + IntKind.wrap IntKind.u32 a2) - a6))) then IntKind.wrap IntKind.u64 (IntKind.wrap IntKind.i64 ((↑(List.length a3) : Int) - a2)) else IntKind.wrap IntKind.u64 (IntKind.wrap IntKind.u32 (a5 - IntKind.wrap IntKind.u32 (IntKind.wrap IntKind.u32 (a4 + IntKind.wrap IntKind.u32 a2) - a6))) else if IntKind.wrap IntKind.u64 (IntKind.wrap IntKind.i64 ((↑(List.length a3) : Int) - a2)) > IntKind.wrap IntKind.u64 (IntKind.wrap IntKind.u32 (a5 - IntKind.wrap IntKind.u32 (IntKind.wrap IntKind.u32 (a4 + IntKind.wrap IntKind.u32 a2) - a6))) then IntKind.wrap IntKind.u64 (IntKind.wrap IntKind.i64 ((↑(List.length a3) : Int) - a2)) else IntKind.wrap IntKind.u64 (IntKind.wrap IntKind.u32 (a5 - IntKind.wrap IntKind.u32 (IntKind.wrap IntKind.u32 (a4 + IntKind.wrap IntKind.u32 a2) - a6))))) ≤ (↑(List.length a3) : Int))) (
     .ret (Sum.inl (List.drop (Int.toNat a2) (List.take (Int.toNat (IntKind.wrap IntKind.i64 (a2 + IntKind.wrap IntKind.i64 (if true = true then if IntKind.wrap IntKind.u64 (IntKind.wrap IntKind.i64 ((↑(List.length a3) : Int) - a2)) < IntKind.wrap IntKind.u64 (IntKind.wrap IntKind.u32 (a5 - IntKind.wrap IntKind.u32 (IntKind.wrap IntKind.u32 (a4 + IntKind.wrap IntKind.u32 a2) - a6))) then IntKind.wrap IntKind.u64 (IntKind.wrap IntKind.i64 ((↑(List.length a3) : Int) - a2)) else IntKind.wrap IntKind.u64 (IntKind.wrap IntKind.u32 (a5 - IntKind.wrap IntKind.u32 (IntKind.wrap IntKind.u32 (a4 + IntKind.wrap IntKind.u32 a2) - a6))) else if IntKind.wrap IntKind.u64 (IntKind.wrap IntKind.i64 ((↑(List.length a3) : Int) - a2)) > IntKind.wrap IntKind.u64 (IntKind.wrap IntKind.u32 (a5 - IntKind.wrap IntKind.u32 (IntKind.wrap IntKind.u32 (a4 + IntKind.wrap IntKind.u32 a2) - a6))) then IntKind.wrap IntKind.u64 (IntKind.wrap IntKind.i64 ((↑(List.length a3) : Int) - a2)) else IntKind.wrap IntKind.u64 (IntKind.wrap IntKind.u32 (a5 - IntKind.wrap IntKind.u32 (IntKind.wrap IntKind.u32 (a4 + IntKind.wrap IntKind.u32 a2) - a6))))))) a3), (IntKind.wrap IntKind.u32 (a4 + IntKind.wrap IntKind.u32 a2), (IntKind.wrap IntKind.i64 (a2 + IntKind.wrap IntKind.i64 (if true = true then if IntKind.wrap IntKind.u64 (IntKind.wrap IntKind.i64 ((↑(List.length a3) : Int) - a2)) < IntKind.wrap IntKind.u64 (IntKind.wrap IntKind.u32 (a5 - IntKind.wrap IntKind.u32 (IntKind.wrap IntKind.u32 (a4 + IntKind.wrap IntKind.u32 a2) - a6))) then IntKind.wrap IntKind.u64 (IntKind.wrap IntKind.i64 ((↑(List.length a3) : Int) - a2)) else IntKind.wrap IntKind.u64 (IntKind.wrap IntKind.u32 (a5 - IntKind.wrap IntKind.u32 (IntKind.wrap IntKind.u32 (a4 + IntKind.wrap IntKind.u32 a2) - a6))) else if IntKind.wrap IntKind.u64 (IntKind.wrap IntKind.i64 ((↑(List.length a3) : Int) - a2)) > IntKind.wrap IntKind.u64 (IntKind.wrap IntKind.u32 (a5 - IntKind.wrap IntKind.u32 (IntKind.wrap IntKind.u32 (a4 + IntKind.wrap IntKind.u32 a2) - a6))) then IntKind.wrap IntKind.u64 (IntKind.wrap IntKind.i64 ((↑(List.length a3) : Int) - a2)) else IntKind.wrap IntKind.u64 (IntKind.wrap IntKind.u32 (a5 - IntKind.wrap IntKind.u32 (IntKind.wrap IntKind.u32 (a4 + IntKind.wrap IntKind.u32 a2) - a6))))), (a3, (a4, (a5, (a6, ())))))))))) (
     .ret (Sum.inl (a0, (a1, (IntKind.wrap IntKind.i64 (a2 + IntKind.wrap IntKind.i64 (if true = true then if IntKind.wrap IntKind.u64 (IntKind.wrap IntKind.i64 ((↑(List.length a3) : Int) - a2)) < IntKind.wrap IntKind.u64 (IntKind.wrap IntKind.u32 (a5 - IntKind.wrap IntKind.u32 (IntKind.wrap IntKind.u32 (a4 + IntKind.wrap IntKind.u32 a2) - a6))) then IntKind.wrap IntKind.u64 (IntKind.wrap IntKind.i64 ((↑(List.length a3) : Int) - a2)) else IntKind.wrap IntKind.u64 (IntKind.wrap IntKind.u32 (a5 - IntKind.wrap IntKind.u32 (IntKind.wrap IntKind.u32 (a4 + IntKind.wrap IntKind.u32 a2) - a6))) else if IntKind.wrap IntKind.u64 (IntKind.wrap IntKind.i64 ((↑(List.length a3) : Int) - a2)) > IntKind.wrap IntKind.u64 (IntKind.wrap IntKind.u32 (a5 - IntKind.wrap IntKind.u32 (IntKind.wrap IntKind.u32 (a4 + IntKind.wrap IntKind.u32 a2) - a6))) then IntKind.wrap IntKind.u64 (IntKind.wrap IntKind.i64 ((↑(List.length a3) : Int) - a2)) else IntKind.wrap IntKind.u64 (IntKind.wrap IntKind.u32 (a5 - IntKind.wrap IntKind.u32 (IntKind.wrap IntKind.u32 (a4 + IntKind.wrap IntKind.u32 a2) - a6))))), (a3, (a4, (a5, (a6, ()))))))))))) (
   .ret (Sum.inr (a0, (a1, ()))))
def seTrim_loop25_3 (x : ((List UInt8) × (Int × (Int × ((List UInt8) × (Int × (Int × (Int × Unit)))))))) : Option ((List UInt8) × (Int × Unit)) := loopO 250003 (fun x => (seTrim_step25_3 x).eval) 18446744073709551616 x
def seTrim_ap : List VP1 := [.one (.i .u32), .one (.s), .one (.i .u32), .one (.i .u32)]
def seTrim_rp : SP := ⟨1, [(0, .tup [.one (.i .u32), .one (.s)])], []⟩
def seTrim_tree : (Int × ((List UInt8) × (Int × (Int × Unit)))) → Tr (Int × ((List UInt8) × Unit)) :=
  fun (a0, a1, a2, a3, _) =>
  .opt (β := ((List UInt8) × (Int × Unit))) ((seTrim_loop25_3 ([], (a2, ((0 : Int), (a1, (a0, (a3, (a2, ()))))))))) (fun r0 =>
  .ret (r0.2.1, (r0.1, ())))
theorem seTrim_eq (x : (Int × ((List UInt8) × (Int × (Int × Unit))))) : fnTr Try.prog cod [FS.pf seLess, FS.pf seWithin] [(25, seTrim_L25_3)] 30 25 seTrim_ap seTrim_rp x = seTrim_tree x := by kernel_rfl
def seTrim_fn (x : (Int × ((List UInt8) × (Int × (Int × Unit))))) : Option (Int × ((List UInt8) × Unit)) := (seTrim_tree x).eval
def seTrim : FS Try.prog := ⟨25, seTrim_ap, seTrim_rp, seTrim_fn, fun x r h => fnTr_sound (cod := cod) (Γ := [FS.pf seLess, FS.pf seWithin]) (Λs := [(25, seTrim_L25_3)]) (n := 30) ((congrArg Tr.eval (seTrim_eq x)).trans h)⟩
def seLives_ap : List VP1 := []
def seLives_rp : SP := ⟨1, [(0, .v (.one (.b)))], []⟩
def seLives_tree : Unit → Tr (Bool × Unit) :=
  fun (_) =>
  .opt (β := (Int × ((List UInt8) × Unit))) ((seTrim_fn ((4294967294 : Int), ([(97 : UInt8), (98 : UInt8), (99 : UInt8), (100 : UInt8)], ((4294967295 : Int), ((2 : Int), ())))))) (fun r0 =>
  .opt (β := (Bool × Unit)) ((seLess_fn ((4294967295 : Int), ((0 : Int), ())))) (fun r1 =>
  .ite (r1.1) (
   .opt (β := (Bool × Unit)) ((seLess_fn ((0 : Int), ((4294967295 : Int), ())))) (fun r2 =>
   .ite (!r2.1) (
    .opt (β := (Bool × Unit)) ((seWithin_fn ((1 : Int), ((4294967295 : Int), ((3 : Int), ()))))) (fun r3 =>
    .ite (r3.1) (
     .ite (decide (r0.1 = (4294967295 : Int))) (
      .ret (decide (r0.2.1 = [(98 : UInt8), (99 : UInt8)]), ())) (
      .ret (false, ()))) (
     .ret (false, ())))) (
    .ret (false, ())))) (
   .ret (false, ()))))
theorem seLives_eq (x : Unit) : fnTr Try.prog cod [FS.pf seLess, FS.pf seWithin, FS.pf seTrim] [] 30 15 seLives_ap seLives_rp x = seLives_tree x := by kernel_rfl
def seLives_fn (x : Unit) : Option (Bool × Unit) := (seLives_tree x).eval
def seLives : FS Try.prog := ⟨15, seLives_ap, seLives_rp, seLives_fn, fun x r h => fnTr_sound (cod := cod) (Γ := [FS.pf seLess, FS.pf seWithin, FS.pf seTrim]) (Λs := []) (n := 30) ((congrArg Tr.eval (seLives_eq x)).trans h)⟩
def rWay_ap : List VP1 := [.one (.i .u32), .one (.i .u32)]
def rWay_rp : SP := ⟨1, [(0, .v (.one (.i .i64)))], []⟩
def rWay_tree : (Int × (Int × Unit)) → Tr (Int × Unit) :=
  fun (a0, a1, _) =>
  .ite (decide (IntKind.wrap IntKind.i64 (IntKind.wrap IntKind.i64 a1 - IntKind.wrap IntKind.i64 a0) < (0 : Int))) (
   .ret (IntKind.wrap IntKind.i64 (IntKind.wrap IntKind.i64 (IntKind.wrap IntKind.i64 a1 - IntKind.wrap IntKind.i64 a0) + (4294967296 : Int)), ())) (
   .ret (IntKind.wrap IntKind.i64 (IntKind.wrap IntKind.i64 a1 - IntKind.wrap IntKind.i64 a0), ()))
theorem rWay_eq (x : (Int × (Int × Unit))) : fnTr Try.prog cod [FS.pf seLess, FS.pf seWithin, FS.pf seTrim, FS.pf seLives] [] 30 17 rWay_ap rWay_rp x = rWay_tree x := by kernel_rfl
def rWay_fn (x : (Int × (Int × Unit))) : Option (Int × Unit) := (rWay_tree x).eval
def rWay : FS Try.prog := ⟨17, rWay_ap, rWay_rp, rWay_fn, fun x r h => fnTr_sound (cod := cod) (Γ := [FS.pf seLess, FS.pf seWithin, FS.pf seTrim, FS.pf seLives]) (Λs := []) (n := 30) ((congrArg Tr.eval (rWay_eq x)).trans h)⟩
end Go.Proofs.Ytmnbhoklphakjaa.X
