/- Functions of the program, as trees (printed by a program of mine: tool/XTool, xg.py), each with the proof that the machine comes to what its tree says. Conditions: none. -/
import Derived.Test.YtnhiilbmgkbbaaaCod
import Derived.KernelRfl
namespace Go.Proofs.Ytnhiilbmgkbbaaa.X
open Go Go.RowKit Go.Proofs.Ytnhiilbmgkbbaaa.Abs
set_option maxRecDepth 100000
set_option linter.unusedVariables false
def bsGWheel_0 : List UInt8 := [0, 1, 2, 2, 3, 3, 3, 3, 4, 4, 4, 4, 4, 4, 4, 4, 5, 5, 5, 5, 5, 5, 5, 5, 5, 5, 5, 5, 5, 5, 5, 5, 6, 6, 6, 6, 6, 6, 6, 6, 6, 6, 6, 6, 6, 6, 6, 6, 6, 6, 6, 6, 6, 6, 6, 6, 6, 6, 6, 6, 6, 6, 6, 6, 7, 7, 7, 7, 7, 7, 7, 7, 7, 7, 7, 7, 7, 7, 7, 7, 7, 7, 7, 7, 7, 7, 7, 7, 7, 7, 7, 7, 7, 7, 7, 7, 7, 7, 7, 7, 7, 7, 7, 7, 7, 7, 7, 7, 7, 7, 7, 7, 7, 7, 7, 7, 7, 7, 7, 7, 7, 7, 7, 7, 7, 7, 7, 7, 8, 8, 8, 8, 8, 8, 8, 8, 8, 8, 8, 8, 8, 8, 8, 8, 8, 8, 8, 8, 8, 8, 8, 8, 8, 8, 8, 8, 8, 8, 8, 8, 8, 8, 8, 8, 8, 8, 8, 8, 8, 8, 8, 8, 8, 8, 8, 8, 8, 8, 8, 8, 8, 8, 8, 8, 8, 8, 8, 8, 8, 8, 8, 8, 8, 8, 8, 8, 8, 8, 8, 8, 8, 8, 8, 8, 8, 8, 8, 8, 8, 8, 8, 8, 8, 8, 8, 8, 8, 8, 8, 8, 8, 8, 8, 8, 8, 8, 8, 8, 8, 8, 8, 8, 8, 8, 8, 8, 8, 8, 8, 8, 8, 8, 8, 8, 8, 8, 8, 8, 8, 8, 8, 8, 8, 8, 8, 8]
def bLen64_ap : List VP1 := [.one (.i .u64)]
def bLen64_rp : SP := ⟨1, [(0, .v (.one (.i .i64)))], []⟩
def bLen64_tree : (Int × Unit) → Tr (Int × Unit) :=
  fun (a0, _) =>
  .ite (decide ((4294967296 : Int) ≤ a0)) (
   .grd (true) (
   .ite (decide ((65536 : Int) ≤ Int.fdiv a0 ((2 : Int) ^ (32 : Nat)))) (
    .grd (true) (
    .ite (decide ((256 : Int) ≤ Int.fdiv (Int.fdiv a0 ((2 : Int) ^ (32 : Nat))) ((2 : Int) ^ (16 : Nat)))) (
     .grd (true) (
     .grd (decide ((0 : Int) ≤ IntKind.wrap IntKind.u8 (Int.fdiv (Int.fdiv (Int.fdiv a0 ((2 : Int) ^ (32 : Nat))) ((2 : Int) ^ (16 : Nat))) ((2 : Int) ^ (8 : Nat))) ∧ IntKind.wrap IntKind.u8 (Int.fdiv (Int.fdiv (Int.fdiv a0 ((2 : Int) ^ (32 : Nat))) ((2 : Int) ^ (16 : Nat))) ((2 : Int) ^ (8 : Nat))) < (↑(List.length bsGWheel_0) : Int))) (
     .ret (IntKind.wrap IntKind.i64 ((56 : Int) + IntKind.wrap IntKind.i64 (↑(UInt8.toNat (List.getD bsGWheel_0 (Int.toNat (IntKind.wrap IntKind.u8 (Int.fdiv (Int.fdiv (Int.fdiv a0 ((2 : Int) ^ (32 : Nat))) ((2 : Int) ^ (16 : Nat))) ((2 : Int) ^ (8 : Nat))))) (0 : UInt8))) : Int)), ())))) (
     .grd (decide ((0 : Int) ≤ IntKind.wrap IntKind.u8 (Int.fdiv (Int.fdiv a0 ((2 : Int) ^ (32 : Nat))) ((2 : Int) ^ (16 : Nat))) ∧ IntKind.wrap IntKind.u8 (Int.fdiv (Int.fdiv a0 ((2 : Int) ^ (32 : Nat))) ((2 : Int) ^ (16 : Nat))) < (↑(List.length bsGWheel_0) : Int))) (
     .ret (IntKind.wrap IntKind.i64 ((48 : Int) + IntKind.wrap IntKind.i64 (↑(UInt8.toNat (List.getD bsGWheel_0 (Int.toNat (IntKind.wrap IntKind.u8 (Int.fdiv (Int.fdiv a0 ((2 : Int) ^ (32 : Nat))) ((2 : Int) ^ (16 : Nat))))) (0 : UInt8))) : Int)), ()))))) (
    .ite (decide ((256 : Int) ≤ Int.fdiv a0 ((2 : Int) ^ (32 : Nat)))) (
     .grd (true) (
     .grd (decide ((0 : Int) ≤ IntKind.wrap IntKind.u8 (Int.fdiv (Int.fdiv a0 ((2 : Int) ^ (32 : Nat))) ((2 : Int) ^ (8 : Nat))) ∧ IntKind.wrap IntKind.u8 (Int.fdiv (Int.fdiv a0 ((2 : Int) ^ (32 : Nat))) ((2 : Int) ^ (8 : Nat))) < (↑(List.length bsGWheel_0) : Int))) (
     .ret (IntKind.wrap IntKind.i64 ((40 : Int) + IntKind.wrap IntKind.i64 (↑(UInt8.toNat (List.getD bsGWheel_0 (Int.toNat (IntKind.wrap IntKind.u8 (Int.fdiv (Int.fdiv a0 ((2 : Int) ^ (32 : Nat))) ((2 : Int) ^ (8 : Nat))))) (0 : UInt8))) : Int)), ())))) (
     .grd (decide ((0 : Int) ≤ IntKind.wrap IntKind.u8 (Int.fdiv a0 ((2 : Int) ^ (32 : Nat))) ∧ IntKind.wrap IntKind.u8 (Int.fdiv a0 ((2 : Int) ^ (32 : Nat))) < (↑(List.length bsGWheel_0) : Int))) (
     .ret (IntKind.wrap IntKind.i64 ((32 : Int) + IntKind.wrap IntKind.i64 (↑(UInt8.toNat (List.getD bsGWheel_0 (Int.toNat (IntKind.wrap IntKind.u8 (Int.fdiv a0 ((2 : Int) ^ (32 : Nat))))) (0 : UInt8))) : Int)), ())))))) (
   .ite (decide ((65536 : Int) ≤ a0)) (
    .grd (true) (
    .ite (decide ((256 : Int) ≤ Int.fdiv a0 ((2 : Int) ^ (16 : Nat)))) (
     .grd (true) (
     .grd (decide ((0 : Int) ≤ IntKind.wrap IntKind.u8 (Int.fdiv (Int.fdiv a0 ((2 : Int) ^ (16 : Nat))) ((2 : Int) ^ (8 : Nat))) ∧ IntKind.wrap IntKind.u8 (Int.fdiv (Int.fdiv a0 ((2 : Int) ^ (16 : Nat))) ((2 : Int) ^ (8 : Nat))) < (↑(List.length bsGWheel_0) : Int))) (
     .ret (IntKind.wrap IntKind.i64 ((24 : Int) + IntKind.wrap IntKind.i64 (↑(UInt8.toNat (List.getD bsGWheel_0 (Int.toNat (IntKind.wrap IntKind.u8 (Int.fdiv (Int.fdiv a0 ((2 : Int) ^ (16 : Nat))) ((2 : Int) ^ (8 : Nat))))) (0 : UInt8))) : Int)), ())))) (
     .grd (decide ((0 : Int) ≤ IntKind.wrap IntKind.u8 (Int.fdiv a0 ((2 : Int) ^ (16 : Nat))) ∧ IntKind.wrap IntKind.u8 (Int.fdiv a0 ((2 : Int) ^ (16 : Nat))) < (↑(List.length bsGWheel_0) : Int))) (
     .ret (IntKind.wrap IntKind.i64 ((16 : Int) + IntKind.wrap IntKind.i64 (↑(UInt8.toNat (List.getD bsGWheel_0 (Int.toNat (IntKind.wrap IntKind.u8 (Int.fdiv a0 ((2 : Int) ^ (16 : Nat))))) (0 : UInt8))) : Int)), ()))))) (
    .ite (decide ((256 : Int) ≤ a0)) (
     .grd (true) (
     .grd (decide ((0 : Int) ≤ IntKind.wrap IntKind.u8 (Int.fdiv a0 ((2 : Int) ^ (8 : Nat))) ∧ IntKind.wrap IntKind.u8 (Int.fdiv a0 ((2 : Int) ^ (8 : Nat))) < (↑(List.length bsGWheel_0) : Int))) (
     .ret (IntKind.wrap IntKind.i64 ((8 : Int) + IntKind.wrap IntKind.i64 (↑(UInt8.toNat (List.getD bsGWheel_0 (Int.toNat (IntKind.wrap IntKind.u8 (Int.fdiv a0 ((2 : Int) ^ (8 : Nat))))) (0 : UInt8))) : Int)), ())))) (
     .grd (decide ((0 : Int) ≤ IntKind.wrap IntKind.u8 a0 ∧ IntKind.wrap IntKind.u8 a0 < (↑(List.length bsGWheel_0) : Int))) (
     .ret (IntKind.wrap IntKind.i64 ((0 : Int) + IntKind.wrap IntKind.i64 (↑(UInt8.toNat (List.getD bsGWheel_0 (Int.toNat (IntKind.wrap IntKind.u8 a0)) (0 : UInt8))) : Int)), ())))))
theorem bLen64_eq (x : (Int × Unit)) : fnTr Try.prog cod [] [] 30 36 bLen64_ap bLen64_rp x = bLen64_tree x := by kernel_rfl
def bLen64_fn (x : (Int × Unit)) : Option (Int × Unit) := (bLen64_tree x).eval
def bLen64 : FS Try.prog := ⟨36, bLen64_ap, bLen64_rp, bLen64_fn, fun x r h => fnTr_sound (cod := cod) (Γ := []) (Λs := []) (n := 30) ((congrArg Tr.eval (bLen64_eq x)).trans h)⟩
def bLen_ap : List VP1 := [.one (.i .u64)]
def bLen_rp : SP := ⟨1, [(0, .v (.one (.i .i64)))], []⟩
def bLen_tree : (Int × Unit) → Tr (Int × Unit) :=
  fun (a0, _) =>
  .opt (β := (Int × Unit)) ((bLen64_fn (a0, ()))) (fun r0 =>
  .ret (r0.1, ()))
theorem bLen_eq (x : (Int × Unit)) : fnTr Try.prog cod [FS.pf bLen64] [] 30 34 bLen_ap bLen_rp x = bLen_tree x := by kernel_rfl
def bLen_fn (x : (Int × Unit)) : Option (Int × Unit) := (bLen_tree x).eval
def bLen : FS Try.prog := ⟨34, bLen_ap, bLen_rp, bLen_fn, fun x r h => fnTr_sound (cod := cod) (Γ := [FS.pf bLen64]) (Λs := []) (n := 30) ((congrArg Tr.eval (bLen_eq x)).trans h)⟩
def wList_ap : List VP1 := [.one (.i .i64), .one (.i .i64)]
def wList_rp : SP := ⟨1, [(0, .v (.one (.i .i64)))], []⟩
def wList_tree : (Int × (Int × Unit)) → Tr (Int × Unit) :=
  fun (a0, a1, _) =>
  .opt (β := (Int × Unit)) ((bLen_fn (IntKind.wrap IntKind.u64 (bits BinOp.xor IntKind.i64 a0 a1), ()))) (fun r0 =>
  .grd (true) (
  .grd (decide ((0 : Int) ≤ IntKind.wrap IntKind.i64 ((4 : Int) * IntKind.wrap IntKind.i64 (Int.tdiv (IntKind.wrap IntKind.i64 (r0.1 - (1 : Int))) (4 : Int))))) (
  .ret (IntKind.wrap IntKind.i64 (IntKind.wrap IntKind.i64 ((16 : Int) * IntKind.wrap IntKind.i64 (Int.tdiv (IntKind.wrap IntKind.i64 (r0.1 - (1 : Int))) (4 : Int))) + bits BinOp.and IntKind.i64 (Int.fdiv a1 ((2 : Int) ^ min (Int.toNat (IntKind.wrap IntKind.i64 ((4 : Int) * IntKind.wrap IntKind.i64 (Int.tdiv (IntKind.wrap IntKind.i64 (r0.1 - (1 : Int))) (4 : Int))))) (64 : Nat))) (15 : Int)), ()))))
theorem wList_eq (x : (Int × (Int × Unit))) : fnTr Try.prog cod [FS.pf bLen64, FS.pf bLen] [] 30 31 wList_ap wList_rp x = wList_tree x := by kernel_rfl
def wList_fn (x : (Int × (Int × Unit))) : Option (Int × Unit) := (wList_tree x).eval
def wList : FS Try.prog := ⟨31, wList_ap, wList_rp, wList_fn, fun x r h => fnTr_sound (cod := cod) (Γ := [FS.pf bLen64, FS.pf bLen]) (Λs := []) (n := 30) ((congrArg Tr.eval (wList_eq x)).trans h)⟩
def wCount_L25_3 : LS := ⟨3, [], ⟨17, [(8, .v (.one (.i .i64))), (3, .v (.one (.i .i64))), (7, .v (.aggG [] 14 96))], []⟩, [⟨some 0, [], ⟨17, [(3, .v (.one (.i .i64)))], []⟩⟩], []⟩
def wCount_step25_3 : (Int × (Int × ((List (List TDue)) × Unit))) → Tr ((Int × (Int × ((List (List TDue)) × Unit))) ⊕ (Int × Unit)) :=
  fun (a0, a1, a2, _) =>
  .ite (decide (a0 < (96 : Int))) (
   .grd (sameN (14 : Nat) (95 : Nat) a2 && decide ((0 : Int) ≤ a0 ∧ a0 < (↑(96 : Nat) : Int))) (
   .opt (β := (List TDue)) (a2[Int.toNat a0]?) (fun r0 =>
   .grd (decide (obB (sameN (14 : Nat) (95 : Nat) a2) = (0 : Nat))) (
   .ret (Sum.inl (IntKind.wrap IntKind.i64 (a0 + (1 : Int)), (IntKind.wrap IntKind.i64 (a1 + (↑(List.length r0) : Int)), (a2, ())))))))) (
   .ret (Sum.inr (a1, ())))
def wCount_loop25_3 (x : (Int × (Int × ((List (List TDue)) × Unit)))) : Option (Int × Unit) := loopO 250003 (fun x => (wCount_step25_3 x).eval) 18446744073709551616 x
def wCount_ap : List VP1 := [.aggG [.i .i64] 14 96]
def wCount_rp : SP := ⟨1, [(0, .v (.one (.i .i64)))], []⟩
def wCount_tree : (Int × ((List (List TDue)) × Unit)) → Tr (Int × Unit) :=
  fun (a0, a1, _) =>
  .grd (decide (obB (sameN (14 : Nat) (95 : Nat) a1) = (0 : Nat))) (
  .opt (β := (Int × Unit)) ((wCount_loop25_3 ((0 : Int), ((0 : Int), (a1, ()))))) (fun r0 =>
  .ret (r0.1, ())))
theorem wCount_eq (x : (Int × ((List (List TDue)) × Unit))) : fnTr Try.prog cod [FS.pf bLen64, FS.pf bLen, FS.pf wList] [(25, wCount_L25_3)] 30 25 wCount_ap wCount_rp x = wCount_tree x := by kernel_rfl
def wCount_fn (x : (Int × ((List (List TDue)) × Unit))) : Option (Int × Unit) := (wCount_tree x).eval
def wCount : FS Try.prog := ⟨25, wCount_ap, wCount_rp, wCount_fn, fun x r h => fnTr_sound (cod := cod) (Γ := [FS.pf bLen64, FS.pf bLen, FS.pf wList]) (Λs := [(25, wCount_L25_3)]) (n := 30) ((congrArg Tr.eval (wCount_eq x)).trans h)⟩
def wFind_L17_2 : LS := ⟨2, [(1000200, 1000200)], ⟨19, [(8, .v (.one (.i .i64))), (0, .v (.one (.st 14 false))), (1, .v (.one (.clp 32 [(1000200, 0)]))), (7, .v (.one (.i .i64)))], [(1000200, .cells [.i .i64])]⟩, [⟨none, [(1000200, 1000200)], ⟨19, [(4, .v (.one (.i .i64)))], [(1000200, .cells [.i .i64])]⟩⟩, ⟨some 0, [(1000200, 1000200)], ⟨19, [], [(1000200, .cells [.i .i64])]⟩⟩], []⟩
def wFind_step17_2 : (Int × ((List TDue) × (Int × (Int × Unit)))) → Tr ((Int × ((List TDue) × (Int × (Int × Unit)))) ⊕ ((Int × (Int × Unit)) ⊕ (Int × Unit))) :=
  fun (a0, a1, a2, a3, _) =>
  .ite (decide (a0 < a2)) (
   .grd (decide ((0 : Int) ≤ a0)) (
   .opt (β := TDue) (a1[Int.toNat a0]?) (fun r0 =>
   .ite (decide (r0.id = a3)) (
    .ret (Sum.inr (Sum.inl (a0, (a3, ()))))) (
    .ret (Sum.inl (IntKind.wrap IntKind.i64 (a0 + (1 : Int)), (a1, (a2, (a3, ()))))))))) (
   .ret (Sum.inr (Sum.inr (a3, ()))))
def wFind_loop17_2 (x : (Int × ((List TDue) × (Int × (Int × Unit))))) : Option ((Int × (Int × Unit)) ⊕ (Int × Unit)) := loopO 170002 (fun x => (wFind_step17_2 x).eval) 18446744073709551616 x
def wFind_L24_2 : LS := ⟨2, [(3, 3)], ⟨23, [(11, .v (.one (.i .i64))), (3, .v (.one (.ptr 3 0))), (10, .v (.aggG [] 14 96))], [(3, .cells [.i .i64])]⟩, [⟨none, [], ⟨23, [(4, .v (.one (.i .i64))), (5, .v (.one (.i .i64)))], []⟩⟩, ⟨some 0, [], ⟨23, [], []⟩⟩], []⟩
def wFind_step24_2 : (Int × ((List (List TDue)) × (Int × Unit))) → Tr ((Int × ((List (List TDue)) × (Int × Unit))) ⊕ ((Int × (Int × Unit)) ⊕ Unit)) :=
  fun (a0, a1, a2, _) =>
  .ite (decide (a0 < (96 : Int))) (
   .grd (sameN (14 : Nat) (95 : Nat) a1 && decide ((0 : Int) ≤ a0 ∧ a0 < (↑(96 : Nat) : Int))) (
   .opt (β := (List TDue)) (a1[Int.toNat a0]?) (fun r0 =>
   .opt (β := ((Int × (Int × Unit)) ⊕ (Int × Unit))) ((wFind_loop17_2 ((0 : Int), (r0, ((↑(List.length r0) : Int), (a2, ())))))) (fun r1 =>
   .sum (β := (Int × (Int × Unit))) (γ := (Int × Unit)) (r1) (fun r2 =>
    .ite (decide ((0 : Int) ≤ r2.1)) (
     .ret (Sum.inr (Sum.inl (a0, (r2.1, ()))))) (
     .grd (decide (obB (sameN (14 : Nat) (95 : Nat) a1) = (0 : Nat))) (
     .ret (Sum.inl (IntKind.wrap IntKind.i64 (a0 + (1 : Int)), (a1, (r2.2.1, ()))))))) (fun r2 =>
    .ite (false) (
     .ret (Sum.inr (Sum.inl (a0, ((-1 : Int), ()))))) (
     .grd (decide (obB (sameN (14 : Nat) (95 : Nat) a1) = (0 : Nat))) (
     .ret (Sum.inl (IntKind.wrap IntKind.i64 (a0 + (1 : Int)), (a1, (r2.1, ()))))))))))) (
   .ret (Sum.inr (Sum.inr ())))
def wFind_loop24_2 (x : (Int × ((List (List TDue)) × (Int × Unit)))) : Option ((Int × (Int × Unit)) ⊕ Unit) := loopO 240002 (fun x => (wFind_step24_2 x).eval) 18446744073709551616 x
def wFind_ap : List VP1 := [.aggG [.i .i64] 14 96, .one (.i .i64)]
def wFind_rp : SP := ⟨1, [(0, .tup [.one (.i .i64), .one (.i .i64)])], []⟩
def wFind_tree : (Int × ((List (List TDue)) × (Int × Unit))) → Tr (Int × (Int × Unit)) :=
  fun (a0, a1, a2, _) =>
  .grd (decide (obB (sameN (14 : Nat) (95 : Nat) a1) = (0 : Nat))) (
  .opt (β := ((Int × (Int × Unit)) ⊕ Unit)) ((wFind_loop24_2 ((0 : Int), (a1, (a2, ()))))) (fun r0 =>
  .sum (β := (Int × (Int × Unit))) (γ := Unit) (r0) (fun r1 =>
   .ret (r1.1, (r1.2.1, ()))) (fun r1 =>
   .ret ((-1 : Int), ((0 : Int), ())))))
theorem wFind_eq (x : (Int × ((List (List TDue)) × (Int × Unit)))) : fnTr Try.prog cod [FS.pf bLen64, FS.pf bLen, FS.pf wList, FS.pf wCount] [(17, wFind_L17_2), (24, wFind_L24_2)] 30 24 wFind_ap wFind_rp x = wFind_tree x := by kernel_rfl
def wFind_fn (x : (Int × ((List (List TDue)) × (Int × Unit)))) : Option (Int × (Int × Unit)) := (wFind_tree x).eval
def wFind : FS Try.prog := ⟨24, wFind_ap, wFind_rp, wFind_fn, fun x r h => fnTr_sound (cod := cod) (Γ := [FS.pf bLen64, FS.pf bLen, FS.pf wList, FS.pf wCount]) (Λs := [(17, wFind_L17_2), (24, wFind_L24_2)]) (n := 30) ((congrArg Tr.eval (wFind_eq x)).trans h)⟩
def wCheck_L16_10 : LS := ⟨10, [(19, 19), (1, 1)], ⟨65, [(28, .v (.one (.i .i64))), (3, .v (.one (.mp 19))), (4, .v (.one (.i .i64))), (1, .v (.one (.ptr 1 0))), (26, .v (.one (.st 14 false))), (21, .v (.aggG [] 14 96)), (22, .v (.one (.i .i64))), (27, .v (.one (.i .i64)))], [(19, .map 0), (1, .cellsG [.i .i64] 14 96)]⟩, [⟨none, [], ⟨65, [(2, .v (.one (.i .i64)))], []⟩⟩, ⟨some 2, [(19, 19), (1, 1)], ⟨65, [(3, .v (.one (.mp 19))), (1, .v (.one (.ptr 1 0))), (21, .v (.aggG [] 14 96)), (22, .v (.one (.i .i64)))], [(19, .map 0), (1, .cellsG [.i .i64] 14 96)]⟩⟩], []⟩
def wCheck_step16_10 : (Int × (Int × ((List TDue) × ((List (List TDue)) × (Int × (Int × ((List (Int × Int)) × (Int × ((List (List TDue)) × Unit))))))))) → Tr ((Int × (Int × ((List TDue) × ((List (List TDue)) × (Int × (Int × ((List (Int × Int)) × (Int × ((List (List TDue)) × Unit))))))))) ⊕ ((Int × Unit) ⊕ ((List (List TDue)) × (Int × ((List (Int × Int)) × (Int × ((List (List TDue)) × Unit))))))) :=
  fun (a0, a1, a2, a3, a4, a5, a6, a7, a8, _) =>
  .ite (decide (a0 < a5)) (
   .grd (decide ((0 : Int) ≤ a0)) (
   .opt (β := TDue) (a2[Int.toNat a0]?) (fun r0 =>
   .ite (decide (r0.at' ≤ a7)) (
    .ret (Sum.inr (Sum.inl ((4 : Int), ())))) (
    .ite (decide ((16777216 : Int) ≤ r0.at')) (
     .ret (Sum.inr (Sum.inl ((4 : Int), ())))) (
     .opt (β := (Int × Unit)) ((wList_fn (a7, (r0.at', ())))) (fun r1 =>
     .ite (!decide (r1.1 = a1)) (
      .ret (Sum.inr (Sum.inl ((4 : Int), ())))) (
      .ite (decide ((1 : Int) < Option.getD (mGet (0 : Nat) r0.id (mPut (0 : Nat) r0.id (IntKind.wrap IntKind.i64 (Option.getD (mGet (0 : Nat) r0.id a6) (0 : Int) + (1 : Int))) a6)) (0 : Int))) (
       .ret (Sum.inr (Sum.inl ((4 : Int), ())))) (
       .grd (decide (obB (sameN (14 : Nat) (95 : Nat) a3) = (0 : Nat))) (
       .grd (decide (obB (sameN (14 : Nat) (95 : Nat) a8) = (0 : Nat))) (
       .ret (Sum.inl (IntKind.wrap IntKind.i64 (a0 + (1 : Int)), (a1, (a2, (a3, (a4, (a5, (mPut (0 : Nat) r0.id (IntKind.wrap IntKind.i64 (Option.getD (mGet (0 : Nat) r0.id a6) (0 : Int) + (1 : Int))) a6, (a7, (a8, ())))))))))))))))))))) (
   .grd (decide (obB (sameN (14 : Nat) (95 : Nat) a3) = (0 : Nat))) (
   .grd (decide (obB (sameN (14 : Nat) (95 : Nat) a8) = (0 : Nat))) (
   .ret (Sum.inr (Sum.inr (a3, (a4, (a6, (a7, (a8, ()))))))))))
def wCheck_loop16_10 (x : (Int × (Int × ((List TDue) × ((List (List TDue)) × (Int × (Int × ((List (Int × Int)) × (Int × ((List (List TDue)) × Unit)))))))))) : Option ((Int × Unit) ⊕ ((List (List TDue)) × (Int × ((List (Int × Int)) × (Int × ((List (List TDue)) × Unit)))))) := loopO 160010 (fun x => (wCheck_step16_10 x).eval) 18446744073709551616 x
def wCheck_L16_7 : LS := ⟨7, [(19, 19), (1, 1)], ⟨65, [(3, .v (.one (.mp 19))), (1, .v (.one (.ptr 1 0))), (22, .v (.one (.i .i64))), (21, .v (.aggG [] 14 96))], [(19, .map 0), (1, .cellsG [.i .i64] 14 96)]⟩, [⟨none, [], ⟨65, [(2, .v (.one (.i .i64)))], []⟩⟩, ⟨some 0, [], ⟨65, [], []⟩⟩], []⟩
def wCheck_step16_7 : (Int × ((List (List TDue)) × ((List (Int × Int)) × (Int × ((List (List TDue)) × Unit))))) → Tr ((Int × ((List (List TDue)) × ((List (Int × Int)) × (Int × ((List (List TDue)) × Unit))))) ⊕ ((Int × Unit) ⊕ Unit)) :=
  fun (a0, a1, a2, a3, a4, _) =>
  .ite (decide (a0 < (96 : Int))) (
   .grd (sameN (14 : Nat) (95 : Nat) a1 && decide ((0 : Int) ≤ a0 ∧ a0 < (↑(96 : Nat) : Int))) (
   .opt (β := (List TDue)) (a1[Int.toNat a0]?) (fun r0 =>
   .grd (decide (obB (sameN (14 : Nat) (95 : Nat) a1) = (0 : Nat))) (
   .grd (decide (obB (sameN (14 : Nat) (95 : Nat) a4) = (0 : Nat))) (
   .opt (β := ((Int × Unit) ⊕ ((List (List TDue)) × (Int × ((List (Int × Int)) × (Int × ((List (List TDue)) × Unit))))))) ((wCheck_loop16_10 ((0 : Int), (a0, (r0, (a1, (a0, ((↑(List.length r0) : Int), (a2, (a3, (a4, ()))))))))))) (fun r1 =>
   .sum (β := (Int × Unit)) (γ := ((List (List TDue)) × (Int × ((List (Int × Int)) × (Int × ((List (List TDue)) × Unit)))))) (r1) (fun r2 =>
    .ret (Sum.inr (Sum.inl (r2.1, ())))) (fun r2 =>
    .grd (decide (obB (sameN (14 : Nat) (95 : Nat) r2.1) = (0 : Nat))) (
    .grd (decide (obB (sameN (14 : Nat) (95 : Nat) r2.2.2.2.2.1) = (0 : Nat))) (
    .ret (Sum.inl (IntKind.wrap IntKind.i64 (r2.2.1 + (1 : Int)), (r2.1, (r2.2.2.1, (r2.2.2.2.1, (r2.2.2.2.2.1, ()))))))))))))))) (
   .ret (Sum.inr (Sum.inr ())))
def wCheck_loop16_7 (x : (Int × ((List (List TDue)) × ((List (Int × Int)) × (Int × ((List (List TDue)) × Unit)))))) : Option ((Int × Unit) ⊕ Unit) := loopO 160007 (fun x => (wCheck_step16_7 x).eval) 18446744073709551616 x
def wCheck_ap : List VP1 := [.aggG [.i .i64] 14 96]
def wCheck_rp : SP := ⟨1, [(0, .v (.one (.i .i64)))], []⟩
def wCheck_tree : (Int × ((List (List TDue)) × Unit)) → Tr (Int × Unit) :=
  fun (a0, a1, _) =>
  .grd (decide (obB (sameN (14 : Nat) (95 : Nat) a1) = (0 : Nat))) (
  .opt (β := (Int × Unit)) ((wCount_fn (a0, (a1, ())))) (fun r0 =>
  .ite (decide ((500 : Int) < r0.1)) (
   .ret ((2 : Int), ())) (
   .ite (decide (a0 < (0 : Int))) (
    .ret ((1 : Int), ())) (
    .ite (decide ((16777216 : Int) ≤ a0)) (
     .ret ((1 : Int), ())) (
     .grd (decide (obB (sameN (14 : Nat) (95 : Nat) a1) = (0 : Nat))) (
     .grd (decide (obB (sameN (14 : Nat) (95 : Nat) a1) = (0 : Nat))) (
     .opt (β := ((Int × Unit) ⊕ Unit)) ((wCheck_loop16_7 ((0 : Int), (a1, ([], (a0, (a1, ()))))))) (fun r1 =>
     .sum (β := (Int × Unit)) (γ := Unit) (r1) (fun r2 =>
      .ret (r2.1, ())) (fun r2 =>
      .ret ((0 : Int), ()))))))))))
theorem wCheck_eq (x : (Int × ((List (List TDue)) × Unit))) : fnTr Try.prog cod [FS.pf bLen64, FS.pf bLen, FS.pf wList, FS.pf wCount, FS.pf wFind] [(16, wCheck_L16_10), (16, wCheck_L16_7)] 30 16 wCheck_ap wCheck_rp x = wCheck_tree x := by kernel_rfl
def wCheck_fn (x : (Int × ((List (List TDue)) × Unit))) : Option (Int × Unit) := (wCheck_tree x).eval
def wCheck : FS Try.prog := ⟨16, wCheck_ap, wCheck_rp, wCheck_fn, fun x r h => fnTr_sound (cod := cod) (Γ := [FS.pf bLen64, FS.pf bLen, FS.pf wList, FS.pf wCount, FS.pf wFind]) (Λs := [(16, wCheck_L16_10), (16, wCheck_L16_7)]) (n := 30) ((congrArg Tr.eval (wCheck_eq x)).trans h)⟩
end Go.Proofs.Ytnhiilbmgkbbaaa.X
