/- Functions of the program, as trees (printed by a program of mine: tool/XTool, xg.py), each with the proof that the machine comes to what its tree says. Conditions: none. -/
import Derived.Test.YtkfpdgibaadmbaaCod
import Derived.KernelRfl
import Derived.Test.YtkfpdgibaadmbaaGSum
namespace Go.Proofs.Ytkfpdgibaadmbaa.X
open Go Go.RowKit Go.Proofs.Ytkfpdgibaadmbaa.Abs
set_option maxRecDepth 100000
set_option linter.unusedVariables false
def tcWord_ap : List VP1 := [.one (.i .i64)]
def tcWord_rp : SP := ⟨1, [(0, .v (.one (.s)))], []⟩
def tcWord_tree : (Int × Unit) → Tr ((List UInt8) × Unit) :=
  fun (a0, _) =>
  .grd (true) (
  .grd (decide ((0 : Int) ≤ IntKind.wrap IntKind.u8 (Int.fdiv a0 ((2 : Int) ^ (8 : Nat))) ∧ IntKind.wrap IntKind.u8 (Int.fdiv a0 ((2 : Int) ^ (8 : Nat))) < (256 : Int))) (
  .grd (decide ((0 : Int) ≤ IntKind.wrap IntKind.u8 a0 ∧ IntKind.wrap IntKind.u8 a0 < (256 : Int))) (
  .ret ([UInt8.ofNat (Int.toNat (IntKind.wrap IntKind.u8 (Int.fdiv a0 ((2 : Int) ^ (8 : Nat))))), UInt8.ofNat (Int.toNat (IntKind.wrap IntKind.u8 a0))], ()))))
theorem tcWord_eq (x : (Int × Unit)) : fnTr Try.prog cod [FS.pf sumFold, FS.pf sumAdd, FS.pf sumOf, FS.pf sumRight, FS.pf sumFix, FS.pf dgWord, FS.pf dgLong, FS.pf dgWordAt, FS.pf dgUnder, FS.pf dgPort, FS.pf dgWrite, FS.pf dgRead] [] 30 64 tcWord_ap tcWord_rp x = tcWord_tree x := by kernel_rfl
def tcWord_fn (x : (Int × Unit)) : Option ((List UInt8) × Unit) := (tcWord_tree x).eval
def tcWord : FS Try.prog := ⟨64, tcWord_ap, tcWord_rp, tcWord_fn, fun x r h => fnTr_sound (cod := cod) (Γ := [FS.pf sumFold, FS.pf sumAdd, FS.pf sumOf, FS.pf sumRight, FS.pf sumFix, FS.pf dgWord, FS.pf dgLong, FS.pf dgWordAt, FS.pf dgUnder, FS.pf dgPort, FS.pf dgWrite, FS.pf dgRead]) (Λs := []) (n := 30) ((congrArg Tr.eval (tcWord_eq x)).trans h)⟩
def tcLong_ap : List VP1 := [.one (.i .u32)]
def tcLong_rp : SP := ⟨1, [(0, .v (.one (.s)))], []⟩
def tcLong_tree : (Int × Unit) → Tr ((List UInt8) × Unit) :=
  fun (a0, _) =>
  .grd (true) (
  .opt (β := ((List UInt8) × Unit)) ((tcWord_fn (IntKind.wrap IntKind.i64 (Int.fdiv a0 ((2 : Int) ^ (16 : Nat))), ()))) (fun r0 =>
  .opt (β := ((List UInt8) × Unit)) ((tcWord_fn (IntKind.wrap IntKind.i64 a0, ()))) (fun r1 =>
  .grd (decide (List.length r0.1 + List.length r1.1 ≤ (9223372036854775807 : Nat))) (
  .ret (r0.1 ++ r1.1, ())))))
theorem tcLong_eq (x : (Int × Unit)) : fnTr Try.prog cod [FS.pf sumFold, FS.pf sumAdd, FS.pf sumOf, FS.pf sumRight, FS.pf sumFix, FS.pf dgWord, FS.pf dgLong, FS.pf dgWordAt, FS.pf dgUnder, FS.pf dgPort, FS.pf dgWrite, FS.pf dgRead, FS.pf tcWord] [] 30 65 tcLong_ap tcLong_rp x = tcLong_tree x := by kernel_rfl
def tcLong_fn (x : (Int × Unit)) : Option ((List UInt8) × Unit) := (tcLong_tree x).eval
def tcLong : FS Try.prog := ⟨65, tcLong_ap, tcLong_rp, tcLong_fn, fun x r h => fnTr_sound (cod := cod) (Γ := [FS.pf sumFold, FS.pf sumAdd, FS.pf sumOf, FS.pf sumRight, FS.pf sumFix, FS.pf dgWord, FS.pf dgLong, FS.pf dgWordAt, FS.pf dgUnder, FS.pf dgPort, FS.pf dgWrite, FS.pf dgRead, FS.pf tcWord]) (Λs := []) (n := 30) ((congrArg Tr.eval (tcLong_eq x)).trans h)⟩
def tcWordAt_ap : List VP1 := [.one (.s), .one (.i .i64)]
def tcWordAt_rp : SP := ⟨1, [(0, .v (.one (.i .i64)))], []⟩
def tcWordAt_tree : ((List UInt8) × (Int × Unit)) → Tr (Int × Unit) :=
  fun (a0, a1, _) =>
  .grd (decide ((0 : Int) ≤ a1 ∧ a1 < (↑(List.length a0) : Int))) (
  .grd (true) (
  .grd (decide ((0 : Int) ≤ IntKind.wrap IntKind.i64 (a1 + (1 : Int)) ∧ IntKind.wrap IntKind.i64 (a1 + (1 : Int)) < (↑(List.length a0) : Int))) (
  .ret (bits BinOp.or IntKind.i64 (IntKind.wrap IntKind.i64 (IntKind.wrap IntKind.i64 (↑(UInt8.toNat (List.getD a0 (Int.toNat a1) (0 : UInt8))) : Int) * (2 : Int) ^ (8 : Nat))) (IntKind.wrap IntKind.i64 (↑(UInt8.toNat (List.getD a0 (Int.toNat (IntKind.wrap IntKind.i64 (a1 + (1 : Int)))) (0 : UInt8))) : Int)), ()))))
theorem tcWordAt_eq (x : ((List UInt8) × (Int × Unit))) : fnTr Try.prog cod [FS.pf sumFold, FS.pf sumAdd, FS.pf sumOf, FS.pf sumRight, FS.pf sumFix, FS.pf dgWord, FS.pf dgLong, FS.pf dgWordAt, FS.pf dgUnder, FS.pf dgPort, FS.pf dgWrite, FS.pf dgRead, FS.pf tcWord, FS.pf tcLong] [] 30 54 tcWordAt_ap tcWordAt_rp x = tcWordAt_tree x := by kernel_rfl
def tcWordAt_fn (x : ((List UInt8) × (Int × Unit))) : Option (Int × Unit) := (tcWordAt_tree x).eval
def tcWordAt : FS Try.prog := ⟨54, tcWordAt_ap, tcWordAt_rp, tcWordAt_fn, fun x r h => fnTr_sound (cod := cod) (Γ := [FS.pf sumFold, FS.pf sumAdd, FS.pf sumOf, FS.pf sumRight, FS.pf sumFix, FS.pf dgWord, FS.pf dgLong, FS.pf dgWordAt, FS.pf dgUnder, FS.pf dgPort, FS.pf dgWrite, FS.pf dgRead, FS.pf tcWord, FS.pf tcLong]) (Λs := []) (n := 30) ((congrArg Tr.eval (tcWordAt_eq x)).trans h)⟩
def tcLongAt_ap : List VP1 := [.one (.s), .one (.i .i64)]
def tcLongAt_rp : SP := ⟨1, [(0, .v (.one (.i .u32)))], []⟩
def tcLongAt_tree : ((List UInt8) × (Int × Unit)) → Tr (Int × Unit) :=
  fun (a0, a1, _) =>
  .opt (β := (Int × Unit)) ((tcWordAt_fn (a0, (a1, ())))) (fun r0 =>
  .grd (true) (
  .opt (β := (Int × Unit)) ((tcWordAt_fn (a0, (IntKind.wrap IntKind.i64 (a1 + (2 : Int)), ())))) (fun r1 =>
  .ret (bits BinOp.or IntKind.u32 (IntKind.wrap IntKind.u32 (IntKind.wrap IntKind.u32 r0.1 * (2 : Int) ^ (16 : Nat))) (IntKind.wrap IntKind.u32 r1.1), ()))))
theorem tcLongAt_eq (x : ((List UInt8) × (Int × Unit))) : fnTr Try.prog cod [FS.pf sumFold, FS.pf sumAdd, FS.pf sumOf, FS.pf sumRight, FS.pf sumFix, FS.pf dgWord, FS.pf dgLong, FS.pf dgWordAt, FS.pf dgUnder, FS.pf dgPort, FS.pf dgWrite, FS.pf dgRead, FS.pf tcWord, FS.pf tcLong, FS.pf tcWordAt] [] 30 55 tcLongAt_ap tcLongAt_rp x = tcLongAt_tree x := by kernel_rfl
def tcLongAt_fn (x : ((List UInt8) × (Int × Unit))) : Option (Int × Unit) := (tcLongAt_tree x).eval
def tcLongAt : FS Try.prog := ⟨55, tcLongAt_ap, tcLongAt_rp, tcLongAt_fn, fun x r h => fnTr_sound (cod := cod) (Γ := [FS.pf sumFold, FS.pf sumAdd, FS.pf sumOf, FS.pf sumRight, FS.pf sumFix, FS.pf dgWord, FS.pf dgLong, FS.pf dgWordAt, FS.pf dgUnder, FS.pf dgPort, FS.pf dgWrite, FS.pf dgRead, FS.pf tcWord, FS.pf tcLong, FS.pf tcWordAt]) (Λs := []) (n := 30) ((congrArg Tr.eval (tcLongAt_eq x)).trans h)⟩
def tcWords_L82_2 : LS := ⟨2, [], ⟨19, [(8, .v (.one (.i .i64))), (0, .v (.one (.st 0 false))), (1, .v (.one (.clo 78 []))), (7, .v (.one (.i .i64)))], []⟩, [⟨none, [], ⟨19, [(4, .v (.one (.i .i64)))], []⟩⟩, ⟨some 0, [], ⟨19, [], []⟩⟩], []⟩
def tcWords_step82_2 : (Int × ((List Int) × (Int × Unit))) → Tr ((Int × ((List Int) × (Int × Unit))) ⊕ ((Int × Unit) ⊕ Unit)) :=
  fun (a0, a1, a2, _) =>
  .ite (decide (a0 < a2)) (
   .grd (decide ((0 : Int) ≤ a0)) (
   .opt (β := Int) (a1[Int.toNat a0]?) (fun r0 =>
   .ite (decide (r0 < (0 : Int))) (
    .ite (true) (
     .ret (Sum.inr (Sum.inl (a0, ())))) (
     .ret (Sum.inl (IntKind.wrap IntKind.i64 (a0 + (1 : Int)), (a1, (a2, ())))))) (
    .ite (decide ((65535 : Int) < r0)) (
     .ret (Sum.inr (Sum.inl (a0, ())))) (
     .ret (Sum.inl (IntKind.wrap IntKind.i64 (a0 + (1 : Int)), (a1, (a2, ()))))))))) (
   .ret (Sum.inr (Sum.inr ())))
def tcWords_loop82_2 (x : (Int × ((List Int) × (Int × Unit)))) : Option ((Int × Unit) ⊕ Unit) := loopO 820002 (fun x => (tcWords_step82_2 x).eval) 18446744073709551616 x
def tcWords_ap : List VP1 := [.one (.st 0 false)]
def tcWords_rp : SP := ⟨1, [(0, .v (.one (.b)))], []⟩
def tcWords_tree : ((List Int) × Unit) → Tr (Bool × Unit) :=
  fun (a0, _) =>
  .opt (β := ((Int × Unit) ⊕ Unit)) ((tcWords_loop82_2 ((0 : Int), (a0, ((↑(List.length a0) : Int), ()))))) (fun r0 =>
  .sum (β := (Int × Unit)) (γ := Unit) (r0) (fun r1 =>
   .ret (!decide ((0 : Int) ≤ r1.1), ())) (fun r1 =>
   .ret (true, ())))
theorem tcWords_eq (x : ((List Int) × Unit)) : fnTr Try.prog cod [FS.pf sumFold, FS.pf sumAdd, FS.pf sumOf, FS.pf sumRight, FS.pf sumFix, FS.pf dgWord, FS.pf dgLong, FS.pf dgWordAt, FS.pf dgUnder, FS.pf dgPort, FS.pf dgWrite, FS.pf dgRead, FS.pf tcWord, FS.pf tcLong, FS.pf tcWordAt, FS.pf tcLongAt] [(82, tcWords_L82_2)] 30 62 tcWords_ap tcWords_rp x = tcWords_tree x := by kernel_rfl
def tcWords_fn (x : ((List Int) × Unit)) : Option (Bool × Unit) := (tcWords_tree x).eval
def tcWords : FS Try.prog := ⟨62, tcWords_ap, tcWords_rp, tcWords_fn, fun x r h => fnTr_sound (cod := cod) (Γ := [FS.pf sumFold, FS.pf sumAdd, FS.pf sumOf, FS.pf sumRight, FS.pf sumFix, FS.pf dgWord, FS.pf dgLong, FS.pf dgWordAt, FS.pf dgUnder, FS.pf dgPort, FS.pf dgWrite, FS.pf dgRead, FS.pf tcWord, FS.pf tcLong, FS.pf tcWordAt, FS.pf tcLongAt]) (Λs := [(82, tcWords_L82_2)]) (n := 30) ((congrArg Tr.eval (tcWords_eq x)).trans h)⟩
def tcOptions_L63_3 : LS := ⟨3, [(4, 4)], ⟨60, [(9, .v (.one (.i .i64))), (4, .v (.one (.own 4))), (7, .v (.one (.st 4 false))), (8, .v (.one (.i .i64)))], [(4, .row 5 2 true true)]⟩, [⟨none, [], ⟨60, [(2, .v (.one (.s))), (3, .v (.one (.b)))], []⟩⟩, ⟨some 0, [(4, 4)], ⟨60, [(4, .v (.one (.own 4)))], [(4, .row 5 2 true true)]⟩⟩], [(4, 5, 2)]⟩
def tcOptions_step63_3 : (Int × ((List TOption) × (Int × ((List UInt8) × Unit)))) → Tr ((Int × ((List TOption) × (Int × ((List UInt8) × Unit)))) ⊕ (((List UInt8) × (Bool × Unit)) ⊕ ((List UInt8) × Unit))) :=
  fun (a0, a1, a2, a3, _) =>
  .ite (decide (a0 < a2)) (
   .grd (decide ((0 : Int) ≤ a0)) (
   .opt (β := TOption) (a1[Int.toNat a0]?) (fun r0 =>
   .ite (decide (r0.kind < (1 : Int))) (
    .ret (Sum.inr (Sum.inl ([], (false, ()))))) (
    .ite (decide ((255 : Int) < r0.kind)) (
     .ret (Sum.inr (Sum.inl ([], (false, ()))))) (
     .ite (decide ((38 : Int) < (↑(List.length r0.data) : Int))) (
      .ret (Sum.inr (Sum.inl ([], (false, ()))))) (
      .ite (decide (r0.kind = (1 : Int))) (
       .ite (!decide (r0.data = [])) (
        .ret (Sum.inr (Sum.inl ([], (false, ()))))) (
        .grd (decide ((0 : Int) ≤ IntKind.wrap IntKind.u8 r0.kind ∧ IntKind.wrap IntKind.u8 r0.kind < (256 : Int))) (
        .grd (decide ((List.length a3 + List.length [UInt8.ofNat (Int.toNat (IntKind.wrap IntKind.u8 r0.kind))]) * (1 : Nat) ≤ (140737488355328 : Nat) ∧ List.length a3 + List.length [UInt8.ofNat (Int.toNat (IntKind.wrap IntKind.u8 r0.kind))] ≤ (9223372036854775807 : Nat))) (
        .ite (decide ((1 : Int) < r0.kind)) (
         .grd (decide ((0 : Int) ≤ IntKind.wrap IntKind.u8 (IntKind.wrap IntKind.i64 ((↑(List.length r0.data) : Int) + (2 : Int))) ∧ IntKind.wrap IntKind.u8 (IntKind.wrap IntKind.i64 ((↑(List.length r0.data) : Int) + (2 : Int))) < (256 : Int))) (
         .grd (decide ((List.length (a3 ++ [UInt8.ofNat (Int.toNat (IntKind.wrap IntKind.u8 r0.kind))]) + List.length [UInt8.ofNat (Int.toNat (IntKind.wrap IntKind.u8 (IntKind.wrap IntKind.i64 ((↑(List.length r0.data) : Int) + (2 : Int)))))]) * (1 : Nat) ≤ (140737488355328 : Nat) ∧ List.length (a3 ++ [UInt8.ofNat (Int.toNat (IntKind.wrap IntKind.u8 r0.kind))]) + List.length [UInt8.ofNat (Int.toNat (IntKind.wrap IntKind.u8 (IntKind.wrap IntKind.i64 ((↑(List.length r0.data) : Int) + (2 : Int)))))] ≤ (9223372036854775807 : Nat))) (
         .grd (decide ((List.length (a3 ++ [UInt8.ofNat (Int.toNat (IntKind.wrap IntKind.u8 r0.kind))] ++ [UInt8.ofNat (Int.toNat (IntKind.wrap IntKind.u8 (IntKind.wrap IntKind.i64 ((↑(List.length r0.data) : Int) + (2 : Int)))))]) + List.length r0.data) * (1 : Nat) ≤ (140737488355328 : Nat) ∧ List.length (a3 ++ [UInt8.ofNat (Int.toNat (IntKind.wrap IntKind.u8 r0.kind))] ++ [UInt8.ofNat (Int.toNat (IntKind.wrap IntKind.u8 (IntKind.wrap IntKind.i64 ((↑(List.length r0.data) : Int) + (2 : Int)))))]) + List.length r0.data ≤ (9223372036854775807 : Nat))) (
         .grd (decide (List.length (a3 ++ [UInt8.ofNat (Int.toNat (IntKind.wrap IntKind.u8 r0.kind))] ++ [UInt8.ofNat (Int.toNat (IntKind.wrap IntKind.u8 (IntKind.wrap IntKind.i64 ((↑(List.length r0.data) : Int) + (2 : Int)))))] ++ r0.data) = List.length (a3 ++ [UInt8.ofNat (Int.toNat (IntKind.wrap IntKind.u8 r0.kind))] ++ [UInt8.ofNat (Int.toNat (IntKind.wrap IntKind.u8 (IntKind.wrap IntKind.i64 ((↑(List.length r0.data) : Int) + (2 : Int)))))] ++ r0.data))) (
         .ret (Sum.inl (IntKind.wrap IntKind.i64 (a0 + (1 : Int)), (a1, (a2, (a3 ++ [UInt8.ofNat (Int.toNat (IntKind.wrap IntKind.u8 r0.kind))] ++ [UInt8.ofNat (Int.toNat (IntKind.wrap IntKind.u8 (IntKind.wrap IntKind.i64 ((↑(List.length r0.data) : Int) + (2 : Int)))))] ++ r0.data, ())))))))))) (
         .grd (decide (List.length (a3 ++ [UInt8.ofNat (Int.toNat (IntKind.wrap IntKind.u8 r0.kind))]) = List.length (a3 ++ [UInt8.ofNat (Int.toNat (IntKind.wrap IntKind.u8 r0.kind))]))) (
         .ret (Sum.inl (IntKind.wrap IntKind.i64 (a0 + (1 : Int)), (a1, (a2, (a3 ++ [UInt8.ofNat (Int.toNat (IntKind.wrap IntKind.u8 r0.kind))], ()))))))))))) (
       .grd (decide ((0 : Int) ≤ IntKind.wrap IntKind.u8 r0.kind ∧ IntKind.wrap IntKind.u8 r0.kind < (256 : Int))) (
       .grd (decide ((List.length a3 + List.length [UInt8.ofNat (Int.toNat (IntKind.wrap IntKind.u8 r0.kind))]) * (1 : Nat) ≤ (140737488355328 : Nat) ∧ List.length a3 + List.length [UInt8.ofNat (Int.toNat (IntKind.wrap IntKind.u8 r0.kind))] ≤ (9223372036854775807 : Nat))) (
       .ite (decide ((1 : Int) < r0.kind)) (
        .grd (decide ((0 : Int) ≤ IntKind.wrap IntKind.u8 (IntKind.wrap IntKind.i64 ((↑(List.length r0.data) : Int) + (2 : Int))) ∧ IntKind.wrap IntKind.u8 (IntKind.wrap IntKind.i64 ((↑(List.length r0.data) : Int) + (2 : Int))) < (256 : Int))) (
        .grd (decide ((List.length (a3 ++ [UInt8.ofNat (Int.toNat (IntKind.wrap IntKind.u8 r0.kind))]) + List.length [UInt8.ofNat (Int.toNat (IntKind.wrap IntKind.u8 (IntKind.wrap IntKind.i64 ((↑(List.length r0.data) : Int) + (2 : Int)))))]) * (1 : Nat) ≤ (140737488355328 : Nat) ∧ List.length (a3 ++ [UInt8.ofNat (Int.toNat (IntKind.wrap IntKind.u8 r0.kind))]) + List.length [UInt8.ofNat (Int.toNat (IntKind.wrap IntKind.u8 (IntKind.wrap IntKind.i64 ((↑(List.length r0.data) : Int) + (2 : Int)))))] ≤ (9223372036854775807 : Nat))) (
        .grd (decide ((List.length (a3 ++ [UInt8.ofNat (Int.toNat (IntKind.wrap IntKind.u8 r0.kind))] ++ [UInt8.ofNat (Int.toNat (IntKind.wrap IntKind.u8 (IntKind.wrap IntKind.i64 ((↑(List.length r0.data) : Int) + (2 : Int)))))]) + List.length r0.data) * (1 : Nat) ≤ (140737488355328 : Nat) ∧ List.length (a3 ++ [UInt8.ofNat (Int.toNat (IntKind.wrap IntKind.u8 r0.kind))] ++ [UInt8.ofNat (Int.toNat (IntKind.wrap IntKind.u8 (IntKind.wrap IntKind.i64 ((↑(List.length r0.data) : Int) + (2 : Int)))))]) + List.length r0.data ≤ (9223372036854775807 : Nat))) (
        .grd (decide (List.length (a3 ++ [UInt8.ofNat (Int.toNat (IntKind.wrap IntKind.u8 r0.kind))] ++ [UInt8.ofNat (Int.toNat (IntKind.wrap IntKind.u8 (IntKind.wrap IntKind.i64 ((↑(List.length r0.data) : Int) + (2 : Int)))))] ++ r0.data) = List.length (a3 ++ [UInt8.ofNat (Int.toNat (IntKind.wrap IntKind.u8 r0.kind))] ++ [UInt8.ofNat (Int.toNat (IntKind.wrap IntKind.u8 (IntKind.wrap IntKind.i64 ((↑(List.length r0.data) : Int) + (2 : Int)))))] ++ r0.data))) (
        .ret (Sum.inl (IntKind.wrap IntKind.i64 (a0 + (1 : Int)), (a1, (a2, (a3 ++ [UInt8.ofNat (Int.toNat (IntKind.wrap IntKind.u8 r0.kind))] ++ [UInt8.ofNat (Int.toNat (IntKind.wrap IntKind.u8 (IntKind.wrap IntKind.i64 ((↑(List.length r0.data) : Int) + (2 : Int)))))] ++ r0.data, ())))))))))) (
        .grd (decide (List.length (a3 ++ [UInt8.ofNat (Int.toNat (IntKind.wrap IntKind.u8 r0.kind))]) = List.length (a3 ++ [UInt8.ofNat (Int.toNat (IntKind.wrap IntKind.u8 r0.kind))]))) (
        .ret (Sum.inl (IntKind.wrap IntKind.i64 (a0 + (1 : Int)), (a1, (a2, (a3 ++ [UInt8.ofNat (Int.toNat (IntKind.wrap IntKind.u8 r0.kind))], ())))))))))))))))) (
   .grd (decide (List.length a3 = List.length a3)) (
   .ret (Sum.inr (Sum.inr (a3, ())))))
def tcOptions_loop63_3 (x : (Int × ((List TOption) × (Int × ((List UInt8) × Unit))))) : Option (((List UInt8) × (Bool × Unit)) ⊕ ((List UInt8) × Unit)) := loopO 630003 (fun x => (tcOptions_step63_3 x).eval) 18446744073709551616 x
def tcOptions_ap : List VP1 := [.one (.st 4 false)]
def tcOptions_rp : SP := ⟨1, [(0, .tup [.one (.s), .one (.b)])], []⟩
def tcOptions_tree : ((List TOption) × Unit) → Tr ((List UInt8) × (Bool × Unit)) :=
  fun (a0, _) =>
  .grd (true) (
  .opt (β := (((List UInt8) × (Bool × Unit)) ⊕ ((List UInt8) × Unit))) ((tcOptions_loop63_3 ((0 : Int), (a0, ((↑(List.length a0) : Int), ([], ())))))) (fun r0 =>
  .sum (β := ((List UInt8) × (Bool × Unit))) (γ := ((List UInt8) × Unit)) (r0) (fun r1 =>
   .ret (r1.1, (r1.2.1, ()))) (fun r1 =>
   .ret (r1.1, (true, ())))))
theorem tcOptions_eq (x : ((List TOption) × Unit)) : fnTr Try.prog cod [FS.pf sumFold, FS.pf sumAdd, FS.pf sumOf, FS.pf sumRight, FS.pf sumFix, FS.pf dgWord, FS.pf dgLong, FS.pf dgWordAt, FS.pf dgUnder, FS.pf dgPort, FS.pf dgWrite, FS.pf dgRead, FS.pf tcWord, FS.pf tcLong, FS.pf tcWordAt, FS.pf tcLongAt, FS.pf tcWords] [(63, tcOptions_L63_3)] 30 63 tcOptions_ap tcOptions_rp x = tcOptions_tree x := by kernel_rfl
def tcOptions_fn (x : ((List TOption) × Unit)) : Option ((List UInt8) × (Bool × Unit)) := (tcOptions_tree x).eval
def tcOptions : FS Try.prog := ⟨63, tcOptions_ap, tcOptions_rp, tcOptions_fn, fun x r h => fnTr_sound (cod := cod) (Γ := [FS.pf sumFold, FS.pf sumAdd, FS.pf sumOf, FS.pf sumRight, FS.pf sumFix, FS.pf dgWord, FS.pf dgLong, FS.pf dgWordAt, FS.pf dgUnder, FS.pf dgPort, FS.pf dgWrite, FS.pf dgRead, FS.pf tcWord, FS.pf tcLong, FS.pf tcWordAt, FS.pf tcLongAt, FS.pf tcWords]) (Λs := [(63, tcOptions_L63_3)]) (n := 30) ((congrArg Tr.eval (tcOptions_eq x)).trans h)⟩
def tcWrite_L32_8 : LS := ⟨8, [(3, 3)], ⟨117, [(8, .v (.one (.s))), (3, .v (.one (.ptr 3 0))), (2, .v (.one (.i .u32))), (1, .v (.one (.i .u32)))], [(3, .cells [.i .i64, .i .i64, .i .u32, .i .u32, .i .i64, .i .i64, .i .i64, .st 4 false, .s])]⟩, [⟨some 0, [(3, 3)], ⟨117, [(3, .v (.one (.ptr 3 0))), (2, .v (.one (.i .u32))), (1, .v (.one (.i .u32))), (8, .v (.one (.s)))], [(3, .cells [.i .i64, .i .i64, .i .u32, .i .u32, .i .i64, .i .i64, .i .i64, .st 4 false, .s])]⟩⟩], []⟩
def tcWrite_step32_8 : ((List UInt8) × (Int × (Int × (Int × (Int × (Int × (Int × (Int × (Int × (Int × ((List TOption) × ((List UInt8) × Unit)))))))))))) → Tr (((List UInt8) × (Int × (Int × (Int × (Int × (Int × (Int × (Int × (Int × (Int × ((List TOption) × ((List UInt8) × Unit)))))))))))) ⊕ (Int × (Int × ((List UInt8) × (Int × (Int × (Int × (Int × (Int × (Int × (Int × ((List TOption) × ((List UInt8) × Unit))))))))))))) :=
  fun (a0, a1, a2, a3, a4, a5, a6, a7, a8, a9, a10, a11, _) =>
  .grd (true) (
  .ite (!decide (Int.tmod (↑(List.length a0) : Int) (4 : Int) = (0 : Int))) (
   .grd (decide (List.length a0 + List.length [(0 : UInt8)] ≤ (9223372036854775807 : Nat))) (
   .ret (Sum.inl (a0 ++ [(0 : UInt8)], (a1, (a2, (a3, (a4, (a5, (a6, (a7, (a8, (a9, (a10, (a11, ()))))))))))))))) (
   .ret (Sum.inr (a1, (a2, (a0, (a3, (a4, (a5, (a6, (a7, (a8, (a9, (a10, (a11, ())))))))))))))))
def tcWrite_loop32_8 (x : ((List UInt8) × (Int × (Int × (Int × (Int × (Int × (Int × (Int × (Int × (Int × ((List TOption) × ((List UInt8) × Unit))))))))))))) : Option (Int × (Int × ((List UInt8) × (Int × (Int × (Int × (Int × (Int × (Int × (Int × ((List TOption) × ((List UInt8) × Unit)))))))))))) := loopO 320008 (fun x => (tcWrite_step32_8 x).eval) 18446744073709551616 x
def tcWrite_ap : List VP1 := [.agg [.i .i64, .i .i64, .i .u32, .i .u32, .i .i64, .i .i64, .i .i64, .st 4 false, .s], .one (.i .u32), .one (.i .u32)]
def tcWrite_rp : SP := ⟨1, [(0, .tup [.one (.s), .one (.i .i64)])], []⟩
def tcWrite_tree : (Int × (Int × (Int × (Int × (Int × (Int × (Int × ((List TOption) × ((List UInt8) × (Int × (Int × Unit))))))))))) → Tr ((List UInt8) × (Int × Unit)) :=
  fun (a0, a1, a2, a3, a4, a5, a6, a7, a8, a9, a10, _) =>
  .opt (β := (Bool × Unit)) ((tcWords_fn ([a0, a1, a5, a6], ()))) (fun r0 =>
  .ite (!r0.1) (
   .ret ([], ((1 : Int), ()))) (
   .ite (decide (a4 < (0 : Int))) (
    .ret ([], ((1 : Int), ()))) (
    .ite (decide ((255 : Int) < a4)) (
     .ret ([], ((1 : Int), ()))) (
     .opt (β := ((List UInt8) × (Bool × Unit))) ((tcOptions_fn (a7, ()))) (fun r1 =>
     .ite (!r1.2.1) (
      .ret ([], ((4 : Int), ()))) (
      .ite (decide ((40 : Int) < (↑(List.length r1.1) : Int))) (
       .ret ([], ((2 : Int), ()))) (
       .ite (decide ((65455 : Int) < (↑(List.length a8) : Int))) (
        .ret ([], ((2 : Int), ()))) (
        .opt (β := (Int × (Int × ((List UInt8) × (Int × (Int × (Int × (Int × (Int × (Int × (Int × ((List TOption) × ((List UInt8) × Unit))))))))))))) ((tcWrite_loop32_8 (r1.1, (a10, (a9, (a0, (a1, (a2, (a3, (a4, (a5, (a6, (a7, (a8, ())))))))))))))) (fun r2 =>
        .opt (β := ((List UInt8) × Unit)) ((tcWord_fn (r2.2.2.2.1, ()))) (fun r3 =>
        .opt (β := ((List UInt8) × Unit)) ((tcWord_fn (r2.2.2.2.2.1, ()))) (fun r4 =>
        .grd (decide (List.length r3.1 + List.length r4.1 ≤ (9223372036854775807 : Nat))) (
        .opt (β := ((List UInt8) × Unit)) ((tcLong_fn (r2.2.2.2.2.2.1, ()))) (fun r5 =>
        .grd (decide (List.length (r3.1 ++ r4.1) + List.length r5.1 ≤ (9223372036854775807 : Nat))) (
        .opt (β := ((List UInt8) × Unit)) ((tcLong_fn (r2.2.2.2.2.2.2.1, ()))) (fun r6 =>
        .grd (decide (List.length (r3.1 ++ r4.1 ++ r5.1) + List.length r6.1 ≤ (9223372036854775807 : Nat))) (
        .grd (decide ((0 : Int) ≤ IntKind.wrap IntKind.u8 (IntKind.wrap IntKind.i64 (IntKind.wrap IntKind.i64 ((20 : Int) + (↑(List.length r2.2.2.1) : Int)) * (4 : Int))) ∧ IntKind.wrap IntKind.u8 (IntKind.wrap IntKind.i64 (IntKind.wrap IntKind.i64 ((20 : Int) + (↑(List.length r2.2.2.1) : Int)) * (4 : Int))) < (256 : Int))) (
        .grd (decide ((0 : Int) ≤ IntKind.wrap IntKind.u8 r2.2.2.2.2.2.2.2.1 ∧ IntKind.wrap IntKind.u8 r2.2.2.2.2.2.2.2.1 < (256 : Int))) (
        .grd (decide (List.length (r3.1 ++ r4.1 ++ r5.1 ++ r6.1) + List.length [UInt8.ofNat (Int.toNat (IntKind.wrap IntKind.u8 (IntKind.wrap IntKind.i64 (IntKind.wrap IntKind.i64 ((20 : Int) + (↑(List.length r2.2.2.1) : Int)) * (4 : Int))))), UInt8.ofNat (Int.toNat (IntKind.wrap IntKind.u8 r2.2.2.2.2.2.2.2.1))] ≤ (9223372036854775807 : Nat))) (
        .opt (β := ((List UInt8) × Unit)) ((tcWord_fn (r2.2.2.2.2.2.2.2.2.1, ()))) (fun r7 =>
        .grd (decide (List.length (r3.1 ++ r4.1 ++ r5.1 ++ r6.1 ++ [UInt8.ofNat (Int.toNat (IntKind.wrap IntKind.u8 (IntKind.wrap IntKind.i64 (IntKind.wrap IntKind.i64 ((20 : Int) + (↑(List.length r2.2.2.1) : Int)) * (4 : Int))))), UInt8.ofNat (Int.toNat (IntKind.wrap IntKind.u8 r2.2.2.2.2.2.2.2.1))]) + List.length r7.1 ≤ (9223372036854775807 : Nat))) (
        .opt (β := ((List UInt8) × Unit)) ((tcWord_fn (r2.2.2.2.2.2.2.2.2.2.1, ()))) (fun r8 =>
        .grd (decide (List.length r8.1 + List.length r2.2.2.1 ≤ (9223372036854775807 : Nat))) (
        .grd (decide (List.length (r8.1 ++ r2.2.2.1) + List.length r2.2.2.2.2.2.2.2.2.2.2.2.1 ≤ (9223372036854775807 : Nat))) (
        .opt (β := ((List UInt8) × Unit)) ((dgUnder_fn (r2.2.1, (r2.1, ((6 : Int), (IntKind.wrap IntKind.i64 (IntKind.wrap IntKind.i64 ((20 : Int) + (↑(List.length r2.2.2.1) : Int)) + (↑(List.length r2.2.2.2.2.2.2.2.2.2.2.2.1) : Int)), ())))))) (fun r9 =>
        .grd (decide (List.length r9.1 + List.length (r3.1 ++ r4.1 ++ r5.1 ++ r6.1 ++ [UInt8.ofNat (Int.toNat (IntKind.wrap IntKind.u8 (IntKind.wrap IntKind.i64 (IntKind.wrap IntKind.i64 ((20 : Int) + (↑(List.length r2.2.2.1) : Int)) * (4 : Int))))), UInt8.ofNat (Int.toNat (IntKind.wrap IntKind.u8 r2.2.2.2.2.2.2.2.1))] ++ r7.1) ≤ (9223372036854775807 : Nat))) (
        .grd (decide (List.length (r9.1 ++ (r3.1 ++ r4.1 ++ r5.1 ++ r6.1 ++ [UInt8.ofNat (Int.toNat (IntKind.wrap IntKind.u8 (IntKind.wrap IntKind.i64 (IntKind.wrap IntKind.i64 ((20 : Int) + (↑(List.length r2.2.2.1) : Int)) * (4 : Int))))), UInt8.ofNat (Int.toNat (IntKind.wrap IntKind.u8 r2.2.2.2.2.2.2.2.1))] ++ r7.1)) + List.length (r8.1 ++ r2.2.2.1 ++ r2.2.2.2.2.2.2.2.2.2.2.2.1) ≤ (9223372036854775807 : Nat))) (
        .opt (β := (Int × Unit)) ((sumOf_fn (r9.1 ++ (r3.1 ++ r4.1 ++ r5.1 ++ r6.1 ++ [UInt8.ofNat (Int.toNat (IntKind.wrap IntKind.u8 (IntKind.wrap IntKind.i64 (IntKind.wrap IntKind.i64 ((20 : Int) + (↑(List.length r2.2.2.1) : Int)) * (4 : Int))))), UInt8.ofNat (Int.toNat (IntKind.wrap IntKind.u8 r2.2.2.2.2.2.2.2.1))] ++ r7.1) ++ (r8.1 ++ r2.2.2.1 ++ r2.2.2.2.2.2.2.2.2.2.2.2.1), ()))) (fun r10 =>
        .opt (β := ((List UInt8) × Unit)) ((tcWord_fn (IntKind.wrap IntKind.i64 r10.1, ()))) (fun r11 =>
        .grd (decide (List.length (r3.1 ++ r4.1 ++ r5.1 ++ r6.1 ++ [UInt8.ofNat (Int.toNat (IntKind.wrap IntKind.u8 (IntKind.wrap IntKind.i64 (IntKind.wrap IntKind.i64 ((20 : Int) + (↑(List.length r2.2.2.1) : Int)) * (4 : Int))))), UInt8.ofNat (Int.toNat (IntKind.wrap IntKind.u8 r2.2.2.2.2.2.2.2.1))] ++ r7.1) + List.length r11.1 ≤ (9223372036854775807 : Nat))) (
        .grd (decide (List.length (r3.1 ++ r4.1 ++ r5.1 ++ r6.1 ++ [UInt8.ofNat (Int.toNat (IntKind.wrap IntKind.u8 (IntKind.wrap IntKind.i64 (IntKind.wrap IntKind.i64 ((20 : Int) + (↑(List.length r2.2.2.1) : Int)) * (4 : Int))))), UInt8.ofNat (Int.toNat (IntKind.wrap IntKind.u8 r2.2.2.2.2.2.2.2.1))] ++ r7.1 ++ r11.1) + List.length (r8.1 ++ r2.2.2.1 ++ r2.2.2.2.2.2.2.2.2.2.2.2.1) ≤ (9223372036854775807 : Nat))) (
        .ret (r3.1 ++ r4.1 ++ r5.1 ++ r6.1 ++ [UInt8.ofNat (Int.toNat (IntKind.wrap IntKind.u8 (IntKind.wrap IntKind.i64 (IntKind.wrap IntKind.i64 ((20 : Int) + (↑(List.length r2.2.2.1) : Int)) * (4 : Int))))), UInt8.ofNat (Int.toNat (IntKind.wrap IntKind.u8 r2.2.2.2.2.2.2.2.1))] ++ r7.1 ++ r11.1 ++ (r8.1 ++ r2.2.2.1 ++ r2.2.2.2.2.2.2.2.2.2.2.2.1), ((0 : Int), ())))))))))))))))))))))))))))))))))
theorem tcWrite_eq (x : (Int × (Int × (Int × (Int × (Int × (Int × (Int × ((List TOption) × ((List UInt8) × (Int × (Int × Unit)))))))))))) : fnTr Try.prog cod [FS.pf sumFold, FS.pf sumAdd, FS.pf sumOf, FS.pf sumRight, FS.pf sumFix, FS.pf dgWord, FS.pf dgLong, FS.pf dgWordAt, FS.pf dgUnder, FS.pf dgPort, FS.pf dgWrite, FS.pf dgRead, FS.pf tcWord, FS.pf tcLong, FS.pf tcWordAt, FS.pf tcLongAt, FS.pf tcWords, FS.pf tcOptions] [(32, tcWrite_L32_8)] 30 32 tcWrite_ap tcWrite_rp x = tcWrite_tree x := by kernel_rfl
def tcWrite_fn (x : (Int × (Int × (Int × (Int × (Int × (Int × (Int × ((List TOption) × ((List UInt8) × (Int × (Int × Unit)))))))))))) : Option ((List UInt8) × (Int × Unit)) := (tcWrite_tree x).eval
def tcWrite : FS Try.prog := ⟨32, tcWrite_ap, tcWrite_rp, tcWrite_fn, fun x r h => fnTr_sound (cod := cod) (Γ := [FS.pf sumFold, FS.pf sumAdd, FS.pf sumOf, FS.pf sumRight, FS.pf sumFix, FS.pf dgWord, FS.pf dgLong, FS.pf dgWordAt, FS.pf dgUnder, FS.pf dgPort, FS.pf dgWrite, FS.pf dgRead, FS.pf tcWord, FS.pf tcLong, FS.pf tcWordAt, FS.pf tcLongAt, FS.pf tcWords, FS.pf tcOptions]) (Λs := [(32, tcWrite_L32_8)]) (n := 30) ((congrArg Tr.eval (tcWrite_eq x)).trans h)⟩
def tcParse_L52_10 : LS := ⟨10, [(4, 4)], ⟨66, [(57, .v (.one (.i .i64))), (0, .v (.one (.s))), (4, .v (.one (.own 4))), (56, .v (.one (.i .i64)))], [(4, .row 119 4 true true)]⟩, [⟨none, [], ⟨66, [(2, .v (.one (.nil))), (3, .v (.one (.b)))], []⟩⟩, ⟨some 2, [(4, 4)], ⟨66, [(4, .v (.one (.own 4)))], [(4, .row 119 4 true true)]⟩⟩], []⟩
def tcParse_step52_10 : (Int × ((List UInt8) × (Int × ((List TOption) × Unit)))) → Tr ((Int × ((List UInt8) × (Int × ((List TOption) × Unit)))) ⊕ ((Bool × Unit) ⊕ ((List TOption) × Unit))) :=
  fun (a0, a1, a2, a3, _) =>
  .ite (decide (a0 < a2)) (
   .grd (decide ((0 : Int) ≤ a0 ∧ a0 < (↑(List.length a1) : Int))) (
   .ite (!decide ((↑(UInt8.toNat (List.getD a1 (Int.toNat a0) (0 : UInt8))) : Int) = (0 : Int))) (
    .ret (Sum.inr (Sum.inl (false, ())))) (
    .grd (decide (List.length a3 = List.length a3)) (
    .ret (Sum.inl (IntKind.wrap IntKind.i64 (a0 + (1 : Int)), (a1, (a2, (a3, ()))))))))) (
   .grd (decide (List.length a3 = List.length a3)) (
   .ret (Sum.inr (Sum.inr (a3, ())))))
def tcParse_loop52_10 (x : (Int × ((List UInt8) × (Int × ((List TOption) × Unit))))) : Option ((Bool × Unit) ⊕ ((List TOption) × Unit)) := loopO 520010 (fun x => (tcParse_step52_10 x).eval) 18446744073709551616 x
def tcParse_L52_2 : LS := ⟨2, [(4, 4)], ⟨66, [(0, .v (.one (.s))), (4, .v (.one (.own 4)))], [(4, .row 119 4 true true)]⟩, [⟨none, [], ⟨66, [(2, .v (.one (.nil))), (3, .v (.one (.b)))], []⟩⟩, ⟨some 0, [(4, 4)], ⟨66, [(0, .v (.one (.s))), (4, .v (.one (.own 4)))], [(4, .row 119 4 true true)]⟩⟩], [(4, 119, 4)]⟩
def tcParse_step52_2 : ((List UInt8) × ((List TOption) × Unit)) → Tr (((List UInt8) × ((List TOption) × Unit)) ⊕ ((Bool × Unit) ⊕ ((List UInt8) × ((List TOption) × Unit)))) :=
  fun (a0, a1, _) =>
  .ite (!decide (a0 = [])) (
   .grd (decide ((0 : Int) ≤ (0 : Int) ∧ (0 : Int) < (↑(List.length a0) : Int))) (
   .ite (!decide ((↑(UInt8.toNat (List.getD a0 (0 : Nat) (0 : UInt8))) : Int) = (0 : Int))) (
    .grd (decide ((0 : Int) ≤ (0 : Int) ∧ (0 : Int) < (↑(List.length a0) : Int))) (
    .ite (decide ((↑(UInt8.toNat (List.getD a0 (0 : Nat) (0 : UInt8))) : Int) = (1 : Int))) (
     .grd (decide ((List.length a1 + List.length [TOption.mk (1 : Int) []]) * (24 : Nat) ≤ (140737488355328 : Nat) ∧ List.length a1 + List.length [TOption.mk (1 : Int) []] ≤ (9223372036854775807 : Nat))) (
     .grd (decide ((0 : Int) ≤ (1 : Int) ∧ (1 : Int) ≤ (↑(List.length a0) : Int) ∧ (↑(List.length a0) : Int) ≤ (↑(List.length a0) : Int))) (
     .grd (decide (List.length (a1 ++ [TOption.mk (1 : Int) []]) = List.length (a1 ++ [TOption.mk (1 : Int) []]))) (
     .ret (Sum.inl (List.drop (1 : Nat) (List.take (Int.toNat (↑(List.length a0) : Int)) a0), (a1 ++ [TOption.mk (1 : Int) []], ()))))))) (
     .ite (decide ((↑(List.length a0) : Int) < (2 : Int))) (
      .ret (Sum.inr (Sum.inl (false, ())))) (
      .grd (decide ((0 : Int) ≤ (1 : Int) ∧ (1 : Int) < (↑(List.length a0) : Int))) (
      .ite (decide ((↑(UInt8.toNat (List.getD a0 (1 : Nat) (0 : UInt8))) : Int) < (2 : Int))) (
       .ret (Sum.inr (Sum.inl (false, ())))) (
       .grd (decide ((0 : Int) ≤ (1 : Int) ∧ (1 : Int) < (↑(List.length a0) : Int))) (
       .ite (decide ((↑(List.length a0) : Int) < IntKind.wrap IntKind.i64 (↑(UInt8.toNat (List.getD a0 (1 : Nat) (0 : UInt8))) : Int))) (
        .ret (Sum.inr (Sum.inl (false, ())))) (
        .grd (decide ((0 : Int) ≤ (1 : Int) ∧ (1 : Int) < (↑(List.length a0) : Int))) (
        .grd (decide ((0 : Int) ≤ (0 : Int) ∧ (0 : Int) < (↑(List.length a0) : Int))) (
        .grd (decide ((0 : Int) ≤ (2 : Int) ∧ (2 : Int) ≤ IntKind.wrap IntKind.i64 (↑(UInt8.toNat (List.getD a0 (1 : Nat) (0 : UInt8))) : Int) ∧ IntKind.wrap IntKind.i64 (↑(UInt8.toNat (List.getD a0 (1 : Nat) (0 : UInt8))) : Int) ≤ (↑(List.length a0) : Int))) (
        .grd (decide ((List.length a1 + List.length [TOption.mk (IntKind.wrap IntKind.i64 (↑(UInt8.toNat (List.getD a0 (0 : Nat) (0 : UInt8))) : Int)) (List.drop (2 : Nat) (List.take (Int.toNat (IntKind.wrap IntKind.i64 (↑(UInt8.toNat (List.getD a0 (1 : Nat) (0 : UInt8))) : Int))) a0))]) * (24 : Nat) ≤ (140737488355328 : Nat) ∧ List.length a1 + List.length [TOption.mk (IntKind.wrap IntKind.i64 (↑(UInt8.toNat (List.getD a0 (0 : Nat) (0 : UInt8))) : Int)) (List.drop (2 : Nat) (List.take (Int.toNat (IntKind.wrap IntKind.i64 (↑(UInt8.toNat (List.getD a0 (1 : Nat) (0 : UInt8))) : Int))) a0))] ≤ (9223372036854775807 : Nat))) (
        .grd (decide ((0 : Int) ≤ IntKind.wrap IntKind.i64 (↑(UInt8.toNat (List.getD a0 (1 : Nat) (0 : UInt8))) : Int) ∧ IntKind.wrap IntKind.i64 (↑(UInt8.toNat (List.getD a0 (1 : Nat) (0 : UInt8))) : Int) ≤ (↑(List.length a0) : Int) ∧ (↑(List.length a0) : Int) ≤ (↑(List.length a0) : Int))) (
        .grd (decide (List.length (a1 ++ [TOption.mk (IntKind.wrap IntKind.i64 (↑(UInt8.toNat (List.getD a0 (0 : Nat) (0 : UInt8))) : Int)) (List.drop (2 : Nat) (List.take (Int.toNat (IntKind.wrap IntKind.i64 (↑(UInt8.toNat (List.getD a0 (1 : Nat) (0 : UInt8))) : Int))) a0))]) = List.length (a1 ++ [TOption.mk (IntKind.wrap IntKind.i64 (↑(UInt8.toNat (List.getD a0 (0 : Nat) (0 : UInt8))) : Int)) (List.drop (2 : Nat) (List.take (Int.toNat (IntKind.wrap IntKind.i64 (↑(UInt8.toNat (List.getD a0 (1 : Nat) (0 : UInt8))) : Int))) a0))]))) (
        .ret (Sum.inl (List.drop (Int.toNat (IntKind.wrap IntKind.i64 (↑(UInt8.toNat (List.getD a0 (1 : Nat) (0 : UInt8))) : Int))) (List.take (Int.toNat (↑(List.length a0) : Int)) a0), (a1 ++ [TOption.mk (IntKind.wrap IntKind.i64 (↑(UInt8.toNat (List.getD a0 (0 : Nat) (0 : UInt8))) : Int)) (List.drop (2 : Nat) (List.take (Int.toNat (IntKind.wrap IntKind.i64 (↑(UInt8.toNat (List.getD a0 (1 : Nat) (0 : UInt8))) : Int))) a0))], ()))))))))))))))))) (
    .grd (decide (List.length a1 = List.length a1)) (
    .ret (Sum.inr (Sum.inr (a0, (a1, ())))))))) (
   .grd (decide (List.length a1 = List.length a1)) (
   .ret (Sum.inr (Sum.inr (a0, (a1, ()))))))
def tcParse_loop52_2 (x : ((List UInt8) × ((List TOption) × Unit))) : Option ((Bool × Unit) ⊕ ((List UInt8) × ((List TOption) × Unit))) := loopO 520002 (fun x => (tcParse_step52_2 x).eval) 18446744073709551616 x
def tcParse_ap : List VP1 := [.one (.s)]
def tcParse_rp : SP := ⟨1, [(0, .tup [.one (.st 4 true), .one (.b)])], []⟩
def tcParse_tree : ((List UInt8) × Unit) → Tr ((List TOption) × (Bool × Unit)) :=
  fun (a0, _) =>
  .grd (true) (
  .opt (β := ((Bool × Unit) ⊕ ((List UInt8) × ((List TOption) × Unit)))) ((tcParse_loop52_2 (a0, ([], ())))) (fun r0 =>
  .sum (β := (Bool × Unit)) (γ := ((List UInt8) × ((List TOption) × Unit))) (r0) (fun r1 =>
   .ret ([], (r1.1, ()))) (fun r1 =>
   .grd (decide (List.length r1.2.fst = List.length r1.2.1)) (
   .opt (β := ((Bool × Unit) ⊕ ((List TOption) × Unit))) ((tcParse_loop52_10 ((0 : Int), (r1.1, ((↑(List.length r1.1) : Int), (r1.2.1, ())))))) (fun r2 =>
   .sum (β := (Bool × Unit)) (γ := ((List TOption) × Unit)) (r2) (fun r3 =>
    .ret ([], (r3.1, ()))) (fun r3 =>
    .ret (r3.1, (true, ()))))))))
theorem tcParse_eq (x : ((List UInt8) × Unit)) : fnTr Try.prog cod [FS.pf sumFold, FS.pf sumAdd, FS.pf sumOf, FS.pf sumRight, FS.pf sumFix, FS.pf dgWord, FS.pf dgLong, FS.pf dgWordAt, FS.pf dgUnder, FS.pf dgPort, FS.pf dgWrite, FS.pf dgRead, FS.pf tcWord, FS.pf tcLong, FS.pf tcWordAt, FS.pf tcLongAt, FS.pf tcWords, FS.pf tcOptions, FS.pf tcWrite] [(52, tcParse_L52_10), (52, tcParse_L52_2)] 30 52 tcParse_ap tcParse_rp x = tcParse_tree x := by kernel_rfl
def tcParse_fn (x : ((List UInt8) × Unit)) : Option ((List TOption) × (Bool × Unit)) := (tcParse_tree x).eval
def tcParse : FS Try.prog := ⟨52, tcParse_ap, tcParse_rp, tcParse_fn, fun x r h => fnTr_sound (cod := cod) (Γ := [FS.pf sumFold, FS.pf sumAdd, FS.pf sumOf, FS.pf sumRight, FS.pf sumFix, FS.pf dgWord, FS.pf dgLong, FS.pf dgWordAt, FS.pf dgUnder, FS.pf dgPort, FS.pf dgWrite, FS.pf dgRead, FS.pf tcWord, FS.pf tcLong, FS.pf tcWordAt, FS.pf tcLongAt, FS.pf tcWords, FS.pf tcOptions, FS.pf tcWrite]) (Λs := [(52, tcParse_L52_10), (52, tcParse_L52_2)]) (n := 30) ((congrArg Tr.eval (tcParse_eq x)).trans h)⟩
def tcRead_ap : List VP1 := [.one (.s), .one (.i .u32), .one (.i .u32)]
def tcRead_rp : SP := ⟨1, [(0, .tup [.agg [.i .i64, .i .i64, .i .u32, .i .u32, .i .i64, .i .i64, .i .i64, .st 4 true, .s], .one (.i .i64)])], []⟩
def tcRead_tree : ((List UInt8) × (Int × (Int × Unit))) → Tr (Int × (Int × (Int × (Int × (Int × (Int × (Int × ((List TOption) × ((List UInt8) × (Int × Unit)))))))))) :=
  fun (a0, a1, a2, _) =>
  .ite (decide ((↑(List.length a0) : Int) < (20 : Int))) (
   .ret ((0 : Int), ((0 : Int), ((0 : Int), ((0 : Int), ((0 : Int), ((0 : Int), ((0 : Int), ([], ([], ((3 : Int), ()))))))))))) (
   .grd (decide ((0 : Int) ≤ (12 : Int) ∧ (12 : Int) < (↑(List.length a0) : Int))) (
   .grd (true) (
   .ite (decide ((↑(List.length a0) : Int) < IntKind.wrap IntKind.i64 (IntKind.wrap IntKind.i64 (Int.tdiv (IntKind.wrap IntKind.i64 (↑(UInt8.toNat (List.getD a0 (12 : Nat) (0 : UInt8))) : Int)) (16 : Int)) * (4 : Int)))) (
    .ret ((0 : Int), ((0 : Int), ((0 : Int), ((0 : Int), ((0 : Int), ((0 : Int), ((0 : Int), ([], ([], ((3 : Int), ()))))))))))) (
    .ite (decide (IntKind.wrap IntKind.i64 (IntKind.wrap IntKind.i64 (Int.tdiv (IntKind.wrap IntKind.i64 (↑(UInt8.toNat (List.getD a0 (12 : Nat) (0 : UInt8))) : Int)) (16 : Int)) * (4 : Int)) < (20 : Int))) (
     .ret ((0 : Int), ((0 : Int), ((0 : Int), ((0 : Int), ((0 : Int), ((0 : Int), ((0 : Int), ([], ([], ((4 : Int), ()))))))))))) (
     .grd (decide ((0 : Int) ≤ (12 : Int) ∧ (12 : Int) < (↑(List.length a0) : Int))) (
     .grd (true) (
     .ite (!decide (Int.tmod (↑(UInt8.toNat (List.getD a0 (12 : Nat) (0 : UInt8))) : Int) (16 : Int) = (0 : Int))) (
      .ret ((0 : Int), ((0 : Int), ((0 : Int), ((0 : Int), ((0 : Int), ((0 : Int), ((0 : Int), ([], ([], ((4 : Int), ()))))))))))) (
      .ite (decide ((65455 : Int) < IntKind.wrap IntKind.i64 ((↑(List.length a0) : Int) - IntKind.wrap IntKind.i64 (IntKind.wrap IntKind.i64 (Int.tdiv (IntKind.wrap IntKind.i64 (↑(UInt8.toNat (List.getD a0 (12 : Nat) (0 : UInt8))) : Int)) (16 : Int)) * (4 : Int))))) (
       .ret ((0 : Int), ((0 : Int), ((0 : Int), ((0 : Int), ((0 : Int), ((0 : Int), ((0 : Int), ([], ([], ((2 : Int), ()))))))))))) (
       .grd (decide ((0 : Int) ≤ (20 : Int) ∧ (20 : Int) ≤ IntKind.wrap IntKind.i64 (IntKind.wrap IntKind.i64 (Int.tdiv (IntKind.wrap IntKind.i64 (↑(UInt8.toNat (List.getD a0 (12 : Nat) (0 : UInt8))) : Int)) (16 : Int)) * (4 : Int)) ∧ IntKind.wrap IntKind.i64 (IntKind.wrap IntKind.i64 (Int.tdiv (IntKind.wrap IntKind.i64 (↑(UInt8.toNat (List.getD a0 (12 : Nat) (0 : UInt8))) : Int)) (16 : Int)) * (4 : Int)) ≤ (↑(List.length a0) : Int))) (
       .opt (β := ((List TOption) × (Bool × Unit))) ((tcParse_fn (List.drop (20 : Nat) (List.take (Int.toNat (IntKind.wrap IntKind.i64 (IntKind.wrap IntKind.i64 (Int.tdiv (IntKind.wrap IntKind.i64 (↑(UInt8.toNat (List.getD a0 (12 : Nat) (0 : UInt8))) : Int)) (16 : Int)) * (4 : Int)))) a0), ()))) (fun r0 =>
       .ite (!r0.2.1) (
        .ret ((0 : Int), ((0 : Int), ((0 : Int), ((0 : Int), ((0 : Int), ((0 : Int), ((0 : Int), ([], ([], ((4 : Int), ()))))))))))) (
        .opt (β := ((List UInt8) × Unit)) ((dgUnder_fn (a1, (a2, ((6 : Int), ((↑(List.length a0) : Int), ())))))) (fun r1 =>
        .grd (decide (List.length r1.1 + List.length a0 ≤ (9223372036854775807 : Nat))) (
        .opt (β := (Bool × Unit)) ((sumRight_fn (r1.1 ++ a0, ()))) (fun r2 =>
        .ite (!r2.1) (
         .ret ((0 : Int), ((0 : Int), ((0 : Int), ((0 : Int), ((0 : Int), ((0 : Int), ((0 : Int), ([], ([], ((5 : Int), ()))))))))))) (
         .opt (β := (Int × Unit)) ((tcWordAt_fn (a0, ((0 : Int), ())))) (fun r3 =>
         .opt (β := (Int × Unit)) ((tcWordAt_fn (a0, ((2 : Int), ())))) (fun r4 =>
         .opt (β := (Int × Unit)) ((tcLongAt_fn (a0, ((4 : Int), ())))) (fun r5 =>
         .opt (β := (Int × Unit)) ((tcLongAt_fn (a0, ((8 : Int), ())))) (fun r6 =>
         .grd (decide ((0 : Int) ≤ (13 : Int) ∧ (13 : Int) < (↑(List.length a0) : Int))) (
         .opt (β := (Int × Unit)) ((tcWordAt_fn (a0, ((14 : Int), ())))) (fun r7 =>
         .opt (β := (Int × Unit)) ((tcWordAt_fn (a0, ((18 : Int), ())))) (fun r8 =>
         .grd (decide ((0 : Int) ≤ IntKind.wrap IntKind.i64 (IntKind.wrap IntKind.i64 (Int.tdiv (IntKind.wrap IntKind.i64 (↑(UInt8.toNat (List.getD a0 (12 : Nat) (0 : UInt8))) : Int)) (16 : Int)) * (4 : Int)) ∧ IntKind.wrap IntKind.i64 (IntKind.wrap IntKind.i64 (Int.tdiv (IntKind.wrap IntKind.i64 (↑(UInt8.toNat (List.getD a0 (12 : Nat) (0 : UInt8))) : Int)) (16 : Int)) * (4 : Int)) ≤ (↑(List.length a0) : Int) ∧ (↑(List.length a0) : Int) ≤ (↑(List.length a0) : Int))) (
         .ret (r3.1, (r4.1, (r5.1, (r6.1, (IntKind.wrap IntKind.i64 (↑(UInt8.toNat (List.getD a0 (13 : Nat) (0 : UInt8))) : Int), (r7.1, (r8.1, (r0.1, (List.drop (Int.toNat (IntKind.wrap IntKind.i64 (IntKind.wrap IntKind.i64 (Int.tdiv (IntKind.wrap IntKind.i64 (↑(UInt8.toNat (List.getD a0 (12 : Nat) (0 : UInt8))) : Int)) (16 : Int)) * (4 : Int)))) (List.take (Int.toNat (↑(List.length a0) : Int)) a0), ((0 : Int), ()))))))))))))))))))))))))))))))))))
theorem tcRead_eq (x : ((List UInt8) × (Int × (Int × Unit)))) : fnTr Try.prog cod [FS.pf sumFold, FS.pf sumAdd, FS.pf sumOf, FS.pf sumRight, FS.pf sumFix, FS.pf dgWord, FS.pf dgLong, FS.pf dgWordAt, FS.pf dgUnder, FS.pf dgPort, FS.pf dgWrite, FS.pf dgRead, FS.pf tcWord, FS.pf tcLong, FS.pf tcWordAt, FS.pf tcLongAt, FS.pf tcWords, FS.pf tcOptions, FS.pf tcWrite, FS.pf tcParse] [] 30 25 tcRead_ap tcRead_rp x = tcRead_tree x := by kernel_rfl
def tcRead_fn (x : ((List UInt8) × (Int × (Int × Unit)))) : Option (Int × (Int × (Int × (Int × (Int × (Int × (Int × ((List TOption) × ((List UInt8) × (Int × Unit)))))))))) := (tcRead_tree x).eval
def tcRead : FS Try.prog := ⟨25, tcRead_ap, tcRead_rp, tcRead_fn, fun x r h => fnTr_sound (cod := cod) (Γ := [FS.pf sumFold, FS.pf sumAdd, FS.pf sumOf, FS.pf sumRight, FS.pf sumFix, FS.pf dgWord, FS.pf dgLong, FS.pf dgWordAt, FS.pf dgUnder, FS.pf dgPort, FS.pf dgWrite, FS.pf dgRead, FS.pf tcWord, FS.pf tcLong, FS.pf tcWordAt, FS.pf tcLongAt, FS.pf tcWords, FS.pf tcOptions, FS.pf tcWrite, FS.pf tcParse]) (Λs := []) (n := 30) ((congrArg Tr.eval (tcRead_eq x)).trans h)⟩
end Go.Proofs.Ytkfpdgibaadmbaa.X
