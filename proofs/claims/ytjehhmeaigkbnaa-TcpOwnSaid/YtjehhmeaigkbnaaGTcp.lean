/- Functions of the program, as trees (printed by a program of mine: tool/XTool, xg.py), each with the proof that the machine comes to what its tree says. Conditions: none. -/
import Derived.Test.YtjehhmeaigkbnaaCod
import Derived.KernelRfl
import Derived.Test.YtjehhmeaigkbnaaGSum
namespace Go.Proofs.Ytjehhmeaigkbnaa.X
open Go Go.RowKit Go.Proofs.Ytjehhmeaigkbnaa.Abs
set_option maxRecDepth 100000
set_option linter.unusedVariables false
theorem clOpt_h1 (xs : List (τ 4)) : (bodyTr Go.Proofs.Try.prog cod 37 [.one (.nn (.st 4 xs))]).eval = (cloneRes 85 4 24 xs).eval := by kernel_rfl
theorem clOpt_h2 : (bodyTr Go.Proofs.Try.prog cod 37 [.one .nil]).eval = some (.one .nil, []) := by kernel_rfl
def clOpt : PF Go.Proofs.Try.prog := clonePF Go.Proofs.Try.prog cod 37 85 4 24 clOpt_h1 clOpt_h2
def eqOpt_L38_4 : LS := ⟨4, [], ⟨26, [(13, .v (.one (.i .i64))), (1, .v (.one (.st 4 false))), (0, .v (.one (.st 4 false))), (12, .v (.one (.i .i64)))], []⟩, [⟨none, [], ⟨26, [(4, .v (.one (.b)))], []⟩⟩, ⟨some 0, [], ⟨26, [], []⟩⟩], []⟩
def eqOpt_step38_4 : (Int × ((List TOption) × ((List TOption) × (Int × Unit)))) → Tr ((Int × ((List TOption) × ((List TOption) × (Int × Unit)))) ⊕ ((Bool × Unit) ⊕ Unit)) :=
  fun (a0, a1, a2, a3, _) =>
  .ite (decide (a0 < a3)) (
   .grd (decide ((0 : Int) ≤ a0)) (
   .opt (β := TOption) (a2[Int.toNat a0]?) (fun r0 =>
   .grd (decide ((0 : Int) ≤ a0)) (
   .opt (β := TOption) (a1[Int.toNat a0]?) (fun r1 =>
   .ite (!(decide (r0.kind = r1.kind) && (decide (r0.data = r1.data) && true))) (
    .ret (Sum.inr (Sum.inl (false, ())))) (
    .ret (Sum.inl (IntKind.wrap IntKind.i64 (a0 + (1 : Int)), (a1, (a2, (a3, ()))))))))))) (
   .ret (Sum.inr (Sum.inr ())))
def eqOpt_loop38_4 (x : (Int × ((List TOption) × ((List TOption) × (Int × Unit))))) : Option ((Bool × Unit) ⊕ Unit) := loopO 380004 (fun x => (eqOpt_step38_4 x).eval) 18446744073709551616 x
def eqOpt_ap : List VP1 := [.one (.st 4 false), .one (.st 4 false)]
def eqOpt_rp : SP := ⟨1, [(0, .v (.one (.b)))], []⟩
def eqOpt_tree : ((List TOption) × ((List TOption) × Unit)) → Tr (Bool × Unit) :=
  fun (a0, a1, _) =>
  .ite (!decide ((↑(List.length a0) : Int) = (↑(List.length a1) : Int))) (
   .ret (false, ())) (
   .opt (β := ((Bool × Unit) ⊕ Unit)) ((eqOpt_loop38_4 ((0 : Int), (a1, (a0, ((↑(List.length a0) : Int), ())))))) (fun r0 =>
   .sum (β := (Bool × Unit)) (γ := Unit) (r0) (fun r1 =>
    .ret (r1.1, ())) (fun r1 =>
    .ret (true, ()))))
theorem eqOpt_eq (x : ((List TOption) × ((List TOption) × Unit))) : fnTr Try.prog cod [FS.pf sumFold, FS.pf sumAdd, FS.pf sumOf, FS.pf sumRight, FS.pf sumFix, FS.pf dgWord, FS.pf dgLong, FS.pf dgWordAt, FS.pf dgUnder, FS.pf dgPort, FS.pf dgWrite, FS.pf dgRead, FS.pf dgWriteNote, FS.pf dgReadNote, FS.pf kWord, clOpt] [(38, eqOpt_L38_4)] 30 38 eqOpt_ap eqOpt_rp x = eqOpt_tree x := by kernel_rfl
def eqOpt_fn (x : ((List TOption) × ((List TOption) × Unit))) : Option (Bool × Unit) := (eqOpt_tree x).eval
def eqOpt : FS Try.prog := ⟨38, eqOpt_ap, eqOpt_rp, eqOpt_fn, fun x r h => fnTr_sound (cod := cod) (Γ := [FS.pf sumFold, FS.pf sumAdd, FS.pf sumOf, FS.pf sumRight, FS.pf sumFix, FS.pf dgWord, FS.pf dgLong, FS.pf dgWordAt, FS.pf dgUnder, FS.pf dgPort, FS.pf dgWrite, FS.pf dgRead, FS.pf dgWriteNote, FS.pf dgReadNote, FS.pf kWord, clOpt]) (Λs := [(38, eqOpt_L38_4)]) (n := 30) ((congrArg Tr.eval (eqOpt_eq x)).trans h)⟩
def tcWord_ap : List VP1 := [.one (.i .i64)]
def tcWord_rp : SP := ⟨1, [(0, .v (.one (.s)))], []⟩
def tcWord_tree : (Int × Unit) → Tr ((List UInt8) × Unit) :=
  fun (a0, _) =>
  .grd (true) (
  .grd (decide ((0 : Int) ≤ IntKind.wrap IntKind.u8 (Int.fdiv a0 ((2 : Int) ^ (8 : Nat))) ∧ IntKind.wrap IntKind.u8 (Int.fdiv a0 ((2 : Int) ^ (8 : Nat))) < (256 : Int))) (
  .grd (decide ((0 : Int) ≤ IntKind.wrap IntKind.u8 a0 ∧ IntKind.wrap IntKind.u8 a0 < (256 : Int))) (
  .ret ([UInt8.ofNat (Int.toNat (IntKind.wrap IntKind.u8 (Int.fdiv a0 ((2 : Int) ^ (8 : Nat))))), UInt8.ofNat (Int.toNat (IntKind.wrap IntKind.u8 a0))], ()))))
theorem tcWord_eq (x : (Int × Unit)) : fnTr Try.prog cod [FS.pf sumFold, FS.pf sumAdd, FS.pf sumOf, FS.pf sumRight, FS.pf sumFix, FS.pf dgWord, FS.pf dgLong, FS.pf dgWordAt, FS.pf dgUnder, FS.pf dgPort, FS.pf dgWrite, FS.pf dgRead, FS.pf dgWriteNote, FS.pf dgReadNote, FS.pf kWord, clOpt, FS.pf eqOpt] [] 30 54 tcWord_ap tcWord_rp x = tcWord_tree x := by kernel_rfl
def tcWord_fn (x : (Int × Unit)) : Option ((List UInt8) × Unit) := (tcWord_tree x).eval
def tcWord : FS Try.prog := ⟨54, tcWord_ap, tcWord_rp, tcWord_fn, fun x r h => fnTr_sound (cod := cod) (Γ := [FS.pf sumFold, FS.pf sumAdd, FS.pf sumOf, FS.pf sumRight, FS.pf sumFix, FS.pf dgWord, FS.pf dgLong, FS.pf dgWordAt, FS.pf dgUnder, FS.pf dgPort, FS.pf dgWrite, FS.pf dgRead, FS.pf dgWriteNote, FS.pf dgReadNote, FS.pf kWord, clOpt, FS.pf eqOpt]) (Λs := []) (n := 30) ((congrArg Tr.eval (tcWord_eq x)).trans h)⟩
def tcLong_ap : List VP1 := [.one (.i .u32)]
def tcLong_rp : SP := ⟨1, [(0, .v (.one (.s)))], []⟩
def tcLong_tree : (Int × Unit) → Tr ((List UInt8) × Unit) :=
  fun (a0, _) =>
  .grd (true) (
  .opt (β := ((List UInt8) × Unit)) ((tcWord_fn (IntKind.wrap IntKind.i64 (Int.fdiv a0 ((2 : Int) ^ (16 : Nat))), ()))) (fun r0 =>
  .opt (β := ((List UInt8) × Unit)) ((tcWord_fn (IntKind.wrap IntKind.i64 a0, ()))) (fun r1 =>
  .grd (decide (List.length r0.1 + List.length r1.1 ≤ (9223372036854775807 : Nat))) (
  .ret (r0.1 ++ r1.1, ())))))
theorem tcLong_eq (x : (Int × Unit)) : fnTr Try.prog cod [FS.pf sumFold, FS.pf sumAdd, FS.pf sumOf, FS.pf sumRight, FS.pf sumFix, FS.pf dgWord, FS.pf dgLong, FS.pf dgWordAt, FS.pf dgUnder, FS.pf dgPort, FS.pf dgWrite, FS.pf dgRead, FS.pf dgWriteNote, FS.pf dgReadNote, FS.pf kWord, clOpt, FS.pf eqOpt, FS.pf tcWord] [] 30 55 tcLong_ap tcLong_rp x = tcLong_tree x := by kernel_rfl
def tcLong_fn (x : (Int × Unit)) : Option ((List UInt8) × Unit) := (tcLong_tree x).eval
def tcLong : FS Try.prog := ⟨55, tcLong_ap, tcLong_rp, tcLong_fn, fun x r h => fnTr_sound (cod := cod) (Γ := [FS.pf sumFold, FS.pf sumAdd, FS.pf sumOf, FS.pf sumRight, FS.pf sumFix, FS.pf dgWord, FS.pf dgLong, FS.pf dgWordAt, FS.pf dgUnder, FS.pf dgPort, FS.pf dgWrite, FS.pf dgRead, FS.pf dgWriteNote, FS.pf dgReadNote, FS.pf kWord, clOpt, FS.pf eqOpt, FS.pf tcWord]) (Λs := []) (n := 30) ((congrArg Tr.eval (tcLong_eq x)).trans h)⟩
def tcWordAt_ap : List VP1 := [.one (.s), .one (.i .i64)]
def tcWordAt_rp : SP := ⟨1, [(0, .v (.one (.i .i64)))], []⟩
def tcWordAt_tree : ((List UInt8) × (Int × Unit)) → Tr (Int × Unit) :=
  fun (a0, a1, _) =>
  .grd (decide ((0 : Int) ≤ a1 ∧ a1 < (↑(List.length a0) : Int))) (
  .grd (true) (
  .grd (decide ((0 : Int) ≤ IntKind.wrap IntKind.i64 (a1 + (1 : Int)) ∧ IntKind.wrap IntKind.i64 (a1 + (1 : Int)) < (↑(List.length a0) : Int))) (
  .ret (bits BinOp.or IntKind.i64 (IntKind.wrap IntKind.i64 (IntKind.wrap IntKind.i64 (↑(UInt8.toNat (List.getD a0 (Int.toNat a1) (0 : UInt8))) : Int) * (2 : Int) ^ (8 : Nat))) (IntKind.wrap IntKind.i64 (↑(UInt8.toNat (List.getD a0 (Int.toNat (IntKind.wrap IntKind.i64 (a1 + (1 : Int)))) (0 : UInt8))) : Int)), ()))))
theorem tcWordAt_eq (x : ((List UInt8) × (Int × Unit))) : fnTr Try.prog cod [FS.pf sumFold, FS.pf sumAdd, FS.pf sumOf, FS.pf sumRight, FS.pf sumFix, FS.pf dgWord, FS.pf dgLong, FS.pf dgWordAt, FS.pf dgUnder, FS.pf dgPort, FS.pf dgWrite, FS.pf dgRead, FS.pf dgWriteNote, FS.pf dgReadNote, FS.pf kWord, clOpt, FS.pf eqOpt, FS.pf tcWord, FS.pf tcLong] [] 30 57 tcWordAt_ap tcWordAt_rp x = tcWordAt_tree x := by kernel_rfl
def tcWordAt_fn (x : ((List UInt8) × (Int × Unit))) : Option (Int × Unit) := (tcWordAt_tree x).eval
def tcWordAt : FS Try.prog := ⟨57, tcWordAt_ap, tcWordAt_rp, tcWordAt_fn, fun x r h => fnTr_sound (cod := cod) (Γ := [FS.pf sumFold, FS.pf sumAdd, FS.pf sumOf, FS.pf sumRight, FS.pf sumFix, FS.pf dgWord, FS.pf dgLong, FS.pf dgWordAt, FS.pf dgUnder, FS.pf dgPort, FS.pf dgWrite, FS.pf dgRead, FS.pf dgWriteNote, FS.pf dgReadNote, FS.pf kWord, clOpt, FS.pf eqOpt, FS.pf tcWord, FS.pf tcLong]) (Λs := []) (n := 30) ((congrArg Tr.eval (tcWordAt_eq x)).trans h)⟩
def tcLongAt_ap : List VP1 := [.one (.s), .one (.i .i64)]
def tcLongAt_rp : SP := ⟨1, [(0, .v (.one (.i .u32)))], []⟩
def tcLongAt_tree : ((List UInt8) × (Int × Unit)) → Tr (Int × Unit) :=
  fun (a0, a1, _) =>
  .opt (β := (Int × Unit)) ((tcWordAt_fn (a0, (a1, ())))) (fun r0 =>
  .grd (true) (
  .opt (β := (Int × Unit)) ((tcWordAt_fn (a0, (IntKind.wrap IntKind.i64 (a1 + (2 : Int)), ())))) (fun r1 =>
  .ret (bits BinOp.or IntKind.u32 (IntKind.wrap IntKind.u32 (IntKind.wrap IntKind.u32 r0.1 * (2 : Int) ^ (16 : Nat))) (IntKind.wrap IntKind.u32 r1.1), ()))))
theorem tcLongAt_eq (x : ((List UInt8) × (Int × Unit))) : fnTr Try.prog cod [FS.pf sumFold, FS.pf sumAdd, FS.pf sumOf, FS.pf sumRight, FS.pf sumFix, FS.pf dgWord, FS.pf dgLong, FS.pf dgWordAt, FS.pf dgUnder, FS.pf dgPort, FS.pf dgWrite, FS.pf dgRead, FS.pf dgWriteNote, FS.pf dgReadNote, FS.pf kWord, clOpt, FS.pf eqOpt, FS.pf tcWord, FS.pf tcLong, FS.pf tcWordAt] [] 30 58 tcLongAt_ap tcLongAt_rp x = tcLongAt_tree x := by kernel_rfl
def tcLongAt_fn (x : ((List UInt8) × (Int × Unit))) : Option (Int × Unit) := (tcLongAt_tree x).eval
def tcLongAt : FS Try.prog := ⟨58, tcLongAt_ap, tcLongAt_rp, tcLongAt_fn, fun x r h => fnTr_sound (cod := cod) (Γ := [FS.pf sumFold, FS.pf sumAdd, FS.pf sumOf, FS.pf sumRight, FS.pf sumFix, FS.pf dgWord, FS.pf dgLong, FS.pf dgWordAt, FS.pf dgUnder, FS.pf dgPort, FS.pf dgWrite, FS.pf dgRead, FS.pf dgWriteNote, FS.pf dgReadNote, FS.pf kWord, clOpt, FS.pf eqOpt, FS.pf tcWord, FS.pf tcLong, FS.pf tcWordAt]) (Λs := []) (n := 30) ((congrArg Tr.eval (tcLongAt_eq x)).trans h)⟩
def tcWords_L65_2 : LS := ⟨2, [], ⟨19, [(8, .v (.one (.i .i64))), (0, .v (.one (.st 0 false))), (1, .v (.one (.clo 64 []))), (7, .v (.one (.i .i64)))], []⟩, [⟨none, [], ⟨19, [(4, .v (.one (.i .i64)))], []⟩⟩, ⟨some 0, [], ⟨19, [], []⟩⟩], []⟩
def tcWords_step65_2 : (Int × ((List Int) × (Int × Unit))) → Tr ((Int × ((List Int) × (Int × Unit))) ⊕ ((Int × Unit) ⊕ Unit)) :=
  fun (a0, a1, a2, _) =>
  .ite (decide (a0 < a2)) (
   .grd (decide ((0 : Int) ≤ a0)) (
   .opt (β := Int) (a1[Int.toNat a0]?) (fun r0 =>
   .ite (decide (r0 < (0 : Int))) (
    .ite (true) (
     .ret (Sum.inr (Sum.inl (a0, ())))) (
     .ret (Sum.inl (IntKind.wrap IntKind.i64 (a0 + (1 : Int)), (a1, (a2, ())))))) (
    .ite (decide ((65535 : Int) < r0)) (
     .ret (Sum.inr (Sum.inl (a0, ())))) (
     .ret (Sum.inl (IntKind.wrap IntKind.i64 (a0 + (1 : Int)), (a1, (a2, ()))))))))) (
   .ret (Sum.inr (Sum.inr ())))
def tcWords_loop65_2 (x : (Int × ((List Int) × (Int × Unit)))) : Option ((Int × Unit) ⊕ Unit) := loopO 650002 (fun x => (tcWords_step65_2 x).eval) 18446744073709551616 x
def tcWords_ap : List VP1 := [.one (.st 0 false)]
def tcWords_rp : SP := ⟨1, [(0, .v (.one (.b)))], []⟩
def tcWords_tree : ((List Int) × Unit) → Tr (Bool × Unit) :=
  fun (a0, _) =>
  .opt (β := ((Int × Unit) ⊕ Unit)) ((tcWords_loop65_2 ((0 : Int), (a0, ((↑(List.length a0) : Int), ()))))) (fun r0 =>
  .sum (β := (Int × Unit)) (γ := Unit) (r0) (fun r1 =>
   .ret (!decide ((0 : Int) ≤ r1.1), ())) (fun r1 =>
   .ret (true, ())))
theorem tcWords_eq (x : ((List Int) × Unit)) : fnTr Try.prog cod [FS.pf sumFold, FS.pf sumAdd, FS.pf sumOf, FS.pf sumRight, FS.pf sumFix, FS.pf dgWord, FS.pf dgLong, FS.pf dgWordAt, FS.pf dgUnder, FS.pf dgPort, FS.pf dgWrite, FS.pf dgRead, FS.pf dgWriteNote, FS.pf dgReadNote, FS.pf kWord, clOpt, FS.pf eqOpt, FS.pf tcWord, FS.pf tcLong, FS.pf tcWordAt, FS.pf tcLongAt] [(65, tcWords_L65_2)] 30 52 tcWords_ap tcWords_rp x = tcWords_tree x := by kernel_rfl
def tcWords_fn (x : ((List Int) × Unit)) : Option (Bool × Unit) := (tcWords_tree x).eval
def tcWords : FS Try.prog := ⟨52, tcWords_ap, tcWords_rp, tcWords_fn, fun x r h => fnTr_sound (cod := cod) (Γ := [FS.pf sumFold, FS.pf sumAdd, FS.pf sumOf, FS.pf sumRight, FS.pf sumFix, FS.pf dgWord, FS.pf dgLong, FS.pf dgWordAt, FS.pf dgUnder, FS.pf dgPort, FS.pf dgWrite, FS.pf dgRead, FS.pf dgWriteNote, FS.pf dgReadNote, FS.pf kWord, clOpt, FS.pf eqOpt, FS.pf tcWord, FS.pf tcLong, FS.pf tcWordAt, FS.pf tcLongAt]) (Λs := [(65, tcWords_L65_2)]) (n := 30) ((congrArg Tr.eval (tcWords_eq x)).trans h)⟩
def tcOptions_L53_3 : LS := ⟨3, [(4, 4)], ⟨60, [(9, .v (.one (.i .i64))), (4, .v (.one (.own 4))), (7, .v (.one (.st 4 false))), (8, .v (.one (.i .i64)))], [(4, .row 5 2 true true)]⟩, [⟨none, [], ⟨60, [(2, .v (.one (.s))), (3, .v (.one (.b)))], []⟩⟩, ⟨some 0, [(4, 4)], ⟨60, [(4, .v (.one (.own 4)))], [(4, .row 5 2 true true)]⟩⟩], [(4, 5, 2)]⟩
def tcOptions_step53_3 : (Int × ((List TOption) × (Int × ((List UInt8) × Unit)))) → Tr ((Int × ((List TOption) × (Int × ((List UInt8) × Unit)))) ⊕ (((List UInt8) × (Bool × Unit)) ⊕ ((List UInt8) × Unit))) :=
  fun (a0, a1, a2, a3, _) =>
  .ite (decide (a0 < a2)) (
   .grd (decide ((0 : Int) ≤ a0)) (
   .opt (β := TOption) (a1[Int.toNat a0]?) (fun r0 =>
   .ite (decide (r0.kind < (1 : Int))) (
    .ret (Sum.inr (Sum.inl ([], (false, ()))))) (
    .ite (decide ((255 : Int) < r0.kind)) (
     .ret (Sum.inr (Sum.inl ([], (false, ()))))) (
     .ite (decide ((38 : Int) < (↑(List.length r0.data) : Int))) (
      .ret (Sum.inr (Sum.inl ([], (false, ()))))) (
      .ite (decide (r0.kind = (1 : Int))) (
       .ite (!decide (r0.data = [])) (
        .ret (Sum.inr (Sum.inl ([], (false, ()))))) (
        .grd (decide ((0 : Int) ≤ IntKind.wrap IntKind.u8 r0.kind ∧ IntKind.wrap IntKind.u8 r0.kind < (256 : Int))) (
        .grd (decide ((List.length a3 + List.length [UInt8.ofNat (Int.toNat (IntKind.wrap IntKind.u8 r0.kind))]) * (1 : Nat) ≤ (140737488355328 : Nat) ∧ List.length a3 + List.length [UInt8.ofNat (Int.toNat (IntKind.wrap IntKind.u8 r0.kind))] ≤ (9223372036854775807 : Nat))) (
        .ite (decide ((1 : Int) < r0.kind)) (
         .grd (decide ((0 : Int) ≤ IntKind.wrap IntKind.u8 (IntKind.wrap IntKind.i64 ((↑(List.length r0.data) : Int) + (2 : Int))) ∧ IntKind.wrap IntKind.u8 (IntKind.wrap IntKind.i64 ((↑(List.length r0.data) : Int) + (2 : Int))) < (256 : Int))) (
         .grd (decide ((List.length (a3 ++ [UInt8.ofNat (Int.toNat (IntKind.wrap IntKind.u8 r0.kind))]) + List.length [UInt8.ofNat (Int.toNat (IntKind.wrap IntKind.u8 (IntKind.wrap IntKind.i64 ((↑(List.length r0.data) : Int) + (2 : Int)))))]) * (1 : Nat) ≤ (140737488355328 : Nat) ∧ List.length (a3 ++ [UInt8.ofNat (Int.toNat (IntKind.wrap IntKind.u8 r0.kind))]) + List.length [UInt8.ofNat (Int.toNat (IntKind.wrap IntKind.u8 (IntKind.wrap IntKind.i64 ((↑(List.length r0.data) : Int) + (2 : Int)))))] ≤ (9223372036854775807 : Nat))) (
         .grd (decide ((List.length (a3 ++ [UInt8.ofNat (Int.toNat (IntKind.wrap IntKind.u8 r0.kind))] ++ [UInt8.ofNat (Int.toNat (IntKind.wrap IntKind.u8 (IntKind.wrap IntKind.i64 ((↑(List.length r0.data) : Int) + (2 : Int)))))]) + List.length r0.data) * (1 : Nat) ≤ (140737488355328 : Nat) ∧ List.length (a3 ++ [UInt8.ofNat (Int.toNat (IntKind.wrap IntKind.u8 r0.kind))] ++ [UInt8.ofNat (Int.toNat (IntKind.wrap IntKind.u8 (IntKind.wrap IntKind.i64 ((↑(List.length r0.data) : Int) + (2 : Int)))))]) + List.length r0.data ≤ (9223372036854775807 : Nat))) (
         .grd (decide (List.length (a3 ++ [UInt8.ofNat (Int.toNat (IntKind.wrap IntKind.u8 r0.kind))] ++ [UInt8.ofNat (Int.toNat (IntKind.wrap IntKind.u8 (IntKind.wrap IntKind.i64 ((↑(List.length r0.data) : Int) + (2 : Int)))))] ++ r0.data) = List.length (a3 ++ [UInt8.ofNat (Int.toNat (IntKind.wrap IntKind.u8 r0.kind))] ++ [UInt8.ofNat (Int.toNat (IntKind.wrap IntKind.u8 (IntKind.wrap IntKind.i64 ((↑(List.length r0.data) : Int) + (2 : Int)))))] ++ r0.data))) (
         .ret (Sum.inl (IntKind.wrap IntKind.i64 (a0 + (1 : Int)), (a1, (a2, (a3 ++ [UInt8.ofNat (Int.toNat (IntKind.wrap IntKind.u8 r0.kind))] ++ [UInt8.ofNat (Int.toNat (IntKind.wrap IntKind.u8 (IntKind.wrap IntKind.i64 ((↑(List.length r0.data) : Int) + (2 : Int)))))] ++ r0.data, ())))))))))) (
         .grd (decide (List.length (a3 ++ [UInt8.ofNat (Int.toNat (IntKind.wrap IntKind.u8 r0.kind))]) = List.length (a3 ++ [UInt8.ofNat (Int.toNat (IntKind.wrap IntKind.u8 r0.kind))]))) (
         .ret (Sum.inl (IntKind.wrap IntKind.i64 (a0 + (1 : Int)), (a1, (a2, (a3 ++ [UInt8.ofNat (Int.toNat (IntKind.wrap IntKind.u8 r0.kind))], ()))))))))))) (
       .grd (decide ((0 : Int) ≤ IntKind.wrap IntKind.u8 r0.kind ∧ IntKind.wrap IntKind.u8 r0.kind < (256 : Int))) (
       .grd (decide ((List.length a3 + List.length [UInt8.ofNat (Int.toNat (IntKind.wrap IntKind.u8 r0.kind))]) * (1 : Nat) ≤ (140737488355328 : Nat) ∧ List.length a3 + List.length [UInt8.ofNat (Int.toNat (IntKind.wrap IntKind.u8 r0.kind))] ≤ (9223372036854775807 : Nat))) (
       .ite (decide ((1 : Int) < r0.kind)) (
        .grd (decide ((0 : Int) ≤ IntKind.wrap IntKind.u8 (IntKind.wrap IntKind.i64 ((↑(List.length r0.data) : Int) + (2 : Int))) ∧ IntKind.wrap IntKind.u8 (IntKind.wrap IntKind.i64 ((↑(List.length r0.data) : Int) + (2 : Int))) < (256 : Int))) (
        .grd (decide ((List.length (a3 ++ [UInt8.ofNat (Int.toNat (IntKind.wrap IntKind.u8 r0.kind))]) + List.length [UInt8.ofNat (Int.toNat (IntKind.wrap IntKind.u8 (IntKind.wrap IntKind.i64 ((↑(List.length r0.data) : Int) + (2 : Int)))))]) * (1 : Nat) ≤ (140737488355328 : Nat) ∧ List.length (a3 ++ [UInt8.ofNat (Int.toNat (IntKind.wrap IntKind.u8 r0.kind))]) + List.length [UInt8.ofNat (Int.toNat (IntKind.wrap IntKind.u8 (IntKind.wrap IntKind.i64 ((↑(List.length r0.data) : Int) + (2 : Int)))))] ≤ (9223372036854775807 : Nat))) (
        .grd (decide ((List.length (a3 ++ [UInt8.ofNat (Int.toNat (IntKind.wrap IntKind.u8 r0.kind))] ++ [UInt8.ofNat (Int.toNat (IntKind.wrap IntKind.u8 (IntKind.wrap IntKind.i64 ((↑(List.length r0.data) : Int) + (2 : Int)))))]) + List.length r0.data) * (1 : Nat) ≤ (140737488355328 : Nat) ∧ List.length (a3 ++ [UInt8.ofNat (Int.toNat (IntKind.wrap IntKind.u8 r0.kind))] ++ [UInt8.ofNat (Int.toNat (IntKind.wrap IntKind.u8 (IntKind.wrap IntKind.i64 ((↑(List.length r0.data) : Int) + (2 : Int)))))]) + List.length r0.data ≤ (9223372036854775807 : Nat))) (
        .grd (decide (List.length (a3 ++ [UInt8.ofNat (Int.toNat (IntKind.wrap IntKind.u8 r0.kind))] ++ [UInt8.ofNat (Int.toNat (IntKind.wrap IntKind.u8 (IntKind.wrap IntKind.i64 ((↑(List.length r0.data) : Int) + (2 : Int)))))] ++ r0.data) = List.length (a3 ++ [UInt8.ofNat (Int.toNat (IntKind.wrap IntKind.u8 r0.kind))] ++ [UInt8.ofNat (Int.toNat (IntKind.wrap IntKind.u8 (IntKind.wrap IntKind.i64 ((↑(List.length r0.data) : Int) + (2 : Int)))))] ++ r0.data))) (
        .ret (Sum.inl (IntKind.wrap IntKind.i64 (a0 + (1 : Int)), (a1, (a2, (a3 ++ [UInt8.ofNat (Int.toNat (IntKind.wrap IntKind.u8 r0.kind))] ++ [UInt8.ofNat (Int.toNat (IntKind.wrap IntKind.u8 (IntKind.wrap IntKind.i64 ((↑(List.length r0.data) : Int) + (2 : Int)))))] ++ r0.data, ())))))))))) (
        .grd (decide (List.length (a3 ++ [UInt8.ofNat (Int.toNat (IntKind.wrap IntKind.u8 r0.kind))]) = List.length (a3 ++ [UInt8.ofNat (Int.toNat (IntKind.wrap IntKind.u8 r0.kind))]))) (
        .ret (Sum.inl (IntKind.wrap IntKind.i64 (a0 + (1 : Int)), (a1, (a2, (a3 ++ [UInt8.ofNat (Int.toNat (IntKind.wrap IntKind.u8 r0.kind))], ())))))))))))))))) (
   .grd (decide (List.length a3 = List.length a3)) (
   .ret (Sum.inr (Sum.inr (a3, ())))))
def tcOptions_loop53_3 (x : (Int × ((List TOption) × (Int × ((List UInt8) × Unit))))) : Option (((List UInt8) × (Bool × Unit)) ⊕ ((List UInt8) × Unit)) := loopO 530003 (fun x => (tcOptions_step53_3 x).eval) 18446744073709551616 x
def tcOptions_ap : List VP1 := [.one (.st 4 false)]
def tcOptions_rp : SP := ⟨1, [(0, .tup [.one (.s), .one (.b)])], []⟩
def tcOptions_tree : ((List TOption) × Unit) → Tr ((List UInt8) × (Bool × Unit)) :=
  fun (a0, _) =>
  .grd (true) (
  .opt (β := (((List UInt8) × (Bool × Unit)) ⊕ ((List UInt8) × Unit))) ((tcOptions_loop53_3 ((0 : Int), (a0, ((↑(List.length a0) : Int), ([], ())))))) (fun r0 =>
  .sum (β := ((List UInt8) × (Bool × Unit))) (γ := ((List UInt8) × Unit)) (r0) (fun r1 =>
   .ret (r1.1, (r1.2.1, ()))) (fun r1 =>
   .ret (r1.1, (true, ())))))
theorem tcOptions_eq (x : ((List TOption) × Unit)) : fnTr Try.prog cod [FS.pf sumFold, FS.pf sumAdd, FS.pf sumOf, FS.pf sumRight, FS.pf sumFix, FS.pf dgWord, FS.pf dgLong, FS.pf dgWordAt, FS.pf dgUnder, FS.pf dgPort, FS.pf dgWrite, FS.pf dgRead, FS.pf dgWriteNote, FS.pf dgReadNote, FS.pf kWord, clOpt, FS.pf eqOpt, FS.pf tcWord, FS.pf tcLong, FS.pf tcWordAt, FS.pf tcLongAt, FS.pf tcWords] [(53, tcOptions_L53_3)] 30 53 tcOptions_ap tcOptions_rp x = tcOptions_tree x := by kernel_rfl
def tcOptions_fn (x : ((List TOption) × Unit)) : Option ((List UInt8) × (Bool × Unit)) := (tcOptions_tree x).eval
def tcOptions : FS Try.prog := ⟨53, tcOptions_ap, tcOptions_rp, tcOptions_fn, fun x r h => fnTr_sound (cod := cod) (Γ := [FS.pf sumFold, FS.pf sumAdd, FS.pf sumOf, FS.pf sumRight, FS.pf sumFix, FS.pf dgWord, FS.pf dgLong, FS.pf dgWordAt, FS.pf dgUnder, FS.pf dgPort, FS.pf dgWrite, FS.pf dgRead, FS.pf dgWriteNote, FS.pf dgReadNote, FS.pf kWord, clOpt, FS.pf eqOpt, FS.pf tcWord, FS.pf tcLong, FS.pf tcWordAt, FS.pf tcLongAt, FS.pf tcWords]) (Λs := [(53, tcOptions_L53_3)]) (n := 30) ((congrArg Tr.eval (tcOptions_eq x)).trans h)⟩
def tcWrite_L32_8 : LS := ⟨8, [(3, 3)], ⟨117, [(8, .v (.one (.s))), (3, .v (.one (.ptr 3 0))), (2, .v (.one (.i .u32))), (1, .v (.one (.i .u32)))], [(3, .cells [.i .i64, .i .i64, .i .u32, .i .u32, .i .i64, .i .i64, .i .i64, .st 4 false, .s])]⟩, [⟨some 0, [(3, 3)], ⟨117, [(3, .v (.one (.ptr 3 0))), (2, .v (.one (.i .u32))), (1, .v (.one (.i .u32))), (8, .v (.one (.s)))], [(3, .cells [.i .i64, .i .i64, .i .u32, .i .u32, .i .i64, .i .i64, .i .i64, .st 4 false, .s])]⟩⟩], []⟩
def tcWrite_step32_8 : ((List UInt8) × (Int × (Int × (Int × (Int × (Int × (Int × (Int × (Int × (Int × ((List TOption) × ((List UInt8) × Unit)))))))))))) → Tr (((List UInt8) × (Int × (Int × (Int × (Int × (Int × (Int × (Int × (Int × (Int × ((List TOption) × ((List UInt8) × Unit)))))))))))) ⊕ (Int × (Int × ((List UInt8) × (Int × (Int × (Int × (Int × (Int × (Int × (Int × ((List TOption) × ((List UInt8) × Unit))))))))))))) :=
  fun (a0, a1, a2, a3, a4, a5, a6, a7, a8, a9, a10, a11, _) =>
  .grd (true) (
  .ite (!decide (Int.tmod (↑(List.length a0) : Int) (4 : Int) = (0 : Int))) (
   .grd (decide (List.length a0 + List.length [(0 : UInt8)] ≤ (9223372036854775807 : Nat))) (
   .ret (Sum.inl (a0 ++ [(0 : UInt8)], (a1, (a2, (a3, (a4, (a5, (a6, (a7, (a8, (a9, (a10, (a11, ()))))))))))))))) (
   .ret (Sum.inr (a1, (a2, (a0, (a3, (a4, (a5, (a6, (a7, (a8, (a9, (a10, (a11, ())))))))))))))))
def tcWrite_loop32_8 (x : ((List UInt8) × (Int × (Int × (Int × (Int × (Int × (Int × (Int × (Int × (Int × ((List TOption) × ((List UInt8) × Unit))))))))))))) : Option (Int × (Int × ((List UInt8) × (Int × (Int × (Int × (Int × (Int × (Int × (Int × ((List TOption) × ((List UInt8) × Unit)))))))))))) := loopO 320008 (fun x => (tcWrite_step32_8 x).eval) 18446744073709551616 x
def tcWrite_ap : List VP1 := [.agg [.i .i64, .i .i64, .i .u32, .i .u32, .i .i64, .i .i64, .i .i64, .st 4 false, .s], .one (.i .u32), .one (.i .u32)]
def tcWrite_rp : SP := ⟨1, [(0, .tup [.one (.s), .one (.i .i64)])], []⟩
def tcWrite_tree : (Int × (Int × (Int × (Int × (Int × (Int × (Int × ((List TOption) × ((List UInt8) × (Int × (Int × Unit))))))))))) → Tr ((List UInt8) × (Int × Unit)) :=
  fun (a0, a1, a2, a3, a4, a5, a6, a7, a8, a9, a10, _) =>
  .opt (β := (Bool × Unit)) ((tcWords_fn ([a0, a1, a5, a6], ()))) (fun r0 =>
  .ite (!r0.1) (
   .ret ([], ((1 : Int), ()))) (
   .ite (decide (a4 < (0 : Int))) (
    .ret ([], ((1 : Int), ()))) (
    .ite (decide ((255 : Int) < a4)) (
     .ret ([], ((1 : Int), ()))) (
     .opt (β := ((List UInt8) × (Bool × Unit))) ((tcOptions_fn (a7, ()))) (fun r1 =>
     .ite (!r1.2.1) (
      .ret ([], ((4 : Int), ()))) (
      .ite (decide ((40 : Int) < (↑(List.length r1.1) : Int))) (
       .ret ([], ((2 : Int), ()))) (
       .ite (decide ((65455 : Int) < (↑(List.length a8) : Int))) (
        .ret ([], ((2 : Int), ()))) (
        .opt (β := (Int × (Int × ((List UInt8) × (Int × (Int × (Int × (Int × (Int × (Int × (Int × ((List TOption) × ((List UInt8) × Unit))))))))))))) ((tcWrite_loop32_8 (r1.1, (a10, (a9, (a0, (a1, (a2, (a3, (a4, (a5, (a6, (a7, (a8, ())))))))))))))) (fun r2 =>
        .opt (β := ((List UInt8) × Unit)) ((tcWord_fn (r2.2.2.2.1, ()))) (fun r3 =>
        .opt (β := ((List UInt8) × Unit)) ((tcWord_fn (r2.2.2.2.2.1, ()))) (fun r4 =>
        .grd (decide (List.length r3.1 + List.length r4.1 ≤ (9223372036854775807 : Nat))) (
        .opt (β := ((List UInt8) × Unit)) ((tcLong_fn (r2.2.2.2.2.2.1, ()))) (fun r5 =>
        .grd (decide (List.length (r3.1 ++ r4.1) + List.length r5.1 ≤ (9223372036854775807 : Nat))) (
        .opt (β := ((List UInt8) × Unit)) ((tcLong_fn (r2.2.2.2.2.2.2.1, ()))) (fun r6 =>
        .grd (decide (List.length (r3.1 ++ r4.1 ++ r5.1) + List.length r6.1 ≤ (9223372036854775807 : Nat))) (
        .grd (decide ((0 : Int) ≤ IntKind.wrap IntKind.u8 (IntKind.wrap IntKind.i64 (IntKind.wrap IntKind.i64 ((20 : Int) + (↑(List.length r2.2.2.1) : Int)) * (4 : Int))) ∧ IntKind.wrap IntKind.u8 (IntKind.wrap IntKind.i64 (IntKind.wrap IntKind.i64 ((20 : Int) + (↑(List.length r2.2.2.1) : Int)) * (4 : Int))) < (256 : Int))) (
        .grd (decide ((0 : Int) ≤ IntKind.wrap IntKind.u8 r2.2.2.2.2.2.2.2.1 ∧ IntKind.wrap IntKind.u8 r2.2.2.2.2.2.2.2.1 < (256 : Int))) (
        .grd (decide (List.length (r3.1 ++ r4.1 ++ r5.1 ++ r6.1) + List.length [UInt8.ofNat (Int.toNat (IntKind.wrap IntKind.u8 (IntKind.wrap IntKind.i64 (IntKind.wrap IntKind.i64 ((20 : Int) + (↑(List.length r2.2.2.1) : Int)) * (4 : Int))))), UInt8.ofNat (Int.toNat (IntKind.wrap IntKind.u8 r2.2.2.2.2.2.2.2.1))] ≤ (9223372036854775807 : Nat))) (
        .opt (β := ((List UInt8) × Unit)) ((tcWord_fn (r2.2.2.2.2.2.2.2.2.1, ()))) (fun r7 =>
        .grd (decide (List.length (r3.1 ++ r4.1 ++ r5.1 ++ r6.1 ++ [UInt8.ofNat (Int.toNat (IntKind.wrap IntKind.u8 (IntKind.wrap IntKind.i64 (IntKind.wrap IntKind.i64 ((20 : Int) + (↑(List.length r2.2.2.1) : Int)) * (4 : Int))))), UInt8.ofNat (Int.toNat (IntKind.wrap IntKind.u8 r2.2.2.2.2.2.2.2.1))]) + List.length r7.1 ≤ (9223372036854775807 : Nat))) (
        .opt (β := ((List UInt8) × Unit)) ((tcWord_fn (r2.2.2.2.2.2.2.2.2.2.1, ()))) (fun r8 =>
        .grd (decide (List.length r8.1 + List.length r2.2.2.1 ≤ (9223372036854775807 : Nat))) (
        .grd (decide (List.length (r8.1 ++ r2.2.2.1) + List.length r2.2.2.2.2.2.2.2.2.2.2.2.1 ≤ (9223372036854775807 : Nat))) (
        .opt (β := ((List UInt8) × Unit)) ((dgUnder_fn (r2.2.1, (r2.1, ((6 : Int), (IntKind.wrap IntKind.i64 (IntKind.wrap IntKind.i64 ((20 : Int) + (↑(List.length r2.2.2.1) : Int)) + (↑(List.length r2.2.2.2.2.2.2.2.2.2.2.2.1) : Int)), ())))))) (fun r9 =>
        .grd (decide (List.length r9.1 + List.length (r3.1 ++ r4.1 ++ r5.1 ++ r6.1 ++ [UInt8.ofNat (Int.toNat (IntKind.wrap IntKind.u8 (IntKind.wrap IntKind.i64 (IntKind.wrap IntKind.i64 ((20 : Int) + (↑(List.length r2.2.2.1) : Int)) * (4 : Int))))), UInt8.ofNat (Int.toNat (IntKind.wrap IntKind.u8 r2.2.2.2.2.2.2.2.1))] ++ r7.1) ≤ (9223372036854775807 : Nat))) (
        .grd (decide (List.length (r9.1 ++ (r3.1 ++ r4.1 ++ r5.1 ++ r6.1 ++ [UInt8.ofNat (Int.toNat (IntKind.wrap IntKind.u8 (IntKind.wrap IntKind.i64 (IntKind.wrap IntKind.i64 ((20 : Int) + (↑(List.length r2.2.2.1) : Int)) * (4 : Int))))), UInt8.ofNat (Int.toNat (IntKind.wrap IntKind.u8 r2.2.2.2.2.2.2.2.1))] ++ r7.1)) + List.length (r8.1 ++ r2.2.2.1 ++ r2.2.2.2.2.2.2.2.2.2.2.2.1) ≤ (9223372036854775807 : Nat))) (
        .opt (β := (Int × Unit)) ((sumOf_fn (r9.1 ++ (r3.1 ++ r4.1 ++ r5.1 ++ r6.1 ++ [UInt8.ofNat (Int.toNat (IntKind.wrap IntKind.u8 (IntKind.wrap IntKind.i64 (IntKind.wrap IntKind.i64 ((20 : Int) + (↑(List.length r2.2.2.1) : Int)) * (4 : Int))))), UInt8.ofNat (Int.toNat (IntKind.wrap IntKind.u8 r2.2.2.2.2.2.2.2.1))] ++ r7.1) ++ (r8.1 ++ r2.2.2.1 ++ r2.2.2.2.2.2.2.2.2.2.2.2.1), ()))) (fun r10 =>
        .opt (β := ((List UInt8) × Unit)) ((tcWord_fn (IntKind.wrap IntKind.i64 r10.1, ()))) (fun r11 =>
        .grd (decide (List.length (r3.1 ++ r4.1 ++ r5.1 ++ r6.1 ++ [UInt8.ofNat (Int.toNat (IntKind.wrap IntKind.u8 (IntKind.wrap IntKind.i64 (IntKind.wrap IntKind.i64 ((20 : Int) + (↑(List.length r2.2.2.1) : Int)) * (4 : Int))))), UInt8.ofNat (Int.toNat (IntKind.wrap IntKind.u8 r2.2.2.2.2.2.2.2.1))] ++ r7.1) + List.length r11.1 ≤ (9223372036854775807 : Nat))) (
        .grd (decide (List.length (r3.1 ++ r4.1 ++ r5.1 ++ r6.1 ++ [UInt8.ofNat (Int.toNat (IntKind.wrap IntKind.u8 (IntKind.wrap IntKind.i64 (IntKind.wrap IntKind.i64 ((20 : Int) + (↑(List.length r2.2.2.1) : Int)) * (4 : Int))))), UInt8.ofNat (Int.toNat (IntKind.wrap IntKind.u8 r2.2.2.2.2.2.2.2.1))] ++ r7.1 ++ r11.1) + List.length (r8.1 ++ r2.2.2.1 ++ r2.2.2.2.2.2.2.2.2.2.2.2.1) ≤ (9223372036854775807 : Nat))) (
        .ret (r3.1 ++ r4.1 ++ r5.1 ++ r6.1 ++ [UInt8.ofNat (Int.toNat (IntKind.wrap IntKind.u8 (IntKind.wrap IntKind.i64 (IntKind.wrap IntKind.i64 ((20 : Int) + (↑(List.length r2.2.2.1) : Int)) * (4 : Int))))), UInt8.ofNat (Int.toNat (IntKind.wrap IntKind.u8 r2.2.2.2.2.2.2.2.1))] ++ r7.1 ++ r11.1 ++ (r8.1 ++ r2.2.2.1 ++ r2.2.2.2.2.2.2.2.2.2.2.2.1), ((0 : Int), ())))))))))))))))))))))))))))))))))
theorem tcWrite_eq (x : (Int × (Int × (Int × (Int × (Int × (Int × (Int × ((List TOption) × ((List UInt8) × (Int × (Int × Unit)))))))))))) : fnTr Try.prog cod [FS.pf sumFold, FS.pf sumAdd, FS.pf sumOf, FS.pf sumRight, FS.pf sumFix, FS.pf dgWord, FS.pf dgLong, FS.pf dgWordAt, FS.pf dgUnder, FS.pf dgPort, FS.pf dgWrite, FS.pf dgRead, FS.pf dgWriteNote, FS.pf dgReadNote, FS.pf kWord, clOpt, FS.pf eqOpt, FS.pf tcWord, FS.pf tcLong, FS.pf tcWordAt, FS.pf tcLongAt, FS.pf tcWords, FS.pf tcOptions] [(32, tcWrite_L32_8)] 30 32 tcWrite_ap tcWrite_rp x = tcWrite_tree x := by kernel_rfl
def tcWrite_fn (x : (Int × (Int × (Int × (Int × (Int × (Int × (Int × ((List TOption) × ((List UInt8) × (Int × (Int × Unit)))))))))))) : Option ((List UInt8) × (Int × Unit)) := (tcWrite_tree x).eval
def tcWrite : FS Try.prog := ⟨32, tcWrite_ap, tcWrite_rp, tcWrite_fn, fun x r h => fnTr_sound (cod := cod) (Γ := [FS.pf sumFold, FS.pf sumAdd, FS.pf sumOf, FS.pf sumRight, FS.pf sumFix, FS.pf dgWord, FS.pf dgLong, FS.pf dgWordAt, FS.pf dgUnder, FS.pf dgPort, FS.pf dgWrite, FS.pf dgRead, FS.pf dgWriteNote, FS.pf dgReadNote, FS.pf kWord, clOpt, FS.pf eqOpt, FS.pf tcWord, FS.pf tcLong, FS.pf tcWordAt, FS.pf tcLongAt, FS.pf tcWords, FS.pf tcOptions]) (Λs := [(32, tcWrite_L32_8)]) (n := 30) ((congrArg Tr.eval (tcWrite_eq x)).trans h)⟩
def tcParse_L56_10 : LS := ⟨10, [(4, 4)], ⟨66, [(57, .v (.one (.i .i64))), (0, .v (.one (.s))), (4, .v (.one (.own 4))), (56, .v (.one (.i .i64)))], [(4, .row 85 4 true true)]⟩, [⟨none, [], ⟨66, [(2, .v (.one (.nil))), (3, .v (.one (.b)))], []⟩⟩, ⟨some 2, [(4, 4)], ⟨66, [(4, .v (.one (.own 4)))], [(4, .row 85 4 true true)]⟩⟩], []⟩
def tcParse_step56_10 : (Int × ((List UInt8) × (Int × ((List TOption) × Unit)))) → Tr ((Int × ((List UInt8) × (Int × ((List TOption) × Unit)))) ⊕ ((Bool × Unit) ⊕ ((List TOption) × Unit))) :=
  fun (a0, a1, a2, a3, _) =>
  .ite (decide (a0 < a2)) (
   .grd (decide ((0 : Int) ≤ a0 ∧ a0 < (↑(List.length a1) : Int))) (
   .ite (!decide ((↑(UInt8.toNat (List.getD a1 (Int.toNat a0) (0 : UInt8))) : Int) = (0 : Int))) (
    .ret (Sum.inr (Sum.inl (false, ())))) (
    .grd (decide (List.length a3 = List.length a3)) (
    .ret (Sum.inl (IntKind.wrap IntKind.i64 (a0 + (1 : Int)), (a1, (a2, (a3, ()))))))))) (
   .grd (decide (List.length a3 = List.length a3)) (
   .ret (Sum.inr (Sum.inr (a3, ())))))
def tcParse_loop56_10 (x : (Int × ((List UInt8) × (Int × ((List TOption) × Unit))))) : Option ((Bool × Unit) ⊕ ((List TOption) × Unit)) := loopO 560010 (fun x => (tcParse_step56_10 x).eval) 18446744073709551616 x
def tcParse_L56_2 : LS := ⟨2, [(4, 4)], ⟨66, [(0, .v (.one (.s))), (4, .v (.one (.own 4)))], [(4, .row 85 4 true true)]⟩, [⟨none, [], ⟨66, [(2, .v (.one (.nil))), (3, .v (.one (.b)))], []⟩⟩, ⟨some 0, [(4, 4)], ⟨66, [(0, .v (.one (.s))), (4, .v (.one (.own 4)))], [(4, .row 85 4 true true)]⟩⟩], [(4, 85, 4)]⟩
def tcParse_step56_2 : ((List UInt8) × ((List TOption) × Unit)) → Tr (((List UInt8) × ((List TOption) × Unit)) ⊕ ((Bool × Unit) ⊕ ((List UInt8) × ((List TOption) × Unit)))) :=
  fun (a0, a1, _) =>
  .ite (!decide (a0 = [])) (
   .grd (decide ((0 : Int) ≤ (0 : Int) ∧ (0 : Int) < (↑(List.length a0) : Int))) (
   .ite (!decide ((↑(UInt8.toNat (List.getD a0 (0 : Nat) (0 : UInt8))) : Int) = (0 : Int))) (
    .grd (decide ((0 : Int) ≤ (0 : Int) ∧ (0 : Int) < (↑(List.length a0) : Int))) (
    .ite (decide ((↑(UInt8.toNat (List.getD a0 (0 : Nat) (0 : UInt8))) : Int) = (1 : Int))) (
     .grd (decide ((List.length a1 + List.length [TOption.mk (1 : Int) []]) * (24 : Nat) ≤ (140737488355328 : Nat) ∧ List.length a1 + List.length [TOption.mk (1 : Int) []] ≤ (9223372036854775807 : Nat))) (
     .grd (decide ((0 : Int) ≤ (1 : Int) ∧ (1 : Int) ≤ (↑(List.length a0) : Int) ∧ (↑(List.length a0) : Int) ≤ (↑(List.length a0) : Int))) (
     .grd (decide (List.length (a1 ++ [TOption.mk (1 : Int) []]) = List.length (a1 ++ [TOption.mk (1 : Int) []]))) (
     .ret (Sum.inl (List.drop (1 : Nat) (List.take (Int.toNat (↑(List.length a0) : Int)) a0), (a1 ++ [TOption.mk (1 : Int) []], ()))))))) (
     .ite (decide ((↑(List.length a0) : Int) < (2 : Int))) (
      .ret (Sum.inr (Sum.inl (false, ())))) (
      .grd (decide ((0 : Int) ≤ (1 : Int) ∧ (1 : Int) < (↑(List.length a0) : Int))) (
      .ite (decide ((↑(UInt8.toNat (List.getD a0 (1 : Nat) (0 : UInt8))) : Int) < (2 : Int))) (
       .ret (Sum.inr (Sum.inl (false, ())))) (
       .grd (decide ((0 : Int) ≤ (1 : Int) ∧ (1 : Int) < (↑(List.length a0) : Int))) (
       .ite (decide ((↑(List.length a0) : Int) < IntKind.wrap IntKind.i64 (↑(UInt8.toNat (List.getD a0 (1 : Nat) (0 : UInt8))) : Int))) (
        .ret (Sum.inr (Sum.inl (false, ())))) (
        .grd (decide ((0 : Int) ≤ (1 : Int) ∧ (1 : Int) < (↑(List.length a0) : Int))) (
        .grd (decide ((0 : Int) ≤ (0 : Int) ∧ (0 : Int) < (↑(List.length a0) : Int))) (
        .grd (decide ((0 : Int) ≤ (2 : Int) ∧ (2 : Int) ≤ IntKind.wrap IntKind.i64 (↑(UInt8.toNat (List.getD a0 (1 : Nat) (0 : UInt8))) : Int) ∧ IntKind.wrap IntKind.i64 (↑(UInt8.toNat (List.getD a0 (1 : Nat) (0 : UInt8))) : Int) ≤ (↑(List.length a0) : Int))) (
        .grd (decide ((List.length a1 + List.length [TOption.mk (IntKind.wrap IntKind.i64 (↑(UInt8.toNat (List.getD a0 (0 : Nat) (0 : UInt8))) : Int)) (List.drop (2 : Nat) (List.take (Int.toNat (IntKind.wrap IntKind.i64 (↑(UInt8.toNat (List.getD a0 (1 : Nat) (0 : UInt8))) : Int))) a0))]) * (24 : Nat) ≤ (140737488355328 : Nat) ∧ List.length a1 + List.length [TOption.mk (IntKind.wrap IntKind.i64 (↑(UInt8.toNat (List.getD a0 (0 : Nat) (0 : UInt8))) : Int)) (List.drop (2 : Nat) (List.take (Int.toNat (IntKind.wrap IntKind.i64 (↑(UInt8.toNat (List.getD a0 (1 : Nat) (0 : UInt8))) : Int))) a0))] ≤ (9223372036854775807 : Nat))) (
        .grd (decide ((0 : Int) ≤ IntKind.wrap IntKind.i64 (↑(UInt8.toNat (List.getD a0 (1 : Nat) (0 : UInt8))) : Int) ∧ IntKind.wrap IntKind.i64 (↑(UInt8.toNat (List.getD a0 (1 : Nat) (0 : UInt8))) : Int) ≤ (↑(List.length a0) : Int) ∧ (↑(List.length a0) : Int) ≤ (↑(List.length a0) : Int))) (
        .grd (decide (List.length (a1 ++ [TOption.mk (IntKind.wrap IntKind.i64 (↑(UInt8.toNat (List.getD a0 (0 : Nat) (0 : UInt8))) : Int)) (List.drop (2 : Nat) (List.take (Int.toNat (IntKind.wrap IntKind.i64 (↑(UInt8.toNat (List.getD a0 (1 : Nat) (0 : UInt8))) : Int))) a0))]) = List.length (a1 ++ [TOption.mk (IntKind.wrap IntKind.i64 (↑(UInt8.toNat (List.getD a0 (0 : Nat) (0 : UInt8))) : Int)) (List.drop (2 : Nat) (List.take (Int.toNat (IntKind.wrap IntKind.i64 (↑(UInt8.toNat (List.getD a0 (1 : Nat) (0 : UInt8))) : Int))) a0))]))) (
        .ret (Sum.inl (List.drop (Int.toNat (IntKind.wrap IntKind.i64 (↑(UInt8.toNat (List.getD a0 (1 : Nat) (0 : UInt8))) : Int))) (List.take (Int.toNat (↑(List.length a0) : Int)) a0), (a1 ++ [TOption.mk (IntKind.wrap IntKind.i64 (↑(UInt8.toNat (List.getD a0 (0 : Nat) (0 : UInt8))) : Int)) (List.drop (2 : Nat) (List.take (Int.toNat (IntKind.wrap IntKind.i64 (↑(UInt8.toNat (List.getD a0 (1 : Nat) (0 : UInt8))) : Int))) a0))], ()))))))))))))))))) (
    .grd (decide (List.length a1 = List.length a1)) (
    .ret (Sum.inr (Sum.inr (a0, (a1, ())))))))) (
   .grd (decide (List.length a1 = List.length a1)) (
   .ret (Sum.inr (Sum.inr (a0, (a1, ()))))))
def tcParse_loop56_2 (x : ((List UInt8) × ((List TOption) × Unit))) : Option ((Bool × Unit) ⊕ ((List UInt8) × ((List TOption) × Unit))) := loopO 560002 (fun x => (tcParse_step56_2 x).eval) 18446744073709551616 x
def tcParse_ap : List VP1 := [.one (.s)]
def tcParse_rp : SP := ⟨1, [(0, .tup [.one (.st 4 true), .one (.b)])], []⟩
def tcParse_tree : ((List UInt8) × Unit) → Tr ((List TOption) × (Bool × Unit)) :=
  fun (a0, _) =>
  .grd (true) (
  .opt (β := ((Bool × Unit) ⊕ ((List UInt8) × ((List TOption) × Unit)))) ((tcParse_loop56_2 (a0, ([], ())))) (fun r0 =>
  .sum (β := (Bool × Unit)) (γ := ((List UInt8) × ((List TOption) × Unit))) (r0) (fun r1 =>
   .ret ([], (r1.1, ()))) (fun r1 =>
   .grd (decide (List.length r1.2.fst = List.length r1.2.1)) (
   .opt (β := ((Bool × Unit) ⊕ ((List TOption) × Unit))) ((tcParse_loop56_10 ((0 : Int), (r1.1, ((↑(List.length r1.1) : Int), (r1.2.1, ())))))) (fun r2 =>
   .sum (β := (Bool × Unit)) (γ := ((List TOption) × Unit)) (r2) (fun r3 =>
    .ret ([], (r3.1, ()))) (fun r3 =>
    .ret (r3.1, (true, ()))))))))
theorem tcParse_eq (x : ((List UInt8) × Unit)) : fnTr Try.prog cod [FS.pf sumFold, FS.pf sumAdd, FS.pf sumOf, FS.pf sumRight, FS.pf sumFix, FS.pf dgWord, FS.pf dgLong, FS.pf dgWordAt, FS.pf dgUnder, FS.pf dgPort, FS.pf dgWrite, FS.pf dgRead, FS.pf dgWriteNote, FS.pf dgReadNote, FS.pf kWord, clOpt, FS.pf eqOpt, FS.pf tcWord, FS.pf tcLong, FS.pf tcWordAt, FS.pf tcLongAt, FS.pf tcWords, FS.pf tcOptions, FS.pf tcWrite] [(56, tcParse_L56_10), (56, tcParse_L56_2)] 30 56 tcParse_ap tcParse_rp x = tcParse_tree x := by kernel_rfl
def tcParse_fn (x : ((List UInt8) × Unit)) : Option ((List TOption) × (Bool × Unit)) := (tcParse_tree x).eval
def tcParse : FS Try.prog := ⟨56, tcParse_ap, tcParse_rp, tcParse_fn, fun x r h => fnTr_sound (cod := cod) (Γ := [FS.pf sumFold, FS.pf sumAdd, FS.pf sumOf, FS.pf sumRight, FS.pf sumFix, FS.pf dgWord, FS.pf dgLong, FS.pf dgWordAt, FS.pf dgUnder, FS.pf dgPort, FS.pf dgWrite, FS.pf dgRead, FS.pf dgWriteNote, FS.pf dgReadNote, FS.pf kWord, clOpt, FS.pf eqOpt, FS.pf tcWord, FS.pf tcLong, FS.pf tcWordAt, FS.pf tcLongAt, FS.pf tcWords, FS.pf tcOptions, FS.pf tcWrite]) (Λs := [(56, tcParse_L56_10), (56, tcParse_L56_2)]) (n := 30) ((congrArg Tr.eval (tcParse_eq x)).trans h)⟩
def tcRead_ap : List VP1 := [.one (.s), .one (.i .u32), .one (.i .u32)]
def tcRead_rp : SP := ⟨1, [(0, .tup [.agg [.i .i64, .i .i64, .i .u32, .i .u32, .i .i64, .i .i64, .i .i64, .st 4 true, .s], .one (.i .i64)])], []⟩
def tcRead_tree : ((List UInt8) × (Int × (Int × Unit))) → Tr (Int × (Int × (Int × (Int × (Int × (Int × (Int × ((List TOption) × ((List UInt8) × (Int × Unit)))))))))) :=
  fun (a0, a1, a2, _) =>
  .ite (decide ((↑(List.length a0) : Int) < (20 : Int))) (
   .ret ((0 : Int), ((0 : Int), ((0 : Int), ((0 : Int), ((0 : Int), ((0 : Int), ((0 : Int), ([], ([], ((3 : Int), ()))))))))))) (
   .grd (decide ((0 : Int) ≤ (12 : Int) ∧ (12 : Int) < (↑(List.length a0) : Int))) (
   .grd (true) (
   .ite (decide ((↑(List.length a0) : Int) < IntKind.wrap IntKind.i64 (IntKind.wrap IntKind.i64 (Int.tdiv (IntKind.wrap IntKind.i64 (↑(UInt8.toNat (List.getD a0 (12 : Nat) (0 : UInt8))) : Int)) (16 : Int)) * (4 : Int)))) (
    .ret ((0 : Int), ((0 : Int), ((0 : Int), ((0 : Int), ((0 : Int), ((0 : Int), ((0 : Int), ([], ([], ((3 : Int), ()))))))))))) (
    .ite (decide (IntKind.wrap IntKind.i64 (IntKind.wrap IntKind.i64 (Int.tdiv (IntKind.wrap IntKind.i64 (↑(UInt8.toNat (List.getD a0 (12 : Nat) (0 : UInt8))) : Int)) (16 : Int)) * (4 : Int)) < (20 : Int))) (
     .ret ((0 : Int), ((0 : Int), ((0 : Int), ((0 : Int), ((0 : Int), ((0 : Int), ((0 : Int), ([], ([], ((4 : Int), ()))))))))))) (
     .grd (decide ((0 : Int) ≤ (12 : Int) ∧ (12 : Int) < (↑(List.length a0) : Int))) (
     .grd (true) (
     .ite (!decide (Int.tmod (↑(UInt8.toNat (List.getD a0 (12 : Nat) (0 : UInt8))) : Int) (16 : Int) = (0 : Int))) (
      .ret ((0 : Int), ((0 : Int), ((0 : Int), ((0 : Int), ((0 : Int), ((0 : Int), ((0 : Int), ([], ([], ((4 : Int), ()))))))))))) (
      .ite (decide ((65455 : Int) < IntKind.wrap IntKind.i64 ((↑(List.length a0) : Int) - IntKind.wrap IntKind.i64 (IntKind.wrap IntKind.i64 (Int.tdiv (IntKind.wrap IntKind.i64 (↑(UInt8.toNat (List.getD a0 (12 : Nat) (0 : UInt8))) : Int)) (16 : Int)) * (4 : Int))))) (
       .ret ((0 : Int), ((0 : Int), ((0 : Int), ((0 : Int), ((0 : Int), ((0 : Int), ((0 : Int), ([], ([], ((2 : Int), ()))))))))))) (
       .grd (decide ((0 : Int) ≤ (20 : Int) ∧ (20 : Int) ≤ IntKind.wrap IntKind.i64 (IntKind.wrap IntKind.i64 (Int.tdiv (IntKind.wrap IntKind.i64 (↑(UInt8.toNat (List.getD a0 (12 : Nat) (0 : UInt8))) : Int)) (16 : Int)) * (4 : Int)) ∧ IntKind.wrap IntKind.i64 (IntKind.wrap IntKind.i64 (Int.tdiv (IntKind.wrap IntKind.i64 (↑(UInt8.toNat (List.getD a0 (12 : Nat) (0 : UInt8))) : Int)) (16 : Int)) * (4 : Int)) ≤ (↑(List.length a0) : Int))) (
       .opt (β := ((List TOption) × (Bool × Unit))) ((tcParse_fn (List.drop (20 : Nat) (List.take (Int.toNat (IntKind.wrap IntKind.i64 (IntKind.wrap IntKind.i64 (Int.tdiv (IntKind.wrap IntKind.i64 (↑(UInt8.toNat (List.getD a0 (12 : Nat) (0 : UInt8))) : Int)) (16 : Int)) * (4 : Int)))) a0), ()))) (fun r0 =>
       .ite (!r0.2.1) (
        .ret ((0 : Int), ((0 : Int), ((0 : Int), ((0 : Int), ((0 : Int), ((0 : Int), ((0 : Int), ([], ([], ((4 : Int), ()))))))))))) (
        .opt (β := ((List UInt8) × Unit)) ((dgUnder_fn (a1, (a2, ((6 : Int), ((↑(List.length a0) : Int), ())))))) (fun r1 =>
        .grd (decide (List.length r1.1 + List.length a0 ≤ (9223372036854775807 : Nat))) (
        .opt (β := (Bool × Unit)) ((sumRight_fn (r1.1 ++ a0, ()))) (fun r2 =>
        .ite (!r2.1) (
         .ret ((0 : Int), ((0 : Int), ((0 : Int), ((0 : Int), ((0 : Int), ((0 : Int), ((0 : Int), ([], ([], ((5 : Int), ()))))))))))) (
         .opt (β := (Int × Unit)) ((tcWordAt_fn (a0, ((0 : Int), ())))) (fun r3 =>
         .opt (β := (Int × Unit)) ((tcWordAt_fn (a0, ((2 : Int), ())))) (fun r4 =>
         .opt (β := (Int × Unit)) ((tcLongAt_fn (a0, ((4 : Int), ())))) (fun r5 =>
         .opt (β := (Int × Unit)) ((tcLongAt_fn (a0, ((8 : Int), ())))) (fun r6 =>
         .grd (decide ((0 : Int) ≤ (13 : Int) ∧ (13 : Int) < (↑(List.length a0) : Int))) (
         .opt (β := (Int × Unit)) ((tcWordAt_fn (a0, ((14 : Int), ())))) (fun r7 =>
         .opt (β := (Int × Unit)) ((tcWordAt_fn (a0, ((18 : Int), ())))) (fun r8 =>
         .grd (decide ((0 : Int) ≤ IntKind.wrap IntKind.i64 (IntKind.wrap IntKind.i64 (Int.tdiv (IntKind.wrap IntKind.i64 (↑(UInt8.toNat (List.getD a0 (12 : Nat) (0 : UInt8))) : Int)) (16 : Int)) * (4 : Int)) ∧ IntKind.wrap IntKind.i64 (IntKind.wrap IntKind.i64 (Int.tdiv (IntKind.wrap IntKind.i64 (↑(UInt8.toNat (List.getD a0 (12 : Nat) (0 : UInt8))) : Int)) (16 : Int)) * (4 : Int)) ≤ (↑(List.length a0) : Int) ∧ (↑(List.length a0) : Int) ≤ (↑(List.length a0) : Int))) (
         .ret (r3.1, (r4.1, (r5.1, (r6.1, (IntKind.wrap IntKind.i64 (↑(UInt8.toNat (List.getD a0 (13 : Nat) (0 : UInt8))) : Int), (r7.1, (r8.1, (r0.1, (List.drop (Int.toNat (IntKind.wrap IntKind.i64 (IntKind.wrap IntKind.i64 (Int.tdiv (IntKind.wrap IntKind.i64 (↑(UInt8.toNat (List.getD a0 (12 : Nat) (0 : UInt8))) : Int)) (16 : Int)) * (4 : Int)))) (List.take (Int.toNat (↑(List.length a0) : Int)) a0), ((0 : Int), ()))))))))))))))))))))))))))))))))))
theorem tcRead_eq (x : ((List UInt8) × (Int × (Int × Unit)))) : fnTr Try.prog cod [FS.pf sumFold, FS.pf sumAdd, FS.pf sumOf, FS.pf sumRight, FS.pf sumFix, FS.pf dgWord, FS.pf dgLong, FS.pf dgWordAt, FS.pf dgUnder, FS.pf dgPort, FS.pf dgWrite, FS.pf dgRead, FS.pf dgWriteNote, FS.pf dgReadNote, FS.pf kWord, clOpt, FS.pf eqOpt, FS.pf tcWord, FS.pf tcLong, FS.pf tcWordAt, FS.pf tcLongAt, FS.pf tcWords, FS.pf tcOptions, FS.pf tcWrite, FS.pf tcParse] [] 30 33 tcRead_ap tcRead_rp x = tcRead_tree x := by kernel_rfl
def tcRead_fn (x : ((List UInt8) × (Int × (Int × Unit)))) : Option (Int × (Int × (Int × (Int × (Int × (Int × (Int × ((List TOption) × ((List UInt8) × (Int × Unit)))))))))) := (tcRead_tree x).eval
def tcRead : FS Try.prog := ⟨33, tcRead_ap, tcRead_rp, tcRead_fn, fun x r h => fnTr_sound (cod := cod) (Γ := [FS.pf sumFold, FS.pf sumAdd, FS.pf sumOf, FS.pf sumRight, FS.pf sumFix, FS.pf dgWord, FS.pf dgLong, FS.pf dgWordAt, FS.pf dgUnder, FS.pf dgPort, FS.pf dgWrite, FS.pf dgRead, FS.pf dgWriteNote, FS.pf dgReadNote, FS.pf kWord, clOpt, FS.pf eqOpt, FS.pf tcWord, FS.pf tcLong, FS.pf tcWordAt, FS.pf tcLongAt, FS.pf tcWords, FS.pf tcOptions, FS.pf tcWrite, FS.pf tcParse]) (Λs := []) (n := 30) ((congrArg Tr.eval (tcRead_eq x)).trans h)⟩
def tcMss_L59_2 : LS := ⟨2, [], ⟨26, [(9, .v (.one (.i .i64))), (7, .v (.one (.st 4 false))), (8, .v (.one (.i .i64)))], []⟩, [⟨none, [], ⟨26, [(2, .v (.one (.i .i64))), (3, .v (.one (.b)))], []⟩⟩, ⟨some 0, [], ⟨26, [], []⟩⟩], []⟩
def tcMss_step59_2 : (Int × ((List TOption) × (Int × Unit))) → Tr ((Int × ((List TOption) × (Int × Unit))) ⊕ ((Int × (Bool × Unit)) ⊕ Unit)) :=
  fun (a0, a1, a2, _) =>
  .ite (decide (a0 < a2)) (
   .grd (decide ((0 : Int) ≤ a0)) (
   .opt (β := TOption) (a1[Int.toNat a0]?) (fun r0 =>
   .ite (decide (r0.kind = (2 : Int))) (
    .ite (decide ((↑(List.length r0.data) : Int) = (2 : Int))) (
     .opt (β := (Int × Unit)) ((tcWordAt_fn (r0.data, ((0 : Int), ())))) (fun r1 =>
     .ret (Sum.inr (Sum.inl (r1.1, (true, ())))))) (
     .ret (Sum.inl (IntKind.wrap IntKind.i64 (a0 + (1 : Int)), (a1, (a2, ())))))) (
    .ret (Sum.inl (IntKind.wrap IntKind.i64 (a0 + (1 : Int)), (a1, (a2, ())))))))) (
   .ret (Sum.inr (Sum.inr ())))
def tcMss_loop59_2 (x : (Int × ((List TOption) × (Int × Unit)))) : Option ((Int × (Bool × Unit)) ⊕ Unit) := loopO 590002 (fun x => (tcMss_step59_2 x).eval) 18446744073709551616 x
def tcMss_ap : List VP1 := [.agg [.i .i64, .i .i64, .i .u32, .i .u32, .i .i64, .i .i64, .i .i64, .st 4 false, .s]]
def tcMss_rp : SP := ⟨1, [(0, .tup [.one (.i .i64), .one (.b)])], []⟩
def tcMss_tree : (Int × (Int × (Int × (Int × (Int × (Int × (Int × ((List TOption) × ((List UInt8) × Unit))))))))) → Tr (Int × (Bool × Unit)) :=
  fun (a0, a1, a2, a3, a4, a5, a6, a7, a8, _) =>
  .opt (β := ((Int × (Bool × Unit)) ⊕ Unit)) ((tcMss_loop59_2 ((0 : Int), (a7, ((↑(List.length a7) : Int), ()))))) (fun r0 =>
  .sum (β := (Int × (Bool × Unit))) (γ := Unit) (r0) (fun r1 =>
   .ret (r1.1, (r1.2.1, ()))) (fun r1 =>
   .ret ((0 : Int), (false, ()))))
theorem tcMss_eq (x : (Int × (Int × (Int × (Int × (Int × (Int × (Int × ((List TOption) × ((List UInt8) × Unit)))))))))) : fnTr Try.prog cod [FS.pf sumFold, FS.pf sumAdd, FS.pf sumOf, FS.pf sumRight, FS.pf sumFix, FS.pf dgWord, FS.pf dgLong, FS.pf dgWordAt, FS.pf dgUnder, FS.pf dgPort, FS.pf dgWrite, FS.pf dgRead, FS.pf dgWriteNote, FS.pf dgReadNote, FS.pf kWord, clOpt, FS.pf eqOpt, FS.pf tcWord, FS.pf tcLong, FS.pf tcWordAt, FS.pf tcLongAt, FS.pf tcWords, FS.pf tcOptions, FS.pf tcWrite, FS.pf tcParse, FS.pf tcRead] [(59, tcMss_L59_2)] 30 59 tcMss_ap tcMss_rp x = tcMss_tree x := by kernel_rfl
def tcMss_fn (x : (Int × (Int × (Int × (Int × (Int × (Int × (Int × ((List TOption) × ((List UInt8) × Unit)))))))))) : Option (Int × (Bool × Unit)) := (tcMss_tree x).eval
def tcMss : FS Try.prog := ⟨59, tcMss_ap, tcMss_rp, tcMss_fn, fun x r h => fnTr_sound (cod := cod) (Γ := [FS.pf sumFold, FS.pf sumAdd, FS.pf sumOf, FS.pf sumRight, FS.pf sumFix, FS.pf dgWord, FS.pf dgLong, FS.pf dgWordAt, FS.pf dgUnder, FS.pf dgPort, FS.pf dgWrite, FS.pf dgRead, FS.pf dgWriteNote, FS.pf dgReadNote, FS.pf kWord, clOpt, FS.pf eqOpt, FS.pf tcWord, FS.pf tcLong, FS.pf tcWordAt, FS.pf tcLongAt, FS.pf tcWords, FS.pf tcOptions, FS.pf tcWrite, FS.pf tcParse, FS.pf tcRead]) (Λs := [(59, tcMss_L59_2)]) (n := 30) ((congrArg Tr.eval (tcMss_eq x)).trans h)⟩
def tcMove_L36_12 : LS := ⟨12, [(8, 8), (3, 3), (14000, 14000), (6, 6)], ⟨72, [(10, .v (.one (.i .i64))), (2, .v (.one (.i .u32))), (8, .v (.one (.ptr 8 0))), (9, .v (.one (.s))), (3, .v (.one (.ptr 3 0))), (31, .v (.one (.own 14000))), (6, .v (.one (.ptr 6 0))), (32, .v (.one (.i .i64))), (33, .v (.one (.i .i64))), (7, .v (.one (.i .i64)))], [(8, .cells [.i .i64, .s]), (3, .cells [.i .i64, .i .i64, .i .u32, .i .u32, .i .i64, .i .i64, .i .i64, .own 14000, .s]), (14000, .row 85 4 true true), (6, .cells [.i .i64, .i .i64, .i .u32, .i .u32, .i .i64, .i .i64, .i .i64, .nil, .s])]⟩, [⟨some 2, [(3, 3), (14000, 14000), (6, 6)], ⟨72, [(2, .v (.one (.i .u32))), (3, .v (.one (.ptr 3 0))), (31, .v (.one (.own 14000))), (6, .v (.one (.ptr 6 0))), (32, .v (.one (.i .i64))), (33, .v (.one (.i .i64))), (9, .v (.one (.s))), (7, .v (.one (.i .i64)))], [(3, .cells [.i .i64, .i .i64, .i .u32, .i .u32, .i .i64, .i .i64, .i .i64, .own 14000, .s]), (14000, .row 85 4 true true), (6, .cells [.i .i64, .i .i64, .i .u32, .i .u32, .i .i64, .i .i64, .i .i64, .nil, .s])]⟩⟩], []⟩
def tcMove_step36_12 : (Int × (Int × ((List UInt8) × (Int × (Int × (Int × (Int × ((List UInt8) × (Int × (Int × (Int × (Int × (Int × (Int × (Int × ((List UInt8) × ((List TOption) × (Int × (Int × (Int × (Int × (Int × (Int × (Int × ((List UInt8) × Unit))))))))))))))))))))))))) → Tr ((Int × (Int × ((List UInt8) × (Int × (Int × (Int × (Int × ((List UInt8) × (Int × (Int × (Int × (Int × (Int × (Int × (Int × ((List UInt8) × ((List TOption) × (Int × (Int × (Int × (Int × (Int × (Int × (Int × ((List UInt8) × Unit))))))))))))))))))))))))) ⊕ (Int × (Int × (Int × ((List UInt8) × (Int × (Int × (Int × (Int × (Int × (Int × (Int × (Int × ((List UInt8) × ((List TOption) × (Int × (Int × (Int × (Int × (Int × (Int × (Int × ((List UInt8) × Unit))))))))))))))))))))))) :=
  fun (a0, a1, a2, a3, a4, a5, a6, a7, a8, a9, a10, a11, a12, a13, a14, a15, a16, a17, a18, a19, a20, a21, a22, a23, a24, _) =>
  .ite (decide (a0 < (↑(List.length a7) : Int))) (
   .opt (β := (Int × Unit)) ((tcLongAt_fn (a7, (a0, ())))) (fun r0 =>
   .opt (β := ((List UInt8) × Unit)) ((tcLong_fn (IntKind.wrap IntKind.u32 (r0.1 + a1), ()))) (fun r1 =>
   .grd (decide (List.length a2 + List.length r1.1 ≤ (9223372036854775807 : Nat))) (
   .grd (decide (List.length a16 = List.length a16)) (
   .grd (decide (List.length a16 = List.length a16)) (
   .ret (Sum.inl (IntKind.wrap IntKind.i64 (a0 + (4 : Int)), (a1, (a2 ++ r1.1, (a3, (a4, (a5, (a6, (a7, (a8, (a9, (a10, (a11, (a12, (a13, (a14, (a15, (a16, (a17, (a18, (a19, (a20, (a21, (a22, (a23, (a24, ())))))))))))))))))))))))))))))))) (
   .grd (decide (List.length a16 = List.length a16)) (
   .grd (decide (List.length a16 = List.length a16)) (
   .ret (Sum.inr (a1, (a3, (a4, (a2, (a5, (a8, (a9, (a10, (a11, (a12, (a13, (a14, (a15, (a16, (a17, (a18, (a19, (a20, (a21, (a22, (a23, (a24, ()))))))))))))))))))))))))))
def tcMove_loop36_12 (x : (Int × (Int × ((List UInt8) × (Int × (Int × (Int × (Int × ((List UInt8) × (Int × (Int × (Int × (Int × (Int × (Int × (Int × ((List UInt8) × ((List TOption) × (Int × (Int × (Int × (Int × (Int × (Int × (Int × ((List UInt8) × Unit)))))))))))))))))))))))))) : Option (Int × (Int × (Int × ((List UInt8) × (Int × (Int × (Int × (Int × (Int × (Int × (Int × (Int × ((List UInt8) × ((List TOption) × (Int × (Int × (Int × (Int × (Int × (Int × (Int × ((List UInt8) × Unit)))))))))))))))))))))) := loopO 360012 (fun x => (tcMove_step36_12 x).eval) 18446744073709551616 x
def tcMove_L36_7 : LS := ⟨7, [(3, 3), (14000, 14000), (6, 6)], ⟨72, [(33, .v (.one (.i .i64))), (2, .v (.one (.i .u32))), (3, .v (.one (.ptr 3 0))), (31, .v (.one (.own 14000))), (6, .v (.one (.ptr 6 0))), (32, .v (.one (.i .i64)))], [(3, .cells [.i .i64, .i .i64, .i .u32, .i .u32, .i .i64, .i .i64, .i .i64, .own 14000, .s]), (14000, .row 85 4 true true), (6, .cells [.i .i64, .i .i64, .i .u32, .i .u32, .i .i64, .i .i64, .i .i64, .nil, .s])]⟩, [⟨some 0, [(6, 6), (3, 3), (14000, 14000)], ⟨72, [(6, .v (.one (.ptr 6 0))), (3, .v (.one (.ptr 3 0)))], [(6, .cells [.i .i64, .i .i64, .i .u32, .i .u32, .i .i64, .i .i64, .i .i64, .nil, .s]), (3, .cells [.i .i64, .i .i64, .i .u32, .i .u32, .i .i64, .i .i64, .i .i64, .own 14000, .s]), (14000, .row 85 4 true true)]⟩⟩], []⟩
def tcMove_step36_7 : (Int × (Int × (Int × (Int × (Int × (Int × (Int × (Int × (Int × (Int × ((List UInt8) × ((List TOption) × (Int × (Int × (Int × (Int × (Int × (Int × (Int × ((List UInt8) × Unit)))))))))))))))))))) → Tr ((Int × (Int × (Int × (Int × (Int × (Int × (Int × (Int × (Int × (Int × ((List UInt8) × ((List TOption) × (Int × (Int × (Int × (Int × (Int × (Int × (Int × ((List UInt8) × Unit)))))))))))))))))))) ⊕ (Int × (Int × (Int × (Int × (Int × (Int × (Int × ((List UInt8) × (Int × (Int × (Int × (Int × (Int × (Int × (Int × ((List UInt8) × ((List TOption) × Unit)))))))))))))))))) :=
  fun (a0, a1, a2, a3, a4, a5, a6, a7, a8, a9, a10, a11, a12, a13, a14, a15, a16, a17, a18, a19, _) =>
  .ite (decide (a0 < a2)) (
   .grd (decide ((0 : Int) ≤ a0 ∧ a0 < (↑(List.length a11) : Int))) (
   .opt (β := TOption) (a11[Int.toNat a0]?) (fun r0 =>
   .ite (!decide (r0.kind = (5 : Int))) (
    .grd (decide (List.length a11 = List.length a11)) (
    .grd (decide (List.length a11 = List.length a11)) (
    .ret (Sum.inl (IntKind.wrap IntKind.i64 (a0 + (1 : Int)), (a1, (a2, (a3, (a4, (a5, (a6, (a7, (a8, (a9, (a10, (a11, (a12, (a13, (a14, (a15, (a16, (a17, (a18, (a19, ())))))))))))))))))))))))) (
    .grd (true) (
    .ite (!decide (Int.tmod (↑(List.length r0.data) : Int) (8 : Int) = (0 : Int))) (
     .grd (decide (List.length a11 = List.length a11)) (
     .grd (decide (List.length a11 = List.length a11)) (
     .ret (Sum.inl (IntKind.wrap IntKind.i64 (a0 + (1 : Int)), (a1, (a2, (a3, (a4, (a5, (a6, (a7, (a8, (a9, (a10, (a11, (a12, (a13, (a14, (a15, (a16, (a17, (a18, (a19, ())))))))))))))))))))))))) (
     .grd (decide (List.length a11 = List.length a11)) (
     .grd (decide (List.length a11 = List.length a11)) (
     .opt (β := (Int × (Int × (Int × ((List UInt8) × (Int × (Int × (Int × (Int × (Int × (Int × (Int × (Int × ((List UInt8) × ((List TOption) × (Int × (Int × (Int × (Int × (Int × (Int × (Int × ((List UInt8) × Unit))))))))))))))))))))))) ((tcMove_loop36_12 ((0 : Int), (a1, ([], (a2, (a0, (a0, (r0.kind, (r0.data, (a3, (a4, (a5, (a6, (a7, (a8, (a9, (a10, (a11, (a12, (a13, (a14, (a15, (a16, (a17, (a18, (a19, ()))))))))))))))))))))))))))) (fun r1 =>
     .grd (decide ((0 : Int) ≤ r1.2.2.2.2.1 ∧ r1.2.2.2.2.1 < (↑(List.length r1.2.2.2.2.2.2.2.2.2.2.2.2.2.fst) : Int))) (
     .opt (β := TOption) (r1.2.2.2.2.2.2.2.2.2.2.2.2.2.1[Int.toNat r1.2.2.2.2.1]?) (fun r2 =>
     .grd (decide (List.length r1.2.2.2.2.2.2.2.2.2.2.2.2.2.fst = List.length (List.set r1.2.2.2.2.2.2.2.2.2.2.2.2.2.1 (Int.toNat r1.2.2.2.2.1) (TOption.mk r2.kind r1.2.2.2.1)))) (
     .grd (decide (List.length r1.2.2.2.2.2.2.2.2.2.2.2.2.2.fst = List.length (List.set r1.2.2.2.2.2.2.2.2.2.2.2.2.2.1 (Int.toNat r1.2.2.2.2.1) (TOption.mk r2.kind r1.2.2.2.1)))) (
     .ret (Sum.inl (IntKind.wrap IntKind.i64 (r1.2.2.1 + (1 : Int)), (r1.1, (r1.2.1, (r1.2.2.2.2.2.1, (r1.2.2.2.2.2.2.1, (r1.2.2.2.2.2.2.2.1, (r1.2.2.2.2.2.2.2.2.1, (r1.2.2.2.2.2.2.2.2.2.1, (r1.2.2.2.2.2.2.2.2.2.2.1, (r1.2.2.2.2.2.2.2.2.2.2.2.1, (r1.2.2.2.2.2.2.2.2.2.2.2.2.1, (List.set r1.2.2.2.2.2.2.2.2.2.2.2.2.2.1 (Int.toNat r1.2.2.2.2.1) (TOption.mk r2.kind r1.2.2.2.1), (r1.2.2.2.2.2.2.2.2.2.2.2.2.2.2.1, (r1.2.2.2.2.2.2.2.2.2.2.2.2.2.2.2.1, (r1.2.2.2.2.2.2.2.2.2.2.2.2.2.2.2.2.1, (r1.2.2.2.2.2.2.2.2.2.2.2.2.2.2.2.2.2.1, (r1.2.2.2.2.2.2.2.2.2.2.2.2.2.2.2.2.2.2.1, (r1.2.2.2.2.2.2.2.2.2.2.2.2.2.2.2.2.2.2.2.1, (r1.2.2.2.2.2.2.2.2.2.2.2.2.2.2.2.2.2.2.2.2.1, (r1.2.2.2.2.2.2.2.2.2.2.2.2.2.2.2.2.2.2.2.2.2.1, ())))))))))))))))))))))))))))))))))) (
   .grd (decide (List.length a11 = List.length a11)) (
   .ret (Sum.inr (a12, (a13, (a14, (a15, (a16, (a17, (a18, (a19, (a3, (a4, (a5, (a6, (a7, (a8, (a9, (a10, (a11, ()))))))))))))))))))))
def tcMove_loop36_7 (x : (Int × (Int × (Int × (Int × (Int × (Int × (Int × (Int × (Int × (Int × ((List UInt8) × ((List TOption) × (Int × (Int × (Int × (Int × (Int × (Int × (Int × ((List UInt8) × Unit))))))))))))))))))))) : Option (Int × (Int × (Int × (Int × (Int × (Int × (Int × ((List UInt8) × (Int × (Int × (Int × (Int × (Int × (Int × (Int × ((List UInt8) × ((List TOption) × Unit))))))))))))))))) := loopO 360007 (fun x => (tcMove_step36_7 x).eval) 18446744073709551616 x
def tcMove_ap : List VP1 := [.agg [.i .i64, .i .i64, .i .u32, .i .u32, .i .i64, .i .i64, .i .i64, .st 4 false, .s], .one (.i .u32), .one (.i .u32)]
def tcMove_rp : SP := ⟨1, [(0, .v (.agg [.i .i64, .i .i64, .i .u32, .i .u32, .i .i64, .i .i64, .i .i64, .st 4 true, .s]))], []⟩
def tcMove_tree : (Int × (Int × (Int × (Int × (Int × (Int × (Int × ((List TOption) × ((List UInt8) × (Int × (Int × Unit))))))))))) → Tr (Int × (Int × (Int × (Int × (Int × (Int × (Int × ((List TOption) × ((List UInt8) × Unit))))))))) :=
  fun (a0, a1, a2, a3, a4, a5, a6, a7, a8, a9, a10, _) =>
  .grd (decide (((0 : Nat) + List.length a7) * (24 : Nat) ≤ (140737488355328 : Nat) ∧ (0 : Nat) + List.length a7 ≤ (9223372036854775807 : Nat))) (
  .ite (decide (bits BinOp.and IntKind.i64 a4 (16 : Int) = (0 : Int))) (
   .ret (a0, (a1, (IntKind.wrap IntKind.u32 (a2 + a9), (a3, (a4, (a5, (a6, (a7, (a8, ())))))))))) (
   .grd (decide (List.length a7 = List.length a7)) (
   .grd (decide (List.length a7 = List.length a7)) (
   .opt (β := (Int × (Int × (Int × (Int × (Int × (Int × (Int × ((List UInt8) × (Int × (Int × (Int × (Int × (Int × (Int × (Int × ((List UInt8) × ((List TOption) × Unit)))))))))))))))))) ((tcMove_loop36_7 ((0 : Int), (a10, ((↑(List.length a7) : Int), (a0, (a1, (IntKind.wrap IntKind.u32 (a2 + a9), (IntKind.wrap IntKind.u32 (a3 + a10), (a4, (a5, (a6, (a8, (a7, ((0 : Int), ((0 : Int), ((0 : Int), ((0 : Int), ((0 : Int), ((0 : Int), ((0 : Int), ([], ())))))))))))))))))))))) (fun r0 =>
   .ret (r0.2.2.2.2.2.2.2.2.1, (r0.2.2.2.2.2.2.2.2.2.1, (r0.2.2.2.2.2.2.2.2.2.2.1, (r0.2.2.2.2.2.2.2.2.2.2.2.1, (r0.2.2.2.2.2.2.2.2.2.2.2.2.1, (r0.2.2.2.2.2.2.2.2.2.2.2.2.2.1, (r0.2.2.2.2.2.2.2.2.2.2.2.2.2.2.1, (r0.2.2.2.2.2.2.2.2.2.2.2.2.2.2.2.2.1, (r0.2.2.2.2.2.2.2.2.2.2.2.2.2.2.2.1, ()))))))))))))))
theorem tcMove_eq (x : (Int × (Int × (Int × (Int × (Int × (Int × (Int × ((List TOption) × ((List UInt8) × (Int × (Int × Unit)))))))))))) : fnTr Try.prog cod [FS.pf sumFold, FS.pf sumAdd, FS.pf sumOf, FS.pf sumRight, FS.pf sumFix, FS.pf dgWord, FS.pf dgLong, FS.pf dgWordAt, FS.pf dgUnder, FS.pf dgPort, FS.pf dgWrite, FS.pf dgRead, FS.pf dgWriteNote, FS.pf dgReadNote, FS.pf kWord, clOpt, FS.pf eqOpt, FS.pf tcWord, FS.pf tcLong, FS.pf tcWordAt, FS.pf tcLongAt, FS.pf tcWords, FS.pf tcOptions, FS.pf tcWrite, FS.pf tcParse, FS.pf tcRead, FS.pf tcMss] [(36, tcMove_L36_12), (36, tcMove_L36_7)] 30 36 tcMove_ap tcMove_rp x = tcMove_tree x := by kernel_rfl
def tcMove_fn (x : (Int × (Int × (Int × (Int × (Int × (Int × (Int × ((List TOption) × ((List UInt8) × (Int × (Int × Unit)))))))))))) : Option (Int × (Int × (Int × (Int × (Int × (Int × (Int × ((List TOption) × ((List UInt8) × Unit))))))))) := (tcMove_tree x).eval
def tcMove : FS Try.prog := ⟨36, tcMove_ap, tcMove_rp, tcMove_fn, fun x r h => fnTr_sound (cod := cod) (Γ := [FS.pf sumFold, FS.pf sumAdd, FS.pf sumOf, FS.pf sumRight, FS.pf sumFix, FS.pf dgWord, FS.pf dgLong, FS.pf dgWordAt, FS.pf dgUnder, FS.pf dgPort, FS.pf dgWrite, FS.pf dgRead, FS.pf dgWriteNote, FS.pf dgReadNote, FS.pf kWord, clOpt, FS.pf eqOpt, FS.pf tcWord, FS.pf tcLong, FS.pf tcWordAt, FS.pf tcLongAt, FS.pf tcWords, FS.pf tcOptions, FS.pf tcWrite, FS.pf tcParse, FS.pf tcRead, FS.pf tcMss]) (Λs := [(36, tcMove_L36_12), (36, tcMove_L36_7)]) (n := 30) ((congrArg Tr.eval (tcMove_eq x)).trans h)⟩
def sameSegment_ap : List VP1 := [.agg [.i .i64, .i .i64, .i .u32, .i .u32, .i .i64, .i .i64, .i .i64, .st 4 false, .s], .agg [.i .i64, .i .i64, .i .u32, .i .u32, .i .i64, .i .i64, .i .i64, .st 4 false, .s]]
def sameSegment_rp : SP := ⟨1, [(0, .v (.one (.b)))], []⟩
def sameSegment_tree : (Int × (Int × (Int × (Int × (Int × (Int × (Int × ((List TOption) × ((List UInt8) × (Int × (Int × (Int × (Int × (Int × (Int × (Int × ((List TOption) × ((List UInt8) × Unit)))))))))))))))))) → Tr (Bool × Unit) :=
  fun (a0, a1, a2, a3, a4, a5, a6, a7, a8, a9, a10, a11, a12, a13, a14, a15, a16, a17, _) =>
  .ite (decide (a0 = a9)) (
   .ite (decide (a1 = a10)) (
    .ite (decide (a2 = a11)) (
     .ite (decide (a3 = a12)) (
      .ite (decide (a4 = a13)) (
       .ite (decide (a5 = a14)) (
        .ite (decide (a6 = a15)) (
         .ite (decide (a8 = a17)) (
          .opt (β := (Bool × Unit)) ((eqOpt_fn (a7, (a16, ())))) (fun r0 =>
          .ret (r0.1, ()))) (
          .ret (false, ()))) (
         .ret (false, ()))) (
        .ret (false, ()))) (
       .ret (false, ()))) (
      .ret (false, ()))) (
     .ret (false, ()))) (
    .ret (false, ()))) (
   .ret (false, ()))
theorem sameSegment_eq (x : (Int × (Int × (Int × (Int × (Int × (Int × (Int × ((List TOption) × ((List UInt8) × (Int × (Int × (Int × (Int × (Int × (Int × (Int × ((List TOption) × ((List UInt8) × Unit))))))))))))))))))) : fnTr Try.prog cod [FS.pf sumFold, FS.pf sumAdd, FS.pf sumOf, FS.pf sumRight, FS.pf sumFix, FS.pf dgWord, FS.pf dgLong, FS.pf dgWordAt, FS.pf dgUnder, FS.pf dgPort, FS.pf dgWrite, FS.pf dgRead, FS.pf dgWriteNote, FS.pf dgReadNote, FS.pf kWord, clOpt, FS.pf eqOpt, FS.pf tcWord, FS.pf tcLong, FS.pf tcWordAt, FS.pf tcLongAt, FS.pf tcWords, FS.pf tcOptions, FS.pf tcWrite, FS.pf tcParse, FS.pf tcRead, FS.pf tcMss, FS.pf tcMove] [] 30 34 sameSegment_ap sameSegment_rp x = sameSegment_tree x := by kernel_rfl
def sameSegment_fn (x : (Int × (Int × (Int × (Int × (Int × (Int × (Int × ((List TOption) × ((List UInt8) × (Int × (Int × (Int × (Int × (Int × (Int × (Int × ((List TOption) × ((List UInt8) × Unit))))))))))))))))))) : Option (Bool × Unit) := (sameSegment_tree x).eval
def sameSegment : FS Try.prog := ⟨34, sameSegment_ap, sameSegment_rp, sameSegment_fn, fun x r h => fnTr_sound (cod := cod) (Γ := [FS.pf sumFold, FS.pf sumAdd, FS.pf sumOf, FS.pf sumRight, FS.pf sumFix, FS.pf dgWord, FS.pf dgLong, FS.pf dgWordAt, FS.pf dgUnder, FS.pf dgPort, FS.pf dgWrite, FS.pf dgRead, FS.pf dgWriteNote, FS.pf dgReadNote, FS.pf kWord, clOpt, FS.pf eqOpt, FS.pf tcWord, FS.pf tcLong, FS.pf tcWordAt, FS.pf tcLongAt, FS.pf tcWords, FS.pf tcOptions, FS.pf tcWrite, FS.pf tcParse, FS.pf tcRead, FS.pf tcMss, FS.pf tcMove]) (Λs := []) (n := 30) ((congrArg Tr.eval (sameSegment_eq x)).trans h)⟩
end Go.Proofs.Ytjehhmeaigkbnaa.X
