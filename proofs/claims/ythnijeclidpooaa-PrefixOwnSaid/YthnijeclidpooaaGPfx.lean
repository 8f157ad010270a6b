/- Functions of the program, as trees (printed by a program of mine: tool/XTool, xg.py), each with the proof that the machine comes to what its tree says. Conditions: none. -/
import Derived.Test.YthnijeclidpooaaCod
import Derived.KernelRfl
import Derived.Test.YthnijeclidpooaaPfxK
import Derived.Test.YthnijeclidpooaaPfxK
import Derived.Test.YthnijeclidpooaaPfxK
namespace Go.Proofs.Ythnijeclidpooaa.X
open Go Go.RowKit Go.Proofs.Ythnijeclidpooaa.Abs
set_option maxRecDepth 100000
set_option linter.unusedVariables false
def eqNode_L28_4 : LS := ⟨4, [], ⟨26, [(13, .v (.one (.i .i64))), (1, .v (.one (.st 9 false))), (0, .v (.one (.st 9 false))), (12, .v (.one (.i .i64)))], []⟩, [⟨none, [], ⟨26, [(4, .v (.one (.b)))], []⟩⟩, ⟨some 0, [], ⟨26, [], []⟩⟩], []⟩
def eqNode_step28_4 : (Int × ((List TNode) × ((List TNode) × (Int × Unit)))) → Tr ((Int × ((List TNode) × ((List TNode) × (Int × Unit)))) ⊕ ((Bool × Unit) ⊕ Unit)) :=
  fun (a0, a1, a2, a3, _) =>
  .ite (decide (a0 < a3)) (
   .grd (decide ((0 : Int) ≤ a0)) (
   .opt (β := TNode) (a2[Int.toNat a0]?) (fun r0 =>
   .grd (decide ((0 : Int) ≤ a0)) (
   .opt (β := TNode) (a1[Int.toNat a0]?) (fun r1 =>
   .ite (!(decide (r0.next0 = r1.next0) && (decide (r0.next1 = r1.next1) && true) && (r0.set == r1.set && (decide (r0.value = r1.value) && true)))) (
    .ret (Sum.inr (Sum.inl (false, ())))) (
    .ret (Sum.inl (IntKind.wrap IntKind.i64 (a0 + (1 : Int)), (a1, (a2, (a3, ()))))))))))) (
   .ret (Sum.inr (Sum.inr ())))
def eqNode_loop28_4 (x : (Int × ((List TNode) × ((List TNode) × (Int × Unit))))) : Option ((Bool × Unit) ⊕ Unit) := loopO 280004 (fun x => (eqNode_step28_4 x).eval) 18446744073709551616 x
def eqNode_ap : List VP1 := [.one (.st 9 false), .one (.st 9 false)]
def eqNode_rp : SP := ⟨1, [(0, .v (.one (.b)))], []⟩
def eqNode_tree : ((List TNode) × ((List TNode) × Unit)) → Tr (Bool × Unit) :=
  fun (a0, a1, _) =>
  .ite (!decide ((↑(List.length a0) : Int) = (↑(List.length a1) : Int))) (
   .ret (false, ())) (
   .opt (β := ((Bool × Unit) ⊕ Unit)) ((eqNode_loop28_4 ((0 : Int), (a1, (a0, ((↑(List.length a0) : Int), ())))))) (fun r0 =>
   .sum (β := (Bool × Unit)) (γ := Unit) (r0) (fun r1 =>
    .ret (r1.1, ())) (fun r1 =>
    .ret (true, ()))))
theorem eqNode_eq (x : ((List TNode) × ((List TNode) × Unit))) : fnTr Try.prog cod [pfPut, pfRem, pfFind] [(28, eqNode_L28_4)] 30 28 eqNode_ap eqNode_rp x = eqNode_tree x := by kernel_rfl
def eqNode_fn (x : ((List TNode) × ((List TNode) × Unit))) : Option (Bool × Unit) := (eqNode_tree x).eval
def eqNode : FS Try.prog := ⟨28, eqNode_ap, eqNode_rp, eqNode_fn, fun x r h => fnTr_sound (cod := cod) (Γ := [pfPut, pfRem, pfFind]) (Λs := [(28, eqNode_L28_4)]) (n := 30) ((congrArg Tr.eval (eqNode_eq x)).trans h)⟩
def sameTrie_ap : List VP1 := [.agg [.st 9 false], .agg [.st 9 false]]
def sameTrie_rp : SP := ⟨1, [(0, .v (.one (.b)))], []⟩
def sameTrie_tree : ((List TNode) × ((List TNode) × Unit)) → Tr (Bool × Unit) :=
  fun (a0, a1, _) =>
  .opt (β := (Bool × Unit)) ((eqNode_fn (a0, (a1, ())))) (fun r0 =>
  .ret (r0.1, ()))
theorem sameTrie_eq (x : ((List TNode) × ((List TNode) × Unit))) : fnTr Try.prog cod [pfPut, pfRem, pfFind, FS.pf eqNode] [] 30 25 sameTrie_ap sameTrie_rp x = sameTrie_tree x := by kernel_rfl
def sameTrie_fn (x : ((List TNode) × ((List TNode) × Unit))) : Option (Bool × Unit) := (sameTrie_tree x).eval
def sameTrie : FS Try.prog := ⟨25, sameTrie_ap, sameTrie_rp, sameTrie_fn, fun x r h => fnTr_sound (cod := cod) (Γ := [pfPut, pfRem, pfFind, FS.pf eqNode]) (Λs := []) (n := 30) ((congrArg Tr.eval (sameTrie_eq x)).trans h)⟩
def prefixLives_ap : List VP1 := []
def prefixLives_rp : SP := ⟨1, [(0, .v (.one (.b)))], []⟩
def prefixLives_tree : Unit → Tr (Bool × Unit) :=
  fun (_) =>
  .grd (true) (
  .grd (true) (
  .grd (okA (167838211 : Int)) (
  .grd (okA (167903747 : Int)) (
  .ite (true) (
   .ite (true) (
    .ite (true) (
     .ite (true) (
      .ite (true) (
       .ite (true) (
        .ite (true) (
         .ret (true, ())) (
         .ret (false, ()))) (
        .ret (false, ()))) (
       .ret (false, ()))) (
      .ret (false, ()))) (
     .ret (false, ()))) (
    .ret (false, ()))) (
   .ret (false, ()))))))
theorem prefixLives_eq (x : Unit) : fnTr Try.prog cod [pfPut, pfRem, pfFind, FS.pf eqNode, FS.pf sameTrie] [] 30 22 prefixLives_ap prefixLives_rp x = prefixLives_tree x := by kernel_rfl
def prefixLives_fn (x : Unit) : Option (Bool × Unit) := (prefixLives_tree x).eval
def prefixLives : FS Try.prog := ⟨22, prefixLives_ap, prefixLives_rp, prefixLives_fn, fun x r h => fnTr_sound (cod := cod) (Γ := [pfPut, pfRem, pfFind, FS.pf eqNode, FS.pf sameTrie]) (Λs := []) (n := 30) ((congrArg Tr.eval (prefixLives_eq x)).trans h)⟩
def prefixAny_ap : List VP1 := [.agg [.st 9 false], .agg [.i .u32, .i .i64], .agg [.i .u32, .i .i64], .one (.i .i64), .one (.i .i64)]
def prefixAny_rp : SP := ⟨1, [(0, .v (.one (.b)))], []⟩
def prefixAny_tree : ((List TNode) × (Int × (Int × (Int × (Int × (Int × (Int × Unit))))))) → Tr (Bool × Unit) :=
  fun (a0, a1, a2, a3, a4, a5, a6, _) =>
  .grd (okA a1 && okL a2) (
  .opt (β := (Bool × Unit)) ((prefixLives_fn ())) (fun r0 =>
  .ite (!r0.1) (
   .opt (β := (Bool × Unit)) ((prefixLives_fn ())) (fun r1 =>
   .ret (r1.1, ()))) (
   .ite (!decide ((putT a0 a1 a2 a5).snd = (0 : Int))) (
    .opt (β := (Bool × Unit)) ((prefixLives_fn ())) (fun r1 =>
    .ret (r1.1, ()))) (
    .grd (okA a1 && okL a2) (
    .grd (okA a1 && okL a2) (
    .ite (!decide ((remT (putT a0 a1 a2 a5).fst a1 a2).snd = (0 : Int))) (
     .ret (false, ())) (
     .ite (decide ((remT a0 a1 a2).snd = (7 : Int))) (
      .opt (β := (Bool × Unit)) ((sameTrie_fn ((remT (putT a0 a1 a2 a5).fst a1 a2).fst, (a0, ())))) (fun r1 =>
      .ite (!r1.1) (
       .ret (false, ())) (
       .grd (okA a3 && okL a4) (
       .grd (okA a3 && okL a4) (
       .ite (!decide ((putT (putT a0 a1 a2 a5).fst a3 a4 a6).snd = (0 : Int))) (
        .ret (true, ())) (
        .ite (!decide ((putT a0 a3 a4 a6).snd = (0 : Int))) (
         .ret (true, ())) (
         .ite (decide (a1 = a3) && (decide (a2 = a4) && true)) (
          .ret (true, ())) (
          .grd (okA a1 && okL a2) (
          .ite (decide ((putT (putT a0 a3 a4 a6).fst a1 a2 a5).snd = (0 : Int))) (
           .opt (β := (Bool × Unit)) ((sameTrie_fn ((putT (putT a0 a1 a2 a5).fst a3 a4 a6).fst, ((putT (putT a0 a3 a4 a6).fst a1 a2 a5).fst, ())))) (fun r2 =>
           .ret (r2.1, ()))) (
           .ret (false, ()))))))))))) (
      .grd (okA a3 && okL a4) (
      .grd (okA a3 && okL a4) (
      .ite (!decide ((putT (putT a0 a1 a2 a5).fst a3 a4 a6).snd = (0 : Int))) (
       .ret (true, ())) (
       .ite (!decide ((putT a0 a3 a4 a6).snd = (0 : Int))) (
        .ret (true, ())) (
        .ite (decide (a1 = a3) && (decide (a2 = a4) && true)) (
         .ret (true, ())) (
         .grd (okA a1 && okL a2) (
         .ite (decide ((putT (putT a0 a3 a4 a6).fst a1 a2 a5).snd = (0 : Int))) (
          .opt (β := (Bool × Unit)) ((sameTrie_fn ((putT (putT a0 a1 a2 a5).fst a3 a4 a6).fst, ((putT (putT a0 a3 a4 a6).fst a1 a2 a5).fst, ())))) (fun r1 =>
          .ret (r1.1, ()))) (
          .ret (false, ()))))))))))))))))
theorem prefixAny_eq (x : ((List TNode) × (Int × (Int × (Int × (Int × (Int × (Int × Unit)))))))) : fnTr Try.prog cod [pfPut, pfRem, pfFind, FS.pf eqNode, FS.pf sameTrie, FS.pf prefixLives] [] 30 7 prefixAny_ap prefixAny_rp x = prefixAny_tree x := by kernel_rfl
def prefixAny_fn (x : ((List TNode) × (Int × (Int × (Int × (Int × (Int × (Int × Unit)))))))) : Option (Bool × Unit) := (prefixAny_tree x).eval
def prefixAny : FS Try.prog := ⟨7, prefixAny_ap, prefixAny_rp, prefixAny_fn, fun x r h => fnTr_sound (cod := cod) (Γ := [pfPut, pfRem, pfFind, FS.pf eqNode, FS.pf sameTrie, FS.pf prefixLives]) (Λs := []) (n := 30) ((congrArg Tr.eval (prefixAny_eq x)).trans h)⟩
end Go.Proofs.Ythnijeclidpooaa.X
