/- Functions of the program, as trees (printed by a program of mine: tool/XTool, xg.py), each with the proof that the machine comes to what its tree says. Conditions: none. -/
import Derived.Test.YthnijeclidpooaaCod
import Derived.KernelRfl
import Derived.Test.YthnijeclidpooaaGPfx
import Derived.Test.YthnijeclidpooaaTPfx
namespace Go.Proofs.Ythnijeclidpooaa.X
open Go Go.RowKit Go.Proofs.Ythnijeclidpooaa.Abs
set_option maxRecDepth 100000
set_option linter.unusedVariables false
def prefixAll_ap : List VP1 := [.agg [.st 9 false]]
def prefixAll_rp : SP := ⟨1, [(0, .tup [.one (.st 21 true), .one (.st 0 true), .one (.i .i64)])], []⟩
def prefixAll_tree : ((List TNode) × Unit) → Tr ((List TNet) × ((List Int) × (Int × Unit))) :=
  fun (a0, _) =>
  .ite (!decide ((readT a0).snd = (0 : Int))) (
   .ret ([], ([], ((readT a0).snd, ())))) (
   .grd (true) (
   .grd (true) (
   .opt (β := ((List TNet) × ((List Int) × Unit))) ((allGo_fn ((readT a0).fst, ((0 : Int), ((0 : Int), ([], ([], ()))))))) (fun r0 =>
   .ret (r0.1, (r0.2.1, ((0 : Int), ())))))))
theorem prefixAll_eq (x : ((List TNode) × Unit)) : fnTr Try.prog cod [pfPut, pfRem, pfFind, FS.pf eqNode, FS.pf sameTrie, FS.pf prefixLives, FS.pf prefixAny, pfRead, GS.pf allGo] [] 30 20 prefixAll_ap prefixAll_rp x = prefixAll_tree x := by kernel_rfl
def prefixAll_fn (x : ((List TNode) × Unit)) : Option ((List TNet) × ((List Int) × (Int × Unit))) := (prefixAll_tree x).eval
def prefixAll : FS Try.prog := ⟨20, prefixAll_ap, prefixAll_rp, prefixAll_fn, fun x r h => fnTr_sound (cod := cod) (Γ := [pfPut, pfRem, pfFind, FS.pf eqNode, FS.pf sameTrie, FS.pf prefixLives, FS.pf prefixAny, pfRead, GS.pf allGo]) (Λs := []) (n := 30) ((congrArg Tr.eval (prefixAll_eq x)).trans h)⟩
def inNet_ap : List VP1 := [.agg [.i .u32, .i .i64], .one (.i .u32)]
def inNet_rp : SP := ⟨1, [(0, .v (.one (.b)))], []⟩
def inNet_tree : (Int × (Int × (Int × Unit))) → Tr (Bool × Unit) :=
  fun (a0, a1, a2, _) =>
  .ite (decide (a1 = (0 : Int))) (
   .ret (true, ())) (
   .grd (decide ((0 : Int) ≤ IntKind.wrap IntKind.i64 ((32 : Int) - a1))) (
   .ret (decide (Int.fdiv (bits BinOp.xor IntKind.u32 a2 a0) ((2 : Int) ^ min (Int.toNat (IntKind.wrap IntKind.i64 ((32 : Int) - a1))) (32 : Nat)) = (0 : Int)), ())))
theorem inNet_eq (x : (Int × (Int × (Int × Unit)))) : fnTr Try.prog cod [pfPut, pfRem, pfFind, FS.pf eqNode, FS.pf sameTrie, FS.pf prefixLives, FS.pf prefixAny, pfRead, GS.pf allGo, FS.pf prefixAll] [] 30 23 inNet_ap inNet_rp x = inNet_tree x := by kernel_rfl
def inNet_fn (x : (Int × (Int × (Int × Unit)))) : Option (Bool × Unit) := (inNet_tree x).eval
def inNet : FS Try.prog := ⟨23, inNet_ap, inNet_rp, inNet_fn, fun x r h => fnTr_sound (cod := cod) (Γ := [pfPut, pfRem, pfFind, FS.pf eqNode, FS.pf sameTrie, FS.pf prefixLives, FS.pf prefixAny, pfRead, GS.pf allGo, FS.pf prefixAll]) (Λs := []) (n := 30) ((congrArg Tr.eval (inNet_eq x)).trans h)⟩
def prefixLongest_L5_7 : LS := ⟨7, [(8, 8)], ⟨94, [(48, .v (.one (.i .i64))), (11, .v (.one (.i .i64))), (5, .v (.one (.st 21 true))), (1, .v (.one (.i .u32))), (46, .v (.one (.st 21 true))), (10, .v (.one (.i .i64))), (6, .v (.one (.st 0 true))), (9, .v (.one (.i .i64))), (8, .v (.one (.ptr 8 0))), (47, .v (.one (.i .i64)))], [(8, .cells [.i .u32, .i .i64])]⟩, [⟨some 0, [(8, 8)], ⟨94, [(10, .v (.one (.i .i64))), (11, .v (.one (.i .i64))), (6, .v (.one (.st 0 true))), (9, .v (.one (.i .i64))), (5, .v (.one (.st 21 true))), (8, .v (.one (.ptr 8 0)))], [(8, .cells [.i .u32, .i .i64])]⟩⟩], []⟩
def prefixLongest_step5_7 : (Int × (Int × ((List TNet) × (Int × ((List TNet) × (Int × ((List Int) × (Int × (Int × (Int × (Int × Unit))))))))))) → Tr ((Int × (Int × ((List TNet) × (Int × ((List TNet) × (Int × ((List Int) × (Int × (Int × (Int × (Int × Unit))))))))))) ⊕ (Int × (Int × ((List Int) × (Int × ((List TNet) × (Int × (Int × Unit)))))))) :=
  fun (a0, a1, a2, a3, a4, a5, a6, a7, a8, a9, a10, _) =>
  .ite (decide (a0 < a8)) (
   .grd (decide ((0 : Int) ≤ a0)) (
   .opt (β := TNet) (a4[Int.toNat a0]?) (fun r0 =>
   .opt (β := (Bool × Unit)) ((inNet_fn (r0.addr, (r0.long, (a3, ()))))) (fun r1 =>
   .ite (r1.1) (
    .ite (decide (a1 < (0 : Int))) (
     .ret (Sum.inl (IntKind.wrap IntKind.i64 (a0 + (1 : Int)), (a0, (a2, (a3, (a4, (a5, (a6, (a7, (a8, (a9, (a10, ()))))))))))))) (
     .grd (decide ((0 : Int) ≤ a1)) (
     .opt (β := TNet) (a2[Int.toNat a1]?) (fun r2 =>
     .ite (decide (r2.long < r0.long)) (
      .ret (Sum.inl (IntKind.wrap IntKind.i64 (a0 + (1 : Int)), (a0, (a2, (a3, (a4, (a5, (a6, (a7, (a8, (a9, (a10, ()))))))))))))) (
      .ret (Sum.inl (IntKind.wrap IntKind.i64 (a0 + (1 : Int)), (a1, (a2, (a3, (a4, (a5, (a6, (a7, (a8, (a9, (a10, ()))))))))))))))))) (
    .ret (Sum.inl (IntKind.wrap IntKind.i64 (a0 + (1 : Int)), (a1, (a2, (a3, (a4, (a5, (a6, (a7, (a8, (a9, (a10, ()))))))))))))))))) (
   .ret (Sum.inr (a5, (a1, (a6, (a7, (a2, (a9, (a10, ())))))))))
def prefixLongest_loop5_7 (x : (Int × (Int × ((List TNet) × (Int × ((List TNet) × (Int × ((List Int) × (Int × (Int × (Int × (Int × Unit)))))))))))) : Option (Int × (Int × ((List Int) × (Int × ((List TNet) × (Int × (Int × Unit))))))) := loopO 50007 (fun x => (prefixLongest_step5_7 x).eval) 18446744073709551616 x
def prefixLongest_ap : List VP1 := [.agg [.st 9 false], .one (.i .u32)]
def prefixLongest_rp : SP := ⟨1, [(0, .v (.one (.b)))], []⟩
def prefixLongest_tree : ((List TNode) × (Int × Unit)) → Tr (Bool × Unit) :=
  fun (a0, a1, _) =>
  .opt (β := ((List TNet) × ((List Int) × (Int × Unit)))) ((prefixAll_fn (a0, ()))) (fun r0 =>
  .grd (okA a1) (
  .opt (β := (Bool × Unit)) ((prefixLives_fn ())) (fun r1 =>
  .ite (!r1.1) (
   .opt (β := (Bool × Unit)) ((prefixLives_fn ())) (fun r2 =>
   .ite (r2.1) (
    .ret (decide ((findT a0 a1).snd.snd.snd = r0.2.2.1), ())) (
    .ret (false, ())))) (
   .ite (!decide (r0.2.2.1 = (0 : Int))) (
    .opt (β := (Bool × Unit)) ((prefixLives_fn ())) (fun r2 =>
    .ite (r2.1) (
     .ret (decide ((findT a0 a1).snd.snd.snd = r0.2.2.1), ())) (
     .ret (false, ())))) (
    .ite (!decide ((↑(List.length r0.1) : Int) = (↑(List.length r0.2.1) : Int))) (
     .opt (β := (Bool × Unit)) ((prefixLives_fn ())) (fun r2 =>
     .ite (r2.1) (
      .ret (decide ((findT a0 a1).snd.snd.snd = r0.2.2.1), ())) (
      .ret (false, ())))) (
     .opt (β := (Int × (Int × ((List Int) × (Int × ((List TNet) × (Int × (Int × Unit)))))))) ((prefixLongest_loop5_7 ((0 : Int), ((-1 : Int), (r0.1, (a1, (r0.1, ((findT a0 a1).snd.snd.snd, (r0.2.1, ((findT a0 a1).snd.snd.fst, ((↑(List.length r0.1) : Int), ((findT a0 a1).fst, ((findT a0 a1).snd.fst, ()))))))))))))) (fun r2 =>
     .ite (decide (r2.2.1 < (0 : Int))) (
      .ret (decide (r2.1 = (7 : Int)), ())) (
      .ite (decide (r2.1 = (0 : Int))) (
       .grd (decide ((0 : Int) ≤ r2.2.1)) (
       .opt (β := TNet) (r2.2.2.2.2.1[Int.toNat r2.2.1]?) (fun r3 =>
       .ite (decide (r2.2.2.2.2.2.1 = r3.addr) && (decide (r2.2.2.2.2.2.2.1 = r3.long) && true)) (
        .grd (decide ((0 : Int) ≤ r2.2.1)) (
        .opt (β := Int) (r2.2.2.1[Int.toNat r2.2.1]?) (fun r4 =>
        .ret (decide (r2.2.2.2.1 = r4), ())))) (
        .ret (false, ()))))) (
       .ret (false, ()))))))))))
theorem prefixLongest_eq (x : ((List TNode) × (Int × Unit))) : fnTr Try.prog cod [pfPut, pfRem, pfFind, FS.pf eqNode, FS.pf sameTrie, FS.pf prefixLives, FS.pf prefixAny, pfRead, GS.pf allGo, FS.pf prefixAll, FS.pf inNet] [(5, prefixLongest_L5_7)] 30 5 prefixLongest_ap prefixLongest_rp x = prefixLongest_tree x := by kernel_rfl
def prefixLongest_fn (x : ((List TNode) × (Int × Unit))) : Option (Bool × Unit) := (prefixLongest_tree x).eval
def prefixLongest : FS Try.prog := ⟨5, prefixLongest_ap, prefixLongest_rp, prefixLongest_fn, fun x r h => fnTr_sound (cod := cod) (Γ := [pfPut, pfRem, pfFind, FS.pf eqNode, FS.pf sameTrie, FS.pf prefixLives, FS.pf prefixAny, pfRead, GS.pf allGo, FS.pf prefixAll, FS.pf inNet]) (Λs := [(5, prefixLongest_L5_7)]) (n := 30) ((congrArg Tr.eval (prefixLongest_eq x)).trans h)⟩
def prefixOrder_L6_6 : LS := ⟨6, [(6, 6), (1, 1)], ⟨107, [(36, .v (.one (.i .i64))), (6, .v (.one (.ptr 6 0))), (4, .v (.one (.st 0 true))), (3, .v (.one (.st 21 true))), (1, .v (.one (.ptr 1 0))), (35, .v (.one (.i .i64)))], [(6, .cells [.st 9 false]), (1, .cells [.st 9 false])]⟩, [⟨none, [], ⟨107, [(2, .v (.one (.b)))], []⟩⟩, ⟨some 0, [(1, 1), (6, 6)], ⟨107, [(1, .v (.one (.ptr 1 0))), (6, .v (.one (.ptr 6 0)))], [(1, .cells [.st 9 false]), (6, .cells [.st 9 false])]⟩⟩], []⟩
def prefixOrder_step6_6 : (Int × ((List Int) × ((List TNet) × (Int × ((List TNode) × ((List TNode) × Unit)))))) → Tr ((Int × ((List Int) × ((List TNet) × (Int × ((List TNode) × ((List TNode) × Unit)))))) ⊕ ((Bool × Unit) ⊕ ((List TNode) × ((List TNode) × Unit)))) :=
  fun (a0, a1, a2, a3, a4, a5, _) =>
  .ite (decide (a0 < a3)) (
   .ite (decide ((0 : Int) < IntKind.wrap IntKind.i64 (IntKind.wrap IntKind.i64 ((↑(List.length a2) : Int) - (1 : Int)) - a0))) (
    .grd (decide ((0 : Int) ≤ IntKind.wrap IntKind.i64 (IntKind.wrap IntKind.i64 (IntKind.wrap IntKind.i64 ((↑(List.length a2) : Int) - (1 : Int)) - a0) - (1 : Int)))) (
    .opt (β := TNet) (a2[Int.toNat (IntKind.wrap IntKind.i64 (IntKind.wrap IntKind.i64 (IntKind.wrap IntKind.i64 ((↑(List.length a2) : Int) - (1 : Int)) - a0) - (1 : Int)))]?) (fun r0 =>
    .grd (decide ((0 : Int) ≤ IntKind.wrap IntKind.i64 (IntKind.wrap IntKind.i64 ((↑(List.length a2) : Int) - (1 : Int)) - a0))) (
    .opt (β := TNet) (a2[Int.toNat (IntKind.wrap IntKind.i64 (IntKind.wrap IntKind.i64 ((↑(List.length a2) : Int) - (1 : Int)) - a0))]?) (fun r1 =>
    .ite (decide (r1.addr < r0.addr)) (
     .ret (Sum.inr (Sum.inl (false, ())))) (
     .grd (decide ((0 : Int) ≤ IntKind.wrap IntKind.i64 (IntKind.wrap IntKind.i64 (IntKind.wrap IntKind.i64 ((↑(List.length a2) : Int) - (1 : Int)) - a0) - (1 : Int)))) (
     .opt (β := TNet) (a2[Int.toNat (IntKind.wrap IntKind.i64 (IntKind.wrap IntKind.i64 (IntKind.wrap IntKind.i64 ((↑(List.length a2) : Int) - (1 : Int)) - a0) - (1 : Int)))]?) (fun r2 =>
     .grd (decide ((0 : Int) ≤ IntKind.wrap IntKind.i64 (IntKind.wrap IntKind.i64 ((↑(List.length a2) : Int) - (1 : Int)) - a0))) (
     .opt (β := TNet) (a2[Int.toNat (IntKind.wrap IntKind.i64 (IntKind.wrap IntKind.i64 ((↑(List.length a2) : Int) - (1 : Int)) - a0))]?) (fun r3 =>
     .ite (decide (r2.addr = r3.addr)) (
      .grd (decide ((0 : Int) ≤ IntKind.wrap IntKind.i64 (IntKind.wrap IntKind.i64 (IntKind.wrap IntKind.i64 ((↑(List.length a2) : Int) - (1 : Int)) - a0) - (1 : Int)))) (
      .opt (β := TNet) (a2[Int.toNat (IntKind.wrap IntKind.i64 (IntKind.wrap IntKind.i64 (IntKind.wrap IntKind.i64 ((↑(List.length a2) : Int) - (1 : Int)) - a0) - (1 : Int)))]?) (fun r4 =>
      .grd (decide ((0 : Int) ≤ IntKind.wrap IntKind.i64 (IntKind.wrap IntKind.i64 ((↑(List.length a2) : Int) - (1 : Int)) - a0))) (
      .opt (β := TNet) (a2[Int.toNat (IntKind.wrap IntKind.i64 (IntKind.wrap IntKind.i64 ((↑(List.length a2) : Int) - (1 : Int)) - a0))]?) (fun r5 =>
      .ite (decide (r5.long ≤ r4.long)) (
       .ret (Sum.inr (Sum.inl (false, ())))) (
       .grd (decide ((0 : Int) ≤ IntKind.wrap IntKind.i64 (IntKind.wrap IntKind.i64 ((↑(List.length a2) : Int) - (1 : Int)) - a0))) (
       .opt (β := TNet) (a2[Int.toNat (IntKind.wrap IntKind.i64 (IntKind.wrap IntKind.i64 ((↑(List.length a2) : Int) - (1 : Int)) - a0))]?) (fun r6 =>
       .grd (decide ((0 : Int) ≤ IntKind.wrap IntKind.i64 (IntKind.wrap IntKind.i64 ((↑(List.length a2) : Int) - (1 : Int)) - a0))) (
       .opt (β := Int) (a1[Int.toNat (IntKind.wrap IntKind.i64 (IntKind.wrap IntKind.i64 ((↑(List.length a2) : Int) - (1 : Int)) - a0))]?) (fun r7 =>
       .grd (okA r6.addr && okL r6.long) (
       .ite (!decide ((putT a4 r6.addr r6.long r7).snd = (0 : Int))) (
        .ret (Sum.inr (Sum.inl (false, ())))) (
        .ret (Sum.inl (IntKind.wrap IntKind.i64 (a0 + (1 : Int)), (a1, (a2, (a3, ((putT a4 r6.addr r6.long r7).fst, (a5, ()))))))))))))))))))) (
      .grd (decide ((0 : Int) ≤ IntKind.wrap IntKind.i64 (IntKind.wrap IntKind.i64 ((↑(List.length a2) : Int) - (1 : Int)) - a0))) (
      .opt (β := TNet) (a2[Int.toNat (IntKind.wrap IntKind.i64 (IntKind.wrap IntKind.i64 ((↑(List.length a2) : Int) - (1 : Int)) - a0))]?) (fun r4 =>
      .grd (decide ((0 : Int) ≤ IntKind.wrap IntKind.i64 (IntKind.wrap IntKind.i64 ((↑(List.length a2) : Int) - (1 : Int)) - a0))) (
      .opt (β := Int) (a1[Int.toNat (IntKind.wrap IntKind.i64 (IntKind.wrap IntKind.i64 ((↑(List.length a2) : Int) - (1 : Int)) - a0))]?) (fun r5 =>
      .grd (okA r4.addr && okL r4.long) (
      .ite (!decide ((putT a4 r4.addr r4.long r5).snd = (0 : Int))) (
       .ret (Sum.inr (Sum.inl (false, ())))) (
       .ret (Sum.inl (IntKind.wrap IntKind.i64 (a0 + (1 : Int)), (a1, (a2, (a3, ((putT a4 r4.addr r4.long r5).fst, (a5, ())))))))))))))))))))))))) (
    .grd (decide ((0 : Int) ≤ IntKind.wrap IntKind.i64 (IntKind.wrap IntKind.i64 ((↑(List.length a2) : Int) - (1 : Int)) - a0))) (
    .opt (β := TNet) (a2[Int.toNat (IntKind.wrap IntKind.i64 (IntKind.wrap IntKind.i64 ((↑(List.length a2) : Int) - (1 : Int)) - a0))]?) (fun r0 =>
    .grd (decide ((0 : Int) ≤ IntKind.wrap IntKind.i64 (IntKind.wrap IntKind.i64 ((↑(List.length a2) : Int) - (1 : Int)) - a0))) (
    .opt (β := Int) (a1[Int.toNat (IntKind.wrap IntKind.i64 (IntKind.wrap IntKind.i64 ((↑(List.length a2) : Int) - (1 : Int)) - a0))]?) (fun r1 =>
    .grd (okA r0.addr && okL r0.long) (
    .ite (!decide ((putT a4 r0.addr r0.long r1).snd = (0 : Int))) (
     .ret (Sum.inr (Sum.inl (false, ())))) (
     .ret (Sum.inl (IntKind.wrap IntKind.i64 (a0 + (1 : Int)), (a1, (a2, (a3, ((putT a4 r0.addr r0.long r1).fst, (a5, ()))))))))))))))) (
   .ret (Sum.inr (Sum.inr (a5, (a4, ())))))
def prefixOrder_loop6_6 (x : (Int × ((List Int) × ((List TNet) × (Int × ((List TNode) × ((List TNode) × Unit))))))) : Option ((Bool × Unit) ⊕ ((List TNode) × ((List TNode) × Unit))) := loopO 60006 (fun x => (prefixOrder_step6_6 x).eval) 18446744073709551616 x
def prefixOrder_ap : List VP1 := [.agg [.st 9 false]]
def prefixOrder_rp : SP := ⟨1, [(0, .v (.one (.b)))], []⟩
def prefixOrder_tree : ((List TNode) × Unit) → Tr (Bool × Unit) :=
  fun (a0, _) =>
  .opt (β := ((List TNet) × ((List Int) × (Int × Unit)))) ((prefixAll_fn (a0, ()))) (fun r0 =>
  .opt (β := (Bool × Unit)) ((prefixLives_fn ())) (fun r1 =>
  .ite (!r1.1) (
   .opt (β := (Bool × Unit)) ((prefixLives_fn ())) (fun r2 =>
   .ite (r2.1) (
    .ret (!decide (r0.2.2.1 = (0 : Int)), ())) (
    .ret (false, ())))) (
   .ite (!decide (r0.2.2.1 = (0 : Int))) (
    .opt (β := (Bool × Unit)) ((prefixLives_fn ())) (fun r2 =>
    .ite (r2.1) (
     .ret (!decide (r0.2.2.1 = (0 : Int)), ())) (
     .ret (false, ())))) (
    .ite (!decide ((↑(List.length r0.1) : Int) = (↑(List.length r0.2.1) : Int))) (
     .opt (β := (Bool × Unit)) ((prefixLives_fn ())) (fun r2 =>
     .ite (r2.1) (
      .ret (!decide (r0.2.2.1 = (0 : Int)), ())) (
      .ret (false, ())))) (
     .opt (β := ((Bool × Unit) ⊕ ((List TNode) × ((List TNode) × Unit)))) ((prefixOrder_loop6_6 ((0 : Int), (r0.2.1, (r0.1, ((↑(List.length r0.1) : Int), ([], (a0, ())))))))) (fun r2 =>
     .sum (β := (Bool × Unit)) (γ := ((List TNode) × ((List TNode) × Unit))) (r2) (fun r3 =>
      .ret (r3.1, ())) (fun r3 =>
      .opt (β := (Bool × Unit)) ((sameTrie_fn (r3.2.1, (r3.1, ())))) (fun r4 =>
      .ret (r4.1, ())))))))))
theorem prefixOrder_eq (x : ((List TNode) × Unit)) : fnTr Try.prog cod [pfPut, pfRem, pfFind, FS.pf eqNode, FS.pf sameTrie, FS.pf prefixLives, FS.pf prefixAny, pfRead, GS.pf allGo, FS.pf prefixAll, FS.pf inNet, FS.pf prefixLongest] [(6, prefixOrder_L6_6)] 30 6 prefixOrder_ap prefixOrder_rp x = prefixOrder_tree x := by kernel_rfl
def prefixOrder_fn (x : ((List TNode) × Unit)) : Option (Bool × Unit) := (prefixOrder_tree x).eval
def prefixOrder : FS Try.prog := ⟨6, prefixOrder_ap, prefixOrder_rp, prefixOrder_fn, fun x r h => fnTr_sound (cod := cod) (Γ := [pfPut, pfRem, pfFind, FS.pf eqNode, FS.pf sameTrie, FS.pf prefixLives, FS.pf prefixAny, pfRead, GS.pf allGo, FS.pf prefixAll, FS.pf inNet, FS.pf prefixLongest]) (Λs := [(6, prefixOrder_L6_6)]) (n := 30) ((congrArg Tr.eval (prefixOrder_eq x)).trans h)⟩
end Go.Proofs.Ythnijeclidpooaa.X
