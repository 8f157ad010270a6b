/- The law TrackThree: what the machine comes to, out of the tree of its text and the plain law. Printed by a program of mine (tool/walk.py). Conditions: none. -/
import Derived.Test.YtcdcdmfecglemaaPTrackT
import Derived.Test.YtcdcdmfecglemaaAbsQ
import Derived.KernelRfl
namespace Go.Proofs.Ytcdcdmfecglemaa.TrackThree
open Go Go.RowKit Go.Proofs.Ytcdcdmfecglemaa Go.Proofs.Ytcdcdmfecglemaa.Abs
set_option linter.unusedVariables false
set_option maxRecDepth 100000
theorem walk (a0 : Option Addr) (l0 c0 : Nat) (a1 : Option Addr) (l1 c1 : Nat) (a2 : Array Value) (w : World) (h0 : Read.Rd Try.prog w 22 [.slice a0 l0 c0]) (h1 : Read.Rd Try.prog w 23 [.slice a1 l1 c1]) (h2 : Read.Rd Try.prog w 26 a2.toList) : Calls Try.prog 3 #[.slice a0 l0 c0, .slice a1 l1 c1, .agg a2] w fun e w' => e = .returned (.bool true) ∧ Below w.heap.size w w' := by
  obtain ⟨x0, r0, b0⟩ := rd_typed (cod := X.cod) (ps := [.st 26]) (by kernel_rfl) (by kernel_rfl) h0
  obtain ⟨v0_0, ⟨⟩⟩ := x0
  replace b0 : ∀ d ∈ [D.st 26 v0_0], BndD 6 d := b0
  replace r0 : RepAll w (fun b => b < w.heap.size) _ [D.st 26 v0_0] := r0
  have b0_0 : BndD 6 (D.st 26 v0_0) := b0 _ List.mem_cons_self
  obtain ⟨x1, r1, b1⟩ := rd_typed (cod := X.cod) (ps := [.st 0]) (by kernel_rfl) (by kernel_rfl) h1
  obtain ⟨v1_0, ⟨⟩⟩ := x1
  replace b1 : ∀ d ∈ [D.st 0 v1_0], BndD 6 d := b1
  replace r1 : RepAll w (fun b => b < w.heap.size) _ [D.st 0 v1_0] := r1
  have b1_0 : BndD 6 (D.st 0 v1_0) := b1 _ List.mem_cons_self
  obtain ⟨x2, r2, b2⟩ := rd_typed (cod := X.cod) (ps := [.i .u32, .i .u32, .i .i64, .i .i64]) (by kernel_rfl) (by kernel_rfl) h2
  obtain ⟨v2_0, v2_1, v2_2, v2_3, ⟨⟩⟩ := x2
  replace b2 : ∀ d ∈ [D.i .u32 v2_0, D.i .u32 v2_1, D.i .i64 v2_2, D.i .i64 v2_3], BndD 6 d := b2
  replace r2 : RepAll w (fun b => b < w.heap.size) _ [D.i .u32 v2_0, D.i .u32 v2_1, D.i .i64 v2_2, D.i .i64 v2_3] := r2
  have b2_0 : 0 ≤ v2_0 ∧ v2_0 ≤ 4294967295 := b2 _ List.mem_cons_self
  have b2_1 : 0 ≤ v2_1 ∧ v2_1 ≤ 4294967295 := b2 _ (List.mem_cons_of_mem _ List.mem_cons_self)
  have b2_2 : -9223372036854775808 ≤ v2_2 ∧ v2_2 ≤ 9223372036854775807 := b2 _ (List.mem_cons_of_mem _ (List.mem_cons_of_mem _ List.mem_cons_self))
  have b2_3 : -9223372036854775808 ≤ v2_3 ∧ v2_3 ≤ 9223372036854775807 := b2 _ (List.mem_cons_of_mem _ (List.mem_cons_of_mem _ (List.mem_cons_of_mem _ List.mem_cons_self)))
  exact law_told X.trackThree rfl (x := (v0_0, (v1_0, (v2_0, (v2_1, (v2_2, (v2_3, ()))))))) ⟨(true, ()), X.trackThree_true b0_0 b1_0 b2_0 b2_1 b2_2 b2_3, rfl, rfl⟩ (RepArgs.d1 r0 (RepArgs.d1 r1 (RepArgs.agg r2 RepArgs.nil))) rfl
end Go.Proofs.Ytcdcdmfecglemaa.TrackThree
