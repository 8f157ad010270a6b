/- The law TrackBounds: what the machine comes to, out of the tree of its text and the plain law. Printed by a program of mine (tool/walk.py). Conditions: none. -/
import Derived.Test.YtcdcdmfecglemaaPTrackN
import Derived.Test.YtcdcdmfecglemaaAbsQ
import Derived.KernelRfl
namespace Go.Proofs.Ytcdcdmfecglemaa.TrackBounds
open Go Go.RowKit Go.Proofs.Ytcdcdmfecglemaa Go.Proofs.Ytcdcdmfecglemaa.Abs
set_option linter.unusedVariables false
set_option maxRecDepth 100000
theorem walk (a0 : Option Addr) (l0 c0 : Nat) (a1 : Array Value) (a2 : Int) (a3 : Int) (w : World) (h0 : Read.Rd Try.prog w 28 [.slice a0 l0 c0]) (h1 : Read.Rd Try.prog w 26 a1.toList) (h2 : -9223372036854775808 ≤ a2 ∧ a2 ≤ 9223372036854775807) (h3 : -9223372036854775808 ≤ a3 ∧ a3 ≤ 9223372036854775807) : Calls Try.prog 6 #[.slice a0 l0 c0, .agg a1, .int .i64 a2, .int .i64 a3] w fun e w' => e = .returned (.bool true) ∧ Below w.heap.size w w' := by
  obtain ⟨x0, r0, b0⟩ := rd_typed (cod := X.cod) (ps := [.st 16]) (by kernel_rfl) (by kernel_rfl) h0
  obtain ⟨v0_0, ⟨⟩⟩ := x0
  replace b0 : ∀ d ∈ [D.st 16 v0_0], BndD 6 d := b0
  replace r0 : RepAll w (fun b => b < w.heap.size) _ [D.st 16 v0_0] := r0
  have b0_0 : BndD 6 (D.st 16 v0_0) := b0 _ List.mem_cons_self
  obtain ⟨x1, r1, b1⟩ := rd_typed (cod := X.cod) (ps := [.i .u32, .i .u32, .i .i64, .i .i64]) (by kernel_rfl) (by kernel_rfl) h1
  obtain ⟨v1_0, v1_1, v1_2, v1_3, ⟨⟩⟩ := x1
  replace b1 : ∀ d ∈ [D.i .u32 v1_0, D.i .u32 v1_1, D.i .i64 v1_2, D.i .i64 v1_3], BndD 6 d := b1
  replace r1 : RepAll w (fun b => b < w.heap.size) _ [D.i .u32 v1_0, D.i .u32 v1_1, D.i .i64 v1_2, D.i .i64 v1_3] := r1
  have b1_0 : 0 ≤ v1_0 ∧ v1_0 ≤ 4294967295 := b1 _ List.mem_cons_self
  have b1_1 : 0 ≤ v1_1 ∧ v1_1 ≤ 4294967295 := b1 _ (List.mem_cons_of_mem _ List.mem_cons_self)
  have b1_2 : -9223372036854775808 ≤ v1_2 ∧ v1_2 ≤ 9223372036854775807 := b1 _ (List.mem_cons_of_mem _ (List.mem_cons_of_mem _ List.mem_cons_self))
  have b1_3 : -9223372036854775808 ≤ v1_3 ∧ v1_3 ≤ 9223372036854775807 := b1 _ (List.mem_cons_of_mem _ (List.mem_cons_of_mem _ (List.mem_cons_of_mem _ List.mem_cons_self)))
  exact law_told X.trackBounds rfl (x := (v0_0, (v1_0, (v1_1, (v1_2, (v1_3, (a2, (a3, ())))))))) ⟨(true, ()), X.trackBounds_true b0_0 b1_0 b1_1 b1_2 b1_3 h2 h3, rfl, rfl⟩ (RepArgs.d1 r0 (RepArgs.agg r1 (RepArgs.i (RepArgs.i RepArgs.nil)))) rfl
end Go.Proofs.Ytcdcdmfecglemaa.TrackBounds
