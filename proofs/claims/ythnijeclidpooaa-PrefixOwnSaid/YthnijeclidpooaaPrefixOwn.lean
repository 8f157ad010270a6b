/- The law PrefixOwn: what the machine comes to, out of the tree of its text and the plain law. Printed by a program of mine (tool/walk.py). Conditions: none. -/
import Derived.Test.YthnijeclidpooaaPPfxE
import Derived.Test.YthnijeclidpooaaAbsQ
import Derived.KernelRfl
namespace Go.Proofs.Ythnijeclidpooaa.PrefixOwn
open Go Go.RowKit Go.Proofs.Ythnijeclidpooaa Go.Proofs.Ythnijeclidpooaa.Abs
set_option linter.unusedVariables false
set_option maxRecDepth 100000
theorem walk (a0 : Array Value) (a1 : Array Value) (w : World) (h0 : Read.Rd Try.prog w 46 a0.toList) (h1 : Read.Rd Try.prog w 52 a1.toList) : Calls Try.prog 8 #[.agg a0, .agg a1] w fun e w' => e = .returned (.bool true) ∧ Below w.heap.size w w' := by
  obtain ⟨x0, r0, b0⟩ := rd_typed (cod := X.cod) (ps := [.st 9]) (by kernel_rfl) (by kernel_rfl) h0
  obtain ⟨v0_0, ⟨⟩⟩ := x0
  replace b0 : ∀ d ∈ [D.st 9 v0_0], BndD 6 d := b0
  replace r0 : RepAll w (fun b => b < w.heap.size) _ [D.st 9 v0_0] := r0
  have b0_0 : BndD 6 (D.st 9 v0_0) := b0 _ List.mem_cons_self
  obtain ⟨x1, r1, b1⟩ := rd_typed (cod := X.cod) (ps := [.i .u32, .i .i64]) (by kernel_rfl) (by kernel_rfl) h1
  obtain ⟨v1_0, v1_1, ⟨⟩⟩ := x1
  replace b1 : ∀ d ∈ [D.i .u32 v1_0, D.i .i64 v1_1], BndD 6 d := b1
  replace r1 : RepAll w (fun b => b < w.heap.size) _ [D.i .u32 v1_0, D.i .i64 v1_1] := r1
  have b1_0 : 0 ≤ v1_0 ∧ v1_0 ≤ 4294967295 := b1 _ List.mem_cons_self
  have b1_1 : -9223372036854775808 ≤ v1_1 ∧ v1_1 ≤ 9223372036854775807 := b1 _ (List.mem_cons_of_mem _ List.mem_cons_self)
  exact law_told X.prefixOwn rfl (x := (v0_0, (v1_0, (v1_1, ())))) ⟨(true, ()), X.prefixOwn_true b0_0 b1_0 b1_1, rfl, rfl⟩ (RepArgs.agg r0 (RepArgs.agg r1 RepArgs.nil)) rfl
end Go.Proofs.Ythnijeclidpooaa.PrefixOwn
