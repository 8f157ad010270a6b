/- The law PrefixLongest: what the machine comes to, out of the tree of its text and the plain law. Printed by a program of mine (tool/walk.py). Conditions: none. -/
import Derived.Test.YthnijeclidpooaaPPfxD
import Derived.Test.YthnijeclidpooaaAbsQ
import Derived.KernelRfl
namespace Go.Proofs.Ythnijeclidpooaa.PrefixLongest
open Go Go.RowKit Go.Proofs.Ythnijeclidpooaa Go.Proofs.Ythnijeclidpooaa.Abs
set_option linter.unusedVariables false
set_option maxRecDepth 100000
theorem walk (a0 : Array Value) (a1 : Int) (w : World) (h0 : Read.Rd Try.prog w 46 a0.toList) (h1 : 0 ≤ a1 ∧ a1 ≤ 4294967295) : Calls Try.prog 5 #[.agg a0, .int .u32 a1] w fun e w' => e = .returned (.bool true) ∧ Below w.heap.size w w' := by
  obtain ⟨x0, r0, b0⟩ := rd_typed (cod := X.cod) (ps := [.st 9]) (by kernel_rfl) (by kernel_rfl) h0
  obtain ⟨v0_0, ⟨⟩⟩ := x0
  replace b0 : ∀ d ∈ [D.st 9 v0_0], BndD 6 d := b0
  replace r0 : RepAll w (fun b => b < w.heap.size) _ [D.st 9 v0_0] := r0
  have b0_0 : BndD 6 (D.st 9 v0_0) := b0 _ List.mem_cons_self
  have hT : X.prefixLongest_fn (v0_0, (a1, ())) = some (true, ()) := X.prefixLongest_true b0_0 h1
  exact law_told X.prefixLongest rfl (x := (v0_0, (a1, ()))) ⟨(true, ()), (congrFun (show X.prefixLongest.fn = X.prefixLongest_fn by kernel_rfl) _).trans hT, rfl, rfl⟩ (RepArgs.agg r0 (RepArgs.i RepArgs.nil)) rfl
end Go.Proofs.Ythnijeclidpooaa.PrefixLongest
