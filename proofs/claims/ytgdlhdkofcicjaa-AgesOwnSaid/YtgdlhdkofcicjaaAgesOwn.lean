/- The law AgesOwn: what the machine comes to, out of the tree of its text and the plain law. Printed by a program of mine (tool/walk.py). Conditions: none. -/
import Derived.Test.YtgdlhdkofcicjaaPAgesO
import Derived.Test.YtgdlhdkofcicjaaAbsQ
import Derived.KernelRfl
namespace Go.Proofs.Ytgdlhdkofcicjaa.AgesOwn
open Go Go.RowKit Go.Proofs.Ytgdlhdkofcicjaa Go.Proofs.Ytgdlhdkofcicjaa.Abs
set_option linter.unusedVariables false
set_option maxRecDepth 100000
theorem walk (a0 : Array Value) (a1 : Int) (a2 : Int) (w : World) (h0 : Read.Rd Try.prog w 75 a0.toList) (h1 : -9223372036854775808 ≤ a1 ∧ a1 ≤ 9223372036854775807) (h2 : -9223372036854775808 ≤ a2 ∧ a2 ≤ 9223372036854775807) : Calls Try.prog 12 #[.agg a0, .int .i64 a1, .int .i64 a2] w fun e w' => e = .returned (.bool true) ∧ Below w.heap.size w w' := by
  obtain ⟨x0, r0, b0⟩ := rd_typed (cod := X.cod) (ps := [.i .i64, .st 8]) (by kernel_rfl) (by kernel_rfl) h0
  obtain ⟨v0_0, v0_1, ⟨⟩⟩ := x0
  replace b0 : ∀ d ∈ [D.i .i64 v0_0, D.st 8 v0_1], BndD 6 d := b0
  replace r0 : RepAll w (fun b => b < w.heap.size) _ [D.i .i64 v0_0, D.st 8 v0_1] := r0
  have b0_0 : -9223372036854775808 ≤ v0_0 ∧ v0_0 ≤ 9223372036854775807 := b0 _ List.mem_cons_self
  have b0_1 : BndD 6 (D.st 8 v0_1) := b0 _ (List.mem_cons_of_mem _ List.mem_cons_self)
  exact law_told X.agesOwn rfl (x := (v0_0, (v0_1, (a1, (a2, ()))))) ⟨(true, ()), X.agesOwn_true b0_0 b0_1 h1 h2, rfl, rfl⟩ (RepArgs.agg r0 (RepArgs.i (RepArgs.i RepArgs.nil))) rfl
end Go.Proofs.Ytgdlhdkofcicjaa.AgesOwn
