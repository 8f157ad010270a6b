/- The law TableOwn: what the machine comes to, out of the tree of its text and the plain law. Printed by a program of mine (tool/walk.py). Conditions: none. -/
import Derived.Test.YtgdlhdkofcicjaaPTableO
import Derived.Test.YtgdlhdkofcicjaaAbsQ
import Derived.KernelRfl
namespace Go.Proofs.Ytgdlhdkofcicjaa.TableOwn
open Go Go.RowKit Go.Proofs.Ytgdlhdkofcicjaa Go.Proofs.Ytgdlhdkofcicjaa.Abs
set_option linter.unusedVariables false
set_option maxRecDepth 100000
theorem walk (a0 : Array Value) (a1 : Int) (w : World) (h0 : Read.Rd Try.prog w 50 a0.toList) (h1 : 0 ≤ a1 ∧ a1 ≤ 18446744073709551615) : Calls Try.prog 10 #[.agg a0, .int .u64 a1] w fun e w' => e = .returned (.bool true) ∧ Below w.heap.size w w' := by
  obtain ⟨x0, r0, b0⟩ := rd_typed (cod := X.cod) (ps := [.st 7]) (by kernel_rfl) (by kernel_rfl) h0
  obtain ⟨v0_0, ⟨⟩⟩ := x0
  replace b0 : ∀ d ∈ [D.st 7 v0_0], BndD 6 d := b0
  replace r0 : RepAll w (fun b => b < w.heap.size) _ [D.st 7 v0_0] := r0
  have b0_0 : BndD 6 (D.st 7 v0_0) := b0 _ List.mem_cons_self
  exact law_told X.tableOwn rfl (x := (v0_0, (a1, ()))) ⟨(true, ()), X.tableOwn_true b0_0 h1, rfl, rfl⟩ (RepArgs.agg r0 (RepArgs.i RepArgs.nil)) rfl
end Go.Proofs.Ytgdlhdkofcicjaa.TableOwn
