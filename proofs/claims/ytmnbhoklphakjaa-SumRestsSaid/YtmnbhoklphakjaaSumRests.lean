/- The law SumRests: what the machine comes to, out of the tree of its text and the plain law. Printed by a program of mine (tool/walk.py). Conditions: none. -/
import Derived.Test.YtmnbhoklphakjaaPSumR
import Derived.Test.YtmnbhoklphakjaaAbsQ
import Derived.KernelRfl
namespace Go.Proofs.Ytmnbhoklphakjaa.SumRests
open Go Go.RowKit Go.Proofs.Ytmnbhoklphakjaa Go.Proofs.Ytmnbhoklphakjaa.Abs
set_option linter.unusedVariables false
set_option maxRecDepth 100000
theorem walk (a0 : ByteArray) (a1 : Int) (w : World) (h0 : a0.size ≤ 140737488351232) (h1 : 0 ≤ a1 ∧ a1 ≤ 65535) : Calls Try.prog 11 #[.string a0, .int .u16 a1] w fun e w' => e = .returned (.bool true) ∧ Below w.heap.size w w' := by
  have b0 : a0.data.toList.length ≤ 140737488351232 := by rw [Array.length_toList]; exact h0
  exact law_told X.sumRests rfl (x := (a0.data.toList, (a1, ()))) ⟨(true, ()), X.sumRests_true b0 h1, rfl, rfl⟩ (RepArgs.s (RepArgs.i RepArgs.nil)) rfl
end Go.Proofs.Ytmnbhoklphakjaa.SumRests
