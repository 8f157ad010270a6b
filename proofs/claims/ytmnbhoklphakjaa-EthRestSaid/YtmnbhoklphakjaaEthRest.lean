/- The law EthRest: what the machine comes to, out of the tree of its text and the plain law. Printed by a program of mine (tool/walk.py). Conditions: none. -/
import Derived.Test.YtmnbhoklphakjaaPEth
import Derived.Test.YtmnbhoklphakjaaAbsQ
import Derived.KernelRfl
namespace Go.Proofs.Ytmnbhoklphakjaa.EthRest
open Go Go.RowKit Go.Proofs.Ytmnbhoklphakjaa Go.Proofs.Ytmnbhoklphakjaa.Abs
set_option linter.unusedVariables false
set_option maxRecDepth 100000
theorem walk (a0 : ByteArray) (a1 : ByteArray) (w : World) (h0 : a0.size ≤ 140737488351232) (h1 : a1.size ≤ 140737488351232) : Calls Try.prog 8 #[.string a0, .string a1] w fun e w' => e = .returned (.bool true) ∧ Below w.heap.size w w' := by
  have b0 : a0.data.toList.length ≤ 140737488351232 := by rw [Array.length_toList]; exact h0
  have b1 : a1.data.toList.length ≤ 140737488351232 := by rw [Array.length_toList]; exact h1
  exact law_told X.ethRest rfl (x := (a0.data.toList, (a1.data.toList, ()))) ⟨(true, ()), X.ethRest_true b0 b1, rfl, rfl⟩ (RepArgs.s (RepArgs.s RepArgs.nil)) rfl
end Go.Proofs.Ytmnbhoklphakjaa.EthRest
