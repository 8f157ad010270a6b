/- The law SumFixes: what the machine comes to, out of the tree of its text and the plain law. Printed by a program of mine (tool/walk.py). Conditions: none. -/
import Derived.Test.YtmnbhoklphakjaaPSumR
import Derived.Test.YtmnbhoklphakjaaAbsQ
import Derived.KernelRfl
namespace Go.Proofs.Ytmnbhoklphakjaa.SumFixes
open Go Go.RowKit Go.Proofs.Ytmnbhoklphakjaa Go.Proofs.Ytmnbhoklphakjaa.Abs
set_option linter.unusedVariables false
set_option maxRecDepth 100000
theorem walk (a0 : ByteArray) (a1 : Int) (a2 : Int) (w : World) (h0 : a0.size ≤ 140737488351232) (h1 : -9223372036854775808 ≤ a1 ∧ a1 ≤ 9223372036854775807) (h2 : 0 ≤ a2 ∧ a2 ≤ 65535) : Calls Try.prog 12 #[.string a0, .int .i64 a1, .int .u16 a2] w fun e w' => e = .returned (.bool true) ∧ Below w.heap.size w w' := by
  have b0 : a0.data.toList.length ≤ 140737488351232 := by rw [Array.length_toList]; exact h0
  exact law_told X.sumFixes rfl (x := (a0.data.toList, (a1, (a2, ())))) ⟨(true, ()), X.sumFixes_true b0 h1 h2, rfl, rfl⟩ (RepArgs.s (RepArgs.i (RepArgs.i RepArgs.nil))) rfl
end Go.Proofs.Ytmnbhoklphakjaa.SumFixes
