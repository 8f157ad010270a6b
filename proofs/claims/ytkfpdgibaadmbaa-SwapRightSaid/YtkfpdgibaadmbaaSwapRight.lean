/- The law SwapRight: what the machine comes to, out of the tree of its text and the plain law. Printed by a program of mine (tool/walk.py). Conditions: none. -/
import Derived.Test.YtkfpdgibaadmbaaPSwapL
import Derived.Test.YtkfpdgibaadmbaaAbsQ
import Derived.KernelRfl
namespace Go.Proofs.Ytkfpdgibaadmbaa.SwapRight
open Go Go.RowKit Go.Proofs.Ytkfpdgibaadmbaa Go.Proofs.Ytkfpdgibaadmbaa.Abs
set_option linter.unusedVariables false
set_option maxRecDepth 100000
theorem walk (a0 : ByteArray) (a1 : Int) (a2 : Int) (a3 : Bool) (w : World) (h0 : a0.size ≤ 140737488351232) (h1 : 0 ≤ a1 ∧ a1 ≤ 4294967295) (h2 : -9223372036854775808 ≤ a2 ∧ a2 ≤ 9223372036854775807) : Calls Try.prog 3 #[.string a0, .int .u32 a1, .int .i64 a2, .bool a3] w fun e w' => e = .returned (.bool true) ∧ Below w.heap.size w w' := by
  have b0 : a0.data.toList.length ≤ 140737488351232 := by rw [Array.length_toList]; exact h0
  exact law_told X.swapRight rfl (x := (a0.data.toList, (a1, (a2, (a3, ()))))) ⟨(true, ()), X.swapRight_true b0 h1 h2, rfl, rfl⟩ (RepArgs.s (RepArgs.i (RepArgs.i (RepArgs.b RepArgs.nil)))) rfl
end Go.Proofs.Ytkfpdgibaadmbaa.SwapRight
