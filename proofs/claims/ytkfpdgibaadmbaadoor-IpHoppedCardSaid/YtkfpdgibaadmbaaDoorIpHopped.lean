/- The law IpHopped: what the machine comes to, out of the tree of its text and the plain law. Printed by a program of mine (tool/walk.py). Conditions: none. -/
import Derived.Test.YtkfpdgibaadmbaaDoorPIpH
import Derived.Test.YtkfpdgibaadmbaaDoorAbsQ
import Derived.KernelRfl
namespace Go.Proofs.YtkfpdgibaadmbaaDoor.IpHopped
open Go Go.RowKit Go.Proofs.YtkfpdgibaadmbaaDoor Go.Proofs.YtkfpdgibaadmbaaDoor.Abs
set_option linter.unusedVariables false
set_option maxRecDepth 100000
theorem walk (a0 : ByteArray) (w : World) (h0 : a0.size ≤ 140737488351232) (hgl : ∀ e ∈ Abs.globs, ∃ x y, w.heap[e.1]? = some (.cells e.2 x y)) : Calls Tryd.prog 4 #[.string a0] w fun e w' => e = .returned (.bool true) ∧ Below w.heap.size w w' := by
  have b0 : a0.data.toList.length ≤ 140737488351232 := by rw [Array.length_toList]; exact h0
  exact law_told X.ipHopped rfl (x := (a0.data.toList, ())) ⟨(true, ()), X.ipHopped_true b0, rfl, rfl⟩ (RepArgs.s RepArgs.nil) rfl hgl
end Go.Proofs.YtkfpdgibaadmbaaDoor.IpHopped
