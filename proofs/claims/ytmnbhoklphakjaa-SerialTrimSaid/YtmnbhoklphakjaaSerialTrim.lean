/- The law SerialTrim: what the machine comes to, out of the tree of its text and the plain law. Printed by a program of mine (tool/walk.py). Conditions: none. -/
import Derived.Test.YtmnbhoklphakjaaPTrim
import Derived.Test.YtmnbhoklphakjaaAbsQ
import Derived.KernelRfl
namespace Go.Proofs.Ytmnbhoklphakjaa.SerialTrim
open Go Go.RowKit Go.Proofs.Ytmnbhoklphakjaa Go.Proofs.Ytmnbhoklphakjaa.Abs
set_option linter.unusedVariables false
set_option maxRecDepth 100000
theorem walk (a0 : Int) (a1 : ByteArray) (a2 : Int) (a3 : Int) (w : World) (h0 : 0 ≤ a0 ∧ a0 ≤ 4294967295) (h1 : a1.size ≤ 140737488351232) (h2 : 0 ≤ a2 ∧ a2 ≤ 4294967295) (h3 : 0 ≤ a3 ∧ a3 ≤ 4294967295) (hgi : ∀ g ∈ Abs.gints, g < w.heap.size ∧ ∃ m, w.cell? ⟨g, 0, none⟩ = some (.int .i64 m)) : Calls Try.prog 10 #[.int .u32 a0, .string a1, .int .u32 a2, .int .u32 a3] w fun e w' => e = .returned (.bool true) ∧ Below w.heap.size w w' := by
  have b1 : a1.data.toList.length ≤ 140737488351232 := by rw [Array.length_toList]; exact h1
  exact law_told X.kSerialTrim rfl (x := (a0, (a1.data.toList, (a2, (a3, ()))))) ⟨(true, ()), X.kSerialTrim_true h0 b1 h2 h3, rfl, rfl⟩ (RepArgs.i (RepArgs.s (RepArgs.i (RepArgs.i RepArgs.nil)))) rfl (hgi := hgi)
end Go.Proofs.Ytmnbhoklphakjaa.SerialTrim
