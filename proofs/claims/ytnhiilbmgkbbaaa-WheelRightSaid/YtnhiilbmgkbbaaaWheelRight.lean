/- The law WheelRight: what the machine comes to, out of the tree of its text and the plain law. Printed by a program of mine (tool/walk.py). Conditions: none. -/
import Derived.Test.YtnhiilbmgkbbaaaPWhF
import Derived.Test.YtnhiilbmgkbbaaaAbsQ
import Derived.KernelRfl
namespace Go.Proofs.Ytnhiilbmgkbbaaa.WheelRight
open Go Go.RowKit Go.Proofs.Ytnhiilbmgkbbaaa Go.Proofs.Ytnhiilbmgkbbaaa.Abs
set_option linter.unusedVariables false
set_option maxRecDepth 100000
theorem walk (a0 : Array Value) (a1 : Int) (a2 : Int) (a3 : Int) (w : World) (h0 : Read.Rd Try.prog w 25 a0.toList) (h1 : -9223372036854775808 ≤ a1 ∧ a1 ≤ 9223372036854775807) (h2 : -9223372036854775808 ≤ a2 ∧ a2 ≤ 9223372036854775807) (h3 : -9223372036854775808 ≤ a3 ∧ a3 ≤ 9223372036854775807) : Calls Try.prog 5 #[.agg a0, .int .i64 a1, .int .i64 a2, .int .i64 a3] w fun e w' => e = .returned (.bool true) ∧ Below w.heap.size w w' := by
  obtain ⟨n0, L0, g0, r0, q0, bl0⟩ := rd_typedG (cod := X.cod) (k := .i64) (n := 96) (c := 14) (by kernel_rfl) (by kernel_rfl) h0
  have b0 : -9223372036854775808 ≤ n0 ∧ n0 ≤ 9223372036854775807 := q0
  have hT : X.wheelRight_fn (n0, (L0, (a1, (a2, (a3, ()))))) = some (true, ()) := X.wheelRight_true b0 g0 bl0 h1 h2 h3
  exact law_told X.wheelRight rfl (x := (n0, (L0, (a1, (a2, (a3, ())))))) ⟨(true, ()), (congrFun (show X.wheelRight.fn = X.wheelRight_fn by kernel_rfl) _).trans hT, rfl, rfl⟩ (RepArgs.aggG r0 g0 (RepArgs.i (RepArgs.i (RepArgs.i RepArgs.nil)))) rfl
end Go.Proofs.Ytnhiilbmgkbbaaa.WheelRight
