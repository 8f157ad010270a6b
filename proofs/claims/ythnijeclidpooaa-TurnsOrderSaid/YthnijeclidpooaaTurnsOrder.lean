/- The law TurnsOrder: what the machine comes to, out of the tree of its text and the plain law. Printed by a program of mine (tool/walk.py). Conditions: none. -/
import Derived.Test.YthnijeclidpooaaPTurnsO
import Derived.Test.YthnijeclidpooaaAbsQ
import Derived.KernelRfl
namespace Go.Proofs.Ythnijeclidpooaa.TurnsOrder
open Go Go.RowKit Go.Proofs.Ythnijeclidpooaa Go.Proofs.Ythnijeclidpooaa.Abs
set_option linter.unusedVariables false
set_option maxRecDepth 100000
theorem walk (a0 : Option Addr) (l0 c0 : Nat) (a1 : Int) (w : World) (h0 : Read.Rd Try.prog w 23 [.slice a0 l0 c0]) (h1 : -9223372036854775808 ≤ a1 ∧ a1 ≤ 9223372036854775807) : Calls Try.prog 3 #[.slice a0 l0 c0, .int .i64 a1] w fun e w' => e = .returned (.bool true) ∧ Below w.heap.size w w' := by
  obtain ⟨x0, r0, b0⟩ := rd_typed (cod := X.cod) (ps := [.st 12]) (by kernel_rfl) (by kernel_rfl) h0
  obtain ⟨v0_0, ⟨⟩⟩ := x0
  replace b0 : ∀ d ∈ [D.st 12 v0_0], BndD 6 d := b0
  replace r0 : RepAll w (fun b => b < w.heap.size) _ [D.st 12 v0_0] := r0
  have b0_0 : BndD 6 (D.st 12 v0_0) := b0 _ List.mem_cons_self
  have hT : X.turnsOrder_fn (v0_0, (a1, ())) = some (true, ()) := X.turnsOrder_true b0_0 h1
  exact law_told X.turnsOrder rfl (x := (v0_0, (a1, ()))) ⟨(true, ()), (congrFun (show X.turnsOrder.fn = X.turnsOrder_fn by kernel_rfl) _).trans hT, rfl, rfl⟩ (RepArgs.d1 r0 (RepArgs.i RepArgs.nil)) rfl
end Go.Proofs.Ythnijeclidpooaa.TurnsOrder
