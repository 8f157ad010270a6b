/- The law FragBounds: what the machine comes to, out of the tree of its text and the plain law. Printed by a program of mine (tool/walk.py). Conditions: none. -/
import Derived.Test.YthnijeclidpooaaPFeedI
import Derived.Test.YthnijeclidpooaaAbsQ
import Derived.KernelRfl
namespace Go.Proofs.Ythnijeclidpooaa.FragBounds
open Go Go.RowKit Go.Proofs.Ythnijeclidpooaa Go.Proofs.Ythnijeclidpooaa.Abs
set_option linter.unusedVariables false
set_option maxRecDepth 100000
theorem walk (a0 : Option Addr) (l0 c0 : Nat) (w : World) (h0 : Read.Rd Try.prog w 72 [.slice a0 l0 c0]) : Calls Try.prog 10 #[.slice a0 l0 c0] w fun e w' => e = .returned (.bool true) ∧ Below w.heap.size w w' := by
  obtain ⟨x0, r0, b0⟩ := rd_typed (cod := X.cod) (ps := [.st 20]) (by kernel_rfl) (by kernel_rfl) h0
  obtain ⟨v0_0, ⟨⟩⟩ := x0
  replace b0 : ∀ d ∈ [D.st 20 v0_0], BndD 6 d := b0
  replace r0 : RepAll w (fun b => b < w.heap.size) _ [D.st 20 v0_0] := r0
  have b0_0 : BndD 6 (D.st 20 v0_0) := b0 _ List.mem_cons_self
  have hT : X.fragBounds_fn (v0_0, ()) = some (true, ()) := X.fragBounds_true b0_0
  exact law_told X.fragBounds rfl (x := (v0_0, ())) ⟨(true, ()), (congrFun (show X.fragBounds.fn = X.fragBounds_fn by kernel_rfl) _).trans hT, rfl, rfl⟩ (RepArgs.d1 r0 RepArgs.nil) rfl
end Go.Proofs.Ythnijeclidpooaa.FragBounds
