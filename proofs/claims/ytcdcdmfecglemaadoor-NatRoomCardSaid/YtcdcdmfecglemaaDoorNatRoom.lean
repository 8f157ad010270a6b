/- The law NatRoom: what the machine comes to, out of the tree of its text and the plain law. Printed by a program of mine (tool/walk.py). Conditions: none. -/
import Derived.Test.YtcdcdmfecglemaaDoorPNatM
import Derived.Test.YtcdcdmfecglemaaDoorAbsQ
import Derived.KernelRfl
namespace Go.Proofs.YtcdcdmfecglemaaDoor.NatRoom
open Go Go.RowKit Go.Proofs.YtcdcdmfecglemaaDoor Go.Proofs.YtcdcdmfecglemaaDoor.Abs
set_option linter.unusedVariables false
set_option maxRecDepth 100000
theorem walk (a0 : Int) (a1 : Int) (a2 : Option Addr) (l2 c2 : Nat) (w : World) (h0 : -9223372036854775808 ≤ a0 ∧ a0 ≤ 9223372036854775807) (h1 : -9223372036854775808 ≤ a1 ∧ a1 ≤ 9223372036854775807) (h2 : Read.Rd Tryd.prog w 36 [.slice a2 l2 c2]) (hgl : ∀ e ∈ Abs.globs, ∃ x y, w.heap[e.1]? = some (.cells e.2 x y)) : Calls Tryd.prog 4 #[.int .i64 a0, .int .i64 a1, .slice a2 l2 c2] w fun e w' => e = .returned (.bool true) ∧ Below w.heap.size w w' := by
  obtain ⟨x2, r2, b2⟩ := rd_typed (cod := X.cod) (ps := [.st 0]) (by kernel_rfl) (by kernel_rfl) h2
  obtain ⟨v2_0, ⟨⟩⟩ := x2
  replace b2 : ∀ d ∈ [D.st 0 v2_0], BndD 6 d := b2
  replace r2 : RepAll w (fun b => b < w.heap.size) _ [D.st 0 v2_0] := r2
  have b2_0 : BndD 6 (D.st 0 v2_0) := b2 _ List.mem_cons_self
  exact law_told X.natRoom rfl (x := (a0, (a1, (v2_0, ())))) ⟨(true, ()), X.natRoom_true h0 h1 b2_0, rfl, rfl⟩ (RepArgs.i (RepArgs.i (RepArgs.d1 r2 RepArgs.nil))) rfl hgl
end Go.Proofs.YtcdcdmfecglemaaDoor.NatRoom
