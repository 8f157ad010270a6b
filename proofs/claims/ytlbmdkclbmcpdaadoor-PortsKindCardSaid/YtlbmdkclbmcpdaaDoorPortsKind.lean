/- The law PortsKind: what the machine comes to, out of the tree of its text and the plain law. Printed by a program of mine (tool/walk.py). Conditions: none. -/
import Derived.Test.YtlbmdkclbmcpdaaDoorPPortsL
import Derived.Test.YtlbmdkclbmcpdaaDoorAbsQ
import Derived.KernelRfl
namespace Go.Proofs.YtlbmdkclbmcpdaaDoor.PortsKind
open Go Go.RowKit Go.Proofs.YtlbmdkclbmcpdaaDoor Go.Proofs.YtlbmdkclbmcpdaaDoor.Abs
set_option linter.unusedVariables false
set_option maxRecDepth 100000
theorem walk (a0 : Array Value) (a1 : Int) (w : World) (h0 : Read.Rd Tryd.prog w 24 a0.toList) (h1 : -9223372036854775808 ≤ a1 ∧ a1 ≤ 9223372036854775807) (hgl : ∀ e ∈ Abs.globs, ∃ x y, w.heap[e.1]? = some (.cells e.2 x y)) : Calls Tryd.prog 3 #[.agg a0, .int .i64 a1] w fun e w' => e = .returned (.bool true) ∧ Below w.heap.size w w' := by
  obtain ⟨x0, r0, b0⟩ := rd_typed (cod := X.cod) (ps := [.i .i64, .i .u64]) (by kernel_rfl) (by kernel_rfl) h0
  obtain ⟨v0_0, v0_1, ⟨⟩⟩ := x0
  replace b0 : ∀ d ∈ [D.i .i64 v0_0, D.i .u64 v0_1], BndD 6 d := b0
  replace r0 : RepAll w (fun b => b < w.heap.size) _ [D.i .i64 v0_0, D.i .u64 v0_1] := r0
  have b0_0 : -9223372036854775808 ≤ v0_0 ∧ v0_0 ≤ 9223372036854775807 := b0 _ List.mem_cons_self
  have b0_1 : 0 ≤ v0_1 ∧ v0_1 ≤ 18446744073709551615 := b0 _ (List.mem_cons_of_mem _ List.mem_cons_self)
  exact law_told X.portsKind rfl (x := (v0_0, (v0_1, (a1, ())))) ⟨(true, ()), X.portsKind_true b0_0 b0_1 h1, rfl, rfl⟩ (RepArgs.agg r0 (RepArgs.i RepArgs.nil)) rfl hgl
end Go.Proofs.YtlbmdkclbmcpdaaDoor.PortsKind
