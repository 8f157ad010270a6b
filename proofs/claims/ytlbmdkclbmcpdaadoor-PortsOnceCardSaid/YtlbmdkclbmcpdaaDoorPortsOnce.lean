/- The law PortsOnce: what the machine comes to, out of the tree of its text and the plain law. Printed by a program of mine (tool/walk.py). Conditions: none. -/
import Derived.Test.YtlbmdkclbmcpdaaDoorPPortsL
import Derived.Test.YtlbmdkclbmcpdaaDoorAbsQ
import Derived.KernelRfl
namespace Go.Proofs.YtlbmdkclbmcpdaaDoor.PortsOnce
open Go Go.RowKit Go.Proofs.YtlbmdkclbmcpdaaDoor Go.Proofs.YtlbmdkclbmcpdaaDoor.Abs
set_option linter.unusedVariables false
set_option maxRecDepth 100000
theorem walk (a0 : Array Value) (a1 : Option Addr) (l1 c1 : Nat) (w : World) (h0 : Read.Rd Tryd.prog w 24 a0.toList) (h1 : Read.Rd Tryd.prog w 32 [.slice a1 l1 c1]) (hgl : ∀ e ∈ Abs.globs, ∃ x y, w.heap[e.1]? = some (.cells e.2 x y)) : Calls Tryd.prog 4 #[.agg a0, .slice a1 l1 c1] w fun e w' => e = .returned (.bool true) ∧ Below w.heap.size w w' := by
  obtain ⟨x0, r0, b0⟩ := rd_typed (cod := X.cod) (ps := [.i .i64, .i .u64]) (by kernel_rfl) (by kernel_rfl) h0
  obtain ⟨v0_0, v0_1, ⟨⟩⟩ := x0
  replace b0 : ∀ d ∈ [D.i .i64 v0_0, D.i .u64 v0_1], BndD 6 d := b0
  replace r0 : RepAll w (fun b => b < w.heap.size) _ [D.i .i64 v0_0, D.i .u64 v0_1] := r0
  have b0_0 : -9223372036854775808 ≤ v0_0 ∧ v0_0 ≤ 9223372036854775807 := b0 _ List.mem_cons_self
  have b0_1 : 0 ≤ v0_1 ∧ v0_1 ≤ 18446744073709551615 := b0 _ (List.mem_cons_of_mem _ List.mem_cons_self)
  obtain ⟨x1, r1, b1⟩ := rd_typed (cod := X.cod) (ps := [.st 0]) (by kernel_rfl) (by kernel_rfl) h1
  obtain ⟨v1_0, ⟨⟩⟩ := x1
  replace b1 : ∀ d ∈ [D.st 0 v1_0], BndD 6 d := b1
  replace r1 : RepAll w (fun b => b < w.heap.size) _ [D.st 0 v1_0] := r1
  have b1_0 : BndD 6 (D.st 0 v1_0) := b1 _ List.mem_cons_self
  exact law_told X.portsOnce rfl (x := (v0_0, (v0_1, (v1_0, ())))) ⟨(true, ()), X.portsOnce_true b0_0 b0_1 b1_0, rfl, rfl⟩ (RepArgs.agg r0 (RepArgs.d1 r1 RepArgs.nil)) rfl hgl
end Go.Proofs.YtlbmdkclbmcpdaaDoor.PortsOnce
