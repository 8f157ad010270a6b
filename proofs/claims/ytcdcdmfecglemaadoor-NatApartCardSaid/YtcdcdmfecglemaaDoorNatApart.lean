/- The law NatApart: what the machine comes to, out of the tree of its text and the plain law. Printed by a program of mine (tool/walk.py). Conditions: none. -/
import Derived.Test.YtcdcdmfecglemaaDoorPNatA
import Derived.Test.YtcdcdmfecglemaaDoorAbsQ
import Derived.KernelRfl
namespace Go.Proofs.YtcdcdmfecglemaaDoor.NatApart
open Go Go.RowKit Go.Proofs.YtcdcdmfecglemaaDoor Go.Proofs.YtcdcdmfecglemaaDoor.Abs
set_option linter.unusedVariables false
set_option maxRecDepth 100000
theorem walk (a0 : Array Value) (a1 : Int) (a2 : Int) (a3 : Int) (a4 : Int) (w : World) (h0 : Read.Rd Tryd.prog w 27 a0.toList) (h1 : -9223372036854775808 ≤ a1 ∧ a1 ≤ 9223372036854775807) (h2 : 0 ≤ a2 ∧ a2 ≤ 4294967295) (h3 : -9223372036854775808 ≤ a3 ∧ a3 ≤ 9223372036854775807) (h4 : -9223372036854775808 ≤ a4 ∧ a4 ≤ 9223372036854775807) (hgl : ∀ e ∈ Abs.globs, ∃ x y, w.heap[e.1]? = some (.cells e.2 x y)) : Calls Tryd.prog 5 #[.agg a0, .int .i64 a1, .int .u32 a2, .int .i64 a3, .int .i64 a4] w fun e w' => e = .returned (.bool true) ∧ Below w.heap.size w w' := by
  obtain ⟨x0, r0, b0⟩ := rd_typed (cod := X.cod) (ps := [.i .i64, .i .i64, .i .u64, .i .i64, .i .u64, .st 17]) (by kernel_rfl) (by kernel_rfl) h0
  obtain ⟨v0_0, v0_1, v0_2, v0_3, v0_4, v0_5, ⟨⟩⟩ := x0
  replace b0 : ∀ d ∈ [D.i .i64 v0_0, D.i .i64 v0_1, D.i .u64 v0_2, D.i .i64 v0_3, D.i .u64 v0_4, D.st 17 v0_5], BndD 6 d := b0
  replace r0 : RepAll w (fun b => b < w.heap.size) _ [D.i .i64 v0_0, D.i .i64 v0_1, D.i .u64 v0_2, D.i .i64 v0_3, D.i .u64 v0_4, D.st 17 v0_5] := r0
  have b0_0 : -9223372036854775808 ≤ v0_0 ∧ v0_0 ≤ 9223372036854775807 := b0 _ List.mem_cons_self
  have b0_1 : -9223372036854775808 ≤ v0_1 ∧ v0_1 ≤ 9223372036854775807 := b0 _ (List.mem_cons_of_mem _ List.mem_cons_self)
  have b0_2 : 0 ≤ v0_2 ∧ v0_2 ≤ 18446744073709551615 := b0 _ (List.mem_cons_of_mem _ (List.mem_cons_of_mem _ List.mem_cons_self))
  have b0_3 : -9223372036854775808 ≤ v0_3 ∧ v0_3 ≤ 9223372036854775807 := b0 _ (List.mem_cons_of_mem _ (List.mem_cons_of_mem _ (List.mem_cons_of_mem _ List.mem_cons_self)))
  have b0_4 : 0 ≤ v0_4 ∧ v0_4 ≤ 18446744073709551615 := b0 _ (List.mem_cons_of_mem _ (List.mem_cons_of_mem _ (List.mem_cons_of_mem _ (List.mem_cons_of_mem _ List.mem_cons_self))))
  have b0_5 : BndD 6 (D.st 17 v0_5) := b0 _ (List.mem_cons_of_mem _ (List.mem_cons_of_mem _ (List.mem_cons_of_mem _ (List.mem_cons_of_mem _ (List.mem_cons_of_mem _ List.mem_cons_self)))))
  exact law_told X.natApart rfl (x := (v0_0, (v0_1, (v0_2, (v0_3, (v0_4, (v0_5, (a1, (a2, (a3, (a4, ()))))))))))) ⟨(true, ()), X.natApart_true b0_0 b0_1 b0_2 b0_3 b0_4 b0_5 h1 h2 h3 h4, rfl, rfl⟩ (RepArgs.agg r0 (RepArgs.i (RepArgs.i (RepArgs.i (RepArgs.i RepArgs.nil))))) rfl hgl
end Go.Proofs.YtcdcdmfecglemaaDoor.NatApart
