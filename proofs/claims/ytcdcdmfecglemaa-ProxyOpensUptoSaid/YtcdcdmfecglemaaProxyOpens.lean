/- The law ProxyOpens: what the machine comes to, out of the tree of its text and the plain law. Printed by a program of mine (tool/walk.py). Conditions: none. -/
import Derived.Test.YtcdcdmfecglemaaPProxyO
import Derived.Test.YtcdcdmfecglemaaAbsQu
import Derived.KernelRfl
namespace Go.Proofs.Ytcdcdmfecglemaa.ProxyOpens
open Go Go.RowKit Go.Proofs.Ytcdcdmfecglemaa Go.Proofs.Ytcdcdmfecglemaa.Abs
set_option linter.unusedVariables false
set_option maxRecDepth 100000
theorem walk (a0 : Array Value) (a1 : Int) (a2 : Array Value) (a3 : Int) (a4 : Int) (a5 : Int) (a6 : ByteArray) (w : World) (h0 : Read.RdU 1048576 Try.prog w 49 a0.toList) (h1 : -9223372036854775808 ≤ a1 ∧ a1 ≤ 9223372036854775807) (h2 : Read.RdU 1048576 Try.prog w 26 a2.toList) (h3 : 0 ≤ a3 ∧ a3 ≤ 4294967295) (h4 : 0 ≤ a4 ∧ a4 ≤ 4294967295) (h5 : -9223372036854775808 ≤ a5 ∧ a5 ≤ 9223372036854775807) (h6 : a6.size < 1048576) : Calls Try.prog 9 #[.agg a0, .int .i64 a1, .agg a2, .int .u32 a3, .int .u32 a4, .int .i64 a5, .string a6] w fun e w' => e = .returned (.bool true) ∧ Below w.heap.size w w' := by
  obtain ⟨x0, r0, b0⟩ := rd_typed (cod := X.cod) (ps := [.i .u64, .i .u64]) (by kernel_rfl) (by kernel_rfl) h0.rd
  obtain ⟨v0_0, v0_1, ⟨⟩⟩ := x0
  replace b0 : ∀ d ∈ [D.i .u64 v0_0, D.i .u64 v0_1], BndD 6 d := b0
  replace r0 : RepAll w (fun b => b < w.heap.size) _ [D.i .u64 v0_0, D.i .u64 v0_1] := r0
  have b0_0 : 0 ≤ v0_0 ∧ v0_0 ≤ 18446744073709551615 := b0 _ List.mem_cons_self
  have b0_1 : 0 ≤ v0_1 ∧ v0_1 ≤ 18446744073709551615 := b0 _ (List.mem_cons_of_mem _ List.mem_cons_self)
  obtain ⟨x2, r2, b2⟩ := rd_typed (cod := X.cod) (ps := [.i .u32, .i .u32, .i .i64, .i .i64]) (by kernel_rfl) (by kernel_rfl) h2.rd
  obtain ⟨v2_0, v2_1, v2_2, v2_3, ⟨⟩⟩ := x2
  replace b2 : ∀ d ∈ [D.i .u32 v2_0, D.i .u32 v2_1, D.i .i64 v2_2, D.i .i64 v2_3], BndD 6 d := b2
  replace r2 : RepAll w (fun b => b < w.heap.size) _ [D.i .u32 v2_0, D.i .u32 v2_1, D.i .i64 v2_2, D.i .i64 v2_3] := r2
  have b2_0 : 0 ≤ v2_0 ∧ v2_0 ≤ 4294967295 := b2 _ List.mem_cons_self
  have b2_1 : 0 ≤ v2_1 ∧ v2_1 ≤ 4294967295 := b2 _ (List.mem_cons_of_mem _ List.mem_cons_self)
  have b2_2 : -9223372036854775808 ≤ v2_2 ∧ v2_2 ≤ 9223372036854775807 := b2 _ (List.mem_cons_of_mem _ (List.mem_cons_of_mem _ List.mem_cons_self))
  have b2_3 : -9223372036854775808 ≤ v2_3 ∧ v2_3 ≤ 9223372036854775807 := b2 _ (List.mem_cons_of_mem _ (List.mem_cons_of_mem _ (List.mem_cons_of_mem _ List.mem_cons_self)))
  have b6 : a6.data.toList.length < 1048576 := by rw [Array.length_toList]; exact h6
  exact law_told X.kOpens rfl (x := (v0_0, (v0_1, (a1, (v2_0, (v2_1, (v2_2, (v2_3, (a3, (a4, (a5, (a6.data.toList, ())))))))))))) ⟨(true, ()), X.kOpens_true b0_0 b0_1 h1 b2_0 b2_1 b2_2 b2_3 h3 h4 h5 b6, rfl, rfl⟩ (RepArgs.agg r0 (RepArgs.i (RepArgs.agg r2 (RepArgs.i (RepArgs.i (RepArgs.i (RepArgs.s RepArgs.nil))))))) rfl
end Go.Proofs.Ytcdcdmfecglemaa.ProxyOpens
