/- The law ProxyBounds: what the machine comes to, out of the tree of its text and the plain law. Printed by a program of mine (tool/walk.py). Conditions: none. -/
import Derived.Test.YtcdcdmfecglemaaPProxyE
import Derived.Test.YtcdcdmfecglemaaAbsQu
import Derived.KernelRfl
namespace Go.Proofs.Ytcdcdmfecglemaa.ProxyBounds
open Go Go.RowKit Go.Proofs.Ytcdcdmfecglemaa Go.Proofs.Ytcdcdmfecglemaa.Abs
set_option linter.unusedVariables false
set_option maxRecDepth 100000
theorem walk (a0 : Array Value) (a1 : Array Value) (a2 : Array Value) (a3 : Int) (a4 : Bool) (w : World) (h0 : Read.RdU 1048576 Try.prog w 52 a0.toList) (h1 : Read.RdU 1048576 Try.prog w 26 a1.toList) (h2 : Read.RdU 1048576 Try.prog w 55 a2.toList) (h3 : -9223372036854775808 ≤ a3 ∧ a3 ≤ 9223372036854775807) : Calls Try.prog 10 #[.agg a0, .agg a1, .agg a2, .int .i64 a3, .bool a4] w fun e w' => e = .returned (.bool true) ∧ Below w.heap.size w w' := by
  obtain ⟨x0, r0, b0⟩ := rd_typed (cod := X.cod) (ps := [.i .u64, .i .u64, .i .i64, .st 18]) (by kernel_rfl) (by kernel_rfl) h0.rd
  obtain ⟨v0_0, v0_1, v0_2, v0_3, ⟨⟩⟩ := x0
  replace b0 : ∀ d ∈ [D.i .u64 v0_0, D.i .u64 v0_1, D.i .i64 v0_2, D.st 18 v0_3], BndD 6 d := b0
  replace r0 : RepAll w (fun b => b < w.heap.size) _ [D.i .u64 v0_0, D.i .u64 v0_1, D.i .i64 v0_2, D.st 18 v0_3] := r0
  have b0_0 : 0 ≤ v0_0 ∧ v0_0 ≤ 18446744073709551615 := b0 _ List.mem_cons_self
  have b0_1 : 0 ≤ v0_1 ∧ v0_1 ≤ 18446744073709551615 := b0 _ (List.mem_cons_of_mem _ List.mem_cons_self)
  have b0_2 : -9223372036854775808 ≤ v0_2 ∧ v0_2 ≤ 9223372036854775807 := b0 _ (List.mem_cons_of_mem _ (List.mem_cons_of_mem _ List.mem_cons_self))
  have b0_3 : BndD 6 (D.st 18 v0_3) := b0 _ (List.mem_cons_of_mem _ (List.mem_cons_of_mem _ (List.mem_cons_of_mem _ List.mem_cons_self)))
  have u0_3 : v0_3.length ≤ 1048576 := len_uptoF (i := 2) (e := 60) Try.underlying52 rfl (by kernel_rfl) h0 r0 rfl
  obtain ⟨x1, r1, b1⟩ := rd_typed (cod := X.cod) (ps := [.i .u32, .i .u32, .i .i64, .i .i64]) (by kernel_rfl) (by kernel_rfl) h1.rd
  obtain ⟨v1_0, v1_1, v1_2, v1_3, ⟨⟩⟩ := x1
  replace b1 : ∀ d ∈ [D.i .u32 v1_0, D.i .u32 v1_1, D.i .i64 v1_2, D.i .i64 v1_3], BndD 6 d := b1
  replace r1 : RepAll w (fun b => b < w.heap.size) _ [D.i .u32 v1_0, D.i .u32 v1_1, D.i .i64 v1_2, D.i .i64 v1_3] := r1
  have b1_0 : 0 ≤ v1_0 ∧ v1_0 ≤ 4294967295 := b1 _ List.mem_cons_self
  have b1_1 : 0 ≤ v1_1 ∧ v1_1 ≤ 4294967295 := b1 _ (List.mem_cons_of_mem _ List.mem_cons_self)
  have b1_2 : -9223372036854775808 ≤ v1_2 ∧ v1_2 ≤ 9223372036854775807 := b1 _ (List.mem_cons_of_mem _ (List.mem_cons_of_mem _ List.mem_cons_self))
  have b1_3 : -9223372036854775808 ≤ v1_3 ∧ v1_3 ≤ 9223372036854775807 := b1 _ (List.mem_cons_of_mem _ (List.mem_cons_of_mem _ (List.mem_cons_of_mem _ List.mem_cons_self)))
  obtain ⟨x2, r2, b2⟩ := rd_typed (cod := X.cod) (ps := [.i .i64, .i .i64, .i .u32, .i .u32, .i .i64, .i .i64, .i .i64, .st 4, .s]) (by kernel_rfl) (by kernel_rfl) h2.rd
  obtain ⟨v2_0, v2_1, v2_2, v2_3, v2_4, v2_5, v2_6, v2_7, v2_8, ⟨⟩⟩ := x2
  replace b2 : ∀ d ∈ [D.i .i64 v2_0, D.i .i64 v2_1, D.i .u32 v2_2, D.i .u32 v2_3, D.i .i64 v2_4, D.i .i64 v2_5, D.i .i64 v2_6, D.st 4 v2_7, D.s v2_8], BndD 6 d := b2
  replace r2 : RepAll w (fun b => b < w.heap.size) _ [D.i .i64 v2_0, D.i .i64 v2_1, D.i .u32 v2_2, D.i .u32 v2_3, D.i .i64 v2_4, D.i .i64 v2_5, D.i .i64 v2_6, D.st 4 v2_7, D.s v2_8] := r2
  have b2_0 : -9223372036854775808 ≤ v2_0 ∧ v2_0 ≤ 9223372036854775807 := b2 _ List.mem_cons_self
  have b2_1 : -9223372036854775808 ≤ v2_1 ∧ v2_1 ≤ 9223372036854775807 := b2 _ (List.mem_cons_of_mem _ List.mem_cons_self)
  have b2_2 : 0 ≤ v2_2 ∧ v2_2 ≤ 4294967295 := b2 _ (List.mem_cons_of_mem _ (List.mem_cons_of_mem _ List.mem_cons_self))
  have b2_3 : 0 ≤ v2_3 ∧ v2_3 ≤ 4294967295 := b2 _ (List.mem_cons_of_mem _ (List.mem_cons_of_mem _ (List.mem_cons_of_mem _ List.mem_cons_self)))
  have b2_4 : -9223372036854775808 ≤ v2_4 ∧ v2_4 ≤ 9223372036854775807 := b2 _ (List.mem_cons_of_mem _ (List.mem_cons_of_mem _ (List.mem_cons_of_mem _ (List.mem_cons_of_mem _ List.mem_cons_self))))
  have b2_5 : -9223372036854775808 ≤ v2_5 ∧ v2_5 ≤ 9223372036854775807 := b2 _ (List.mem_cons_of_mem _ (List.mem_cons_of_mem _ (List.mem_cons_of_mem _ (List.mem_cons_of_mem _ (List.mem_cons_of_mem _ List.mem_cons_self)))))
  have b2_6 : -9223372036854775808 ≤ v2_6 ∧ v2_6 ≤ 9223372036854775807 := b2 _ (List.mem_cons_of_mem _ (List.mem_cons_of_mem _ (List.mem_cons_of_mem _ (List.mem_cons_of_mem _ (List.mem_cons_of_mem _ (List.mem_cons_of_mem _ List.mem_cons_self))))))
  have b2_7 : BndD 6 (D.st 4 v2_7) := b2 _ (List.mem_cons_of_mem _ (List.mem_cons_of_mem _ (List.mem_cons_of_mem _ (List.mem_cons_of_mem _ (List.mem_cons_of_mem _ (List.mem_cons_of_mem _ (List.mem_cons_of_mem _ List.mem_cons_self)))))))
  have u2_7 : v2_7.length ≤ 1048576 := len_uptoF (i := 7) (e := 106) Try.underlying55 rfl (by kernel_rfl) h2 r2 rfl
  have b2_8 : v2_8.length ≤ 140737488351232 := b2 _ (List.mem_cons_of_mem _ (List.mem_cons_of_mem _ (List.mem_cons_of_mem _ (List.mem_cons_of_mem _ (List.mem_cons_of_mem _ (List.mem_cons_of_mem _ (List.mem_cons_of_mem _ (List.mem_cons_of_mem _ List.mem_cons_self))))))))
  exact law_told X.kBounds rfl (x := (v0_0, (v0_1, (v0_2, (v0_3, (v1_0, (v1_1, (v1_2, (v1_3, (v2_0, (v2_1, (v2_2, (v2_3, (v2_4, (v2_5, (v2_6, (v2_7, (v2_8, (a3, (a4, ())))))))))))))))))))) ⟨(true, ()), X.kBounds_true b0_0 b0_1 b0_2 b0_3 u0_3 b1_0 b1_1 b1_2 b1_3 b2_0 b2_1 b2_2 b2_3 b2_4 b2_5 b2_6 b2_7 u2_7 b2_8 h3, rfl, rfl⟩ (RepArgs.agg r0 (RepArgs.agg r1 (RepArgs.agg r2 (RepArgs.i (RepArgs.b RepArgs.nil))))) rfl
end Go.Proofs.Ytcdcdmfecglemaa.ProxyBounds
