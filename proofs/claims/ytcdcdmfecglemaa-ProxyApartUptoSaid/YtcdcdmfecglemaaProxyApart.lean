/- The law ProxyApart: what the machine comes to, out of the tree of its text and the plain law. Printed by a program of mine (tool/walk.py). Conditions: none. -/
import Derived.Test.YtcdcdmfecglemaaPProxyA
import Derived.Test.YtcdcdmfecglemaaAbsQu
import Derived.KernelRfl
namespace Go.Proofs.Ytcdcdmfecglemaa.ProxyApart
open Go Go.RowKit Go.Proofs.Ytcdcdmfecglemaa Go.Proofs.Ytcdcdmfecglemaa.Abs
set_option linter.unusedVariables false
set_option maxRecDepth 100000
theorem walk (a0 : Array Value) (a1 : Array Value) (a2 : Array Value) (a3 : Array Value) (a4 : Int) (a5 : Bool) (w : World) (h0 : Read.RdU 1048576 Try.prog w 52 a0.toList) (h1 : Read.RdU 1048576 Try.prog w 26 a1.toList) (h2 : Read.RdU 1048576 Try.prog w 26 a2.toList) (h3 : Read.RdU 1048576 Try.prog w 55 a3.toList) (h4 : -9223372036854775808 ≤ a4 ∧ a4 ≤ 9223372036854775807) : Calls Try.prog 11 #[.agg a0, .agg a1, .agg a2, .agg a3, .int .i64 a4, .bool a5] w fun e w' => e = .returned (.bool true) ∧ Below w.heap.size w w' := by
  obtain ⟨x0, r0, b0⟩ := rd_typed (cod := X.cod) (ps := [.i .u64, .i .u64, .i .i64, .st 18]) (by kernel_rfl) (by kernel_rfl) h0.rd
  obtain ⟨v0_0, v0_1, v0_2, v0_3, ⟨⟩⟩ := x0
  replace b0 : ∀ d ∈ [D.i .u64 v0_0, D.i .u64 v0_1, D.i .i64 v0_2, D.st 18 v0_3], BndD 6 d := b0
  replace r0 : RepAll w (fun b => b < w.heap.size) _ [D.i .u64 v0_0, D.i .u64 v0_1, D.i .i64 v0_2, D.st 18 v0_3] := r0
  have b0_0 : 0 ≤ v0_0 ∧ v0_0 ≤ 18446744073709551615 := b0 _ List.mem_cons_self
  have b0_1 : 0 ≤ v0_1 ∧ v0_1 ≤ 18446744073709551615 := b0 _ (List.mem_cons_of_mem _ List.mem_cons_self)
  have b0_2 : -9223372036854775808 ≤ v0_2 ∧ v0_2 ≤ 9223372036854775807 := b0 _ (List.mem_cons_of_mem _ (List.mem_cons_of_mem _ List.mem_cons_self))
  have b0_3 : BndD 6 (D.st 18 v0_3) := b0 _ (List.mem_cons_of_mem _ (List.mem_cons_of_mem _ (List.mem_cons_of_mem _ List.mem_cons_self)))
  have u0_3 : v0_3.length ≤ 1048576 := len_uptoF (i := 2) (e := 60) Try.underlying52 rfl (by kernel_rfl) h0 r0 rfl
  obtain ⟨x1, r1, b1⟩ := rd_typed (cod := X.cod) (ps := [.i .u32, .i .u32, .i .i64, .i .i64]) (by kernel_rfl) (by kernel_rfl) h1.rd
  obtain ⟨v1_0, v1_1, v1_2, v1_3, ⟨⟩⟩ := x1
  replace b1 : ∀ d ∈ [D.i .u32 v1_0, D.i .u32 v1_1, D.i .i64 v1_2, D.i .i64 v1_3], BndD 6 d := b1
  replace r1 : RepAll w (fun b => b < w.heap.size) _ [D.i .u32 v1_0, D.i .u32 v1_1, D.i .i64 v1_2, D.i .i64 v1_3] := r1
  have b1_0 : 0 ≤ v1_0 ∧ v1_0 ≤ 4294967295 := b1 _ List.mem_cons_self
  have b1_1 : 0 ≤ v1_1 ∧ v1_1 ≤ 4294967295 := b1 _ (List.mem_cons_of_mem _ List.mem_cons_self)
  have b1_2 : -9223372036854775808 ≤ v1_2 ∧ v1_2 ≤ 9223372036854775807 := b1 _ (List.mem_cons_of_mem _ (List.mem_cons_of_mem _ List.mem_cons_self))
  have b1_3 : -9223372036854775808 ≤ v1_3 ∧ v1_3 ≤ 9223372036854775807 := b1 _ (List.mem_cons_of_mem _ (List.mem_cons_of_mem _ (List.mem_cons_of_mem _ List.mem_cons_self)))
  obtain ⟨x2, r2, b2⟩ := rd_typed (cod := X.cod) (ps := [.i .u32, .i .u32, .i .i64, .i .i64]) (by kernel_rfl) (by kernel_rfl) h2.rd
  obtain ⟨v2_0, v2_1, v2_2, v2_3, ⟨⟩⟩ := x2
  replace b2 : ∀ d ∈ [D.i .u32 v2_0, D.i .u32 v2_1, D.i .i64 v2_2, D.i .i64 v2_3], BndD 6 d := b2
  replace r2 : RepAll w (fun b => b < w.heap.size) _ [D.i .u32 v2_0, D.i .u32 v2_1, D.i .i64 v2_2, D.i .i64 v2_3] := r2
  have b2_0 : 0 ≤ v2_0 ∧ v2_0 ≤ 4294967295 := b2 _ List.mem_cons_self
  have b2_1 : 0 ≤ v2_1 ∧ v2_1 ≤ 4294967295 := b2 _ (List.mem_cons_of_mem _ List.mem_cons_self)
  have b2_2 : -9223372036854775808 ≤ v2_2 ∧ v2_2 ≤ 9223372036854775807 := b2 _ (List.mem_cons_of_mem _ (List.mem_cons_of_mem _ List.mem_cons_self))
  have b2_3 : -9223372036854775808 ≤ v2_3 ∧ v2_3 ≤ 9223372036854775807 := b2 _ (List.mem_cons_of_mem _ (List.mem_cons_of_mem _ (List.mem_cons_of_mem _ List.mem_cons_self)))
  obtain ⟨x3, r3, b3⟩ := rd_typed (cod := X.cod) (ps := [.i .i64, .i .i64, .i .u32, .i .u32, .i .i64, .i .i64, .i .i64, .st 4, .s]) (by kernel_rfl) (by kernel_rfl) h3.rd
  obtain ⟨v3_0, v3_1, v3_2, v3_3, v3_4, v3_5, v3_6, v3_7, v3_8, ⟨⟩⟩ := x3
  replace b3 : ∀ d ∈ [D.i .i64 v3_0, D.i .i64 v3_1, D.i .u32 v3_2, D.i .u32 v3_3, D.i .i64 v3_4, D.i .i64 v3_5, D.i .i64 v3_6, D.st 4 v3_7, D.s v3_8], BndD 6 d := b3
  replace r3 : RepAll w (fun b => b < w.heap.size) _ [D.i .i64 v3_0, D.i .i64 v3_1, D.i .u32 v3_2, D.i .u32 v3_3, D.i .i64 v3_4, D.i .i64 v3_5, D.i .i64 v3_6, D.st 4 v3_7, D.s v3_8] := r3
  have b3_0 : -9223372036854775808 ≤ v3_0 ∧ v3_0 ≤ 9223372036854775807 := b3 _ List.mem_cons_self
  have b3_1 : -9223372036854775808 ≤ v3_1 ∧ v3_1 ≤ 9223372036854775807 := b3 _ (List.mem_cons_of_mem _ List.mem_cons_self)
  have b3_2 : 0 ≤ v3_2 ∧ v3_2 ≤ 4294967295 := b3 _ (List.mem_cons_of_mem _ (List.mem_cons_of_mem _ List.mem_cons_self))
  have b3_3 : 0 ≤ v3_3 ∧ v3_3 ≤ 4294967295 := b3 _ (List.mem_cons_of_mem _ (List.mem_cons_of_mem _ (List.mem_cons_of_mem _ List.mem_cons_self)))
  have b3_4 : -9223372036854775808 ≤ v3_4 ∧ v3_4 ≤ 9223372036854775807 := b3 _ (List.mem_cons_of_mem _ (List.mem_cons_of_mem _ (List.mem_cons_of_mem _ (List.mem_cons_of_mem _ List.mem_cons_self))))
  have b3_5 : -9223372036854775808 ≤ v3_5 ∧ v3_5 ≤ 9223372036854775807 := b3 _ (List.mem_cons_of_mem _ (List.mem_cons_of_mem _ (List.mem_cons_of_mem _ (List.mem_cons_of_mem _ (List.mem_cons_of_mem _ List.mem_cons_self)))))
  have b3_6 : -9223372036854775808 ≤ v3_6 ∧ v3_6 ≤ 9223372036854775807 := b3 _ (List.mem_cons_of_mem _ (List.mem_cons_of_mem _ (List.mem_cons_of_mem _ (List.mem_cons_of_mem _ (List.mem_cons_of_mem _ (List.mem_cons_of_mem _ List.mem_cons_self))))))
  have b3_7 : BndD 6 (D.st 4 v3_7) := b3 _ (List.mem_cons_of_mem _ (List.mem_cons_of_mem _ (List.mem_cons_of_mem _ (List.mem_cons_of_mem _ (List.mem_cons_of_mem _ (List.mem_cons_of_mem _ (List.mem_cons_of_mem _ List.mem_cons_self)))))))
  have u3_7 : v3_7.length ≤ 1048576 := len_uptoF (i := 7) (e := 106) Try.underlying55 rfl (by kernel_rfl) h3 r3 rfl
  have b3_8 : v3_8.length ≤ 140737488351232 := b3 _ (List.mem_cons_of_mem _ (List.mem_cons_of_mem _ (List.mem_cons_of_mem _ (List.mem_cons_of_mem _ (List.mem_cons_of_mem _ (List.mem_cons_of_mem _ (List.mem_cons_of_mem _ (List.mem_cons_of_mem _ List.mem_cons_self))))))))
  exact law_told X.kApart rfl (x := (v0_0, (v0_1, (v0_2, (v0_3, (v1_0, (v1_1, (v1_2, (v1_3, (v2_0, (v2_1, (v2_2, (v2_3, (v3_0, (v3_1, (v3_2, (v3_3, (v3_4, (v3_5, (v3_6, (v3_7, (v3_8, (a4, (a5, ())))))))))))))))))))))))) ⟨(true, ()), X.kApart_true b0_0 b0_1 b0_2 b0_3 u0_3 b1_0 b1_1 b1_2 b1_3 b2_0 b2_1 b2_2 b2_3 b3_0 b3_1 b3_2 b3_3 b3_4 b3_5 b3_6 b3_7 u3_7 b3_8 h4, rfl, rfl⟩ (RepArgs.agg r0 (RepArgs.agg r1 (RepArgs.agg r2 (RepArgs.agg r3 (RepArgs.i (RepArgs.b RepArgs.nil)))))) rfl
end Go.Proofs.Ytcdcdmfecglemaa.ProxyApart
