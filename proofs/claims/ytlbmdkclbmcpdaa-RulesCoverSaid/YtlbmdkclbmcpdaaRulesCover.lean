/- The law RulesCover: what the machine comes to, out of the tree of its text and the plain law. Printed by a program of mine (tool/walk.py). Conditions: none. -/
import Derived.Test.YtlbmdkclbmcpdaaPRulesM
import Derived.Test.YtlbmdkclbmcpdaaAbsQ
import Derived.KernelRfl
namespace Go.Proofs.Ytlbmdkclbmcpdaa.RulesCover
open Go Go.RowKit Go.Proofs.Ytlbmdkclbmcpdaa Go.Proofs.Ytlbmdkclbmcpdaa.Abs
set_option linter.unusedVariables false
set_option maxRecDepth 100000
theorem walk (a0 : Array Value) (a1 : Array Value) (a2 : Array Value) (a3 : Array Value) (w : World) (h0 : Read.Rd Try.prog w 30 a0.toList) (h1 : Read.Rd Try.prog w 30 a1.toList) (h2 : Read.Rd Try.prog w 30 a2.toList) (h3 : Read.Rd Try.prog w 25 a3.toList) : Calls Try.prog 4 #[.agg a0, .agg a1, .agg a2, .agg a3] w fun e w' => e = .returned (.bool true) ∧ Below w.heap.size w w' := by
  obtain ⟨x0, r0, b0⟩ := rd_typed (cod := X.cod) (ps := [.i .u32, .i .i64, .i .u32, .i .i64, .i .i64, .i .i64, .i .i64, .i .i64, .i .i64, .b]) (by kernel_rfl) (by kernel_rfl) h0
  obtain ⟨v0_0, v0_1, v0_2, v0_3, v0_4, v0_5, v0_6, v0_7, v0_8, v0_9, ⟨⟩⟩ := x0
  replace b0 : ∀ d ∈ [D.i .u32 v0_0, D.i .i64 v0_1, D.i .u32 v0_2, D.i .i64 v0_3, D.i .i64 v0_4, D.i .i64 v0_5, D.i .i64 v0_6, D.i .i64 v0_7, D.i .i64 v0_8, D.b v0_9], BndD 6 d := b0
  replace r0 : RepAll w (fun b => b < w.heap.size) _ [D.i .u32 v0_0, D.i .i64 v0_1, D.i .u32 v0_2, D.i .i64 v0_3, D.i .i64 v0_4, D.i .i64 v0_5, D.i .i64 v0_6, D.i .i64 v0_7, D.i .i64 v0_8, D.b v0_9] := r0
  have b0_0 : 0 ≤ v0_0 ∧ v0_0 ≤ 4294967295 := b0 _ List.mem_cons_self
  have b0_1 : -9223372036854775808 ≤ v0_1 ∧ v0_1 ≤ 9223372036854775807 := b0 _ (List.mem_cons_of_mem _ List.mem_cons_self)
  have b0_2 : 0 ≤ v0_2 ∧ v0_2 ≤ 4294967295 := b0 _ (List.mem_cons_of_mem _ (List.mem_cons_of_mem _ List.mem_cons_self))
  have b0_3 : -9223372036854775808 ≤ v0_3 ∧ v0_3 ≤ 9223372036854775807 := b0 _ (List.mem_cons_of_mem _ (List.mem_cons_of_mem _ (List.mem_cons_of_mem _ List.mem_cons_self)))
  have b0_4 : -9223372036854775808 ≤ v0_4 ∧ v0_4 ≤ 9223372036854775807 := b0 _ (List.mem_cons_of_mem _ (List.mem_cons_of_mem _ (List.mem_cons_of_mem _ (List.mem_cons_of_mem _ List.mem_cons_self))))
  have b0_5 : -9223372036854775808 ≤ v0_5 ∧ v0_5 ≤ 9223372036854775807 := b0 _ (List.mem_cons_of_mem _ (List.mem_cons_of_mem _ (List.mem_cons_of_mem _ (List.mem_cons_of_mem _ (List.mem_cons_of_mem _ List.mem_cons_self)))))
  have b0_6 : -9223372036854775808 ≤ v0_6 ∧ v0_6 ≤ 9223372036854775807 := b0 _ (List.mem_cons_of_mem _ (List.mem_cons_of_mem _ (List.mem_cons_of_mem _ (List.mem_cons_of_mem _ (List.mem_cons_of_mem _ (List.mem_cons_of_mem _ List.mem_cons_self))))))
  have b0_7 : -9223372036854775808 ≤ v0_7 ∧ v0_7 ≤ 9223372036854775807 := b0 _ (List.mem_cons_of_mem _ (List.mem_cons_of_mem _ (List.mem_cons_of_mem _ (List.mem_cons_of_mem _ (List.mem_cons_of_mem _ (List.mem_cons_of_mem _ (List.mem_cons_of_mem _ List.mem_cons_self)))))))
  have b0_8 : -9223372036854775808 ≤ v0_8 ∧ v0_8 ≤ 9223372036854775807 := b0 _ (List.mem_cons_of_mem _ (List.mem_cons_of_mem _ (List.mem_cons_of_mem _ (List.mem_cons_of_mem _ (List.mem_cons_of_mem _ (List.mem_cons_of_mem _ (List.mem_cons_of_mem _ (List.mem_cons_of_mem _ List.mem_cons_self))))))))
  obtain ⟨x1, r1, b1⟩ := rd_typed (cod := X.cod) (ps := [.i .u32, .i .i64, .i .u32, .i .i64, .i .i64, .i .i64, .i .i64, .i .i64, .i .i64, .b]) (by kernel_rfl) (by kernel_rfl) h1
  obtain ⟨v1_0, v1_1, v1_2, v1_3, v1_4, v1_5, v1_6, v1_7, v1_8, v1_9, ⟨⟩⟩ := x1
  replace b1 : ∀ d ∈ [D.i .u32 v1_0, D.i .i64 v1_1, D.i .u32 v1_2, D.i .i64 v1_3, D.i .i64 v1_4, D.i .i64 v1_5, D.i .i64 v1_6, D.i .i64 v1_7, D.i .i64 v1_8, D.b v1_9], BndD 6 d := b1
  replace r1 : RepAll w (fun b => b < w.heap.size) _ [D.i .u32 v1_0, D.i .i64 v1_1, D.i .u32 v1_2, D.i .i64 v1_3, D.i .i64 v1_4, D.i .i64 v1_5, D.i .i64 v1_6, D.i .i64 v1_7, D.i .i64 v1_8, D.b v1_9] := r1
  have b1_0 : 0 ≤ v1_0 ∧ v1_0 ≤ 4294967295 := b1 _ List.mem_cons_self
  have b1_1 : -9223372036854775808 ≤ v1_1 ∧ v1_1 ≤ 9223372036854775807 := b1 _ (List.mem_cons_of_mem _ List.mem_cons_self)
  have b1_2 : 0 ≤ v1_2 ∧ v1_2 ≤ 4294967295 := b1 _ (List.mem_cons_of_mem _ (List.mem_cons_of_mem _ List.mem_cons_self))
  have b1_3 : -9223372036854775808 ≤ v1_3 ∧ v1_3 ≤ 9223372036854775807 := b1 _ (List.mem_cons_of_mem _ (List.mem_cons_of_mem _ (List.mem_cons_of_mem _ List.mem_cons_self)))
  have b1_4 : -9223372036854775808 ≤ v1_4 ∧ v1_4 ≤ 9223372036854775807 := b1 _ (List.mem_cons_of_mem _ (List.mem_cons_of_mem _ (List.mem_cons_of_mem _ (List.mem_cons_of_mem _ List.mem_cons_self))))
  have b1_5 : -9223372036854775808 ≤ v1_5 ∧ v1_5 ≤ 9223372036854775807 := b1 _ (List.mem_cons_of_mem _ (List.mem_cons_of_mem _ (List.mem_cons_of_mem _ (List.mem_cons_of_mem _ (List.mem_cons_of_mem _ List.mem_cons_self)))))
  have b1_6 : -9223372036854775808 ≤ v1_6 ∧ v1_6 ≤ 9223372036854775807 := b1 _ (List.mem_cons_of_mem _ (List.mem_cons_of_mem _ (List.mem_cons_of_mem _ (List.mem_cons_of_mem _ (List.mem_cons_of_mem _ (List.mem_cons_of_mem _ List.mem_cons_self))))))
  have b1_7 : -9223372036854775808 ≤ v1_7 ∧ v1_7 ≤ 9223372036854775807 := b1 _ (List.mem_cons_of_mem _ (List.mem_cons_of_mem _ (List.mem_cons_of_mem _ (List.mem_cons_of_mem _ (List.mem_cons_of_mem _ (List.mem_cons_of_mem _ (List.mem_cons_of_mem _ List.mem_cons_self)))))))
  have b1_8 : -9223372036854775808 ≤ v1_8 ∧ v1_8 ≤ 9223372036854775807 := b1 _ (List.mem_cons_of_mem _ (List.mem_cons_of_mem _ (List.mem_cons_of_mem _ (List.mem_cons_of_mem _ (List.mem_cons_of_mem _ (List.mem_cons_of_mem _ (List.mem_cons_of_mem _ (List.mem_cons_of_mem _ List.mem_cons_self))))))))
  obtain ⟨x2, r2, b2⟩ := rd_typed (cod := X.cod) (ps := [.i .u32, .i .i64, .i .u32, .i .i64, .i .i64, .i .i64, .i .i64, .i .i64, .i .i64, .b]) (by kernel_rfl) (by kernel_rfl) h2
  obtain ⟨v2_0, v2_1, v2_2, v2_3, v2_4, v2_5, v2_6, v2_7, v2_8, v2_9, ⟨⟩⟩ := x2
  replace b2 : ∀ d ∈ [D.i .u32 v2_0, D.i .i64 v2_1, D.i .u32 v2_2, D.i .i64 v2_3, D.i .i64 v2_4, D.i .i64 v2_5, D.i .i64 v2_6, D.i .i64 v2_7, D.i .i64 v2_8, D.b v2_9], BndD 6 d := b2
  replace r2 : RepAll w (fun b => b < w.heap.size) _ [D.i .u32 v2_0, D.i .i64 v2_1, D.i .u32 v2_2, D.i .i64 v2_3, D.i .i64 v2_4, D.i .i64 v2_5, D.i .i64 v2_6, D.i .i64 v2_7, D.i .i64 v2_8, D.b v2_9] := r2
  have b2_0 : 0 ≤ v2_0 ∧ v2_0 ≤ 4294967295 := b2 _ List.mem_cons_self
  have b2_1 : -9223372036854775808 ≤ v2_1 ∧ v2_1 ≤ 9223372036854775807 := b2 _ (List.mem_cons_of_mem _ List.mem_cons_self)
  have b2_2 : 0 ≤ v2_2 ∧ v2_2 ≤ 4294967295 := b2 _ (List.mem_cons_of_mem _ (List.mem_cons_of_mem _ List.mem_cons_self))
  have b2_3 : -9223372036854775808 ≤ v2_3 ∧ v2_3 ≤ 9223372036854775807 := b2 _ (List.mem_cons_of_mem _ (List.mem_cons_of_mem _ (List.mem_cons_of_mem _ List.mem_cons_self)))
  have b2_4 : -9223372036854775808 ≤ v2_4 ∧ v2_4 ≤ 9223372036854775807 := b2 _ (List.mem_cons_of_mem _ (List.mem_cons_of_mem _ (List.mem_cons_of_mem _ (List.mem_cons_of_mem _ List.mem_cons_self))))
  have b2_5 : -9223372036854775808 ≤ v2_5 ∧ v2_5 ≤ 9223372036854775807 := b2 _ (List.mem_cons_of_mem _ (List.mem_cons_of_mem _ (List.mem_cons_of_mem _ (List.mem_cons_of_mem _ (List.mem_cons_of_mem _ List.mem_cons_self)))))
  have b2_6 : -9223372036854775808 ≤ v2_6 ∧ v2_6 ≤ 9223372036854775807 := b2 _ (List.mem_cons_of_mem _ (List.mem_cons_of_mem _ (List.mem_cons_of_mem _ (List.mem_cons_of_mem _ (List.mem_cons_of_mem _ (List.mem_cons_of_mem _ List.mem_cons_self))))))
  have b2_7 : -9223372036854775808 ≤ v2_7 ∧ v2_7 ≤ 9223372036854775807 := b2 _ (List.mem_cons_of_mem _ (List.mem_cons_of_mem _ (List.mem_cons_of_mem _ (List.mem_cons_of_mem _ (List.mem_cons_of_mem _ (List.mem_cons_of_mem _ (List.mem_cons_of_mem _ List.mem_cons_self)))))))
  have b2_8 : -9223372036854775808 ≤ v2_8 ∧ v2_8 ≤ 9223372036854775807 := b2 _ (List.mem_cons_of_mem _ (List.mem_cons_of_mem _ (List.mem_cons_of_mem _ (List.mem_cons_of_mem _ (List.mem_cons_of_mem _ (List.mem_cons_of_mem _ (List.mem_cons_of_mem _ (List.mem_cons_of_mem _ List.mem_cons_self))))))))
  obtain ⟨x3, r3, b3⟩ := rd_typed (cod := X.cod) (ps := [.i .u32, .i .u32, .i .i64, .i .i64, .i .i64]) (by kernel_rfl) (by kernel_rfl) h3
  obtain ⟨v3_0, v3_1, v3_2, v3_3, v3_4, ⟨⟩⟩ := x3
  replace b3 : ∀ d ∈ [D.i .u32 v3_0, D.i .u32 v3_1, D.i .i64 v3_2, D.i .i64 v3_3, D.i .i64 v3_4], BndD 6 d := b3
  replace r3 : RepAll w (fun b => b < w.heap.size) _ [D.i .u32 v3_0, D.i .u32 v3_1, D.i .i64 v3_2, D.i .i64 v3_3, D.i .i64 v3_4] := r3
  have b3_0 : 0 ≤ v3_0 ∧ v3_0 ≤ 4294967295 := b3 _ List.mem_cons_self
  have b3_1 : 0 ≤ v3_1 ∧ v3_1 ≤ 4294967295 := b3 _ (List.mem_cons_of_mem _ List.mem_cons_self)
  have b3_2 : -9223372036854775808 ≤ v3_2 ∧ v3_2 ≤ 9223372036854775807 := b3 _ (List.mem_cons_of_mem _ (List.mem_cons_of_mem _ List.mem_cons_self))
  have b3_3 : -9223372036854775808 ≤ v3_3 ∧ v3_3 ≤ 9223372036854775807 := b3 _ (List.mem_cons_of_mem _ (List.mem_cons_of_mem _ (List.mem_cons_of_mem _ List.mem_cons_self)))
  have b3_4 : -9223372036854775808 ≤ v3_4 ∧ v3_4 ≤ 9223372036854775807 := b3 _ (List.mem_cons_of_mem _ (List.mem_cons_of_mem _ (List.mem_cons_of_mem _ (List.mem_cons_of_mem _ List.mem_cons_self))))
  exact law_told X.rulesCover rfl (x := (v0_0, (v0_1, (v0_2, (v0_3, (v0_4, (v0_5, (v0_6, (v0_7, (v0_8, (v0_9, (v1_0, (v1_1, (v1_2, (v1_3, (v1_4, (v1_5, (v1_6, (v1_7, (v1_8, (v1_9, (v2_0, (v2_1, (v2_2, (v2_3, (v2_4, (v2_5, (v2_6, (v2_7, (v2_8, (v2_9, (v3_0, (v3_1, (v3_2, (v3_3, (v3_4, ())))))))))))))))))))))))))))))))))))) ⟨(true, ()), X.rulesCover_true b0_0 b0_1 b0_2 b0_3 b0_4 b0_5 b0_6 b0_7 b0_8 b1_0 b1_1 b1_2 b1_3 b1_4 b1_5 b1_6 b1_7 b1_8 b2_0 b2_1 b2_2 b2_3 b2_4 b2_5 b2_6 b2_7 b2_8 b3_0 b3_1 b3_2 b3_3 b3_4, rfl, rfl⟩ (RepArgs.agg r0 (RepArgs.agg r1 (RepArgs.agg r2 (RepArgs.agg r3 RepArgs.nil)))) rfl
end Go.Proofs.Ytlbmdkclbmcpdaa.RulesCover
