/- The law EthBack: what the machine comes to, out of the tree of its text and the plain law. Printed by a program of mine (tool/walk.py). Conditions: none. -/
import Derived.Test.YtmnbhoklphakjaaPEthT
import Derived.Test.YtmnbhoklphakjaaAbsQ
import Derived.KernelRfl
namespace Go.Proofs.Ytmnbhoklphakjaa.EthBack
open Go Go.RowKit Go.Proofs.Ytmnbhoklphakjaa Go.Proofs.Ytmnbhoklphakjaa.Abs
set_option linter.unusedVariables false
set_option maxRecDepth 100000
theorem walk (a0 : Array Value) (a1 : ByteArray) (a2 : Array Value) (w : World) (h0 : Read.Rd Try.prog w 39 a0.toList) (h1 : a1.size ≤ 140737488351232) (h2 : Read.Rd Try.prog w 37 a2.toList) : Calls Try.prog 9 #[.agg a0, .string a1, .agg a2] w fun e w' => e = .returned (.bool true) ∧ Below w.heap.size w w' := by
  obtain ⟨x0, r0, b0⟩ := rd_typed (cod := X.cod) (ps := [.i .u8, .i .u8, .i .u8, .i .u8, .i .u8, .i .u8, .i .u8, .i .u8, .i .u8, .i .u8, .i .u8, .i .u8, .i .i64, .i .i64, .s]) (by kernel_rfl) (by kernel_rfl) h0
  obtain ⟨v0_0, v0_1, v0_2, v0_3, v0_4, v0_5, v0_6, v0_7, v0_8, v0_9, v0_10, v0_11, v0_12, v0_13, v0_14, ⟨⟩⟩ := x0
  replace b0 : ∀ d ∈ [D.i .u8 v0_0, D.i .u8 v0_1, D.i .u8 v0_2, D.i .u8 v0_3, D.i .u8 v0_4, D.i .u8 v0_5, D.i .u8 v0_6, D.i .u8 v0_7, D.i .u8 v0_8, D.i .u8 v0_9, D.i .u8 v0_10, D.i .u8 v0_11, D.i .i64 v0_12, D.i .i64 v0_13, D.s v0_14], BndD 6 d := b0
  replace r0 : RepAll w (fun b => b < w.heap.size) _ [D.i .u8 v0_0, D.i .u8 v0_1, D.i .u8 v0_2, D.i .u8 v0_3, D.i .u8 v0_4, D.i .u8 v0_5, D.i .u8 v0_6, D.i .u8 v0_7, D.i .u8 v0_8, D.i .u8 v0_9, D.i .u8 v0_10, D.i .u8 v0_11, D.i .i64 v0_12, D.i .i64 v0_13, D.s v0_14] := r0
  have b0_0 : 0 ≤ v0_0 ∧ v0_0 ≤ 255 := b0 _ List.mem_cons_self
  have b0_1 : 0 ≤ v0_1 ∧ v0_1 ≤ 255 := b0 _ (List.mem_cons_of_mem _ List.mem_cons_self)
  have b0_2 : 0 ≤ v0_2 ∧ v0_2 ≤ 255 := b0 _ (List.mem_cons_of_mem _ (List.mem_cons_of_mem _ List.mem_cons_self))
  have b0_3 : 0 ≤ v0_3 ∧ v0_3 ≤ 255 := b0 _ (List.mem_cons_of_mem _ (List.mem_cons_of_mem _ (List.mem_cons_of_mem _ List.mem_cons_self)))
  have b0_4 : 0 ≤ v0_4 ∧ v0_4 ≤ 255 := b0 _ (List.mem_cons_of_mem _ (List.mem_cons_of_mem _ (List.mem_cons_of_mem _ (List.mem_cons_of_mem _ List.mem_cons_self))))
  have b0_5 : 0 ≤ v0_5 ∧ v0_5 ≤ 255 := b0 _ (List.mem_cons_of_mem _ (List.mem_cons_of_mem _ (List.mem_cons_of_mem _ (List.mem_cons_of_mem _ (List.mem_cons_of_mem _ List.mem_cons_self)))))
  have b0_6 : 0 ≤ v0_6 ∧ v0_6 ≤ 255 := b0 _ (List.mem_cons_of_mem _ (List.mem_cons_of_mem _ (List.mem_cons_of_mem _ (List.mem_cons_of_mem _ (List.mem_cons_of_mem _ (List.mem_cons_of_mem _ List.mem_cons_self))))))
  have b0_7 : 0 ≤ v0_7 ∧ v0_7 ≤ 255 := b0 _ (List.mem_cons_of_mem _ (List.mem_cons_of_mem _ (List.mem_cons_of_mem _ (List.mem_cons_of_mem _ (List.mem_cons_of_mem _ (List.mem_cons_of_mem _ (List.mem_cons_of_mem _ List.mem_cons_self)))))))
  have b0_8 : 0 ≤ v0_8 ∧ v0_8 ≤ 255 := b0 _ (List.mem_cons_of_mem _ (List.mem_cons_of_mem _ (List.mem_cons_of_mem _ (List.mem_cons_of_mem _ (List.mem_cons_of_mem _ (List.mem_cons_of_mem _ (List.mem_cons_of_mem _ (List.mem_cons_of_mem _ List.mem_cons_self))))))))
  have b0_9 : 0 ≤ v0_9 ∧ v0_9 ≤ 255 := b0 _ (List.mem_cons_of_mem _ (List.mem_cons_of_mem _ (List.mem_cons_of_mem _ (List.mem_cons_of_mem _ (List.mem_cons_of_mem _ (List.mem_cons_of_mem _ (List.mem_cons_of_mem _ (List.mem_cons_of_mem _ (List.mem_cons_of_mem _ List.mem_cons_self)))))))))
  have b0_10 : 0 ≤ v0_10 ∧ v0_10 ≤ 255 := b0 _ (List.mem_cons_of_mem _ (List.mem_cons_of_mem _ (List.mem_cons_of_mem _ (List.mem_cons_of_mem _ (List.mem_cons_of_mem _ (List.mem_cons_of_mem _ (List.mem_cons_of_mem _ (List.mem_cons_of_mem _ (List.mem_cons_of_mem _ (List.mem_cons_of_mem _ List.mem_cons_self))))))))))
  have b0_11 : 0 ≤ v0_11 ∧ v0_11 ≤ 255 := b0 _ (List.mem_cons_of_mem _ (List.mem_cons_of_mem _ (List.mem_cons_of_mem _ (List.mem_cons_of_mem _ (List.mem_cons_of_mem _ (List.mem_cons_of_mem _ (List.mem_cons_of_mem _ (List.mem_cons_of_mem _ (List.mem_cons_of_mem _ (List.mem_cons_of_mem _ (List.mem_cons_of_mem _ List.mem_cons_self)))))))))))
  have b0_12 : -9223372036854775808 ≤ v0_12 ∧ v0_12 ≤ 9223372036854775807 := b0 _ (List.mem_cons_of_mem _ (List.mem_cons_of_mem _ (List.mem_cons_of_mem _ (List.mem_cons_of_mem _ (List.mem_cons_of_mem _ (List.mem_cons_of_mem _ (List.mem_cons_of_mem _ (List.mem_cons_of_mem _ (List.mem_cons_of_mem _ (List.mem_cons_of_mem _ (List.mem_cons_of_mem _ (List.mem_cons_of_mem _ List.mem_cons_self))))))))))))
  have b0_13 : -9223372036854775808 ≤ v0_13 ∧ v0_13 ≤ 9223372036854775807 := b0 _ (List.mem_cons_of_mem _ (List.mem_cons_of_mem _ (List.mem_cons_of_mem _ (List.mem_cons_of_mem _ (List.mem_cons_of_mem _ (List.mem_cons_of_mem _ (List.mem_cons_of_mem _ (List.mem_cons_of_mem _ (List.mem_cons_of_mem _ (List.mem_cons_of_mem _ (List.mem_cons_of_mem _ (List.mem_cons_of_mem _ (List.mem_cons_of_mem _ List.mem_cons_self)))))))))))))
  have b0_14 : v0_14.length ≤ 140737488351232 := b0 _ (List.mem_cons_of_mem _ (List.mem_cons_of_mem _ (List.mem_cons_of_mem _ (List.mem_cons_of_mem _ (List.mem_cons_of_mem _ (List.mem_cons_of_mem _ (List.mem_cons_of_mem _ (List.mem_cons_of_mem _ (List.mem_cons_of_mem _ (List.mem_cons_of_mem _ (List.mem_cons_of_mem _ (List.mem_cons_of_mem _ (List.mem_cons_of_mem _ (List.mem_cons_of_mem _ List.mem_cons_self))))))))))))))
  have b1 : a1.data.toList.length ≤ 140737488351232 := by rw [Array.length_toList]; exact h1
  obtain ⟨x2, r2, b2⟩ := rd_typed (cod := X.cod) (ps := [.i .u8, .i .u8, .i .u8, .i .u8, .i .u8, .i .u8]) (by kernel_rfl) (by kernel_rfl) h2
  obtain ⟨v2_0, v2_1, v2_2, v2_3, v2_4, v2_5, ⟨⟩⟩ := x2
  replace b2 : ∀ d ∈ [D.i .u8 v2_0, D.i .u8 v2_1, D.i .u8 v2_2, D.i .u8 v2_3, D.i .u8 v2_4, D.i .u8 v2_5], BndD 6 d := b2
  replace r2 : RepAll w (fun b => b < w.heap.size) _ [D.i .u8 v2_0, D.i .u8 v2_1, D.i .u8 v2_2, D.i .u8 v2_3, D.i .u8 v2_4, D.i .u8 v2_5] := r2
  have b2_0 : 0 ≤ v2_0 ∧ v2_0 ≤ 255 := b2 _ List.mem_cons_self
  have b2_1 : 0 ≤ v2_1 ∧ v2_1 ≤ 255 := b2 _ (List.mem_cons_of_mem _ List.mem_cons_self)
  have b2_2 : 0 ≤ v2_2 ∧ v2_2 ≤ 255 := b2 _ (List.mem_cons_of_mem _ (List.mem_cons_of_mem _ List.mem_cons_self))
  have b2_3 : 0 ≤ v2_3 ∧ v2_3 ≤ 255 := b2 _ (List.mem_cons_of_mem _ (List.mem_cons_of_mem _ (List.mem_cons_of_mem _ List.mem_cons_self)))
  have b2_4 : 0 ≤ v2_4 ∧ v2_4 ≤ 255 := b2 _ (List.mem_cons_of_mem _ (List.mem_cons_of_mem _ (List.mem_cons_of_mem _ (List.mem_cons_of_mem _ List.mem_cons_self))))
  have b2_5 : 0 ≤ v2_5 ∧ v2_5 ≤ 255 := b2 _ (List.mem_cons_of_mem _ (List.mem_cons_of_mem _ (List.mem_cons_of_mem _ (List.mem_cons_of_mem _ (List.mem_cons_of_mem _ List.mem_cons_self)))))
  exact law_told X.ethBack rfl (x := (v0_0, (v0_1, (v0_2, (v0_3, (v0_4, (v0_5, (v0_6, (v0_7, (v0_8, (v0_9, (v0_10, (v0_11, (v0_12, (v0_13, (v0_14, (a1.data.toList, (v2_0, (v2_1, (v2_2, (v2_3, (v2_4, (v2_5, ()))))))))))))))))))))))) ⟨(true, ()), X.ethBack_true b0_0 b0_1 b0_2 b0_3 b0_4 b0_5 b0_6 b0_7 b0_8 b0_9 b0_10 b0_11 b0_12 b0_13 b0_14 b1 b2_0 b2_1 b2_2 b2_3 b2_4 b2_5, rfl, rfl⟩ (RepArgs.agg r0 (RepArgs.s (RepArgs.agg r2 RepArgs.nil))) rfl
end Go.Proofs.Ytmnbhoklphakjaa.EthBack
