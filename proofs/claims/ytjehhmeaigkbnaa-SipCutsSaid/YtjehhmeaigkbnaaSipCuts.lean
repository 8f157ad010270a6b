/- The law SipCuts: what the machine comes to, out of the tree of its text and the plain law. Printed by a program of mine (tool/walk.py). Conditions: none. -/
import Derived.Test.YtjehhmeaigkbnaaPSipC
import Derived.Test.YtjehhmeaigkbnaaAbsQ
import Derived.KernelRfl
namespace Go.Proofs.Ytjehhmeaigkbnaa.SipCuts
open Go Go.RowKit Go.Proofs.Ytjehhmeaigkbnaa Go.Proofs.Ytjehhmeaigkbnaa.Abs
set_option linter.unusedVariables false
set_option maxRecDepth 100000
theorem walk (a0 : Array Value) (a1 : Array Value) (a2 : ByteArray) (a3 : ByteArray) (w : World) (h0 : Read.Rd Try.prog w 47 a0.toList) (h1 : Read.Rd Try.prog w 50 a1.toList) (h2 : a2.size ≤ 140737488351232) (h3 : a3.size ≤ 140737488351232) : Calls Try.prog 6 #[.agg a0, .agg a1, .string a2, .string a3] w fun e w' => e = .returned (.bool true) ∧ Below w.heap.size w w' := by
  obtain ⟨x0, r0, b0⟩ := rd_typed (cod := X.cod) (ps := [.i .u64, .i .u64]) (by kernel_rfl) (by kernel_rfl) h0
  obtain ⟨v0_0, v0_1, ⟨⟩⟩ := x0
  replace b0 : ∀ d ∈ [D.i .u64 v0_0, D.i .u64 v0_1], BndD 6 d := b0
  replace r0 : RepAll w (fun b => b < w.heap.size) _ [D.i .u64 v0_0, D.i .u64 v0_1] := r0
  have b0_0 : 0 ≤ v0_0 ∧ v0_0 ≤ 18446744073709551615 := b0 _ List.mem_cons_self
  have b0_1 : 0 ≤ v0_1 ∧ v0_1 ≤ 18446744073709551615 := b0 _ (List.mem_cons_of_mem _ List.mem_cons_self)
  obtain ⟨x1, r1, b1⟩ := rd_typed (cod := X.cod) (ps := [.i .u64, .i .u64, .i .u64, .i .u64, .s, .i .i64]) (by kernel_rfl) (by kernel_rfl) h1
  obtain ⟨v1_0, v1_1, v1_2, v1_3, v1_4, v1_5, ⟨⟩⟩ := x1
  replace b1 : ∀ d ∈ [D.i .u64 v1_0, D.i .u64 v1_1, D.i .u64 v1_2, D.i .u64 v1_3, D.s v1_4, D.i .i64 v1_5], BndD 6 d := b1
  replace r1 : RepAll w (fun b => b < w.heap.size) _ [D.i .u64 v1_0, D.i .u64 v1_1, D.i .u64 v1_2, D.i .u64 v1_3, D.s v1_4, D.i .i64 v1_5] := r1
  have b1_0 : 0 ≤ v1_0 ∧ v1_0 ≤ 18446744073709551615 := b1 _ List.mem_cons_self
  have b1_1 : 0 ≤ v1_1 ∧ v1_1 ≤ 18446744073709551615 := b1 _ (List.mem_cons_of_mem _ List.mem_cons_self)
  have b1_2 : 0 ≤ v1_2 ∧ v1_2 ≤ 18446744073709551615 := b1 _ (List.mem_cons_of_mem _ (List.mem_cons_of_mem _ List.mem_cons_self))
  have b1_3 : 0 ≤ v1_3 ∧ v1_3 ≤ 18446744073709551615 := b1 _ (List.mem_cons_of_mem _ (List.mem_cons_of_mem _ (List.mem_cons_of_mem _ List.mem_cons_self)))
  have b1_4 : v1_4.length ≤ 140737488351232 := b1 _ (List.mem_cons_of_mem _ (List.mem_cons_of_mem _ (List.mem_cons_of_mem _ (List.mem_cons_of_mem _ List.mem_cons_self))))
  have b1_5 : -9223372036854775808 ≤ v1_5 ∧ v1_5 ≤ 9223372036854775807 := b1 _ (List.mem_cons_of_mem _ (List.mem_cons_of_mem _ (List.mem_cons_of_mem _ (List.mem_cons_of_mem _ (List.mem_cons_of_mem _ List.mem_cons_self)))))
  have b2 : a2.data.toList.length ≤ 140737488351232 := by rw [Array.length_toList]; exact h2
  have b3 : a3.data.toList.length ≤ 140737488351232 := by rw [Array.length_toList]; exact h3
  exact law_told X.sipCuts rfl (x := (v0_0, (v0_1, (v1_0, (v1_1, (v1_2, (v1_3, (v1_4, (v1_5, (a2.data.toList, (a3.data.toList, ()))))))))))) ⟨(true, ()), X.sipCuts_true b0_0 b0_1 b1_0 b1_1 b1_2 b1_3 b1_4 b1_5 b2 b3, rfl, rfl⟩ (RepArgs.agg r0 (RepArgs.agg r1 (RepArgs.s (RepArgs.s RepArgs.nil)))) rfl
end Go.Proofs.Ytjehhmeaigkbnaa.SipCuts
