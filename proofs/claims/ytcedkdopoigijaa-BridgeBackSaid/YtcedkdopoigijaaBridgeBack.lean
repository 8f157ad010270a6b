/- The law BridgeBack: what the machine comes to, out of the tree of its text and the plain law. Printed by a program of mine (tool/walk.py). Conditions: none. -/
import Derived.Test.YtcedkdopoigijaaPBridgeL
import Derived.Test.YtcedkdopoigijaaAbsQ
import Derived.KernelRfl
namespace Go.Proofs.Ytcedkdopoigijaa.BridgeBack
open Go Go.RowKit Go.Proofs.Ytcedkdopoigijaa Go.Proofs.Ytcedkdopoigijaa.Abs
set_option linter.unusedVariables false
set_option maxRecDepth 100000
theorem walk (a0 : Array Value) (a1 : Int) (a2 : Int) (a3 : Int) (a4 : ByteArray) (a5 : ByteArray) (a6 : Int) (w : World) (h0 : Read.Rd Try.prog w 77 a0.toList) (h1 : -9223372036854775808 ≤ a1 ∧ a1 ≤ 9223372036854775807) (h2 : -9223372036854775808 ≤ a2 ∧ a2 ≤ 9223372036854775807) (h3 : -9223372036854775808 ≤ a3 ∧ a3 ≤ 9223372036854775807) (h4 : a4.size ≤ 140737488351232) (h5 : a5.size ≤ 140737488351232) (h6 : -9223372036854775808 ≤ a6 ∧ a6 ≤ 9223372036854775807) : Calls Try.prog 11 #[.agg a0, .int .i64 a1, .int .i64 a2, .int .i64 a3, .string a4, .string a5, .int .i64 a6] w fun e w' => e = .returned (.bool true) ∧ Below w.heap.size w w' := by
  obtain ⟨x0, r0, b0⟩ := rd_typed (cod := X.cod) (ps := [.i .i64, .i .i64, .st 15]) (by kernel_rfl) (by kernel_rfl) h0
  obtain ⟨v0_0, v0_1, v0_2, ⟨⟩⟩ := x0
  replace b0 : ∀ d ∈ [D.i .i64 v0_0, D.i .i64 v0_1, D.st 15 v0_2], BndD 6 d := b0
  replace r0 : RepAll w (fun b => b < w.heap.size) _ [D.i .i64 v0_0, D.i .i64 v0_1, D.st 15 v0_2] := r0
  have b0_0 : -9223372036854775808 ≤ v0_0 ∧ v0_0 ≤ 9223372036854775807 := b0 _ List.mem_cons_self
  have b0_1 : -9223372036854775808 ≤ v0_1 ∧ v0_1 ≤ 9223372036854775807 := b0 _ (List.mem_cons_of_mem _ List.mem_cons_self)
  have b0_2 : BndD 6 (D.st 15 v0_2) := b0 _ (List.mem_cons_of_mem _ (List.mem_cons_of_mem _ List.mem_cons_self))
  have b4 : a4.data.toList.length ≤ 140737488351232 := by rw [Array.length_toList]; exact h4
  have b5 : a5.data.toList.length ≤ 140737488351232 := by rw [Array.length_toList]; exact h5
  exact law_told X.bridgeBack rfl (x := (v0_0, (v0_1, (v0_2, (a1, (a2, (a3, (a4.data.toList, (a5.data.toList, (a6, ())))))))))) ⟨(true, ()), X.bridgeBack_true b0_0 b0_1 b0_2 h1 h2 h3 b4 b5 h6, rfl, rfl⟩ (RepArgs.agg r0 (RepArgs.i (RepArgs.i (RepArgs.i (RepArgs.s (RepArgs.s (RepArgs.i RepArgs.nil))))))) rfl
end Go.Proofs.Ytcedkdopoigijaa.BridgeBack
