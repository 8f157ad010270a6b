/- The law IpBack: what the machine comes to, out of the tree of its text and the plain law. Printed by a program of mine (tool/walk.py). Conditions: none. -/
import Derived.Test.YtkfpdgibaadmbaaDoorPIpB
import Derived.Test.YtkfpdgibaadmbaaDoorAbsQ
import Derived.KernelRfl
namespace Go.Proofs.YtkfpdgibaadmbaaDoor.IpBack
open Go Go.RowKit Go.Proofs.YtkfpdgibaadmbaaDoor Go.Proofs.YtkfpdgibaadmbaaDoor.Abs
set_option linter.unusedVariables false
set_option maxRecDepth 100000
theorem walk (a0 : Array Value) (a1 : ByteArray) (a2 : Int) (w : World) (h0 : Read.Rd Tryd.prog w 24 a0.toList) (h1 : a1.size ≤ 140737488351232) (h2 : 0 ≤ a2 ∧ a2 ≤ 4294967295) (hgl : ∀ e ∈ Abs.globs, ∃ x y, w.heap[e.1]? = some (.cells e.2 x y)) (hgi : ∀ g ∈ Abs.gints, g < w.heap.size ∧ ∃ m, w.cell? ⟨g, 0, none⟩ = some (.int .i64 m)) : Calls Tryd.prog 5 #[.agg a0, .string a1, .int .u32 a2] w fun e w' => e = .returned (.bool true) ∧ Below w.heap.size w w' := by
  obtain ⟨x0, r0, b0⟩ := rd_typed (cod := X.cod) (ps := [.i .i64, .i .i64, .b, .b, .i .i64, .i .i64, .i .i64, .i .u32, .i .u32, .s, .s]) (by kernel_rfl) (by kernel_rfl) h0
  obtain ⟨v0_0, v0_1, v0_2, v0_3, v0_4, v0_5, v0_6, v0_7, v0_8, v0_9, v0_10, ⟨⟩⟩ := x0
  replace b0 : ∀ d ∈ [D.i .i64 v0_0, D.i .i64 v0_1, D.b v0_2, D.b v0_3, D.i .i64 v0_4, D.i .i64 v0_5, D.i .i64 v0_6, D.i .u32 v0_7, D.i .u32 v0_8, D.s v0_9, D.s v0_10], BndD 6 d := b0
  replace r0 : RepAll w (fun b => b < w.heap.size) _ [D.i .i64 v0_0, D.i .i64 v0_1, D.b v0_2, D.b v0_3, D.i .i64 v0_4, D.i .i64 v0_5, D.i .i64 v0_6, D.i .u32 v0_7, D.i .u32 v0_8, D.s v0_9, D.s v0_10] := r0
  have b0_0 : -9223372036854775808 ≤ v0_0 ∧ v0_0 ≤ 9223372036854775807 := b0 _ List.mem_cons_self
  have b0_1 : -9223372036854775808 ≤ v0_1 ∧ v0_1 ≤ 9223372036854775807 := b0 _ (List.mem_cons_of_mem _ List.mem_cons_self)
  have b0_4 : -9223372036854775808 ≤ v0_4 ∧ v0_4 ≤ 9223372036854775807 := b0 _ (List.mem_cons_of_mem _ (List.mem_cons_of_mem _ (List.mem_cons_of_mem _ (List.mem_cons_of_mem _ List.mem_cons_self))))
  have b0_5 : -9223372036854775808 ≤ v0_5 ∧ v0_5 ≤ 9223372036854775807 := b0 _ (List.mem_cons_of_mem _ (List.mem_cons_of_mem _ (List.mem_cons_of_mem _ (List.mem_cons_of_mem _ (List.mem_cons_of_mem _ List.mem_cons_self)))))
  have b0_6 : -9223372036854775808 ≤ v0_6 ∧ v0_6 ≤ 9223372036854775807 := b0 _ (List.mem_cons_of_mem _ (List.mem_cons_of_mem _ (List.mem_cons_of_mem _ (List.mem_cons_of_mem _ (List.mem_cons_of_mem _ (List.mem_cons_of_mem _ List.mem_cons_self))))))
  have b0_7 : 0 ≤ v0_7 ∧ v0_7 ≤ 4294967295 := b0 _ (List.mem_cons_of_mem _ (List.mem_cons_of_mem _ (List.mem_cons_of_mem _ (List.mem_cons_of_mem _ (List.mem_cons_of_mem _ (List.mem_cons_of_mem _ (List.mem_cons_of_mem _ List.mem_cons_self)))))))
  have b0_8 : 0 ≤ v0_8 ∧ v0_8 ≤ 4294967295 := b0 _ (List.mem_cons_of_mem _ (List.mem_cons_of_mem _ (List.mem_cons_of_mem _ (List.mem_cons_of_mem _ (List.mem_cons_of_mem _ (List.mem_cons_of_mem _ (List.mem_cons_of_mem _ (List.mem_cons_of_mem _ List.mem_cons_self))))))))
  have b0_9 : v0_9.length ≤ 140737488351232 := b0 _ (List.mem_cons_of_mem _ (List.mem_cons_of_mem _ (List.mem_cons_of_mem _ (List.mem_cons_of_mem _ (List.mem_cons_of_mem _ (List.mem_cons_of_mem _ (List.mem_cons_of_mem _ (List.mem_cons_of_mem _ (List.mem_cons_of_mem _ List.mem_cons_self)))))))))
  have b0_10 : v0_10.length ≤ 140737488351232 := b0 _ (List.mem_cons_of_mem _ (List.mem_cons_of_mem _ (List.mem_cons_of_mem _ (List.mem_cons_of_mem _ (List.mem_cons_of_mem _ (List.mem_cons_of_mem _ (List.mem_cons_of_mem _ (List.mem_cons_of_mem _ (List.mem_cons_of_mem _ (List.mem_cons_of_mem _ List.mem_cons_self))))))))))
  have b1 : a1.data.toList.length ≤ 140737488351232 := by rw [Array.length_toList]; exact h1
  exact law_told X.ipBack rfl (x := (v0_0, (v0_1, (v0_2, (v0_3, (v0_4, (v0_5, (v0_6, (v0_7, (v0_8, (v0_9, (v0_10, (a1.data.toList, (a2, ())))))))))))))) ⟨(true, ()), X.ipBack_true b0_0 b0_1 b0_4 b0_5 b0_6 b0_7 b0_8 b0_9 b0_10 b1 h2, rfl, rfl⟩ (RepArgs.agg r0 (RepArgs.s (RepArgs.i RepArgs.nil))) rfl hgl hgi
end Go.Proofs.YtkfpdgibaadmbaaDoor.IpBack
