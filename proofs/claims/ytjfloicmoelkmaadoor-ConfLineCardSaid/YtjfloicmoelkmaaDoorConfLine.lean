/- The law ConfLine: what the machine comes to, out of the tree of its text and the plain law. Printed by a program of mine (tool/walk.py). Conditions: none. -/
import Derived.Test.YtjfloicmoelkmaaDoorPConfL
import Derived.Test.YtjfloicmoelkmaaDoorAbsQ
import Derived.KernelRfl
namespace Go.Proofs.YtjfloicmoelkmaaDoor.ConfLine
open Go Go.RowKit Go.Proofs.YtjfloicmoelkmaaDoor Go.Proofs.YtjfloicmoelkmaaDoor.Abs
set_option linter.unusedVariables false
set_option maxRecDepth 100000
theorem walk (a0 : Array Value) (a1 : Int) (a2 : ByteArray) (w : World) (h0 : Read.Rd Tryd.prog w 25 a0.toList) (h1 : -9223372036854775808 ≤ a1 ∧ a1 ≤ 9223372036854775807) (h2 : a2.size ≤ 140737488351232) (hgl : ∀ e ∈ Abs.globs, ∃ x y, w.heap[e.1]? = some (.cells e.2 x y)) (hgi : ∀ g ∈ Abs.gints, g < w.heap.size ∧ ∃ m, w.cell? ⟨g, 0, none⟩ = some (.int .i64 m)) (hge : ∀ g ∈ Abs.gerrs, g < w.heap.size ∧ ∃ v, w.cell? ⟨g, 0, none⟩ = some v ∧ (v = .nilIface ∨ ∃ te pe, v = .iface te pe)) : Calls Tryd.prog 5 #[.agg a0, .int .i64 a1, .string a2] w fun e w' => e = .returned (.bool true) ∧ Below w.heap.size w w' := by
  obtain ⟨x0, r0, b0⟩ := rd_typed (cod := X.cod) (ps := [.i .u32, .i .i64, .i .i64, .i .i64, .i .i64, .i .i64, .st 10, .b]) (by kernel_rfl) (by kernel_rfl) h0
  obtain ⟨v0_0, v0_1, v0_2, v0_3, v0_4, v0_5, v0_6, v0_7, ⟨⟩⟩ := x0
  replace b0 : ∀ d ∈ [D.i .u32 v0_0, D.i .i64 v0_1, D.i .i64 v0_2, D.i .i64 v0_3, D.i .i64 v0_4, D.i .i64 v0_5, D.st 10 v0_6, D.b v0_7], BndD 6 d := b0
  replace r0 : RepAll w (fun b => b < w.heap.size) _ [D.i .u32 v0_0, D.i .i64 v0_1, D.i .i64 v0_2, D.i .i64 v0_3, D.i .i64 v0_4, D.i .i64 v0_5, D.st 10 v0_6, D.b v0_7] := r0
  have b0_0 : 0 ≤ v0_0 ∧ v0_0 ≤ 4294967295 := b0 _ List.mem_cons_self
  have b0_1 : -9223372036854775808 ≤ v0_1 ∧ v0_1 ≤ 9223372036854775807 := b0 _ (List.mem_cons_of_mem _ List.mem_cons_self)
  have b0_2 : -9223372036854775808 ≤ v0_2 ∧ v0_2 ≤ 9223372036854775807 := b0 _ (List.mem_cons_of_mem _ (List.mem_cons_of_mem _ List.mem_cons_self))
  have b0_3 : -9223372036854775808 ≤ v0_3 ∧ v0_3 ≤ 9223372036854775807 := b0 _ (List.mem_cons_of_mem _ (List.mem_cons_of_mem _ (List.mem_cons_of_mem _ List.mem_cons_self)))
  have b0_4 : -9223372036854775808 ≤ v0_4 ∧ v0_4 ≤ 9223372036854775807 := b0 _ (List.mem_cons_of_mem _ (List.mem_cons_of_mem _ (List.mem_cons_of_mem _ (List.mem_cons_of_mem _ List.mem_cons_self))))
  have b0_5 : -9223372036854775808 ≤ v0_5 ∧ v0_5 ≤ 9223372036854775807 := b0 _ (List.mem_cons_of_mem _ (List.mem_cons_of_mem _ (List.mem_cons_of_mem _ (List.mem_cons_of_mem _ (List.mem_cons_of_mem _ List.mem_cons_self)))))
  have b0_6 : BndD 6 (D.st 10 v0_6) := b0 _ (List.mem_cons_of_mem _ (List.mem_cons_of_mem _ (List.mem_cons_of_mem _ (List.mem_cons_of_mem _ (List.mem_cons_of_mem _ (List.mem_cons_of_mem _ List.mem_cons_self))))))
  have b2 : a2.data.toList.length ≤ 140737488351232 := by rw [Array.length_toList]; exact h2
  exact law_told X.kConfLine rfl (x := (v0_0, (v0_1, (v0_2, (v0_3, (v0_4, (v0_5, (v0_6, (v0_7, (a1, (a2.data.toList, ()))))))))))) ⟨(true, ()), X.kConfLine_true b0_0 b0_1 b0_2 b0_3 b0_4 b0_5 b0_6 h1 b2, rfl, rfl⟩ (RepArgs.agg r0 (RepArgs.i (RepArgs.s RepArgs.nil))) rfl (hgl := hgl) (hgi := hgi) (hge := hge)
end Go.Proofs.YtjfloicmoelkmaaDoor.ConfLine
