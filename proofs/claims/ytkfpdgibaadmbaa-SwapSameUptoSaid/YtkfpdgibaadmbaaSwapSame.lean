/- The law SwapSame: what the machine comes to, out of the tree of its text and the plain law. Printed by a program of mine (tool/walk.py). Conditions: none. -/
import Derived.Test.YtkfpdgibaadmbaaPSwapS
import Derived.Test.YtkfpdgibaadmbaaAbsQu
import Derived.KernelRfl
namespace Go.Proofs.Ytkfpdgibaadmbaa.SwapSame
open Go Go.RowKit Go.Proofs.Ytkfpdgibaadmbaa Go.Proofs.Ytkfpdgibaadmbaa.Abs
set_option linter.unusedVariables false
set_option maxRecDepth 100000
theorem walk (a0 : Array Value) (a1 : Array Value) (a2 : Int) (a3 : Int) (a4 : Int) (a5 : Int) (a6 : Bool) (w : World) (h0 : Read.RdU 1048576 Try.prog w 38 a0.toList) (h1 : Read.RdU 1048576 Try.prog w 41 a1.toList) (h2 : 0 ≤ a2 ∧ a2 ≤ 4294967295) (h3 : 0 ≤ a3 ∧ a3 ≤ 4294967295) (h4 : 0 ≤ a4 ∧ a4 ≤ 4294967295) (h5 : -9223372036854775808 ≤ a5 ∧ a5 ≤ 9223372036854775807) : Calls Try.prog 5 #[.agg a0, .agg a1, .int .u32 a2, .int .u32 a3, .int .u32 a4, .int .i64 a5, .bool a6] w fun e w' => e = .returned (.bool true) ∧ Below w.heap.size w w' := by
  obtain ⟨x0, r0, b0⟩ := rd_typed (cod := X.cod) (ps := [.i .i64, .i .i64, .s]) (by kernel_rfl) (by kernel_rfl) h0.rd
  obtain ⟨v0_0, v0_1, v0_2, ⟨⟩⟩ := x0
  replace b0 : ∀ d ∈ [D.i .i64 v0_0, D.i .i64 v0_1, D.s v0_2], BndD 6 d := b0
  replace r0 : RepAll w (fun b => b < w.heap.size) _ [D.i .i64 v0_0, D.i .i64 v0_1, D.s v0_2] := r0
  have b0_0 : -9223372036854775808 ≤ v0_0 ∧ v0_0 ≤ 9223372036854775807 := b0 _ List.mem_cons_self
  have b0_1 : -9223372036854775808 ≤ v0_1 ∧ v0_1 ≤ 9223372036854775807 := b0 _ (List.mem_cons_of_mem _ List.mem_cons_self)
  have b0_2 : v0_2.length ≤ 140737488351232 := b0 _ (List.mem_cons_of_mem _ (List.mem_cons_of_mem _ List.mem_cons_self))
  obtain ⟨x1, r1, b1⟩ := rd_typed (cod := X.cod) (ps := [.i .i64, .i .i64, .i .u32, .i .u32, .i .i64, .i .i64, .i .i64, .st 4, .s]) (by kernel_rfl) (by kernel_rfl) h1.rd
  obtain ⟨v1_0, v1_1, v1_2, v1_3, v1_4, v1_5, v1_6, v1_7, v1_8, ⟨⟩⟩ := x1
  replace b1 : ∀ d ∈ [D.i .i64 v1_0, D.i .i64 v1_1, D.i .u32 v1_2, D.i .u32 v1_3, D.i .i64 v1_4, D.i .i64 v1_5, D.i .i64 v1_6, D.st 4 v1_7, D.s v1_8], BndD 6 d := b1
  replace r1 : RepAll w (fun b => b < w.heap.size) _ [D.i .i64 v1_0, D.i .i64 v1_1, D.i .u32 v1_2, D.i .u32 v1_3, D.i .i64 v1_4, D.i .i64 v1_5, D.i .i64 v1_6, D.st 4 v1_7, D.s v1_8] := r1
  have b1_0 : -9223372036854775808 ≤ v1_0 ∧ v1_0 ≤ 9223372036854775807 := b1 _ List.mem_cons_self
  have b1_1 : -9223372036854775808 ≤ v1_1 ∧ v1_1 ≤ 9223372036854775807 := b1 _ (List.mem_cons_of_mem _ List.mem_cons_self)
  have b1_2 : 0 ≤ v1_2 ∧ v1_2 ≤ 4294967295 := b1 _ (List.mem_cons_of_mem _ (List.mem_cons_of_mem _ List.mem_cons_self))
  have b1_3 : 0 ≤ v1_3 ∧ v1_3 ≤ 4294967295 := b1 _ (List.mem_cons_of_mem _ (List.mem_cons_of_mem _ (List.mem_cons_of_mem _ List.mem_cons_self)))
  have b1_4 : -9223372036854775808 ≤ v1_4 ∧ v1_4 ≤ 9223372036854775807 := b1 _ (List.mem_cons_of_mem _ (List.mem_cons_of_mem _ (List.mem_cons_of_mem _ (List.mem_cons_of_mem _ List.mem_cons_self))))
  have b1_5 : -9223372036854775808 ≤ v1_5 ∧ v1_5 ≤ 9223372036854775807 := b1 _ (List.mem_cons_of_mem _ (List.mem_cons_of_mem _ (List.mem_cons_of_mem _ (List.mem_cons_of_mem _ (List.mem_cons_of_mem _ List.mem_cons_self)))))
  have b1_6 : -9223372036854775808 ≤ v1_6 ∧ v1_6 ≤ 9223372036854775807 := b1 _ (List.mem_cons_of_mem _ (List.mem_cons_of_mem _ (List.mem_cons_of_mem _ (List.mem_cons_of_mem _ (List.mem_cons_of_mem _ (List.mem_cons_of_mem _ List.mem_cons_self))))))
  have b1_7 : BndD 6 (D.st 4 v1_7) := b1 _ (List.mem_cons_of_mem _ (List.mem_cons_of_mem _ (List.mem_cons_of_mem _ (List.mem_cons_of_mem _ (List.mem_cons_of_mem _ (List.mem_cons_of_mem _ (List.mem_cons_of_mem _ List.mem_cons_self)))))))
  have u1_7 : v1_7.length ≤ 1048576 := len_uptoF (i := 7) (e := 119) Try.underlying41 rfl (by kernel_rfl) h1 r1 rfl
  have b1_8 : v1_8.length ≤ 140737488351232 := b1 _ (List.mem_cons_of_mem _ (List.mem_cons_of_mem _ (List.mem_cons_of_mem _ (List.mem_cons_of_mem _ (List.mem_cons_of_mem _ (List.mem_cons_of_mem _ (List.mem_cons_of_mem _ (List.mem_cons_of_mem _ List.mem_cons_self))))))))
  exact law_told X.swapSame rfl (x := (v0_0, (v0_1, (v0_2, (v1_0, (v1_1, (v1_2, (v1_3, (v1_4, (v1_5, (v1_6, (v1_7, (v1_8, (a2, (a3, (a4, (a5, (a6, ())))))))))))))))))) ⟨(true, ()), X.swapSame_true b0_0 b0_1 b0_2 b1_0 b1_1 b1_2 b1_3 b1_4 b1_5 b1_6 b1_7 u1_7 b1_8 h2 h3 h4 h5, rfl, rfl⟩ (RepArgs.agg r0 (RepArgs.agg r1 (RepArgs.i (RepArgs.i (RepArgs.i (RepArgs.i (RepArgs.b RepArgs.nil))))))) rfl
end Go.Proofs.Ytkfpdgibaadmbaa.SwapSame
