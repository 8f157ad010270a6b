/- The law FragBack: what the machine comes to, out of the tree of its text and the plain law. Printed by a program of mine (tool/walk.py). Conditions: none. -/
import Derived.Test.YthnijeclidpooaaPBackJ
import Derived.Test.YthnijeclidpooaaAbsQ
import Derived.KernelRfl
namespace Go.Proofs.Ythnijeclidpooaa.FragBack
open Go Go.RowKit Go.Proofs.Ythnijeclidpooaa Go.Proofs.Ythnijeclidpooaa.Abs
set_option linter.unusedVariables false
set_option maxRecDepth 100000
theorem walk (a0 : Array Value) (a1 : Int) (a2 : Option Addr) (l2 c2 : Nat) (w : World) (h0 : Read.Rd Try.prog w 71 a0.toList) (h1 : -9223372036854775808 ≤ a1 ∧ a1 ≤ 9223372036854775807) (h2 : Read.Rd Try.prog w 33 [.slice a2 l2 c2]) : Calls Try.prog 9 #[.agg a0, .int .i64 a1, .slice a2 l2 c2] w fun e w' => e = .returned (.bool true) ∧ Below w.heap.size w w' := by
  obtain ⟨x0, r0, b0⟩ := rd_typed (cod := X.cod) (ps := [.i .i64, .i .i64, .b, .b, .i .i64, .i .i64, .i .i64, .i .u32, .i .u32, .s, .s]) (by kernel_rfl) (by kernel_rfl) h0
  obtain ⟨v0_0, v0_1, v0_2, v0_3, v0_4, v0_5, v0_6, v0_7, v0_8, v0_9, v0_10, ⟨⟩⟩ := x0
  replace b0 : ∀ d ∈ [D.i .i64 v0_0, D.i .i64 v0_1, D.b v0_2, D.b v0_3, D.i .i64 v0_4, D.i .i64 v0_5, D.i .i64 v0_6, D.i .u32 v0_7, D.i .u32 v0_8, D.s v0_9, D.s v0_10], BndD 6 d := b0
  replace r0 : RepAll w (fun b => b < w.heap.size) _ [D.i .i64 v0_0, D.i .i64 v0_1, D.b v0_2, D.b v0_3, D.i .i64 v0_4, D.i .i64 v0_5, D.i .i64 v0_6, D.i .u32 v0_7, D.i .u32 v0_8, D.s v0_9, D.s v0_10] := r0
  have b0_0 : -9223372036854775808 ≤ v0_0 ∧ v0_0 ≤ 9223372036854775807 := b0 _ List.mem_cons_self
  have b0_1 : -9223372036854775808 ≤ v0_1 ∧ v0_1 ≤ 9223372036854775807 := b0 _ (List.mem_cons_of_mem _ List.mem_cons_self)
  have b0_4 : -9223372036854775808 ≤ v0_4 ∧ v0_4 ≤ 9223372036854775807 := b0 _ (List.mem_cons_of_mem _ (List.mem_cons_of_mem _ (List.mem_cons_of_mem _ (List.mem_cons_of_mem _ List.mem_cons_self))))
  have b0_5 : -9223372036854775808 ≤ v0_5 ∧ v0_5 ≤ 9223372036854775807 := b0 _ (List.mem_cons_of_mem _ (List.mem_cons_of_mem _ (List.mem_cons_of_mem _ (List.mem_cons_of_mem _ (List.mem_cons_of_mem _ List.mem_cons_self)))))
  have b0_6 : -9223372036854775808 ≤ v0_6 ∧ v0_6 ≤ 9223372036854775807 := b0 _ (List.mem_cons_of_mem _ (List.mem_cons_of_mem _ (List.mem_cons_of_mem _ (List.mem_cons_of_mem _ (List.mem_cons_of_mem _ (List.mem_cons_of_mem _ List.mem_cons_self))))))
  have b0_7 : 0 ≤ v0_7 ∧ v0_7 ≤ 4294967295 := b0 _ (List.mem_cons_of_mem _ (List.mem_cons_of_mem _ (List.mem_cons_of_mem _ (List.mem_cons_of_mem _ (List.mem_cons_of_mem _ (List.mem_cons_of_mem _ (List.mem_cons_of_mem _ List.mem_cons_self)))))))
  have b0_8 : 0 ≤ v0_8 ∧ v0_8 ≤ 4294967295 := b0 _ (List.mem_cons_of_mem _ (List.mem_cons_of_mem _ (List.mem_cons_of_mem _ (List.mem_cons_of_mem _ (List.mem_cons_of_mem _ (List.mem_cons_of_mem _ (List.mem_cons_of_mem _ (List.mem_cons_of_mem _ List.mem_cons_self))))))))
  have b0_9 : v0_9.length ≤ 140737488351232 := b0 _ (List.mem_cons_of_mem _ (List.mem_cons_of_mem _ (List.mem_cons_of_mem _ (List.mem_cons_of_mem _ (List.mem_cons_of_mem _ (List.mem_cons_of_mem _ (List.mem_cons_of_mem _ (List.mem_cons_of_mem _ (List.mem_cons_of_mem _ List.mem_cons_self)))))))))
  have b0_10 : v0_10.length ≤ 140737488351232 := b0 _ (List.mem_cons_of_mem _ (List.mem_cons_of_mem _ (List.mem_cons_of_mem _ (List.mem_cons_of_mem _ (List.mem_cons_of_mem _ (List.mem_cons_of_mem _ (List.mem_cons_of_mem _ (List.mem_cons_of_mem _ (List.mem_cons_of_mem _ (List.mem_cons_of_mem _ List.mem_cons_self))))))))))
  obtain ⟨x2, r2, b2⟩ := rd_typed (cod := X.cod) (ps := [.st 0]) (by kernel_rfl) (by kernel_rfl) h2
  obtain ⟨v2_0, ⟨⟩⟩ := x2
  replace b2 : ∀ d ∈ [D.st 0 v2_0], BndD 6 d := b2
  replace r2 : RepAll w (fun b => b < w.heap.size) _ [D.st 0 v2_0] := r2
  have b2_0 : BndD 6 (D.st 0 v2_0) := b2 _ List.mem_cons_self
  have hT : X.fragBack_fn (v0_0, (v0_1, (v0_2, (v0_3, (v0_4, (v0_5, (v0_6, (v0_7, (v0_8, (v0_9, (v0_10, (a1, (v2_0, ()))))))))))))) = some (true, ()) := X.fragBack_true b0_0 b0_1 b0_4 b0_5 b0_6 b0_7 b0_8 b0_9 b0_10 h1 b2_0
  exact law_told X.fragBack rfl (x := (v0_0, (v0_1, (v0_2, (v0_3, (v0_4, (v0_5, (v0_6, (v0_7, (v0_8, (v0_9, (v0_10, (a1, (v2_0, ())))))))))))))) ⟨(true, ()), (congrFun (show X.fragBack.fn = X.fragBack_fn by kernel_rfl) _).trans hT, rfl, rfl⟩ (RepArgs.agg r0 (RepArgs.i (RepArgs.d1 r2 RepArgs.nil))) rfl
end Go.Proofs.Ythnijeclidpooaa.FragBack
