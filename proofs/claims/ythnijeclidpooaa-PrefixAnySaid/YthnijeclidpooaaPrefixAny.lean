/- The law PrefixAny: what the machine comes to, out of the tree of its text and the plain law. Printed by a program of mine (tool/walk.py). Conditions: none. -/
import Derived.Test.YthnijeclidpooaaPPfx
import Derived.Test.YthnijeclidpooaaAbsQ
import Derived.KernelRfl
namespace Go.Proofs.Ythnijeclidpooaa.PrefixAny
open Go Go.RowKit Go.Proofs.Ythnijeclidpooaa Go.Proofs.Ythnijeclidpooaa.Abs
set_option linter.unusedVariables false
set_option maxRecDepth 100000
theorem walk (a0 : Array Value) (a1 : Array Value) (a2 : Array Value) (a3 : Int) (a4 : Int) (w : World) (h0 : Read.Rd Try.prog w 46 a0.toList) (h1 : Read.Rd Try.prog w 52 a1.toList) (h2 : Read.Rd Try.prog w 52 a2.toList) (h3 : -9223372036854775808 ≤ a3 ∧ a3 ≤ 9223372036854775807) (h4 : -9223372036854775808 ≤ a4 ∧ a4 ≤ 9223372036854775807) : Calls Try.prog 7 #[.agg a0, .agg a1, .agg a2, .int .i64 a3, .int .i64 a4] w fun e w' => e = .returned (.bool true) ∧ Below w.heap.size w w' := by
  obtain ⟨x0, r0, b0⟩ := rd_typed (cod := X.cod) (ps := [.st 9]) (by kernel_rfl) (by kernel_rfl) h0
  obtain ⟨v0_0, ⟨⟩⟩ := x0
  replace b0 : ∀ d ∈ [D.st 9 v0_0], BndD 6 d := b0
  replace r0 : RepAll w (fun b => b < w.heap.size) _ [D.st 9 v0_0] := r0
  have b0_0 : BndD 6 (D.st 9 v0_0) := b0 _ List.mem_cons_self
  obtain ⟨x1, r1, b1⟩ := rd_typed (cod := X.cod) (ps := [.i .u32, .i .i64]) (by kernel_rfl) (by kernel_rfl) h1
  obtain ⟨v1_0, v1_1, ⟨⟩⟩ := x1
  replace b1 : ∀ d ∈ [D.i .u32 v1_0, D.i .i64 v1_1], BndD 6 d := b1
  replace r1 : RepAll w (fun b => b < w.heap.size) _ [D.i .u32 v1_0, D.i .i64 v1_1] := r1
  have b1_0 : 0 ≤ v1_0 ∧ v1_0 ≤ 4294967295 := b1 _ List.mem_cons_self
  have b1_1 : -9223372036854775808 ≤ v1_1 ∧ v1_1 ≤ 9223372036854775807 := b1 _ (List.mem_cons_of_mem _ List.mem_cons_self)
  obtain ⟨x2, r2, b2⟩ := rd_typed (cod := X.cod) (ps := [.i .u32, .i .i64]) (by kernel_rfl) (by kernel_rfl) h2
  obtain ⟨v2_0, v2_1, ⟨⟩⟩ := x2
  replace b2 : ∀ d ∈ [D.i .u32 v2_0, D.i .i64 v2_1], BndD 6 d := b2
  replace r2 : RepAll w (fun b => b < w.heap.size) _ [D.i .u32 v2_0, D.i .i64 v2_1] := r2
  have b2_0 : 0 ≤ v2_0 ∧ v2_0 ≤ 4294967295 := b2 _ List.mem_cons_self
  have b2_1 : -9223372036854775808 ≤ v2_1 ∧ v2_1 ≤ 9223372036854775807 := b2 _ (List.mem_cons_of_mem _ List.mem_cons_self)
  have hT : X.prefixAny_fn (v0_0, (v1_0, (v1_1, (v2_0, (v2_1, (a3, (a4, ()))))))) = some (true, ()) := X.prefixAny_true b0_0 b1_0 b1_1 b2_0 b2_1 h3 h4
  exact law_told X.prefixAny rfl (x := (v0_0, (v1_0, (v1_1, (v2_0, (v2_1, (a3, (a4, ())))))))) ⟨(true, ()), (congrFun (show X.prefixAny.fn = X.prefixAny_fn by kernel_rfl) _).trans hT, rfl, rfl⟩ (RepArgs.agg r0 (RepArgs.agg r1 (RepArgs.agg r2 (RepArgs.i (RepArgs.i RepArgs.nil))))) rfl
end Go.Proofs.Ythnijeclidpooaa.PrefixAny
