/- The law DgramFixed: what the machine comes to, out of the tree of its text and the plain law. Printed by a program of mine (tool/walk.py). Conditions: none. -/
import Derived.Test.YtjehhmeaigkbnaaPDgramL
import Derived.Test.YtjehhmeaigkbnaaAbsQ
import Derived.KernelRfl
namespace Go.Proofs.Ytjehhmeaigkbnaa.DgramFixed
open Go Go.RowKit Go.Proofs.Ytjehhmeaigkbnaa Go.Proofs.Ytjehhmeaigkbnaa.Abs
set_option linter.unusedVariables false
set_option maxRecDepth 100000
theorem walk (a0 : Array Value) (a1 : Int) (a2 : Int) (a3 : Int) (a4 : Int) (w : World) (h0 : Read.Rd Try.prog w 23 a0.toList) (h1 : 0 ≤ a1 ∧ a1 ≤ 4294967295) (h2 : 0 ≤ a2 ∧ a2 ≤ 4294967295) (h3 : 0 ≤ a3 ∧ a3 ≤ 4294967295) (h4 : -9223372036854775808 ≤ a4 ∧ a4 ≤ 9223372036854775807) : Calls Try.prog 3 #[.agg a0, .int .u32 a1, .int .u32 a2, .int .u32 a3, .int .i64 a4] w fun e w' => e = .returned (.bool true) ∧ Below w.heap.size w w' := by
  obtain ⟨x0, r0, b0⟩ := rd_typed (cod := X.cod) (ps := [.i .i64, .i .i64, .s]) (by kernel_rfl) (by kernel_rfl) h0
  obtain ⟨v0_0, v0_1, v0_2, ⟨⟩⟩ := x0
  replace b0 : ∀ d ∈ [D.i .i64 v0_0, D.i .i64 v0_1, D.s v0_2], BndD 6 d := b0
  replace r0 : RepAll w (fun b => b < w.heap.size) _ [D.i .i64 v0_0, D.i .i64 v0_1, D.s v0_2] := r0
  have b0_0 : -9223372036854775808 ≤ v0_0 ∧ v0_0 ≤ 9223372036854775807 := b0 _ List.mem_cons_self
  have b0_1 : -9223372036854775808 ≤ v0_1 ∧ v0_1 ≤ 9223372036854775807 := b0 _ (List.mem_cons_of_mem _ List.mem_cons_self)
  have b0_2 : v0_2.length ≤ 140737488351232 := b0 _ (List.mem_cons_of_mem _ (List.mem_cons_of_mem _ List.mem_cons_self))
  exact law_told X.dgramFixed rfl (x := (v0_0, (v0_1, (v0_2, (a1, (a2, (a3, (a4, ())))))))) ⟨(true, ()), X.dgramFixed_true b0_0 b0_1 b0_2 h1 h2 h3 h4, rfl, rfl⟩ (RepArgs.agg r0 (RepArgs.i (RepArgs.i (RepArgs.i (RepArgs.i RepArgs.nil))))) rfl
end Go.Proofs.Ytjehhmeaigkbnaa.DgramFixed
