/- The law BridgeBounds: what the machine comes to, out of the tree of its text and the plain law. Printed by a program of mine (tool/walk.py). Conditions: none. -/
import Derived.Test.YtcedkdopoigijaaPBridgeL
import Derived.Test.YtcedkdopoigijaaAbsQ
import Derived.KernelRfl
namespace Go.Proofs.Ytcedkdopoigijaa.BridgeBounds
open Go Go.RowKit Go.Proofs.Ytcedkdopoigijaa Go.Proofs.Ytcedkdopoigijaa.Abs
set_option linter.unusedVariables false
set_option maxRecDepth 100000
theorem walk (a0 : Array Value) (a1 : Option Addr) (l1 c1 : Nat) (a2 : Option Addr) (l2 c2 : Nat) (w : World) (h0 : Read.Rd Try.prog w 77 a0.toList) (h1 : Read.Rd Try.prog w 27 [.slice a1 l1 c1]) (h2 : Read.Rd Try.prog w 96 [.slice a2 l2 c2]) : Calls Try.prog 13 #[.agg a0, .slice a1 l1 c1, .slice a2 l2 c2] w fun e w' => e = .returned (.bool true) ∧ Below w.heap.size w w' := by
  obtain ⟨x0, r0, b0⟩ := rd_typed (cod := X.cod) (ps := [.i .i64, .i .i64, .st 15]) (by kernel_rfl) (by kernel_rfl) h0
  obtain ⟨v0_0, v0_1, v0_2, ⟨⟩⟩ := x0
  replace b0 : ∀ d ∈ [D.i .i64 v0_0, D.i .i64 v0_1, D.st 15 v0_2], BndD 6 d := b0
  replace r0 : RepAll w (fun b => b < w.heap.size) _ [D.i .i64 v0_0, D.i .i64 v0_1, D.st 15 v0_2] := r0
  have b0_0 : -9223372036854775808 ≤ v0_0 ∧ v0_0 ≤ 9223372036854775807 := b0 _ List.mem_cons_self
  have b0_1 : -9223372036854775808 ≤ v0_1 ∧ v0_1 ≤ 9223372036854775807 := b0 _ (List.mem_cons_of_mem _ List.mem_cons_self)
  have b0_2 : BndD 6 (D.st 15 v0_2) := b0 _ (List.mem_cons_of_mem _ (List.mem_cons_of_mem _ List.mem_cons_self))
  obtain ⟨x1, r1, b1⟩ := rd_typed (cod := X.cod) (ps := [.st 0]) (by kernel_rfl) (by kernel_rfl) h1
  obtain ⟨v1_0, ⟨⟩⟩ := x1
  replace b1 : ∀ d ∈ [D.st 0 v1_0], BndD 6 d := b1
  replace r1 : RepAll w (fun b => b < w.heap.size) _ [D.st 0 v1_0] := r1
  have b1_0 : BndD 6 (D.st 0 v1_0) := b1 _ List.mem_cons_self
  obtain ⟨x2, r2, b2⟩ := rd_typed (cod := X.cod) (ps := [.st 3]) (by kernel_rfl) (by kernel_rfl) h2
  obtain ⟨v2_0, ⟨⟩⟩ := x2
  replace b2 : ∀ d ∈ [D.st 3 v2_0], BndD 6 d := b2
  replace r2 : RepAll w (fun b => b < w.heap.size) _ [D.st 3 v2_0] := r2
  have b2_0 : BndD 6 (D.st 3 v2_0) := b2 _ List.mem_cons_self
  exact law_told X.bridgeBounds rfl (x := (v0_0, (v0_1, (v0_2, (v1_0, (v2_0, ())))))) ⟨(true, ()), X.bridgeBounds_true b0_0 b0_1 b0_2 b1_0 b2_0, rfl, rfl⟩ (RepArgs.agg r0 (RepArgs.d1 r1 (RepArgs.d1 r2 RepArgs.nil))) rfl
end Go.Proofs.Ytcedkdopoigijaa.BridgeBounds
