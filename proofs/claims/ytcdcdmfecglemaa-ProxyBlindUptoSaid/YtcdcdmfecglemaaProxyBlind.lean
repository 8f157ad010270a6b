/- The law ProxyBlind: what the machine comes to, out of the tree of its text and the plain law. Printed by a program of mine (tool/walk.py). Conditions: none. -/
import Derived.Test.YtcdcdmfecglemaaPProxyB
import Derived.Test.YtcdcdmfecglemaaAbsQu
import Derived.KernelRfl
namespace Go.Proofs.Ytcdcdmfecglemaa.ProxyBlind
open Go Go.RowKit Go.Proofs.Ytcdcdmfecglemaa Go.Proofs.Ytcdcdmfecglemaa.Abs
set_option linter.unusedVariables false
set_option maxRecDepth 100000
theorem walk (a0 : Array Value) (a1 : Option Addr) (l1 c1 : Nat) (a2 : Option Addr) (l2 c2 : Nat) (a3 : Int) (w : World) (h0 : Read.RdU 1048576 Try.prog w 52 a0.toList) (h1 : Read.RdU 1048576 Try.prog w 22 [.slice a1 l1 c1]) (h2 : Read.RdU 1048576 Try.prog w 66 [.slice a2 l2 c2]) (h3 : -9223372036854775808 ≤ a3 ∧ a3 ≤ 9223372036854775807) : Calls Try.prog 8 #[.agg a0, .slice a1 l1 c1, .slice a2 l2 c2, .int .i64 a3] w fun e w' => e = .returned (.bool true) ∧ Below w.heap.size w w' := by
  obtain ⟨x0, r0, b0⟩ := rd_typed (cod := X.cod) (ps := [.i .u64, .i .u64, .i .i64, .st 18]) (by kernel_rfl) (by kernel_rfl) h0.rd
  obtain ⟨v0_0, v0_1, v0_2, v0_3, ⟨⟩⟩ := x0
  replace b0 : ∀ d ∈ [D.i .u64 v0_0, D.i .u64 v0_1, D.i .i64 v0_2, D.st 18 v0_3], BndD 6 d := b0
  replace r0 : RepAll w (fun b => b < w.heap.size) _ [D.i .u64 v0_0, D.i .u64 v0_1, D.i .i64 v0_2, D.st 18 v0_3] := r0
  have b0_0 : 0 ≤ v0_0 ∧ v0_0 ≤ 18446744073709551615 := b0 _ List.mem_cons_self
  have b0_1 : 0 ≤ v0_1 ∧ v0_1 ≤ 18446744073709551615 := b0 _ (List.mem_cons_of_mem _ List.mem_cons_self)
  have b0_2 : -9223372036854775808 ≤ v0_2 ∧ v0_2 ≤ 9223372036854775807 := b0 _ (List.mem_cons_of_mem _ (List.mem_cons_of_mem _ List.mem_cons_self))
  have b0_3 : BndD 6 (D.st 18 v0_3) := b0 _ (List.mem_cons_of_mem _ (List.mem_cons_of_mem _ (List.mem_cons_of_mem _ List.mem_cons_self)))
  have u0_3 : v0_3.length ≤ 1048576 := len_uptoF (i := 2) (e := 60) Try.underlying52 rfl (by kernel_rfl) h0 r0 rfl
  obtain ⟨x1, r1, b1⟩ := rd_typed (cod := X.cod) (ps := [.st 26]) (by kernel_rfl) (by kernel_rfl) h1.rd
  obtain ⟨v1_0, ⟨⟩⟩ := x1
  replace b1 : ∀ d ∈ [D.st 26 v1_0], BndD 6 d := b1
  replace r1 : RepAll w (fun b => b < w.heap.size) _ [D.st 26 v1_0] := r1
  have b1_0 : BndD 6 (D.st 26 v1_0) := b1 _ List.mem_cons_self
  have u1 : v1_0.length ≤ 1048576 := len_upto (e := 26) (by kernel_rfl) h1 r1
  obtain ⟨x2, r2, b2⟩ := rd_typed (cod := X.cod) (ps := [.st 28]) (by kernel_rfl) (by kernel_rfl) h2.rd
  obtain ⟨v2_0, ⟨⟩⟩ := x2
  replace b2 : ∀ d ∈ [D.st 28 v2_0], BndD 6 d := b2
  replace r2 : RepAll w (fun b => b < w.heap.size) _ [D.st 28 v2_0] := r2
  have b2_0 : BndD 6 (D.st 28 v2_0) := b2 _ List.mem_cons_self
  have u2 : v2_0.length ≤ 1048576 := len_upto (e := 24) (by kernel_rfl) h2 r2
  exact law_told X.kBlind rfl (x := (v0_0, (v0_1, (v0_2, (v0_3, (v1_0, (v2_0, (a3, ())))))))) ⟨(true, ()), X.kBlind_true b0_0 b0_1 b0_2 b0_3 u0_3 b1_0 u1 b2_0 u2 h3, rfl, rfl⟩ (RepArgs.agg r0 (RepArgs.d1 r1 (RepArgs.d1 r2 (RepArgs.i RepArgs.nil)))) rfl
end Go.Proofs.Ytcdcdmfecglemaa.ProxyBlind
