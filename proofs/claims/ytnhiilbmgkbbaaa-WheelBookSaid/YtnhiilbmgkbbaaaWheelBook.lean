/- The law WheelBook: what the machine comes to, out of the tree of its text and the plain law. Printed by a program of mine (tool/walk.py). Conditions: none. -/
import Derived.Test.YtnhiilbmgkbbaaaPWhI
import Derived.Test.YtnhiilbmgkbbaaaAbsQ
import Derived.KernelRfl
namespace Go.Proofs.Ytnhiilbmgkbbaaa.WheelBook
open Go Go.RowKit Go.Proofs.Ytnhiilbmgkbbaaa Go.Proofs.Ytnhiilbmgkbbaaa.Abs
set_option linter.unusedVariables false
set_option maxRecDepth 100000
theorem walk (a0 : Int) (a1 : Option Addr) (l1 c1 : Nat) (a2 : Option Addr) (l2 c2 : Nat) (a3 : Option Addr) (l3 c3 : Nat) (w : World) (h0 : -9223372036854775808 ≤ a0 ∧ a0 ≤ 9223372036854775807) (h1 : Read.Rd Try.prog w 43 [.slice a1 l1 c1]) (h2 : Read.Rd Try.prog w 43 [.slice a2 l2 c2]) (h3 : Read.Rd Try.prog w 43 [.slice a3 l3 c3]) : Calls Try.prog 6 #[.int .i64 a0, .slice a1 l1 c1, .slice a2 l2 c2, .slice a3 l3 c3] w fun e w' => e = .returned (.bool true) ∧ Below w.heap.size w w' := by
  obtain ⟨x1, r1, b1⟩ := rd_typed (cod := X.cod) (ps := [.st 0]) (by kernel_rfl) (by kernel_rfl) h1
  obtain ⟨v1_0, ⟨⟩⟩ := x1
  replace b1 : ∀ d ∈ [D.st 0 v1_0], BndD 6 d := b1
  replace r1 : RepAll w (fun b => b < w.heap.size) _ [D.st 0 v1_0] := r1
  have b1_0 : BndD 6 (D.st 0 v1_0) := b1 _ List.mem_cons_self
  obtain ⟨x2, r2, b2⟩ := rd_typed (cod := X.cod) (ps := [.st 0]) (by kernel_rfl) (by kernel_rfl) h2
  obtain ⟨v2_0, ⟨⟩⟩ := x2
  replace b2 : ∀ d ∈ [D.st 0 v2_0], BndD 6 d := b2
  replace r2 : RepAll w (fun b => b < w.heap.size) _ [D.st 0 v2_0] := r2
  have b2_0 : BndD 6 (D.st 0 v2_0) := b2 _ List.mem_cons_self
  obtain ⟨x3, r3, b3⟩ := rd_typed (cod := X.cod) (ps := [.st 0]) (by kernel_rfl) (by kernel_rfl) h3
  obtain ⟨v3_0, ⟨⟩⟩ := x3
  replace b3 : ∀ d ∈ [D.st 0 v3_0], BndD 6 d := b3
  replace r3 : RepAll w (fun b => b < w.heap.size) _ [D.st 0 v3_0] := r3
  have b3_0 : BndD 6 (D.st 0 v3_0) := b3 _ List.mem_cons_self
  have hT : X.wheelBook_fn (a0, (v1_0, (v2_0, (v3_0, ())))) = some (true, ()) := X.wheelBook_true h0 b1_0 b2_0 b3_0
  exact law_told X.wheelBook rfl (x := (a0, (v1_0, (v2_0, (v3_0, ()))))) ⟨(true, ()), (congrFun (show X.wheelBook.fn = X.wheelBook_fn by kernel_rfl) _).trans hT, rfl, rfl⟩ (RepArgs.i (RepArgs.d1 r1 (RepArgs.d1 r2 (RepArgs.d1 r3 RepArgs.nil)))) rfl
end Go.Proofs.Ytnhiilbmgkbbaaa.WheelBook
