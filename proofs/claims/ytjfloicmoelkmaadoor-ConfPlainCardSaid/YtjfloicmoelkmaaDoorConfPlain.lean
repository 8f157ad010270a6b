/- The law ConfPlain: what the machine comes to, out of the tree of its text and the plain law. Printed by a program of mine (tool/walk.py). Conditions: none. -/
import Derived.Test.YtjfloicmoelkmaaDoorPConfK
import Derived.Test.YtjfloicmoelkmaaDoorAbsQ
import Derived.KernelRfl
namespace Go.Proofs.YtjfloicmoelkmaaDoor.ConfPlain
open Go Go.RowKit Go.Proofs.YtjfloicmoelkmaaDoor Go.Proofs.YtjfloicmoelkmaaDoor.Abs
set_option linter.unusedVariables false
set_option maxRecDepth 100000
theorem walk (a0 : ByteArray) (a1 : ByteArray) (w : World) (h0 : a0.size ≤ 140737488351232) (h1 : a1.size ≤ 140737488351232) (hgl : ∀ e ∈ Abs.globs, ∃ x y, w.heap[e.1]? = some (.cells e.2 x y)) (hgi : ∀ g ∈ Abs.gints, g < w.heap.size ∧ ∃ m, w.cell? ⟨g, 0, none⟩ = some (.int .i64 m)) (hge : ∀ g ∈ Abs.gerrs, g < w.heap.size ∧ ∃ v, w.cell? ⟨g, 0, none⟩ = some v ∧ (v = .nilIface ∨ ∃ te pe, v = .iface te pe)) : Calls Tryd.prog 6 #[.string a0, .string a1] w fun e w' => e = .returned (.bool true) ∧ Below w.heap.size w w' := by
  have b0 : a0.data.toList.length ≤ 140737488351232 := by rw [Array.length_toList]; exact h0
  have b1 : a1.data.toList.length ≤ 140737488351232 := by rw [Array.length_toList]; exact h1
  have hT : X.kConfPlain_fn (a0.data.toList, (a1.data.toList, ())) = some (true, ()) := X.kConfPlain_true b0 b1
  exact law_told X.kConfPlain rfl (x := (a0.data.toList, (a1.data.toList, ()))) ⟨(true, ()), (congrFun (show X.kConfPlain.fn = X.kConfPlain_fn by kernel_rfl) _).trans hT, rfl, rfl⟩ (RepArgs.s (RepArgs.s RepArgs.nil)) rfl (hgl := hgl) (hgi := hgi) (hge := hge)
end Go.Proofs.YtjfloicmoelkmaaDoor.ConfPlain
