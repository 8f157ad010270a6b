/- The law CookieIndex: what the machine comes to, out of the tree of its text and the plain law. Printed by a program of mine (tool/walk.py). Conditions: none. -/
import Derived.Test.YtjehhmeaigkbnaaPCookieI
import Derived.Test.YtjehhmeaigkbnaaAbsQ
import Derived.KernelRfl
namespace Go.Proofs.Ytjehhmeaigkbnaa.CookieIndex
open Go Go.RowKit Go.Proofs.Ytjehhmeaigkbnaa Go.Proofs.Ytjehhmeaigkbnaa.Abs
set_option linter.unusedVariables false
set_option maxRecDepth 100000
theorem walk (a0 : Int) (w : World) (h0 : -9223372036854775808 ≤ a0 ∧ a0 ≤ 9223372036854775807) : Calls Try.prog 10 #[.int .i64 a0] w fun e w' => e = .returned (.bool true) ∧ Below w.heap.size w w' := by
  exact law_told X.cookieIndex rfl (x := (a0, ())) ⟨(true, ()), X.cookieIndex_true h0, rfl, rfl⟩ (RepArgs.i RepArgs.nil) rfl
end Go.Proofs.Ytjehhmeaigkbnaa.CookieIndex
