/- Arguments of small bulk ('..UptoSaid'): how long their slices are. Conditions: none. -/
import Derived.Test.YtlbmdkclbmcpdaaAbsQ
import Derived.Test.YtlbmdkclbmcpdaaReadU
namespace Go.Proofs.Ytlbmdkclbmcpdaa.Abs
open Go Go.RowKit
set_option linter.unusedVariables false
theorem len_upto {P : Program} {w : World} {U : Nat → Prop} {B : Nat} {t e : TypeId} {a : Option Addr} {l c k : Nat} {xs : List (τ k)} (ht : P.underlying t = some (.slice e)) (h : Read.RdU B P w t [.slice a l c]) (r : RepAll w U [.slice a l c] [D.st k xs]) : xs.length ≤ B := by
  obtain ⟨a', len, cap, e1, hl, _, _, hB, _⟩ := h.slice ht
  cases e1
  have h0 : RepI w U (.slice a l c) (D.st k xs) := RepAll.at r 0 _ _ rfl rfl
  obtain ⟨a2, cap2, e2, _⟩ := h0.unst.drop
  injection e2 with _ e3 _
  simp at e3
  omega
end Go.Proofs.Ytlbmdkclbmcpdaa.Abs
