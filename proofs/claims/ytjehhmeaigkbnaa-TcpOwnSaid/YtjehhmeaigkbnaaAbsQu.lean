/- Arguments of small bulk ('..UptoSaid'): how long their slices are. Conditions: none. -/
import Derived.Test.YtjehhmeaigkbnaaAbsQ
import Derived.Test.YtjehhmeaigkbnaaReadU
namespace Go.Proofs.Ytjehhmeaigkbnaa.Abs
open Go Go.RowKit
set_option linter.unusedVariables false
theorem len_upto {P : Program} {w : World} {U : Nat → Prop} {B : Nat} {t e : TypeId} {a : Option Addr} {l c k : Nat} {xs : List (τ k)} (ht : P.underlying t = some (.slice e)) (h : Read.RdU B P w t [.slice a l c]) (r : RepAll w U [.slice a l c] [D.st k xs]) : xs.length ≤ B := by
  obtain ⟨a', len, cap, e1, hl, _, _, hB, _⟩ := h.slice ht
  cases e1
  have h0 : RepI w U (.slice a l c) (D.st k xs) := RepAll.at r 0 _ _ rfl rfl
  obtain ⟨a2, cap2, e2, _⟩ := h0.unst.drop
  injection e2 with _ e3 _
  simp at e3
  omega
theorem len_uptoF {P : Program} {w : World} {U : Nat → Prop} {B : Nat} {t e : TypeId} {fs : Array Field} {cs : List Value} {ds : List D} {k i : Nat} {f : Field} {xs : List (τ k)} (ht : P.underlying t = some (.struct fs)) (hi : fs[i]? = some f) (hu : P.underlying f.type = some (.slice e))
    (h : Read.RdU B P w t cs) (r : RepAll w U cs ds) (hk : ds[f.offset]? = some (D.st k xs)) : xs.length ≤ B := by
  obtain ⟨_, hf⟩ := h.struct ht
  obtain ⟨a, len, cap, e1, hl, _, _, hB, _⟩ := (hf i f hi).slice hu
  have hc : cs[f.offset]? = some (.slice a len cap) := by
    have := congrArg (·[0]?) e1
    simp only [List.getElem?_cons_zero] at this
    rw [List.getElem?_take] at this
    split at this
    · rw [List.getElem?_drop] at this; simpa using this
    · cases this
  have h0 : RepI w U (.slice a len cap) (D.st k xs) := RepAll.at r f.offset _ _ hc hk
  obtain ⟨a2, cap2, e2, _⟩ := h0.unst.drop
  injection e2 with _ e3 _
  simp at e3
  omega
end Go.Proofs.Ytjehhmeaigkbnaa.Abs
