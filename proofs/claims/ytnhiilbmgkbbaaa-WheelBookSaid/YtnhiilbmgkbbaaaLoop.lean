/- Loops of trees: what they come to. Conditions: none. -/
import Derived.Test.YtnhiilbmgkbbaaaAbsY
namespace Go.Proofs.Ytnhiilbmgkbbaaa.Abs
set_option linter.unusedVariables false

theorem loopO_succ {A B : Type} (tag : Nat) (f : A → Option (A ⊕ B)) (n : Nat) (a : A) : loopO tag f (n + 1) a = match f a with | none => none | some (.inl a') => loopO tag f n a' | some (.inr b) => some b := rfl
theorem loopO_out {A B : Type} {tag : Nat} {f : A → Option (A ⊕ B)} {n : Nat} {a : A} {b : B} (h : f a = some (.inr b)) : loopO tag f (n + 1) a = some b := by rw [loopO_succ, h]
theorem loopO_in {A B : Type} {tag : Nat} {f : A → Option (A ⊕ B)} {n : Nat} {a a' : A} (h : f a = some (.inl a')) : loopO tag f (n + 1) a = loopO tag f n a' := by rw [loopO_succ, h]

/-- A loop comes to g, if g is kept, and a measure goes down. -/
theorem loopO_fn {A B : Type} {tag : Nat} {f : A → Option (A ⊕ B)} (P : A → Prop) (g : A → B) (μ : A → Nat)
    (h : ∀ a, P a → f a = some (.inr (g a)) ∨ ∃ a', f a = some (.inl a') ∧ P a' ∧ μ a' < μ a ∧ g a' = g a) : ∀ (n : Nat) (a : A), P a → μ a < n → loopO tag f n a = some (g a) := by
  intro n
  induction n with
  | zero => intro a _ hn; omega
  | succ n ih =>
    intro a ha hn
    rcases h a ha with e | ⟨a', e, h1, h2, h3⟩
    · exact loopO_out e
    · rw [loopO_in e, ih a' h1 (by omega), h3]
/-- A loop comes to something of which Q holds. -/
theorem loopO_ex {A B : Type} {tag : Nat} {f : A → Option (A ⊕ B)} (P : A → Prop) (Q : B → Prop) (μ : A → Nat)
    (h : ∀ a, P a → (∃ b, f a = some (.inr b) ∧ Q b) ∨ ∃ a', f a = some (.inl a') ∧ P a' ∧ μ a' < μ a) : ∀ (n : Nat) (a : A), P a → μ a < n → ∃ b, loopO tag f n a = some b ∧ Q b := by
  intro n
  induction n with
  | zero => intro a _ hn; omega
  | succ n ih =>
    intro a ha hn
    rcases h a ha with ⟨b, e, hb⟩ | ⟨a', e, h1, h2⟩
    · exact ⟨b, loopO_out e, hb⟩
    · rw [loopO_in e]; exact ih a' h1 (by omega)
end Go.Proofs.Ytnhiilbmgkbbaaa.Abs
