/- The list in which a time stands, which isn't now: digit by digit; what a turn by one changes. Conditions: none. -/
import Derived.Test.YtnhiilbmgkbbaaaPDel
namespace Go.Proofs.Ytnhiilbmgkbbaaa.X
open Go Go.RowKit Go.Proofs.Ytnhiilbmgkbbaaa.Abs Go.Proofs.Ytnhiilbmgkbbaaa.Bits
set_option linter.unusedVariables false
set_option linter.unnecessarySimpa false
set_option linter.unusedSimpArgs false

/-- The list of a time. -/
def lst (now a : Int) : Int :=
  if now / 1048576 ≠ a / 1048576 then 80 + a / 1048576 % 16
  else if now / 65536 ≠ a / 65536 then 64 + a / 65536 % 16
  else if now / 4096 ≠ a / 4096 then 48 + a / 4096 % 16
  else if now / 256 ≠ a / 256 then 32 + a / 256 % 16
  else if now / 16 ≠ a / 16 then 16 + a / 16 % 16
  else a % 16
theorem lst_bound (now a : Int) : 0 ≤ lst now a ∧ lst now a < 96 := by
  unfold lst
  repeat' split
  all_goals omega
/-- What stands in the k-th part. -/
structure AtK (now a p k : Int) : Prop where
  up : now / (16 * p) = a / (16 * p)
  ne : now / p ≠ a / p
  eq : lst now a = 16 * k + a / p % 16
theorem lst_cases {now a : Int} (h0 : 0 ≤ now) (h1 : now < a) (h2 : a < 16777216) :
    AtK now a 1048576 5 ∨ AtK now a 65536 4 ∨ AtK now a 4096 3 ∨ AtK now a 256 2 ∨ AtK now a 16 1 ∨ AtK now a 1 0 := by
  by_cases c5 : now / 1048576 = a / 1048576
  · by_cases c4 : now / 65536 = a / 65536
    · by_cases c3 : now / 4096 = a / 4096
      · by_cases c2 : now / 256 = a / 256
        · by_cases c1 : now / 16 = a / 16
          · refine .inr (.inr (.inr (.inr (.inr ⟨c1, by omega, ?_⟩))))
            unfold lst
            rw [if_neg (by omega), if_neg (by omega), if_neg (by omega), if_neg (by omega), if_neg (by omega)]; omega
          · refine .inr (.inr (.inr (.inr (.inl ⟨c2, c1, ?_⟩))))
            unfold lst
            rw [if_neg (by omega), if_neg (by omega), if_neg (by omega), if_neg (by omega), if_pos c1]; rfl
        · refine .inr (.inr (.inr (.inl ⟨c3, c2, ?_⟩)))
          unfold lst
          rw [if_neg (by omega), if_neg (by omega), if_neg (by omega), if_pos c2]; rfl
      · refine .inr (.inr (.inl ⟨c4, c3, ?_⟩))
        unfold lst
        rw [if_neg (by omega), if_neg (by omega), if_pos c3]; rfl
    · refine .inr (.inl ⟨c5, c4, ?_⟩)
      unfold lst
      rw [if_neg (by omega), if_pos c4]; rfl
  · refine .inl ⟨by show now / 16777216 = a / 16777216; omega, c5, ?_⟩
    unfold lst
    rw [if_pos c5]; rfl
/-- A turn to a number that ends in zeros below p, but not below 16 p: what stands in its list goes further down; nothing else moves, and nothing else stands below. -/
structure Turn (n p k idx a : Int) : Prop where
  here : lst (n - 1) a = idx → a ≠ n → 0 ≤ lst n a ∧ lst n a < 16 * k
  there : lst (n - 1) a ≠ idx → n < a ∧ lst n a = lst (n - 1) a ∧ 16 * k ≤ lst (n - 1) a
  due : a = n → lst (n - 1) a = idx
set_option maxHeartbeats 2000000 in
theorem turn_of {n a : Int} (h0 : 1 ≤ n) (h1 : n ≤ a) (h2 : a < 16777216) :
    (n % 1048576 = 0 → Turn n 1048576 5 (80 + n / 1048576 % 16) a) ∧
    (n % 65536 = 0 → n % 1048576 ≠ 0 → Turn n 65536 4 (64 + n / 65536 % 16) a) ∧
    (n % 4096 = 0 → n % 65536 ≠ 0 → Turn n 4096 3 (48 + n / 4096 % 16) a) ∧
    (n % 256 = 0 → n % 4096 ≠ 0 → Turn n 256 2 (32 + n / 256 % 16) a) ∧
    (n % 16 = 0 → n % 256 ≠ 0 → Turn n 16 1 (16 + n / 16 % 16) a) ∧
    (n % 16 ≠ 0 → Turn n 1 0 (0 + n / 1 % 16) a) := by
  have hl := lst_cases (now := n - 1) (by omega) (by omega) h2
  by_cases e : a = n
  · subst e
    refine ⟨fun k => ⟨fun _ q => absurd rfl q, fun q => absurd ?_ q, fun _ => ?_⟩, fun k k' => ⟨fun _ q => absurd rfl q, fun q => absurd ?_ q, fun _ => ?_⟩, fun k k' => ⟨fun _ q => absurd rfl q, fun q => absurd ?_ q, fun _ => ?_⟩, fun k k' => ⟨fun _ q => absurd rfl q, fun q => absurd ?_ q, fun _ => ?_⟩, fun k k' => ⟨fun _ q => absurd rfl q, fun q => absurd ?_ q, fun _ => ?_⟩, fun k' => ⟨fun _ q => absurd rfl q, fun q => absurd ?_ q, fun _ => ?_⟩⟩
    all_goals (rcases hl with ⟨u, v, w⟩ | ⟨u, v, w⟩ | ⟨u, v, w⟩ | ⟨u, v, w⟩ | ⟨u, v, w⟩ | ⟨u, v, w⟩ <;> omega)
  · have hm := lst_cases (now := n) (by omega) (by omega : n < a) h2
    have hb := lst_bound n a
    refine ⟨fun k => ⟨fun q _ => ⟨hb.1, ?_⟩, fun q => ⟨by omega, ?_, ?_⟩, fun q => absurd q e⟩, fun k k' => ⟨fun q _ => ⟨hb.1, ?_⟩, fun q => ⟨by omega, ?_, ?_⟩, fun q => absurd q e⟩, fun k k' => ⟨fun q _ => ⟨hb.1, ?_⟩, fun q => ⟨by omega, ?_, ?_⟩, fun q => absurd q e⟩, fun k k' => ⟨fun q _ => ⟨hb.1, ?_⟩, fun q => ⟨by omega, ?_, ?_⟩, fun q => absurd q e⟩, fun k k' => ⟨fun q _ => ⟨hb.1, ?_⟩, fun q => ⟨by omega, ?_, ?_⟩, fun q => absurd q e⟩, fun k' => ⟨fun q _ => ⟨hb.1, ?_⟩, fun q => ⟨by omega, ?_, ?_⟩, fun q => absurd q e⟩⟩
    all_goals (rcases hl with ⟨u, v, w⟩ | ⟨u, v, w⟩ | ⟨u, v, w⟩ | ⟨u, v, w⟩ | ⟨u, v, w⟩ | ⟨u, v, w⟩ <;> rcases hm with ⟨u', v', w'⟩ | ⟨u', v', w'⟩ | ⟨u', v', w'⟩ | ⟨u', v', w'⟩ | ⟨u', v', w'⟩ | ⟨u', v', w'⟩ <;> omega)
/-- In the list of now's own digit nothing stands. -/
theorem lst_self {n a : Int} (h0 : 0 ≤ n) (h1 : n < a) (h2 : a < 16777216) :
    lst n a ≠ 80 + n / 1048576 % 16 ∧ lst n a ≠ 64 + n / 65536 % 16 ∧ lst n a ≠ 48 + n / 4096 % 16 ∧ lst n a ≠ 32 + n / 256 % 16 ∧ lst n a ≠ 16 + n / 16 % 16 ∧ lst n a ≠ 0 + n / 1 % 16 := by
  rcases lst_cases h0 h1 h2 with ⟨u, v, w⟩ | ⟨u, v, w⟩ | ⟨u, v, w⟩ | ⟨u, v, w⟩ | ⟨u, v, w⟩ | ⟨u, v, w⟩ <;> refine ⟨?_, ?_, ?_, ?_, ?_, ?_⟩ <;> omega
end Go.Proofs.Ytnhiilbmgkbbaaa.X
