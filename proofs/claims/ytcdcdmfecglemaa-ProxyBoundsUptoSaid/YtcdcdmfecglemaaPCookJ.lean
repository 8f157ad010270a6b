/- cookie.Index: what it computes (made of XPCookieI). Conditions: none. -/
import Derived.Test.YtcdcdmfecglemaaGCook
import Derived.Test.YtcdcdmfecglemaaPList
import Derived.KernelRfl
namespace Go.Proofs.Ytcdcdmfecglemaa.X
open Go Go.RowKit Go.Proofs.Ytcdcdmfecglemaa.Abs Go.Proofs.Ytcdcdmfecglemaa.Bits
set_option linter.unusedVariables false
set_option linter.unnecessarySimpa false
set_option linter.unusedSimpArgs false
set_option maxRecDepth 100000

theorem coSizes_ok : coSizes_fn () = some (216, (536, (1220, (1300, (1360, (1440, (1460, (8960, ())))))))) := rfl
theorem ev_sumr {α β γ : Type} {x : γ} {f : β → Tr α} {g : γ → Tr α} {r : Option α} (h : (g x).eval = r) : (Tr.sum (.inr x) f g).eval = r := h
theorem coRound0 (size last : Int) : (coIndex_step84_3 (0, (size, (216, (536, (1220, (1300, (1360, (1440, (1460, (8960, (last, ())))))))))))).eval = some (.inl (1, (size, (216, (536, (1220, (1300, (1360, (1440, (1460, (8960, (if 216 ≤ size then 0 else last, ())))))))))))) := by
  unfold coIndex_step84_3
  refine ev_t (by decide) (ev_g (by decide) (ev_opt (b := 216) rfl ?_))
  by_cases h : 216 ≤ size
  · rw [if_pos h]; exact ev_t (by simpa using h) (ev_r rfl)
  · rw [if_neg h]; exact ev_f (by simpa using h) (ev_r rfl)
theorem coRound1 (size last : Int) : (coIndex_step84_3 (1, (size, (216, (536, (1220, (1300, (1360, (1440, (1460, (8960, (last, ())))))))))))).eval = some (.inl (2, (size, (216, (536, (1220, (1300, (1360, (1440, (1460, (8960, (if 536 ≤ size then 1 else last, ())))))))))))) := by
  unfold coIndex_step84_3
  refine ev_t (by decide) (ev_g (by decide) (ev_opt (b := 536) rfl ?_))
  by_cases h : 536 ≤ size
  · rw [if_pos h]; exact ev_t (by simpa using h) (ev_r rfl)
  · rw [if_neg h]; exact ev_f (by simpa using h) (ev_r rfl)
theorem coRound2 (size last : Int) : (coIndex_step84_3 (2, (size, (216, (536, (1220, (1300, (1360, (1440, (1460, (8960, (last, ())))))))))))).eval = some (.inl (3, (size, (216, (536, (1220, (1300, (1360, (1440, (1460, (8960, (if 1220 ≤ size then 2 else last, ())))))))))))) := by
  unfold coIndex_step84_3
  refine ev_t (by decide) (ev_g (by decide) (ev_opt (b := 1220) rfl ?_))
  by_cases h : 1220 ≤ size
  · rw [if_pos h]; exact ev_t (by simpa using h) (ev_r rfl)
  · rw [if_neg h]; exact ev_f (by simpa using h) (ev_r rfl)
theorem coRound3 (size last : Int) : (coIndex_step84_3 (3, (size, (216, (536, (1220, (1300, (1360, (1440, (1460, (8960, (last, ())))))))))))).eval = some (.inl (4, (size, (216, (536, (1220, (1300, (1360, (1440, (1460, (8960, (if 1300 ≤ size then 3 else last, ())))))))))))) := by
  unfold coIndex_step84_3
  refine ev_t (by decide) (ev_g (by decide) (ev_opt (b := 1300) rfl ?_))
  by_cases h : 1300 ≤ size
  · rw [if_pos h]; exact ev_t (by simpa using h) (ev_r rfl)
  · rw [if_neg h]; exact ev_f (by simpa using h) (ev_r rfl)
theorem coRound4 (size last : Int) : (coIndex_step84_3 (4, (size, (216, (536, (1220, (1300, (1360, (1440, (1460, (8960, (last, ())))))))))))).eval = some (.inl (5, (size, (216, (536, (1220, (1300, (1360, (1440, (1460, (8960, (if 1360 ≤ size then 4 else last, ())))))))))))) := by
  unfold coIndex_step84_3
  refine ev_t (by decide) (ev_g (by decide) (ev_opt (b := 1360) rfl ?_))
  by_cases h : 1360 ≤ size
  · rw [if_pos h]; exact ev_t (by simpa using h) (ev_r rfl)
  · rw [if_neg h]; exact ev_f (by simpa using h) (ev_r rfl)
theorem coRound5 (size last : Int) : (coIndex_step84_3 (5, (size, (216, (536, (1220, (1300, (1360, (1440, (1460, (8960, (last, ())))))))))))).eval = some (.inl (6, (size, (216, (536, (1220, (1300, (1360, (1440, (1460, (8960, (if 1440 ≤ size then 5 else last, ())))))))))))) := by
  unfold coIndex_step84_3
  refine ev_t (by decide) (ev_g (by decide) (ev_opt (b := 1440) rfl ?_))
  by_cases h : 1440 ≤ size
  · rw [if_pos h]; exact ev_t (by simpa using h) (ev_r rfl)
  · rw [if_neg h]; exact ev_f (by simpa using h) (ev_r rfl)
theorem coRound6 (size last : Int) : (coIndex_step84_3 (6, (size, (216, (536, (1220, (1300, (1360, (1440, (1460, (8960, (last, ())))))))))))).eval = some (.inl (7, (size, (216, (536, (1220, (1300, (1360, (1440, (1460, (8960, (if 1460 ≤ size then 6 else last, ())))))))))))) := by
  unfold coIndex_step84_3
  refine ev_t (by decide) (ev_g (by decide) (ev_opt (b := 1460) rfl ?_))
  by_cases h : 1460 ≤ size
  · rw [if_pos h]; exact ev_t (by simpa using h) (ev_r rfl)
  · rw [if_neg h]; exact ev_f (by simpa using h) (ev_r rfl)
theorem coRound7 (size last : Int) : (coIndex_step84_3 (7, (size, (216, (536, (1220, (1300, (1360, (1440, (1460, (8960, (last, ())))))))))))).eval = some (.inl (8, (size, (216, (536, (1220, (1300, (1360, (1440, (1460, (8960, (if 8960 ≤ size then 7 else last, ())))))))))))) := by
  unfold coIndex_step84_3
  refine ev_t (by decide) (ev_g (by decide) (ev_opt (b := 8960) rfl ?_))
  by_cases h : 8960 ≤ size
  · rw [if_pos h]; exact ev_t (by simpa using h) (ev_r rfl)
  · rw [if_neg h]; exact ev_f (by simpa using h) (ev_r rfl)
def pick8 (size : Int) : Int := if 8960 ≤ size then 7 else (if 1460 ≤ size then 6 else (if 1440 ≤ size then 5 else (if 1360 ≤ size then 4 else (if 1300 ≤ size then 3 else (if 1220 ≤ size then 2 else (if 536 ≤ size then 1 else (if 216 ≤ size then 0 else (0))))))))
theorem coIndex_ok (size : Int) : coIndex_fn (size, ()) = some (pick8 size, ()) := by
  unfold coIndex_fn coIndex_tree
  refine ev_opt coSizes_ok (ev_opt (b := (pick8 size, ())) ?_ rfl)
  show loopO _ (fun x => (coIndex_step84_3 x).eval) 18446744073709551616 (0, (size, (216, (536, (1220, (1300, (1360, (1440, (1460, (8960, (0, ()))))))))))) = _
  have e : (18446744073709551616 : Nat) = 18446744073709551607 + 1 + 1 + 1 + 1 + 1 + 1 + 1 + 1 + 1 := by decide
  rw [e]
  rw [loopO_in (coRound0 size _)]
  rw [loopO_in (coRound1 size _)]
  rw [loopO_in (coRound2 size _)]
  rw [loopO_in (coRound3 size _)]
  rw [loopO_in (coRound4 size _)]
  rw [loopO_in (coRound5 size _)]
  rw [loopO_in (coRound6 size _)]
  rw [loopO_in (coRound7 size _)]
  exact loopO_out (ev_f (by decide) (ev_r rfl))

end Go.Proofs.Ytcdcdmfecglemaa.X
