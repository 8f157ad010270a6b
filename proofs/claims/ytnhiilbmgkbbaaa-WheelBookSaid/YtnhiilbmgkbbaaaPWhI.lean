/- The law WheelBook. Conditions: none. -/
import Derived.Test.YtnhiilbmgkbbaaaPWhG
import Derived.Test.YtnhiilbmgkbbaaaPWhE
import Derived.KernelRfl
namespace Go.Proofs.Ytnhiilbmgkbbaaa.X
open Go Go.RowKit Go.Proofs.Ytnhiilbmgkbbaaa.Abs Go.Proofs.Ytnhiilbmgkbbaaa.Bits
set_option linter.unusedVariables false
set_option linter.unnecessarySimpa false
set_option linter.unusedSimpArgs false
set_option maxRecDepth 100000

theorem bk_lives : wLives_fn () = some (true, ()) := by kernel_rfl
theorem bk_loop {ticks ats ids : List Int} {now : Int} (h : BOk now []) (h200 : ids.length ≤ 200) (ha : ats.length ≤ 1000000000000000000) (ht : ticks.length ≤ 1000000000000000000) :
    ∃ o, wheelBook_loop6_6 (0, (ticks, (ats, (ids, ((ids.length : Int), (now, (List.replicate 96 [], ([], ())))))))) = some o ∧ (o = .inl (true, ()) ∨ ∃ now' b', BOk now' b' ∧ o = .inr (b', (now', (Wh now' b', ())))) := by
  unfold wheelBook_loop6_6
  refine loopO_ex (tag := 60006) (f := fun x => (wheelBook_step6_6 x).eval) (fun a => ∃ (i : Nat) (now : Int) (b : List TDue), a = ((i : Int), (ticks, (ats, (ids, ((ids.length : Int), (now, (Wh now b, (b, ())))))))) ∧ BOk now b ∧ b.length ≤ i ∧ i ≤ ids.length) (fun o => o = .inl (true, ()) ∨ ∃ now' b', BOk now' b' ∧ o = .inr (b', (now', (Wh now' b', ()))))
    (fun a => ((ids.length : Int) - a.1).toNat) (fun a hP => ?_) 18446744073709551616 _ ⟨0, now, [], by rw [nil_wh]; rfl, h, by simp, by omega⟩ (by dsimp only; omega)
  obtain ⟨i, n, b, rfl, hb, hl, hi⟩ := hP
  by_cases c : i < ids.length
  · rcases bk_step hb hl c h200 ha ht with e | ⟨n', b', hb', hl', e⟩
    · exact .inl ⟨_, e, .inl rfl⟩
    · exact .inr ⟨_, e, ⟨i + 1, n', b', rfl, hb', hl', by omega⟩, by dsimp only; omega⟩
  · refine .inl ⟨_, ?_, .inr ⟨n, b, hb, rfl⟩⟩
    unfold wheelBook_step6_6
    exact ev_f (decide_eq_false (by omega)) (ev_g (by simp) (ev_g sameN_t (ev_r rfl)))
theorem wheelBook_true {now : Int} {ids ats ticks : List Int} (b0 : -9223372036854775808 ≤ now ∧ now ≤ 9223372036854775807) (hi : BndD 6 (D.st 0 ids)) (ha : BndD 6 (D.st 0 ats)) (ht : BndD 6 (D.st 0 ticks)) :
    (wheelBook_tree (now, (ids, (ats, (ticks, ()))))).eval = some (true, ()) := by
  have la : ats.length * 8 ≤ 140737488351232 := ha.1
  have lt : ticks.length * 8 ≤ 140737488351232 := ht.1
  unfold wheelBook_tree
  refine ev_opt bk_lives (ev_f rfl (ev_g rfl ?_))
  have hend : (Tr.opt (wLives_fn ()) fun (r : Bool × Unit) => Tr.ret (r.1, ())).eval = some (true, ()) := ev_opt bk_lives (ev_r rfl)
  by_cases c : 0 ≤ now ∧ now < 16777216
  · have h0 : BOk now [] := ⟨c.1, c.2, by simp, fun d hd => (by cases hd), by simp⟩
    have hc := check_ok h0
    rw [nil_wh] at hc
    refine ev_opt hc (ev_f rfl ?_)
    by_cases c2 : (200 : Int) < (ids.length : Int)
    · exact ev_t (decide_eq_true c2) hend
    · refine ev_f (decide_eq_false c2) (ev_g rfl (ev_g rfl ?_))
      obtain ⟨o, ho, hq⟩ := bk_loop (ticks := ticks) (ats := ats) (ids := ids) h0 (by omega) (by omega) (by omega)
      refine ev_opt ho ?_
      rcases hq with rfl | ⟨n', b', hb', rfl⟩
      · exact ev_r rfl
      · have hl := hb'.len
        have hp := wh_perm n' b'
        refine ev_g sameN_t (ev_opt (right_fn hb') (ev_t rfl (ev_g sameN_t (ev_opt (all_fn (Wh_len n' b') (by rw [hp.length_eq]; omega)) (ev_r ?_)))))
        dsimp only
        rw [hp.length_eq, decide_eq_true rfl]
  · have hs : Small (List.replicate 96 ([] : List TDue)) := fun i l hl => by
      have := List.mem_of_getElem? hl
      rw [(List.mem_replicate.1 this).2]; simp
    obtain ⟨e, h1, h2⟩ := check_fn (now := now) (L := List.replicate 96 []) (by simp) hs
    have he : e ≠ 0 := fun e0 => c ⟨(h2.1 e0).n0, (h2.1 e0).n1⟩
    exact ev_opt h1 (ev_t (by simp [he]) hend)
end Go.Proofs.Ytnhiilbmgkbbaaa.X
