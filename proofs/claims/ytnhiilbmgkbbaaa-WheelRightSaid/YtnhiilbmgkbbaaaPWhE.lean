/- The document's answers on wheels; the law WheelCuts. Conditions: none. -/
import Derived.Test.YtnhiilbmgkbbaaaMWheel
import Derived.Test.YtnhiilbmgkbbaaaPWhD
import Derived.Test.YtnhiilbmgkbbaaaAbsQ
import Derived.KernelRfl
namespace Go.Proofs.Ytnhiilbmgkbbaaa.X
open Go Go.RowKit Go.Proofs.Ytnhiilbmgkbbaaa.Abs Go.Proofs.Ytnhiilbmgkbbaaa.Bits
set_option linter.unusedVariables false
set_option linter.unnecessarySimpa false
set_option linter.unusedSimpArgs false
set_option maxRecDepth 100000

theorem wlives : wLives_fn () = some (true, ()) := by kernel_rfl
theorem rsame_in (l : List TDue) (hl : l.length ≤ 100000) : rSame_loop10_4 (0, (l, (l, ((l.length : Int), ())))) = some (.inr ()) := by
  unfold rSame_loop10_4
  refine (loop_hit (tag := 100004) (f := fun x => (rSame_step10_4 x).eval) (l := l) (fun i => ((i : Int), (l, (l, ((l.length : Int), ()))))) (fun _ => false) (fun _ => .inr ()) (fun i x hx => ?_) ?_ 18446744073709551616 (by omega)).trans rfl
  · have hi := (List.getElem?_eq_some_iff.1 hx).1
    have hx' : l[Int.toNat (i : Int)]? = some x := by rw [Int.toNat_natCast]; exact hx
    unfold rSame_step10_4
    exact ev_t (decide_eq_true (by omega)) (ev_g (decide_eq_true (by omega)) (ev_opt hx' (ev_g (decide_eq_true (by omega)) (ev_opt hx' (ev_f (by simp) (ev_r (by rw [next_i64 i (by omega)])))))))
  · unfold rSame_step10_4
    exact ev_f (decide_eq_false (by omega)) (ev_r rfl)
theorem rsame_refl {n : Int} {L : List (List TDue)} (hL : L.length = 96) (hs : ∀ (i : Nat) (l : List TDue), L[i]? = some l → l.length ≤ 1000) : rSame_fn (n, (L, (n, (L, ())))) = some (true, ()) := by
  have hloop : rSame_loop9_2 (0, (n, (L, (n, (L, ()))))) = some (.inr (n, (L, (n, (L, ()))))) := by
    unfold rSame_loop9_2
    refine (loop_hit (tag := 90002) (f := fun x => (rSame_step9_2 x).eval) (l := L) (fun i => ((i : Int), (n, (L, (n, (L, ())))))) (fun _ => false) (fun _ => .inr (n, (L, (n, (L, ()))))) (fun i x hx => ?_) ?_ 18446744073709551616 (by omega)).trans rfl
    · have hi := (List.getElem?_eq_some_iff.1 hx).1
      have hx' := get_int hL (by omega) hx
      unfold rSame_step9_2
      refine ev_t (decide_eq_true (by omega)) (ev_g (decide_eq_true (by omega)) (ev_g (sameN_true 14 95 L) (ev_opt hx' (ev_g (decide_eq_true (by omega)) (ev_g (sameN_true 14 95 L) (ev_opt hx' (ev_f (by simp) (ev_opt (rsame_in x (Nat.le_trans (hs i x hx) (by omega))) ?_))))))))
      exact ev_f rfl (ev_g sameN_t (ev_g sameN_t (ev_r (by rw [next_i64 i (by omega)]))))
    · unfold rSame_step9_2
      exact ev_f (decide_eq_false (by rw [hL]; decide)) (ev_g sameN_t (ev_g sameN_t (ev_r rfl)))
  unfold rSame_fn rSame_tree
  refine ev_g sameN_t (ev_g sameN_t (ev_opt hloop ?_))
  exact ev_r (by simp)
theorem nil_ok : BOk 0 [] := ⟨by decide, by decide, by decide, fun d hd => (by cases hd), by simp⟩
theorem nil_wh (now : Int) : Wh now [] = List.replicate 96 [] := by
  unfold Wh cell
  simp only [List.filter_nil]
  rw [List.map_const', List.length_range]
theorem small_of {L : List (List TDue)} (h : ∀ l ∈ L, BndD 6 (D.st 14 l)) : Small L := fun i l hl => (h l (List.mem_of_getElem? hl)).1
theorem no_tick (m : Int) (hm : -9223372036854775808 ≤ m ∧ m ≤ 9223372036854775807) : ∃ r, wTick_fn (0, (List.replicate 96 [], (m, ()))) = some r := by
  rw [← nil_wh 0]
  rcases tick_fn nil_ok hm with ⟨t, _, _, _, e⟩ | ⟨_, e, _, h⟩
  · exact ⟨_, e⟩
  · exact ⟨_, h⟩
theorem cuts_in (l : List TDue) (hl : l.length ≤ 100000) : wheelCuts_loop10_4 (0, (l, (l, ((l.length : Int), ())))) = some (.inr ()) := by
  unfold wheelCuts_loop10_4
  refine (loop_hit (tag := 100004) (f := fun x => (wheelCuts_step10_4 x).eval) (l := l) (fun i => ((i : Int), (l, (l, ((l.length : Int), ()))))) (fun _ => false) (fun _ => .inr ()) (fun i x hx => ?_) ?_ 18446744073709551616 (by omega)).trans rfl
  · have hi := (List.getElem?_eq_some_iff.1 hx).1
    have hx' : l[Int.toNat (i : Int)]? = some x := by rw [Int.toNat_natCast]; exact hx
    unfold wheelCuts_step10_4
    exact ev_t (decide_eq_true (by omega)) (ev_g (decide_eq_true (by omega)) (ev_opt hx' (ev_g (decide_eq_true (by omega)) (ev_opt hx' (ev_f (by simp) (ev_r (by rw [next_i64 i (by omega)])))))))
  · unfold wheelCuts_step10_4
    exact ev_f (decide_eq_false (by omega)) (ev_r rfl)
theorem wheelCuts_true {now : Int} {L : List (List TDue)} {n m : Int} (b0 : -9223372036854775808 ≤ now ∧ now ≤ 9223372036854775807) (hL : L.length = 96) (hl : ∀ l ∈ L, BndD 6 (D.st 14 l))
    (hn : -9223372036854775808 ≤ n ∧ n ≤ 9223372036854775807) (hm : -9223372036854775808 ≤ m ∧ m ≤ 9223372036854775807) : (wheelCuts_tree (now, (L, (n, (m, ()))))).eval = some (true, ()) := by
  have hend : ∀ {β : Type} (k : Tr (Bool × Unit)), (Tr.opt (wLives_fn ()) fun (r : Bool × Unit) => Tr.ret (r.1, ())).eval = some (true, ()) := fun k => ev_opt wlives (ev_r rfl)
  have hbad : ∀ (r0 : Int × (List (List TDue) × (List TDue × (Int × Unit)))), wTick_fn (now, (L, (n, ()))) = some r0 → r0.2.2.2.1 ≠ 0 → (∃ r1, wTick_fn (r0.1, (r0.2.1, (m, ()))) = some r1) → (wheelCuts_tree (now, (L, (n, (m, ()))))).eval = some (true, ()) := by
    rintro r0 h0 he ⟨r1, h1⟩
    unfold wheelCuts_tree
    exact ev_g sameN_t (ev_opt h0 (ev_g sameN_t (ev_opt h1 (ev_opt wlives (ev_f rfl (ev_t (by simp [he]) (ev_opt wlives (ev_r rfl))))))))
  rcases check_cases (now := now) hL (small_of hl) with ⟨b, hb, rfl⟩ | ⟨e, he, hc⟩
  case inr =>
    obtain ⟨e', he', h0⟩ := tick_bad (n := n) he hc
    exact hbad _ h0 he' (no_tick m hm)
  rcases tick_fn hb hn with ⟨s, rfl, s1, s2, h0⟩ | ⟨_, e', he', h0⟩
  case inr => exact hbad _ h0 he' (no_tick m hm)
  have hb2 := after_ok hb s s2
  rcases tick_fn hb2 hm with ⟨t, rfl, t1, t2, h1⟩ | ⟨_, e', he', h1⟩
  case inr =>
    unfold wheelCuts_tree
    exact ev_g sameN_t (ev_opt h0 (ev_g sameN_t (ev_opt h1 (ev_opt wlives (ev_f rfl (ev_f rfl (ev_t (by simp [he']) (ev_opt wlives (ev_r rfl)))))))))
  have hw : IntKind.wrap IntKind.i64 ((s : Int) + (t : Int)) = ((s + t : Nat) : Int) := by rw [wri _ (by omega)]; omega
  unfold wheelCuts_tree
  refine ev_g sameN_t (ev_opt h0 (ev_g sameN_t (ev_opt h1 (ev_opt wlives (ev_f rfl (ev_f rfl (ev_f rfl ?_)))))))
  simp only [hw]
  by_cases c : (10000 : Int) < ((s + t : Nat) : Int)
  · exact ev_t (decide_eq_true c) (ev_opt wlives (ev_r rfl))
  rcases tick_fn (n := ((s + t : Nat) : Int)) hb (by omega) with ⟨u, hu, u1, u2, h2⟩ | ⟨hno, _⟩
  case inr => exact absurd ⟨by omega, by omega, by have := hb.n0; omega⟩ hno
  obtain rfl : u = s + t := by omega
  have e1 : now + ((s + t : Nat) : Int) = now + (s : Int) + (t : Int) := by omega
  rw [← after_after, dues_add, e1] at h2
  have l1 := dues_len hb s
  have l2 := dues_len hb2 t
  have l3 := hb.len
  have hA := after_ok hb2 t t2
  have hsum : (dues now b s ++ dues (now + (s : Int)) (after now b s) t).length ≤ 500 := by rw [List.length_append]; omega
  refine ev_f (decide_eq_false c) (ev_g sameN_t (ev_opt h2 (ev_t rfl (ev_g sameN_t (ev_g sameN_t (ev_opt (rsame_refl (Wh_len _ _) (fun i l h => by have := wh_lens hA.len i l h; omega)) (ev_t rfl ?_)))))))
  refine ev_g (decide_eq_true (by first | omega | (dsimp only; omega))) (ev_g (decide_eq_true (by first | omega | (dsimp only; omega))) (ev_f (by simp) (ev_opt (cuts_in _ (by omega)) rfl)))
end Go.Proofs.Ytnhiilbmgkbbaaa.X
