/- The document's answers on wheels. Conditions: none. -/
import Derived.Test.YtnhiilbmgkbbaaaLWheel
import Derived.Test.YtnhiilbmgkbbaaaPWhD
import Derived.Test.YtnhiilbmgkbbaaaAbsQ
namespace Go.Proofs.Ytnhiilbmgkbbaaa.X
open Go Go.RowKit Go.Proofs.Ytnhiilbmgkbbaaa.Abs Go.Proofs.Ytnhiilbmgkbbaaa.Bits
set_option linter.unusedVariables false
set_option linter.unnecessarySimpa false
set_option linter.unusedSimpArgs false
set_option maxRecDepth 100000

theorem rsame_in (l : List TDue) (hl : l.length ≤ 100000) : rSame_loop10_4 (0, (l, (l, ((l.length : Int), ())))) = some (.inr ()) := by
  unfold rSame_loop10_4
  refine (loop_hit (tag := 100004) (f := fun x => (rSame_step10_4 x).eval) (l := l) (fun i => ((i : Int), (l, (l, ((l.length : Int), ()))))) (fun _ => false) (fun _ => .inr ()) (fun i x hx => ?_) ?_ 18446744073709551616 (by omega)).trans rfl
  · have hi := (List.getElem?_eq_some_iff.1 hx).1
    have hx' : l[Int.toNat (i : Int)]? = some x := by rw [Int.toNat_natCast]; exact hx
    unfold rSame_step10_4
    exact ev_t (decide_eq_true (by omega)) (ev_g (decide_eq_true (by omega)) (ev_opt hx' (ev_g (decide_eq_true (by omega)) (ev_opt hx' (ev_f (by simp) (ev_r (by rw [next_i64 i (by omega)])))))))
  · unfold rSame_step10_4
    exact ev_f (decide_eq_false (by omega)) (ev_r rfl)
theorem rsame_refl {n : Int} {L : List (List TDue)} (hL : L.length = 96) (hs : ∀ (i : Nat) (l : List TDue), L[i]? = some l → l.length ≤ 1000) : rSame_fn (n, (L, (n, (L, ())))) = some (true, ()) := by
  have hloop : rSame_loop9_2 (0, (n, (L, (n, (L, ()))))) = some (.inr (n, (L, (n, (L, ()))))) := by
    unfold rSame_loop9_2
    refine (loop_hit (tag := 90002) (f := fun x => (rSame_step9_2 x).eval) (l := L) (fun i => ((i : Int), (n, (L, (n, (L, ())))))) (fun _ => false) (fun _ => .inr (n, (L, (n, (L, ()))))) (fun i x hx => ?_) ?_ 18446744073709551616 (by omega)).trans rfl
    · have hi := (List.getElem?_eq_some_iff.1 hx).1
      have hx' := get_int hL (by omega) hx
      unfold rSame_step9_2
      refine ev_t (decide_eq_true (by omega)) (ev_g (decide_eq_true (by omega)) (ev_g (sameN_true 14 95 L) (ev_opt hx' (ev_g (decide_eq_true (by omega)) (ev_g (sameN_true 14 95 L) (ev_opt hx' (ev_f (by simp) (ev_opt (rsame_in x (Nat.le_trans (hs i x hx) (by omega))) ?_))))))))
      exact ev_f rfl (ev_g sameN_t (ev_g sameN_t (ev_r (by rw [next_i64 i (by omega)]))))
    · unfold rSame_step9_2
      exact ev_f (decide_eq_false (by rw [hL]; decide)) (ev_g sameN_t (ev_g sameN_t (ev_r rfl)))
  unfold rSame_fn rSame_tree
  refine ev_g sameN_t (ev_g sameN_t (ev_opt hloop ?_))
  exact ev_r (by simp)
theorem nil_ok : BOk 0 [] := ⟨by decide, by decide, by decide, fun d hd => (by cases hd), by simp⟩
theorem nil_wh (now : Int) : Wh now [] = List.replicate 96 [] := by
  unfold Wh cell
  simp only [List.filter_nil]
  rw [List.map_const', List.length_range]
theorem small_of {L : List (List TDue)} (h : ∀ l ∈ L, BndD 6 (D.st 14 l)) : Small L := fun i l hl => (h l (List.mem_of_getElem? hl)).1
theorem ls_step {p k now a p' k' : Int} (hp' : p / 16 = p') (hk' : k - 1 = k') (hp : 0 < p) (hp2 : p ≤ 1048576) (hk : 0 ≤ k) (hk2 : k ≤ 5) (h0 : 0 ≤ now) (h1 : now < 16777216) (h2 : 0 ≤ a) (h3 : a < 16777216) :
    (now / p % 16 = a / p % 16 → (rListOf_step33_3 (p, (a, (k, (now, ()))))).eval = some (.inl (p', (a, (k', (now, ())))))) ∧ (now / p % 16 ≠ a / p % 16 → (rListOf_step33_3 (p, (a, (k, (now, ()))))).eval = some (.inr (.inl (16 * k + a / p % 16, ())))) := by
  have n0 : 0 ≤ now / p := Int.ediv_nonneg h0 (by omega)
  have a0 : 0 ≤ a / p := Int.ediv_nonneg h2 (by omega)
  have n1 : now / p ≤ now := Int.ediv_le_self p h0
  have a1 : a / p ≤ a := Int.ediv_le_self p h2
  have t1 : Int.tdiv now p = now / p := Int.tdiv_eq_ediv_of_nonneg h0
  have t2 : Int.tdiv a p = a / p := Int.tdiv_eq_ediv_of_nonneg h2
  have w1 : IntKind.wrap IntKind.i64 (now / p) = now / p := wri _ (by omega)
  have w2 : IntKind.wrap IntKind.i64 (a / p) = a / p := wri _ (by omega)
  have m1 : Int.tmod (now / p) 16 = now / p % 16 := Int.tmod_eq_emod_of_nonneg n0
  have m2 : Int.tmod (a / p) 16 = a / p % 16 := Int.tmod_eq_emod_of_nonneg a0
  have p1 : Int.tdiv p 16 = p / 16 := Int.tdiv_eq_ediv_of_nonneg (by omega)
  unfold rListOf_step33_3
  simp only [t1, t2, w1, w2, m1, m2, p1]
  constructor
  · intro e
    refine ev_t (decide_eq_true hk) (ev_g (decide_eq_true (by omega)) (ev_g rfl (ev_g (decide_eq_true (by omega)) (ev_g rfl (ev_f (by simp [e]) (ev_g rfl (ev_r ?_)))))))
    rw [wri _ (by omega), wri (k - 1) (by omega), hp', hk']
  · intro e
    refine ev_t (decide_eq_true hk) (ev_g (decide_eq_true (by omega)) (ev_g rfl (ev_g (decide_eq_true (by omega)) (ev_g rfl (ev_t (by simp [e]) (ev_g (decide_eq_true (by omega)) (ev_g rfl (ev_r ?_))))))))
    rw [wri (16 * k) (by omega), wri _ (by omega)]
theorem rlist_fn {now a : Int} (h0 : 0 ≤ now) (h1 : now < 16777216) (h2 : 0 ≤ a) (h3 : a < 16777216) (hne : now ≠ a) : rListOf_fn (now, (a, ())) = some (lst now a, ()) := by
  have hl : rListOf_loop33_3 (1048576, (a, (5, (now, ())))) = some (.inl (lst now a, ())) := by
    unfold rListOf_loop33_3
    unfold lst
    by_cases c5 : now / 1048576 % 16 = a / 1048576 % 16
    · rw [loopO_in ((ls_step (p := 1048576) (k := 5) (p' := 65536) (k' := 4) (by decide) (by decide) (by decide) (by decide) (by decide) (by decide) h0 h1 h2 h3).1 c5), if_neg (by omega)]
      by_cases c4 : now / 65536 % 16 = a / 65536 % 16
      · rw [loopO_in ((ls_step (p := 65536) (k := 4) (p' := 4096) (k' := 3) (by decide) (by decide) (by decide) (by decide) (by decide) (by decide) h0 h1 h2 h3).1 c4), if_neg (by omega)]
        by_cases c3 : now / 4096 % 16 = a / 4096 % 16
        · rw [loopO_in ((ls_step (p := 4096) (k := 3) (p' := 256) (k' := 2) (by decide) (by decide) (by decide) (by decide) (by decide) (by decide) h0 h1 h2 h3).1 c3), if_neg (by omega)]
          by_cases c2 : now / 256 % 16 = a / 256 % 16
          · rw [loopO_in ((ls_step (p := 256) (k := 2) (p' := 16) (k' := 1) (by decide) (by decide) (by decide) (by decide) (by decide) (by decide) h0 h1 h2 h3).1 c2), if_neg (by omega)]
            by_cases c1 : now / 16 % 16 = a / 16 % 16
            · rw [loopO_in ((ls_step (p := 16) (k := 1) (p' := 1) (k' := 0) (by decide) (by decide) (by decide) (by decide) (by decide) (by decide) h0 h1 h2 h3).1 c1), if_neg (by omega)]
              rw [loopO_out ((ls_step (p := 1) (k := 0) (p' := 0) (k' := -1) (by decide) (by decide) (by decide) (by decide) (by decide) (by decide) h0 h1 h2 h3).2 (by omega))]
              congr 3; omega
            · rw [loopO_out ((ls_step (p := 16) (k := 1) (p' := 1) (k' := 0) (by decide) (by decide) (by decide) (by decide) (by decide) (by decide) h0 h1 h2 h3).2 c1), if_pos (by omega)]; rfl
          · rw [loopO_out ((ls_step (p := 256) (k := 2) (p' := 16) (k' := 1) (by decide) (by decide) (by decide) (by decide) (by decide) (by decide) h0 h1 h2 h3).2 c2), if_pos (by omega)]; rfl
        · rw [loopO_out ((ls_step (p := 4096) (k := 3) (p' := 256) (k' := 2) (by decide) (by decide) (by decide) (by decide) (by decide) (by decide) h0 h1 h2 h3).2 c3), if_pos (by omega)]; rfl
      · rw [loopO_out ((ls_step (p := 65536) (k := 4) (p' := 4096) (k' := 3) (by decide) (by decide) (by decide) (by decide) (by decide) (by decide) h0 h1 h2 h3).2 c4), if_pos (by omega)]; rfl
    · rw [loopO_out ((ls_step (p := 1048576) (k := 5) (p' := 65536) (k' := 4) (by decide) (by decide) (by decide) (by decide) (by decide) (by decide) h0 h1 h2 h3).2 c5), if_pos (by omega)]; rfl
  unfold rListOf_fn rListOf_tree
  exact ev_opt hl rfl
theorem all_fn {now : Int} {L : List (List TDue)} (hL : L.length = 96) (hl : L.flatten.length ≤ 1000) : rAllDue_fn (now, (L, ())) = some (L.flatten, ()) := by
  have hfl : ∀ (l : List (List TDue)) (s : List TDue), l.foldl (fun s x => s ++ x) s = s ++ l.flatten := by
    intro l
    induction l with
    | nil => intro s; simp
    | cons x l ih => intro s; rw [List.foldl_cons, ih, List.flatten_cons, List.append_assoc]
  have hpre : ∀ i, ((L.take i).flatten).length ≤ 1000 := fun i => by
    have := congrArg (fun z : List (List TDue) => z.flatten.length) (List.take_append_drop i L)
    simp only [List.flatten_append, List.length_append] at this
    omega
  have hloop : rAllDue_loop15_3 (0, (L, ([], ()))) = some (L.flatten, ()) := by
    unfold rAllDue_loop15_3
    have := (loop_fold (tag := 150003) (f := fun x => (rAllDue_step15_3 x).eval) (l := L) (S := List TDue) (st := fun i s => ((i : Int), (L, (s, ())))) (I := fun i s => s = (L.take i).flatten) (g := fun s x => s ++ x) (out := fun s => (s, ()))
      (fun i x s hx hI => ?_) (fun s hI => ?_) 18446744073709551616 [] (by simp) (by omega)).1
    · rw [hfl] at this
      simpa using this
    · have hi := (List.getElem?_eq_some_iff.1 hx).1
      have htk : (L.take (i + 1)).flatten = (L.take i).flatten ++ x := by rw [List.take_add_one, hx, List.flatten_append]; simp
      have hlen := hpre (i + 1)
      rw [htk, List.length_append] at hlen
      subst hI
      refine ⟨?_, htk.symm⟩
      unfold rAllDue_step15_3
      refine ev_t (decide_eq_true (by omega)) (ev_g (sameN_a (by omega)) (ev_opt (get_int hL (by omega) hx) (ev_g (decide_eq_true (by omega)) (ev_g (by simp) (ev_g sameN_t (ev_r ?_))))))
      rw [next_i64 i (by omega)]
    · unfold rAllDue_step15_3
      exact ev_f (decide_eq_false (by rw [hL]; decide)) (ev_g (by simp) (ev_r rfl))
  unfold rAllDue_fn rAllDue_tree
  exact ev_g rfl (ev_g sameN_t (ev_opt hloop (ev_r rfl)))
theorem whof_fn {now : Int} {l : List TDue} (h0 : 0 ≤ now) (h1 : now < 16777216) (hat : ∀ d ∈ l, now < d.at' ∧ d.at' < 16777216) (hl : l.length ≤ 500) : rWheelOf_fn (now, (l, ())) = some (now, (Wh now l, ())) := by
  have hloop : rWheelOf_loop30_3 (0, (now, (l, ((l.length : Int), (now, (0, (List.replicate 96 [], (96, (List.replicate 96 [], ()))))))))) = some (0, (List.replicate 96 [], (now, (96, (Wh now l, ()))))) := by
    unfold rWheelOf_loop30_3
    have := loop_hit (tag := 300003) (f := fun x => (rWheelOf_step30_3 x).eval) (l := l) (fun i => ((i : Int), (now, (l, ((l.length : Int), (now, ((0 : Int), (List.replicate 96 [], (96, (Wh now (l.take i), ()))))))))))
      (fun _ => false) (fun _ => (0, (List.replicate 96 [], (now, (96, (Wh now l, ())))))) (fun i x hx => ?_) ?_ 18446744073709551616 (by omega)
    · rw [List.take_zero, nil_wh] at this
      exact this
    · have hi := (List.getElem?_eq_some_iff.1 hx).1
      have hxa := hat x (List.mem_of_getElem? hx)
      have hb := lst_bound now x.at'
      have htk : l.take (i + 1) = l.take i ++ [x] := by rw [List.take_add_one, hx]; rfl
      have hW := wh_snoc now (l.take i) x
      have hgl : ((Wh now (l.take i)).getD (lst now x.at').toNat []).length ≤ 500 := wh_lens (by rw [List.length_take]; omega) _ _ (getD_some (L := Wh now (l.take i)) (i := (lst now x.at').toNat) (by rw [Wh_len]; omega))
      unfold rWheelOf_step30_3
      simp only
      refine ev_t (decide_eq_true (by omega)) (ev_g (decide_eq_true (by omega)) (ev_opt (b := x) (by rw [Int.toNat_natCast]; exact hx) (ev_opt (rlist_fn h0 h1 (by omega) hxa.2 (by omega)) (ev_g (decide_eq_true (by omega)) (ev_g (decide_eq_true (by omega)) (ev_opt (getD_some (L := Wh now (l.take i)) (i := (lst now x.at').toNat) (by rw [Wh_len]; omega)) (ev_g (decide_eq_true ?_) (ev_g (decide_eq_true (by omega)) (ev_g (by simp) (ev_g sameN_t (ev_r ?_)))))))))))
      · simp only [List.length_singleton]; omega
      · rw [next_i64 i (by omega), htk, ← hW]
    · unfold rWheelOf_step30_3
      rw [List.take_length]
      exact ev_f (decide_eq_false (by omega)) (ev_g sameN_t (ev_r rfl))
  unfold rWheelOf_fn rWheelOf_tree
  exact ev_g rfl (ev_opt hloop (ev_g sameN_t (ev_r rfl)))
theorem right_in {id a : Int} {l : List TDue} (hl : l.length ≤ 1000) (hn : ∀ d ∈ l, d.id ≠ id) : rRight_loop17_2 (0, (l, ((l.length : Int), (id, (a, ()))))) = some (.inr (id, (a, ()))) := by
  unfold rRight_loop17_2
  refine (loop_hit (tag := 170002) (f := fun x => (rRight_step17_2 x).eval) (l := l) (fun i => ((i : Int), (l, ((l.length : Int), (id, (a, ())))))) (fun _ => false) (fun _ => .inr (id, (a, ()))) (fun i x hx => ?_) ?_ 18446744073709551616 (by omega)).trans rfl
  · have hi := (List.getElem?_eq_some_iff.1 hx).1
    unfold rRight_step17_2
    exact ev_t (decide_eq_true (by omega)) (ev_g (decide_eq_true (by omega)) (ev_opt (b := x) (by rw [Int.toNat_natCast]; exact hx) (ev_f (decide_eq_false (hn x (List.mem_of_getElem? hx))) (ev_r (by rw [next_i64 i (by omega)])))))
  · unfold rRight_step17_2
    exact ev_f (decide_eq_false (by omega)) (ev_r rfl)
theorem betw_fn_ok {x lo hi : Int} (h1 : lo ≤ x) (h2 : x ≤ hi) : betw_fn (x, (lo, (hi, ()))) = some (true, ()) := by
  unfold betw_fn betw_tree
  exact ev_t (decide_eq_true h1) (ev_r (by rw [decide_eq_true h2]))
theorem right_fn {now : Int} {b : List TDue} (h : BOk now b) : rRight_fn (now, (Wh now b, ())) = some (0, ()) := by
  have hn0 := h.n0
  have hn1 := h.n1
  have hp := wh_perm now b
  have hfl : (Wh now b).flatten.length ≤ 500 := by rw [hp.length_eq]; exact h.len
  have hw := wok_book (Wh_len now b) (book_wok h)
  have hloop : rRight_loop14_7 (0, ((Wh now b).flatten, ((Wh now b).flatten, (((Wh now b).flatten.length : Int), (now, (Wh now b, ())))))) = some (.inr ((Wh now b).flatten, (now, (Wh now b, ())))) := by
    generalize hF : (Wh now b).flatten = l at *
    unfold rRight_loop14_7
    refine (loop_hit (tag := 140007) (f := fun x => (rRight_step14_7 x).eval) (l := l) (fun i => ((i : Int), (l, (l, ((l.length : Int), (now, (Wh now b, ()))))))) (fun _ => false) (fun _ => .inr (l, (now, (Wh now b, ())))) (fun i x hx => ?_) ?_ 18446744073709551616 (by omega)).trans rfl
    · have hi := (List.getElem?_eq_some_iff.1 hx).1
      have hxm := hw.2.at' x (List.mem_of_getElem? hx)
      have hids : ∀ d ∈ List.drop 0 (List.take (Int.toNat (i : Int)) l), d.id ≠ x.id := by
        intro d hd
        rw [Int.toNat_natCast, List.drop_zero] at hd
        have e1 : l = l.take i ++ x :: l.drop (i + 1) := by
          obtain ⟨_, rfl⟩ := List.getElem?_eq_some_iff.1 hx
          rw [← List.drop_eq_getElem_cons hi, List.take_append_drop]
        have h2 := hw.2.ids
        rw [e1, List.map_append, List.map_cons] at h2
        exact (List.nodup_append.1 h2).2.2 d.id (List.mem_map.2 ⟨d, hd, rfl⟩) x.id (by simp)
      unfold rRight_step14_7
      simp only
      refine ev_t (decide_eq_true (by omega)) (ev_g (decide_eq_true (by omega)) (ev_opt (b := x) (by rw [Int.toNat_natCast]; exact hx) (ev_opt (betw_fn_ok (by rw [wri _ (by omega)]; omega) (by omega)) (ev_f rfl (ev_g (decide_eq_true (by omega)) (ev_opt (right_in ?_ hids) ?_))))))
      · rw [List.length_drop, List.length_take]; omega
      · exact ev_f rfl (ev_g sameN_t (ev_r (by rw [next_i64 i (by omega)])))
    · unfold rRight_step14_7
      exact ev_f (decide_eq_false (by omega)) (ev_g sameN_t (ev_r rfl))
  unfold rRight_fn rRight_tree
  refine ev_g sameN_t (ev_opt (all_fn (Wh_len now b) (by omega)) (ev_f (decide_eq_false (by dsimp only; omega)) (ev_opt (betw_fn_ok hn0 (by omega)) (ev_f rfl (ev_g sameN_t (ev_opt hloop ?_))))))
  refine ev_opt (whof_fn hn0 hn1 hw.2.at' hfl) (ev_g sameN_t (ev_g sameN_t (ev_opt (b := (true, ())) ?_ (ev_f rfl (ev_r rfl)))))
  simp only
  rw [← hw.1]
  exact rsame_refl (Wh_len now b) (fun i l hl => by have := wh_lens h.len i l hl; omega)

/-! ### What has left, in order -/
theorem dues_mem {now : Int} {b : List TDue} : ∀ {t : Nat} {d : TDue}, d ∈ dues now b t → d ∈ b ∧ now < d.at' ∧ d.at' ≤ now + (t : Int)
  | 0, d, h => by cases h
  | t + 1, d, h => by
    rcases List.mem_append.1 h with h | h
    · have := dues_mem h
      exact ⟨this.1, this.2.1, by omega⟩
    · have := List.mem_filter.1 h
      have e := of_decide_eq_true this.2
      exact ⟨this.1, by omega, by omega⟩
theorem dues_sorted (now : Int) (b : List TDue) : ∀ t, (dues now b t).Pairwise (fun x y => x.at' ≤ y.at')
  | 0 => List.Pairwise.nil
  | t + 1 => by
    refine List.pairwise_append.2 ⟨dues_sorted now b t, ?_, fun x hx y hy => ?_⟩
    · refine List.pairwise_of_forall_mem_list fun x hx y hy => ?_
      have := of_decide_eq_true (List.mem_filter.1 hx).2
      have := of_decide_eq_true (List.mem_filter.1 hy).2
      omega
    · have := (dues_mem hx).2.2
      have := of_decide_eq_true (List.mem_filter.1 hy).2
      omega
end Go.Proofs.Ytnhiilbmgkbbaaa.X
