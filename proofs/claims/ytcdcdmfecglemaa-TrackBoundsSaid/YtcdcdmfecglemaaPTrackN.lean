/- The law TrackBounds, in plain terms. Conditions: none. -/
import Derived.Test.YtcdcdmfecglemaaPTrackM
namespace Go.Proofs.Ytcdcdmfecglemaa.X
open Go Go.RowKit Go.Proofs.Ytcdcdmfecglemaa.Abs Go.Proofs.Ytcdcdmfecglemaa.Bits
set_option linter.unusedVariables false
set_option linter.unnecessarySimpa false
set_option linter.unusedSimpArgs false
set_option maxRecDepth 100000

theorem wrap_mid (x : Int) (h : -4611686018427387904 ≤ x ∧ x ≤ 4611686018427387904) : IntKind.wrap IntKind.i64 x = x := by
  simp [IntKind.wrap, IntKind.bits, IntKind.signed]
  split <;> omega
theorem ev_sumr {α β γ : Type} {x : γ} {f : β → Tr α} {g : γ → Tr α} {r : Option α} (h : (g x).eval = r) : (Tr.sum (.inr x) f g).eval = r := h
theorem old2_fn {now : Int} {x : TTalk} (hn : 0 ≤ now ∧ now ≤ 1099511627776) (hf : formB x = true) : talkOld_fn (x.from', (x.to, (x.fromPort, (x.toPort, (x.state, (x.over, (x.at', (now, ())))))))) = some (oldB now x, ()) := by
  obtain ⟨h1, h2, h3, h4⟩ := form_st hf
  have hs := stB_sts h4
  simp only [sts, List.mem_cons, List.not_mem_nil, or_false, Prod.mk.injEq] at hs
  have hst : x.state = 1 ∨ x.state = 2 ∨ x.state = 3 ∨ x.state = 4 := by omega
  unfold talkOld_fn talkOld_tree oldB
  rw [wrap_mid (now - x.at') (by omega)]
  rcases hst with h | h | h | h <;> rw [h]
  · refine ev_g (by decide) (ev_opt (b := 30) rfl (ev_r ?_))
    rw [wrap_mid _ (by omega), if_neg (by decide), if_neg (by decide)]; congr 1; rw [decide_eq_decide]; omega
  · refine ev_g (by decide) (ev_opt (b := 30) rfl (ev_r ?_))
    rw [wrap_mid _ (by omega), if_neg (by decide), if_neg (by decide)]; congr 1; rw [decide_eq_decide]; omega
  · refine ev_g (by decide) (ev_opt (b := 3000) rfl (ev_r ?_))
    rw [wrap_mid _ (by omega), if_pos rfl]; congr 1; rw [decide_eq_decide]; omega
  · refine ev_g (by decide) (ev_opt (b := 60) rfl (ev_r ?_))
    rw [wrap_mid _ (by omega), if_neg (by decide), if_pos rfl]; congr 1; rw [decide_eq_decide]; omega
theorem compact2 (now : Int) (l : List TTalk) (hl : l.length < Big) (hN : 0 ≤ now ∧ now ≤ 1099511627776) (hG : ∀ x ∈ l, formB x = true) : ∀ (c j i : Nat) (L : List TTalk) (n : Nat), j + c = l.length → c < n → L.length = l.length → i ≤ j → L.take i = (l.take j).filter (keep now) → L.drop j = l.drop j →
    ∃ (i' : Nat) (L' : List TTalk), loopO 180005 (fun x => (dfTalk2_step18_5 x).eval) n ((j : Int), ((i : Int), (L, (now, ())))) = some ((i' : Int), (L', (now, ()))) ∧ L'.length = l.length ∧ i' ≤ l.length ∧ L'.take i' = l.filter (keep now) := by
  unfold Big at hl
  intro c
  induction c with
  | zero =>
    intro j i L n hj hn hL hij ht hd
    obtain ⟨n, rfl⟩ : ∃ m, n = m + 1 := ⟨n - 1, by omega⟩
    have : j = l.length := by omega
    subst this
    refine ⟨i, L, loopO_out (ev_f (by simp; omega) (ev_g (by simp) (ev_r rfl))), hL, hij, ?_⟩
    rw [ht, List.take_length]
  | succ c ih =>
    intro j i L n hj hn hL hij ht hd
    obtain ⟨n, rfl⟩ : ∃ m, n = m + 1 := ⟨n - 1, by omega⟩
    have hjl : j < l.length := by omega
    have hx : L[j]? = l[j]? := by have := congrArg (·[0]?) hd; simpa using this
    have hxl : l[j]? = some l[j] := List.getElem?_eq_getElem hjl
    generalize hxx : l[j] = x at hxl
    rw [hxl] at hx
    have hi : L[i]? = some L[i] := List.getElem?_eq_getElem (by omega)
    have hfil : (l.take (j + 1)).filter (keep now) = (l.take j).filter (keep now) ++ [x].filter (keep now) := by
      rw [List.take_add_one, hxl, List.filter_append]; rfl
    have hdd : L.drop (j + 1) = l.drop (j + 1) := by rw [← List.drop_drop, hd, List.drop_drop]
    cases ho : oldB now x with
    | true =>
      have hs : (dfTalk2_step18_5 ((j : Int), ((i : Int), (L, (now, ()))))).eval = some (.inl (((j + 1 : Nat) : Int), ((i : Int), (L, (now, ()))))) := by
        unfold dfTalk2_step18_5
        exact ev_t (by simp; omega) (ev_g (by simp; omega) (ev_opt (b := x) (by simpa using hx) (ev_opt (old2_fn hN (hG x (List.mem_of_getElem? hxl))) (ev_f (by simp [ho]) (ev_g (by simp) (ev_r (by rw [next_i64 j (by omega)])))))))
      rw [loopO_in hs]
      refine ih (j + 1) i L n (by omega) (by omega) hL (by omega) ?_ hdd
      rw [hfil, ht]; simp [keep, ho]
    | false =>
      have hs : (dfTalk2_step18_5 ((j : Int), ((i : Int), (L, (now, ()))))).eval = some (.inl (((j + 1 : Nat) : Int), (((i + 1 : Nat) : Int), (L.set i x, (now, ()))))) := by
        unfold dfTalk2_step18_5
        exact ev_t (by simp; omega) (ev_g (by simp; omega) (ev_opt (b := x) (by simpa using hx) (ev_opt (old2_fn hN (hG x (List.mem_of_getElem? hxl))) (ev_t (by simp [ho]) (ev_g (by simp; omega) (ev_opt (b := L[i]) (by simpa using hi) (ev_g (by simp) (ev_r (by rw [next_i64 j (by omega), next_i64 i (by omega)]; rfl)))))))))
      rw [loopO_in hs]
      refine ih (j + 1) (i + 1) (L.set i x) n (by omega) (by omega) (by simpa using hL) (by omega) ?_ ?_
      · rw [hfil, ← ht, List.take_add_one, List.take_set_of_le (Nat.le_refl i), List.getElem?_set_self (by omega)]
        simp [keep, ho]
      · rw [List.drop_set_of_lt (by omega), hdd]
theorem young2_fn (now : Int) (l : List TTalk) (hl : l.length < Big) (hN : 0 ≤ now ∧ now ≤ 1099511627776) (hG : ∀ x ∈ l, formB x = true) : dfTalk2_fn (now, (l, ())) = some (now, (l.filter (keep now), ())) := by
  have hl' := hl
  unfold Big at hl'
  unfold dfTalk2_fn dfTalk2_tree
  have := loop_hit (tag := 430002) (f := fun x => (dfTalk2_step43_2 x).eval) (l := l) (fun i => ((i : Int), (l, ((l.length : Int), (now, ()))))) (oldB now)
      (fun q => match q with | some q => Sum.inl ((q.1 : Int), (now, ())) | none => Sum.inr (now, ()))
      (fun i x hx => by
        have hi := (List.getElem?_eq_some_iff.1 hx).1
        show (dfTalk2_step43_2 _).eval = _
        unfold dfTalk2_step43_2
        refine ev_t (by simp; omega) (ev_g (by simp) (ev_opt (show l[Int.toNat (i : Int)]? = some x by simpa using hx) (ev_opt (old2_fn hN (hG x (List.mem_of_getElem? hx))) ?_)))
        cases oldB now x with
        | true => exact ev_t rfl (ev_r rfl)
        | false => exact ev_f rfl (ev_r (by rw [next_i64 i (by omega)])))
      (by show (dfTalk2_step43_2 _).eval = _; exact ev_f (by simp) (ev_r rfl)) 18446744073709551616 (by omega)
  refine ev_opt (show dfTalk2_loop43_2 ((0 : Int), (l, ((l.length : Int), (now, ())))) = _ from this) ?_
  cases h : hit (oldB now) l with
  | none =>
    have hall := hit_none.1 h
    have e : l.filter (keep now) = l := List.filter_eq_self.2 fun x hx => by simp [keep, hall x hx]
    rw [e]
    exact ev_t rfl (ev_g (by simp) (ev_r rfl))
  | some q =>
    obtain ⟨i, x⟩ := q
    have hi := hit_lt h
    have hx := hit_at h
    have e1 : l = l.take i ++ x :: l.drop (i + 1) := by
      obtain ⟨_, rfl⟩ := List.getElem?_eq_some_iff.1 hx.1
      rw [← List.drop_eq_getElem_cons hi, List.take_append_drop]
    have hpre : ∀ y ∈ l.take i, oldB now y = false := by
      have : hit (oldB now) l = hit (oldB now) (l.take i ++ x :: l.drop (i + 1)) := congrArg _ e1
      rw [hit_app] at this
      cases h3 : hit (oldB now) (l.take i) with
      | none => exact hit_none.1 h3
      | some q =>
        have h4 := hit_lt (i := q.1) (x := q.2) h3
        rw [h, h3] at this
        simp at this h4
        have := congrArg Prod.fst this
        simp at this; omega
    have ht : l.take i = (l.take (i + 1)).filter (keep now) := by
      rw [List.take_add_one, hx.1, List.filter_append, List.filter_eq_self.2 fun y hy => by simp [keep, hpre y hy]]
      simp [keep, hx.2]
    obtain ⟨i', L', hlp, h1, h2, h3⟩ := compact2 now l hl hN hG (l.length - (i + 1)) (i + 1) i l 18446744073709551616 (by omega) (by omega) rfl (by omega) ht rfl
    show (Tr.ite (decide ((i : Int) = -1)) _ _).eval = _
    refine ev_f (by simp) (ev_g (by simp) ?_)
    rw [next_i64 i (by omega)]
    refine ev_opt (show dfTalk2_loop18_5 _ = _ from hlp) ?_
    have e4 : ∀ (Y Z : List TTalk), List.take i' (List.take i' L' ++ Y ++ Z) = List.take i' L' := fun Y Z => by
      rw [List.append_assoc, List.take_append_of_le_length (by simp; omega), List.take_take, Nat.min_self]
    simp only [Int.toNat_natCast, e4]
    simp only [h3]
    have hfl : (l.filter (keep now)).length = i' := by rw [← h3]; simp; omega
    exact ev_g (by simp; omega) (ev_g (by simp; omega) (ev_g (by simp; omega) (ev_g (by simp [hfl]) (ev_r rfl))))

theorem between_fn (a b c : Int) : rBetween_fn (a, (b, (c, ()))) = some (decide (b ≤ a) && decide (a ≤ c), ()) := by
  simp only [rBetween_fn, rBetween_tree, Tr.eval, cond_and]
theorem talkRight_ok {x : TTalk} (hf : formB x = true) : talkRight_fn (x.from', (x.to, (x.fromPort, (x.toPort, (x.state, (x.over, (x.at', ()))))))) = some (true, ()) := by
  obtain ⟨h1, h2, h3, h4⟩ := form_st hf
  have hs := stB_sts h4
  simp only [sts, List.mem_cons, List.not_mem_nil, or_false, Prod.mk.injEq] at hs
  simp only [roadB, portB, Bool.and_eq_true, decide_eq_true_eq, Bool.not_eq_true', decide_eq_false_iff_not] at h1
  obtain ⟨⟨p1, p2⟩, ⟨q1, q2⟩, hne⟩ := h1
  have p1' : 0 ≤ x.fromPort := p1
  have p2' : x.fromPort ≤ 65535 := p2
  have q1' : 0 ≤ x.toPort := q1
  have q2' : x.toPort ≤ 65535 := q2
  unfold talkRight_fn talkRight_tree
  refine ev_opt (between_fn _ _ _) (ev_t (by simp; omega) (ev_opt (between_fn _ _ _) (ev_f (by simp; omega) (ev_opt (b := ((turn (rdOf x)).a, ((turn (rdOf x)).b, ((turn (rdOf x)).p, ((turn (rdOf x)).q, ()))))) rfl (ev_f ((rd_eq x (turn (rdOf x))).trans (decide_eq_false hne)) (ev_opt (between_fn _ _ _) (ev_f (by simp; omega) (ev_opt (between_fn _ _ _) (ev_f (by simp; omega) (ev_g (by simp; omega) ?_))))))))))
  have hov : ∀ (lo hi : Int), lo ≤ x.over ∧ x.over ≤ hi → (decide (lo ≤ x.over) && decide (x.over ≤ hi)) = true := fun lo hi h => by simp; exact h
  have hst : x.state = 1 ∨ x.state = 2 ∨ x.state = 3 ∨ x.state = 4 := by omega
  rcases hst with h | h | h | h <;> rw [h]
  · exact ev_opt (b := 0) rfl (ev_g (by decide) (ev_opt (b := 0) rfl (ev_opt (between_fn _ _ _) (ev_r (by rw [hov 0 0 (by omega)])))))
  · exact ev_opt (b := 0) rfl (ev_g (by decide) (ev_opt (b := 0) rfl (ev_opt (between_fn _ _ _) (ev_r (by rw [hov 0 0 (by omega)])))))
  · exact ev_opt (b := 0) rfl (ev_g (by decide) (ev_opt (b := 2) rfl (ev_opt (between_fn _ _ _) (ev_r (by rw [hov 0 2 (by omega)])))))
  · exact ev_opt (b := 3) rfl (ev_g (by decide) (ev_opt (b := 3) rfl (ev_opt (between_fn _ _ _) (ev_r (by rw [hov 3 3 (by omega)])))))
theorem trackRight_ok {l : List TTalk} (hg : Good l) : trackRight_fn (l, ()) = some (0, ()) := by
  have hlen := hg.1
  have hno : ∀ T : List TTalk, hit (fun _ : TTalk => false) T = none := fun T => hit_none.2 fun _ _ => rfl
  unfold trackRight_fn trackRight_tree
  refine ev_f (by simp; omega) ?_
  have := loop_hit (tag := 170004) (f := fun x => (trackRight_step17_4 x).eval) (l := l) (fun i => ((i : Int), (l, (l, ((l.length : Int), ()))))) (fun _ => false)
      (fun q => match q with | some q => Sum.inl ((4 : Int), ()) | none => Sum.inr ())
      (fun i x hx => by
        have hi := (List.getElem?_eq_some_iff.1 hx).1
        show (trackRight_step17_4 _).eval = _
        unfold trackRight_step17_4
        refine ev_t (by simp; omega) (ev_g (by simp) (ev_opt (show l[Int.toNat (i : Int)]? = some x by simpa using hx) (ev_opt (talkRight_ok (hg.2.1 x (List.mem_of_getElem? hx))) (ev_f rfl (ev_g (by simp; omega) ?_)))))
        have inner := loop_hit (tag := 170009) (f := fun x => (trackRight_step17_9 x).eval) (l := l.take i) (fun k => ((k : Int), (l.take i, (l, (l, ((l.length : Int), ((i : Int), (((l.take i).length : Int), (x.from', (x.to, (x.fromPort, (x.toPort, (x.state, (x.over, (x.at', ()))))))))))))))) (fun _ => false)
          (fun q => match q with | some q => Sum.inl ((4 : Int), ()) | none => Sum.inr (l, (l, ((l.length : Int), ((i : Int), ())))))
          (fun k y hy => by
            have hk := (List.getElem?_eq_some_iff.1 hy).1
            have hki : k < i := by simp at hk; omega
            have hyl : l[k]? = some y := by rw [List.getElem?_take, if_pos hki] at hy; exact hy
            obtain ⟨hi', hxe⟩ := List.getElem?_eq_some_iff.1 hx
            obtain ⟨hk', hye⟩ := List.getElem?_eq_some_iff.1 hyl
            have hp := (List.pairwise_iff_getElem.1 hg.2.2) k i hk' hi' hki
            rw [hxe, hye] at hp
            have hm := hp.2
            simp only [meet, Bool.or_eq_false_iff, decide_eq_false_iff_not] at hm
            show (trackRight_step17_9 _).eval = _
            unfold trackRight_step17_9
            refine ev_t (by simp at hk ⊢; omega) (ev_g (by simp) (ev_opt (show (l.take i)[Int.toNat (k : Int)]? = some y by simpa using hy) (ev_f (by simp; exact hp.1) (ev_f ((rd_eq y (rdOf x)).trans (decide_eq_false fun e => hm.1 e.symm)) (ev_opt (b := ((turn (rdOf x)).a, ((turn (rdOf x)).b, ((turn (rdOf x)).p, ((turn (rdOf x)).q, ()))))) rfl (ev_f ((rd_eq y (turn (rdOf x))).trans (decide_eq_false fun e => hm.2 (by rw [e, turn_turn]))) (ev_r (by rw [next_i64 k (by omega)]))))))))
          )
          (by show (trackRight_step17_9 _).eval = _; exact ev_f (by simp) (ev_r rfl)) 18446744073709551616 (by simp; omega)
        rw [hno] at inner
        have inner' : trackRight_loop17_9 _ = _ := inner
        refine ev_opt (b := Sum.inr (l, (l, ((l.length : Int), ((i : Int), ()))))) (by simpa using inner') (ev_sumr (ev_r (by rw [next_i64 i (by omega)]))))
      (by show (trackRight_step17_4 _).eval = _; exact ev_f (by simp) (ev_r rfl)) 18446744073709551616 (by omega)
  rw [hno] at this
  exact ev_opt (show trackRight_loop17_4 ((0 : Int), (l, (l, ((l.length : Int), ())))) = _ from this) rfl
theorem eqTalk_self (l : List TTalk) (hlen : l.length < Big) : eqTalk_fn (l, (l, ())) = some (true, ()) := by
  unfold Big at hlen
  unfold eqTalk_fn eqTalk_tree
  have := loop_hit (tag := 160004) (f := fun x => (eqTalk_step16_4 x).eval) (l := l) (fun i => ((i : Int), (l, (l, ((l.length : Int), ()))))) (fun _ => false)
      (fun q => match q with | some q => Sum.inl (false, ()) | none => Sum.inr ())
      (fun i x hx => by
        have hi := (List.getElem?_eq_some_iff.1 hx).1
        show (eqTalk_step16_4 _).eval = _
        unfold eqTalk_step16_4
        exact ev_t (by simp; omega) (ev_g (by simp) (ev_opt (show l[Int.toNat (i : Int)]? = some x by simpa using hx) (ev_g (by simp) (ev_opt (show l[Int.toNat (i : Int)]? = some x by simpa using hx) (ev_f (by simp) (ev_r (by rw [next_i64 i (by omega)]))))))))
      (by show (eqTalk_step16_4 _).eval = _; exact ev_f (by simp) (ev_r rfl)) 18446744073709551616 (by omega)
  have h0 : hit (fun _ => false) l = none := hit_none.2 fun _ _ => rfl
  rw [h0] at this
  exact ev_f (by simp) (ev_opt (show eqTalk_loop16_4 ((0 : Int), (l, (l, ((l.length : Int), ())))) = _ from this) rfl)
theorem bounds_law (l : List TTalk) (w : Rd4) (flags now : Int) (hb : l.length * 48 ≤ 140737488351232) : (trackBounds_tree (l, (w.a, (w.b, (w.p, (w.q, (flags, (now, ())))))))).eval = some (true, ()) := by
  have hB : l.length < Big := by unfold Big; omega
  unfold trackBounds_tree
  have bad : ∀ e : Int, e ≠ 0 → trHear_fn (l, (w.a, (w.b, (w.p, (w.q, (flags, (now, ()))))))) = some (l, (false, (e, ()))) → (trackBounds_tree (l, (w.a, (w.b, (w.p, (w.q, (flags, (now, ())))))))).eval = some (true, ()) := by
    intro e he h
    unfold trackBounds_tree
    exact ev_opt h (ev_opt trackLives_ok (ev_f rfl (ev_t (by show (!decide (e = 0)) = true; simpa using he) (ev_opt trackLives_ok (ev_t rfl (ev_t rfl (ev_opt (eqTalk_self l hB) (ev_r rfl))))))))
  by_cases hh : Good l ∧ InR l w flags now
  case neg =>
    obtain ⟨e, he, h⟩ := hear_bad l w flags now hb hh
    exact bad e he h
  obtain ⟨hg, hr⟩ := hh
  obtain ⟨a, ok, e, hear, hcase⟩ := hear_all l w flags now hg hr
  rcases hcase with ⟨he, rfl, rfl⟩ | ⟨rfl, ga, _, hk, hla⟩
  · exact bad e he hear
  have hlen := hg.1
  have hn1 : now ≤ 1099511627776 := hr.2.2.2.2
  have hn0 : 0 ≤ now := by
    have : 0 ≤ last l := by
      unfold last
      cases h : l.getLast? with
      | none => simp
      | some y => exact (form_st (hg.2.1 y (List.mem_of_getLast? h))).2.1
    have := hr.2.2.2.1
    omega
  refine ev_opt hear (ev_opt trackLives_ok (ev_f rfl (ev_f rfl (ev_opt (trackRight_ok ga) (ev_f rfl (ev_f ?_ (ev_g (by simp; omega) (ev_g (by simp) (ev_opt (young2_fn now l hB ⟨hn0, hn1⟩ hg.2.1) ?_)))))))))
  · rw [next_i64 l.length (by omega)]
    exact decide_eq_false (by show ¬ ((l.length + 1 : Nat) : Int) < (a.length : Int); omega)
  · cases ok with
    | true => exact ev_t rfl (ev_r rfl)
    | false =>
      have := hk rfl
      subst this
      exact ev_f rfl (ev_opt (eqTalk_self _ (Nat.lt_of_le_of_lt ga.1 (by decide))) (ev_r rfl))
theorem trackBounds_true {l : List TTalk} {a b p q flags now : Int} (b0 : BndD 6 (D.st 16 l)) (h1 : 0 ≤ a ∧ a ≤ 4294967295) (h2 : 0 ≤ b ∧ b ≤ 4294967295) (h3 : -9223372036854775808 ≤ p ∧ p ≤ 9223372036854775807) (h4 : -9223372036854775808 ≤ q ∧ q ≤ 9223372036854775807) (h5 : -9223372036854775808 ≤ flags ∧ flags ≤ 9223372036854775807) (h6 : -9223372036854775808 ≤ now ∧ now ≤ 9223372036854775807) :
    (trackBounds_tree (l, (a, (b, (p, (q, (flags, (now, ())))))))).eval = some (true, ()) := bounds_law l ⟨a, b, p, q⟩ flags now b0.1
end Go.Proofs.Ytcdcdmfecglemaa.X
