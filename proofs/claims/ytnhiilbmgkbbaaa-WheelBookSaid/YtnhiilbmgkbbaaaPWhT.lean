/- wheel.turn: a wheel of a book is turned to that of what is left, and tells what is due. Conditions: none. -/
import Derived.Test.YtnhiilbmgkbbaaaPWhB
namespace Go.Proofs.Ytnhiilbmgkbbaaa.X
open Go Go.RowKit Go.Proofs.Ytnhiilbmgkbbaaa.Abs Go.Proofs.Ytnhiilbmgkbbaaa.Bits
set_option linter.unusedVariables false
set_option linter.unnecessarySimpa false
set_option linter.unusedSimpArgs false
set_option maxRecDepth 100000

/-- A book that may stand in a wheel. -/
structure BOk (now : Int) (b : List TDue) : Prop where
  n0 : 0 ≤ now
  n1 : now < 16777216
  len : b.length ≤ 500
  at' : ∀ d ∈ b, now < d.at' ∧ d.at' < 16777216
  ids : (b.map (·.id)).Nodup
theorem cell_len (now : Int) (b : List TDue) (i : Nat) : (cell now b i).length ≤ b.length := List.length_filter_le _ _
theorem put_fn {id a now : Int} {L : List (List TDue)} (h0 : 0 ≤ now) (h1 : now < 16777216) (h2 : 0 ≤ a) (h3 : a < 16777216) (hne : now ≠ a) (hL : L.length = 96) (hl : ∀ (i : Nat) (xs : List TDue), L[i]? = some xs → xs.length ≤ 1000) :
    wPut_fn (id, (a, (now, (96, (L, ()))))) = some (now, (96, (L.set (lst now a).toNat (L.getD (lst now a).toNat [] ++ [⟨id, a⟩]), ()))) := by
  have hb := lst_bound now a
  have hx : (lst now a).toNat < L.length := by omega
  have hm := hl _ _ (getD_some hx)
  unfold wPut_fn wPut_tree
  refine ev_opt (list_fn h0 h1 h2 h3 hne) (ev_g (decide_eq_true (by omega)) (ev_g (decide_eq_true (by omega)) (ev_opt (getD_some hx) (ev_g (decide_eq_true ?_) (ev_g (decide_eq_true (by omega)) (ev_g (by simp) (ev_r rfl)))))))
  simp only [List.length_singleton]
  omega
theorem inner_fn {n k : Int} {l o : List TDue} {L : List (List TDue)} (h0 : 0 ≤ n) (h1 : n < 16777216) (hat : ∀ d ∈ l, n ≤ d.at' ∧ d.at' < 16777216) (hl : l.length ≤ 500) (ho : o.length ≤ 500) (hL : L.length = 96) (hLl : ∀ (i : Nat) (xs : List TDue), L[i]? = some xs → xs.length ≤ 500) :
    wTurn_loop23_11 (0, (k, ((l.length : Int), (o, (n, (l, (96, (L, ())))))))) = some (k, ((l.foldl (cst n) (o, L)).1, (n, (96, ((l.foldl (cst n) (o, L)).2, ()))))) := by
  unfold wTurn_loop23_11
  refine (loop_fold (l := l) (S := List TDue × List (List TDue)) (st := fun i s => ((i : Int), (k, ((l.length : Int), (s.1, (n, (l, (96, (s.2, ())))))))))
    (I := fun i s => s.1.length ≤ 500 + i ∧ s.2.length = 96 ∧ ∀ (q : Nat) (xs : List TDue), s.2[q]? = some xs → xs.length ≤ 500 + i) (g := cst n) (out := fun s => (k, (s.1, (n, (96, (s.2, ()))))))
    (fun i x s hx hI => ?_) (fun s hI => ?_) _ (o, L) ⟨by simpa using ho, hL, fun q xs h => by have := hLl q xs h; omega⟩ (by omega)).1
  · obtain ⟨i1, i2, i3⟩ := hI
    have hi := (List.getElem?_eq_some_iff.1 hx).1
    have hxm := List.mem_of_getElem? hx
    have hxa := hat x hxm
    have hnx : IntKind.wrap IntKind.i64 ((i : Int) + 1) = ((i + 1 : Nat) : Int) := next_i64 i (by omega)
    unfold cst
    by_cases e : x.at' = n
    · rw [if_pos e]
      refine ⟨?_, by simp; omega, i2, fun q xs h => by have := i3 q xs h; omega⟩
      unfold wTurn_step23_11
      simp only
      refine ev_t (decide_eq_true (by omega)) (ev_g (decide_eq_true (by omega)) (ev_opt (b := x) (by rw [Int.toNat_natCast]; exact hx) (ev_t (decide_eq_true e) (ev_g (decide_eq_true ?_) (ev_g (by simp) (ev_g (by simp) (ev_r ?_)))))))
      · simp only [List.length_singleton]; omega
      · rw [hnx]
    · rw [if_neg e]
      have hb := lst_bound n x.at'
      refine ⟨?_, by simp; omega, by simp only; rw [List.length_set]; exact i2, fun q xs h => ?_⟩
      · unfold wTurn_step23_11
        simp only
        refine ev_t (decide_eq_true (by omega)) (ev_g (decide_eq_true (by omega)) (ev_opt (b := x) (by rw [Int.toNat_natCast]; exact hx) (ev_f (decide_eq_false e) (ev_opt (put_fn h0 h1 (by omega) hxa.2 (fun q => e q.symm) i2 (fun q xs h => by have := i3 q xs h; omega)) (ev_g (by simp) (ev_g (by simp) (ev_r ?_)))))))
        rw [hnx]
      · simp only at h
        by_cases hq : (lst n x.at').toNat = q
        · subst hq
          rw [List.getElem?_set_self (by omega)] at h
          cases h
          have := i3 _ _ (getD_some (L := s.2) (i := (lst n x.at').toNat) (by omega))
          rw [List.length_append, List.length_singleton]; omega
        · rw [List.getElem?_set_ne hq] at h
          have := i3 q xs h
          omega
  · unfold wTurn_step23_11
    simp only
    exact ev_f (decide_eq_false (by omega)) (ev_g (by simp) (ev_r rfl))
/-- The numbers of a level. -/
structure Lev (n k p : Int) : Prop where
  k0 : 0 ≤ k
  k5 : k ≤ 5
  sh : (0 : Int) ≤ IntKind.wrap IntKind.i64 ((4 : Int) * k)
  mask : bits BinOp.and IntKind.i64 n (IntKind.wrap IntKind.i64 (IntKind.wrap IntKind.i64 ((1 : Int) * (2 : Int) ^ min (Int.toNat (IntKind.wrap IntKind.i64 ((4 : Int) * k))) (64 : Nat)) - (1 : Int))) = n % p
  idx : IntKind.wrap IntKind.i64 (IntKind.wrap IntKind.i64 ((16 : Int) * k) + bits BinOp.and IntKind.i64 (Int.fdiv n ((2 : Int) ^ min (Int.toNat (IntKind.wrap IntKind.i64 ((4 : Int) * k))) (64 : Nat))) (15 : Int)) = 16 * k + n / p % 16
theorem lev_of {n : Int} (h0 : 0 ≤ n) (h1 : n < 16777216) : Lev n 5 1048576 ∧ Lev n 4 65536 ∧ Lev n 3 4096 ∧ Lev n 2 256 ∧ Lev n 1 16 ∧ Lev n 0 1 := by
  have hm : ∀ j : Nat, j < 64 → bits BinOp.and IntKind.i64 n ((2 : Int) ^ j - 1) = n % (2 : Int) ^ j := fun j hj => bits_and_mask .i64 j n h0 (by show n < 18446744073709551616; omega) hj (fun _ => by show n < 9223372036854775808; omega)
  have hd : ∀ y : Int, 0 ≤ y → Int.fdiv n y = n / y := fun y hy => fdiv_pos n hy
  refine ⟨⟨by decide, by decide, by decide, hm 20 (by decide), ?_⟩, ⟨by decide, by decide, by decide, hm 16 (by decide), ?_⟩, ⟨by decide, by decide, by decide, hm 12 (by decide), ?_⟩, ⟨by decide, by decide, by decide, hm 8 (by decide), ?_⟩, ⟨by decide, by decide, by decide, hm 4 (by decide), ?_⟩, ⟨by decide, by decide, by decide, hm 0 (by decide), ?_⟩⟩
  · show IntKind.wrap IntKind.i64 (80 + bits BinOp.and IntKind.i64 (Int.fdiv n 1048576) 15) = _
    rw [hd _ (by decide), and15 _ (by omega) (by omega), wri _ (by omega)]; omega
  · show IntKind.wrap IntKind.i64 (64 + bits BinOp.and IntKind.i64 (Int.fdiv n 65536) 15) = _
    rw [hd _ (by decide), and15 _ (by omega) (by omega), wri _ (by omega)]; omega
  · show IntKind.wrap IntKind.i64 (48 + bits BinOp.and IntKind.i64 (Int.fdiv n 4096) 15) = _
    rw [hd _ (by decide), and15 _ (by omega) (by omega), wri _ (by omega)]; omega
  · show IntKind.wrap IntKind.i64 (32 + bits BinOp.and IntKind.i64 (Int.fdiv n 256) 15) = _
    rw [hd _ (by decide), and15 _ (by omega) (by omega), wri _ (by omega)]; omega
  · show IntKind.wrap IntKind.i64 (16 + bits BinOp.and IntKind.i64 (Int.fdiv n 16) 15) = _
    rw [hd _ (by decide), and15 _ (by omega) (by omega), wri _ (by omega)]; omega
  · show IntKind.wrap IntKind.i64 (0 + bits BinOp.and IntKind.i64 (Int.fdiv n 1) 15) = _
    rw [hd _ (by decide), and15 _ (by omega) (by omega), wri _ (by omega)]; omega
theorem lev_skip {n k p : Int} {o : List TDue} {L : List (List TDue)} (hv : Lev n k p) (hp : n % p ≠ 0) :
    (wTurn_step23_4 (k, (o, (n, (96, (L, ())))))).eval = some (.inl (k - 1, (o, (n, (96, (L, ())))))) := by
  obtain ⟨k0, k5, hs, hm, hi⟩ := hv
  unfold wTurn_step23_4
  simp only [hm]
  refine ev_t (decide_eq_true k0) (ev_g (decide_eq_true hs) (ev_t (by rw [decide_eq_false hp]; rfl) (ev_g (by simp) (ev_r ?_))))
  rw [wri _ (by omega)]
theorem lev_go {n k p : Int} {o l : List TDue} {L : List (List TDue)} (h0 : 0 ≤ n) (h1 : n < 16777216) (hv : Lev n k p) (hp : n % p = 0) (hp0 : 0 < p) (hL : L.length = 96) (hl : L[(16 * k + n / p % 16).toNat]? = some l)
    (hat : ∀ d ∈ l, n ≤ d.at' ∧ d.at' < 16777216) (ho : o.length ≤ 500) (hLl : ∀ (i : Nat) (xs : List TDue), L[i]? = some xs → xs.length ≤ 500) :
    (wTurn_step23_4 (k, (o, (n, (96, (L, ())))))).eval = some (.inl (k - 1, ((l.foldl (cst n) (o, L.set (16 * k + n / p % 16).toNat [])).1, (n, (96, ((l.foldl (cst n) (o, L.set (16 * k + n / p % 16).toNat [])).2, ())))))) := by
  obtain ⟨k0, k5, hs, hm, hi⟩ := hv
  have hr : 0 ≤ 16 * k + n / p % 16 ∧ 16 * k + n / p % 16 < 96 := by omega
  unfold wTurn_step23_4
  simp only [hm, hi]
  refine ev_t (decide_eq_true k0) (ev_g (decide_eq_true hs) (ev_f (by rw [decide_eq_true hp]; rfl) (ev_g (decide_eq_true hs) (ev_g (decide_eq_true (by omega)) (ev_g (decide_eq_true (by omega)) (ev_opt hl (ev_g (decide_eq_true (by omega)) (ev_g (by simp) (ev_g (by simp) (ev_g (by simp) (ev_opt (inner_fn h0 h1 hat (hLl _ _ hl) ho (by rw [List.length_set]; exact hL) ?_) (ev_g (by simp) (ev_r ?_)))))))))))))
  · intro i xs h
    by_cases hq : (16 * k + n / p % 16).toNat = i
    · subst hq
      rw [List.getElem?_set_self (by omega)] at h
      cases h; simp
    · rw [List.getElem?_set_ne hq] at h
      exact hLl i xs h
  · rw [wri _ (by omega)]
theorem wh_lens {now : Int} {b : List TDue} (hb : b.length ≤ 500) (i : Nat) (xs : List TDue) (h : (Wh now b)[i]? = some xs) : xs.length ≤ 500 := by
  have hi := (List.getElem?_eq_some_iff.1 h).1
  rw [Wh_len] at hi
  rw [Wh_get now b hi] at h
  cases h
  have := cell_len now b i
  omega
/-- Below, nothing stands. -/
theorem lev_post {n k p : Int} {o b : List TDue} (h0 : 0 ≤ n) (h1 : n < 16777216) (hv : Lev n k p) (hp : n % p = 0) (hp0 : 0 < p) (hb : b.length ≤ 500) (ho : o.length ≤ 500) (hne : ∀ d ∈ b, lst n d.at' ≠ 16 * k + n / p % 16) :
    (wTurn_step23_4 (k, (o, (n, (96, (Wh n b, ())))))).eval = some (.inl (k - 1, (o, (n, (96, (Wh n b, ())))))) := by
  have hr : 0 ≤ 16 * k + n / p % 16 ∧ 16 * k + n / p % 16 < 96 := by have := hv.k0; have := hv.k5; omega
  have hc : cell n b (16 * k + n / p % 16).toNat = [] := by
    unfold cell
    apply filter_nil
    intro d hd
    have := hne d hd
    simp; omega
  have hl : (Wh n b)[(16 * k + n / p % 16).toNat]? = some [] := by rw [Wh_get _ _ (by omega), hc]
  have := lev_go (o := o) h0 h1 hv hp hp0 (Wh_len n b) hl (fun d hd => by cases hd) ho (wh_lens hb)
  rw [this]
  simp only [List.foldl_nil]
  have e : (Wh n b).set (16 * k + n / p % 16).toNat [] = Wh n b := by
    apply List.ext_getElem?
    intro i
    by_cases hq : (16 * k + n / p % 16).toNat = i
    · subst hq
      rw [List.getElem?_set_self (by rw [Wh_len]; omega), hl]
    · rw [List.getElem?_set_ne hq]
  rw [e]
theorem lev_turn {n k p : Int} {b : List TDue} (h0 : 0 ≤ n) (h1 : n < 16777216) (hv : Lev n k p) (hp : n % p = 0) (hp0 : 0 < p) (hb : b.length ≤ 500) (hat : ∀ d ∈ b, n ≤ d.at' ∧ d.at' < 16777216) (ht : ∀ d ∈ b, Turn n p k (16 * k + n / p % 16) d.at') :
    (wTurn_step23_4 (k, ([], (n, (96, (Wh (n - 1) b, ())))))).eval = some (.inl (k - 1, (b.filter (fun d => decide (d.at' = n)), (n, (96, (Wh n (b.filter (fun d => decide (n < d.at'))), ())))))) := by
  have hr : 0 ≤ 16 * k + n / p % 16 ∧ 16 * k + n / p % 16 < 96 := by have := hv.k0; have := hv.k5; omega
  have hl : (Wh (n - 1) b)[(16 * k + n / p % 16).toNat]? = some (cell (n - 1) b (16 * k + n / p % 16).toNat) := Wh_get _ _ (by omega)
  have := lev_go (o := []) h0 h1 hv hp hp0 (Wh_len _ _) hl (fun d hd => hat d (List.mem_filter.1 hd).1) (by simp) (wh_lens hb)
  rw [this, casc_wh hr (by omega) (fun d hd => (hat d hd).1) ht]
theorem turn_fn {now : Int} {b : List TDue} (h : BOk now b) (h1 : now + 1 < 16777216) :
    wTurn_fn (now, (96, (Wh now b, ()))) = some (now + 1, (96, (Wh (now + 1) (b.filter (fun d => decide (now + 1 < d.at'))), (b.filter (fun d => decide (d.at' = now + 1)), ())))) := by
  have hn0 := h.n0
  have hat : ∀ d ∈ b, now + 1 ≤ d.at' ∧ d.at' < 16777216 := fun d hd => by have := h.at' d hd; omega
  have hT := fun (d : TDue) (hd : d ∈ b) => turn_of (n := now + 1) (a := d.at') (by omega) (hat d hd).1 (hat d hd).2
  have hlen := h.len
  have e1 : IntKind.wrap IntKind.i64 (now + 1) = now + 1 := wri _ (by omega)
  unfold wTurn_fn wTurn_tree
  simp only [e1]
  have hw : Wh now b = Wh (now + 1 - 1) b := by rw [show now + 1 - 1 = now by omega]
  rw [hw]
  have hnn : 0 ≤ now + 1 := by omega
  clear e1 hw
  generalize now + 1 = n at *
  obtain ⟨l5, l4, l3, l2, l1, l0⟩ := lev_of hnn h1
  have hB : (b.filter (fun d => decide (n < d.at'))).length ≤ 500 := Nat.le_trans (List.length_filter_le _ _) hlen
  have hO : (b.filter (fun d => decide (d.at' = n))).length ≤ 500 := Nat.le_trans (List.length_filter_le _ _) hlen
  have hself : ∀ d ∈ b.filter (fun d => decide (n < d.at')), _ := fun d hd => lst_self (n := n) (a := d.at') hnn (by simpa using (List.mem_filter.1 hd).2) (hat d (List.mem_filter.1 hd).1).2
  suffices hloop : wTurn_loop23_4 (5, ([], (n, (96, (Wh (n - 1) b, ()))))) = some (b.filter (fun d => decide (d.at' = n)), (n, (96, (Wh n (b.filter (fun d => decide (n < d.at'))), ())))) by
    exact ev_g rfl (ev_opt hloop (ev_g (by simp) (ev_r rfl)))
  unfold wTurn_loop23_4
  have hend : ∀ (o : List TDue) (L : List (List TDue)), (wTurn_step23_4 (-1, (o, (n, (96, (L, ())))))).eval = some (.inr (o, (n, (96, (L, ()))))) := fun o L => by
    unfold wTurn_step23_4
    exact ev_f (by decide) (ev_g (by simp) (ev_r rfl))
  by_cases c5 : n % 1048576 = 0
  · rw [loopO_in (lev_turn hnn h1 l5 c5 (by decide) hlen hat (fun d hd => (hT d hd).1 c5)),
      loopO_in (lev_post hnn h1 l4 (by omega) (by decide) hB hO (fun d hd => (hself d hd).2.1)), loopO_in (lev_post hnn h1 l3 (by omega) (by decide) hB hO (fun d hd => (hself d hd).2.2.1)),
      loopO_in (lev_post hnn h1 l2 (by omega) (by decide) hB hO (fun d hd => (hself d hd).2.2.2.1)), loopO_in (lev_post hnn h1 l1 (by omega) (by decide) hB hO (fun d hd => (hself d hd).2.2.2.2.1)),
      loopO_in (lev_post hnn h1 l0 (by omega) (by decide) hB hO (fun d hd => (hself d hd).2.2.2.2.2))]
    exact loopO_out (hend _ _)
  rw [loopO_in (lev_skip l5 c5)]
  by_cases c4 : n % 65536 = 0
  · rw [loopO_in (lev_turn hnn h1 l4 c4 (by decide) hlen hat (fun d hd => (hT d hd).2.1 c4 c5)), loopO_in (lev_post hnn h1 l3 (by omega) (by decide) hB hO (fun d hd => (hself d hd).2.2.1)),
      loopO_in (lev_post hnn h1 l2 (by omega) (by decide) hB hO (fun d hd => (hself d hd).2.2.2.1)), loopO_in (lev_post hnn h1 l1 (by omega) (by decide) hB hO (fun d hd => (hself d hd).2.2.2.2.1)),
      loopO_in (lev_post hnn h1 l0 (by omega) (by decide) hB hO (fun d hd => (hself d hd).2.2.2.2.2))]
    exact loopO_out (hend _ _)
  rw [loopO_in (lev_skip l4 c4)]
  by_cases c3 : n % 4096 = 0
  · rw [loopO_in (lev_turn hnn h1 l3 c3 (by decide) hlen hat (fun d hd => (hT d hd).2.2.1 c3 c4)),
      loopO_in (lev_post hnn h1 l2 (by omega) (by decide) hB hO (fun d hd => (hself d hd).2.2.2.1)), loopO_in (lev_post hnn h1 l1 (by omega) (by decide) hB hO (fun d hd => (hself d hd).2.2.2.2.1)),
      loopO_in (lev_post hnn h1 l0 (by omega) (by decide) hB hO (fun d hd => (hself d hd).2.2.2.2.2))]
    exact loopO_out (hend _ _)
  rw [loopO_in (lev_skip l3 c3)]
  by_cases c2 : n % 256 = 0
  · rw [loopO_in (lev_turn hnn h1 l2 c2 (by decide) hlen hat (fun d hd => (hT d hd).2.2.2.1 c2 c3)), loopO_in (lev_post hnn h1 l1 (by omega) (by decide) hB hO (fun d hd => (hself d hd).2.2.2.2.1)),
      loopO_in (lev_post hnn h1 l0 (by omega) (by decide) hB hO (fun d hd => (hself d hd).2.2.2.2.2))]
    exact loopO_out (hend _ _)
  rw [loopO_in (lev_skip l2 c2)]
  by_cases c1 : n % 16 = 0
  · rw [loopO_in (lev_turn hnn h1 l1 c1 (by decide) hlen hat (fun d hd => (hT d hd).2.2.2.2.1 c1 c2)), loopO_in (lev_post hnn h1 l0 (by omega) (by decide) hB hO (fun d hd => (hself d hd).2.2.2.2.2))]
    exact loopO_out (hend _ _)
  rw [loopO_in (lev_skip l1 c1), loopO_in (lev_turn hnn h1 l0 (by omega) (by decide) hlen hat (fun d hd => (hT d hd).2.2.2.2.2 c1))]
  exact loopO_out (hend _ _)
end Go.Proofs.Ytnhiilbmgkbbaaa.X
