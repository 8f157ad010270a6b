/- The laws SwapBoth and SwapRight, in plain terms. Conditions: none. -/
import Derived.Test.YtkfpdgibaadmbaaPSwapG
import Derived.Test.YtkfpdgibaadmbaaLSwap
namespace Go.Proofs.Ytkfpdgibaadmbaa.X
open Go Go.RowKit Go.Proofs.Ytkfpdgibaadmbaa.Abs Go.Proofs.Ytkfpdgibaadmbaa.Bits
set_option linter.unusedVariables false
set_option linter.unnecessarySimpa false
set_option linter.unusedSimpArgs false
set_option maxRecDepth 100000

theorem swLives_ok : swapLives_fn () = some (true, ()) := by kernel_rfl
theorem swp_len {s : List UInt8} (h : EndOk s) (a p : Int) (i off : Nat) : (swp s a p i off).length = alln s := by
  obtain ⟨l1, l2, l3, l4, l5, l6, l7⟩ := end_len h
  unfold swp; rw [List.length_append, gNew_len, dNew_len]; omega
theorem from_ok {s : List UInt8} (h : EndOk s) (hl : s.length ≤ Lim) {a p : Int} (ha : U32 a) (hp : U16 p) : swFrom_fn (s, (a, (p, ()))) = some (swp s a p 12 0, ((0 : Int), ())) :=
  ev_opt (swapped_ok h hl (i := 12) (off := 0) ha hp (.inl rfl) (.inl rfl)) (ev_r rfl)
theorem to_ok {s : List UInt8} (h : EndOk s) (hl : s.length ≤ Lim) {a p : Int} (ha : U32 a) (hp : U16 p) : swTo_fn (s, (a, (p, ()))) = some (swp s a p 16 2, ((0 : Int), ())) :=
  ev_opt (swapped_ok h hl (i := 16) (off := 2) ha hp (.inr rfl) (.inr rfl)) (ev_r rfl)
theorem from_no {s : List UInt8} (hl : s.length ≤ Lim) (a p : Int) (h : ¬ (EndOk s ∧ U16 p)) : ∃ e : Int, e ≠ 0 ∧ swFrom_fn (s, (a, (p, ()))) = some ([], (e, ())) := by
  by_cases hs : EndOk s
  · obtain ⟨e, he, hr⟩ := swapped_port hl a p 12 0 (fun hp => h ⟨hs, hp⟩)
    exact ⟨e, he, ev_opt hr (ev_r rfl)⟩
  · obtain ⟨e, he, hr⟩ := swapped_bad hs hl a p 12 0
    exact ⟨e, he, ev_opt hr (ev_r rfl)⟩
theorem to_no {s : List UInt8} (hl : s.length ≤ Lim) (a p : Int) (h : ¬ (EndOk s ∧ U16 p)) : ∃ e : Int, e ≠ 0 ∧ swTo_fn (s, (a, (p, ()))) = some ([], (e, ())) := by
  by_cases hs : EndOk s
  · obtain ⟨e, he, hr⟩ := swapped_port hl a p 16 2 (fun hp => h ⟨hs, hp⟩)
    exact ⟨e, he, ev_opt hr (ev_r rfl)⟩
  · obtain ⟨e, he, hr⟩ := swapped_bad hs hl a p 16 2
    exact ⟨e, he, ev_opt hr (ev_r rfl)⟩
theorem alln_le {s : List UInt8} (h : EndOk s) : alln s ≤ Lim := by obtain ⟨_, _, _, _, _, l6, _⟩ := end_len h; unfold Lim; omega
theorem from_any {s : List UInt8} (hl : s.length ≤ Lim) {a p : Int} (ha : U32 a) : ∃ x e, swFrom_fn (s, (a, (p, ()))) = some (x, (e, ())) ∧ x.length ≤ Lim := by
  by_cases h : EndOk s ∧ U16 p
  · exact ⟨_, _, from_ok h.1 hl ha h.2, by rw [swp_len h.1]; exact alln_le h.1⟩
  · obtain ⟨e, _, hr⟩ := from_no hl a p h; exact ⟨_, _, hr, by simp⟩
theorem to_any {s : List UInt8} (hl : s.length ≤ Lim) {a p : Int} (ha : U32 a) : ∃ x e, swTo_fn (s, (a, (p, ()))) = some (x, (e, ())) ∧ x.length ≤ Lim := by
  by_cases h : EndOk s ∧ U16 p
  · exact ⟨_, _, to_ok h.1 hl ha h.2, by rw [swp_len h.1]; exact alln_le h.1⟩
  · obtain ⟨e, _, hr⟩ := to_no hl a p h; exact ⟨_, _, hr, by simp⟩
theorem cOf_two (s : List UInt8) : cOf s = 6 ∨ cOf s = 16 := by unfold cOf; split <;> simp
/-- The ends behind From, and behind To. -/
theorem from_ends {s : List UInt8} (h : EndOk s) {a p : Int} (ha : U32 a) (hp : U16 p) :
    EndOk (swp s a p 12 0) ∧ (pk (swp s a p 12 0)).from' = a ∧ (pk (swp s a p 12 0)).to = (pk s).to ∧ wAt (pk (swp s a p 12 0)).data 0 = p ∧ wAt (pk (swp s a p 12 0)).data 2 = wAt (pk s).data 2 ∧ (swp s a p 12 0).getD 9 0 = s.getD 9 0 := by
  obtain ⟨h1, h2, h3, ⟨k, h4⟩, h5⟩ := swp_all h (i := 12) (off := 0) ha hp (.inl rfl) (.inl rfl)
  obtain ⟨l1, l2, l3, l4, l5, l6, l7⟩ := end_len h
  have hc := cOf_two s
  refine ⟨h1, by rw [h2]; rfl, by rw [h2]; rfl, ?_, ?_, h3⟩
  · rw [h2]; show wAt (dNew _ _ _ _ _ _ _ _) 0 = p
    rw [h4, wAt_setW_ne _ _ _ _ (by simp only [setW_len]; omega) (by omega), wAt_setW _ _ _ (by omega), u16_mod hp]
  · rw [h2]; show wAt (dNew _ _ _ _ _ _ _ _) 2 = _
    rw [h4, wAt_setW_ne _ _ _ _ (by simp only [setW_len]; omega) (by omega), wAt_setW_ne _ _ _ _ (by omega) (by omega)]
theorem to_ends {s : List UInt8} (h : EndOk s) {a p : Int} (ha : U32 a) (hp : U16 p) :
    EndOk (swp s a p 16 2) ∧ (pk (swp s a p 16 2)).to = a ∧ (pk (swp s a p 16 2)).from' = (pk s).from' ∧ wAt (pk (swp s a p 16 2)).data 2 = p ∧ wAt (pk (swp s a p 16 2)).data 0 = wAt (pk s).data 0 ∧ (swp s a p 16 2).getD 9 0 = s.getD 9 0 := by
  obtain ⟨h1, h2, h3, ⟨k, h4⟩, h5⟩ := swp_all h (i := 16) (off := 2) ha hp (.inr rfl) (.inr rfl)
  obtain ⟨l1, l2, l3, l4, l5, l6, l7⟩ := end_len h
  have hc := cOf_two s
  refine ⟨h1, by rw [h2]; rfl, by rw [h2]; rfl, ?_, ?_, h3⟩
  · rw [h2]; show wAt (dNew _ _ _ _ _ _ _ _) 2 = p
    rw [h4, wAt_setW_ne _ _ _ _ (by simp only [setW_len]; omega) (by omega), wAt_setW _ _ _ (by omega), u16_mod hp]
  · rw [h2]; show wAt (dNew _ _ _ _ _ _ _ _) 0 = _
    rw [h4, wAt_setW_ne _ _ _ _ (by simp only [setW_len]; omega) (by omega), wAt_setW_ne _ _ _ _ (by omega) (by omega)]
theorem swp_alln {s : List UInt8} (h : EndOk s) {a p : Int} {i off : Nat} (ha : U32 a) (hp : U16 p) (hi : i = 12 ∨ i = 16) (ho : off = 0 ∨ off = 2) : alln (swp s a p i off) = alln s := by
  obtain ⟨h1, h2, h3, ⟨k, h4⟩, h5⟩ := swp_all h ha hp hi ho
  obtain ⟨l1, l2, l3, l4, l5, l6, l7⟩ := end_len h
  obtain ⟨m1, m2, m3, m4, m5, m6, m7⟩ := end_len h1
  have e1 : (pk (swp s a p i off)).options.length = (pk s).options.length := by rw [h2]
  have e2 : (pk (swp s a p i off)).data.length = (pk s).data.length := by rw [h2]; exact dNew_len _ _ _ _ _ _ _ _
  have o1 : (pk (swp s a p i off)).options.length = hn (swp s a p i off) - 20 := by show (((swp s a p i off).take _).drop 20).length = _; rw [List.length_drop, m2]
  have o2 : (pk s).options.length = hn s - 20 := by show ((s.take _).drop 20).length = _; rw [List.length_drop, l2]
  omega
theorem both_law (s : List UInt8) (a b p q : Int) (hl : s.length ≤ Lim) (ha : U32 a) (hb : U32 b) : (swapBoth_tree (s, (a, (b, (p, (q, ())))))).eval = some (true, ()) := by
  by_cases h0 : EndOk s ∧ U16 p
  case neg =>
    obtain ⟨e, he, r0⟩ := from_no hl a p h0
    obtain ⟨x1, e1, r1, hx1⟩ := to_any (s := []) (by simp) (p := q) hb
    obtain ⟨x2, e2, r2, hx2⟩ := to_any hl (p := q) hb
    obtain ⟨x3, e3, r3, hx3⟩ := from_any hx2 (p := p) ha
    exact ev_opt r0 (ev_opt r1 (ev_opt r2 (ev_opt r3 (ev_opt swLives_ok (ev_f rfl (ev_t (show (!decide (e = 0)) = true by rw [decide_eq_false he]; rfl) (ev_opt swLives_ok (ev_r rfl))))))))
  obtain ⟨hs, hp⟩ := h0
  have r0 := from_ok hs hl ha hp
  obtain ⟨f1, f2, f3, f4, f5, f6⟩ := from_ends hs ha hp
  have hX : (swp s a p 12 0).length ≤ Lim := by rw [swp_len hs]; exact alln_le hs
  by_cases hq : U16 q
  case neg =>
    obtain ⟨e, he, r1⟩ := to_no hX b q (fun h => hq h.2)
    obtain ⟨x2, e2, r2, hx2⟩ := to_any hl (p := q) hb
    obtain ⟨x3, e3, r3, hx3⟩ := from_any hx2 (p := p) ha
    exact ev_opt r0 (ev_opt r1 (ev_opt r2 (ev_opt r3 (ev_opt swLives_ok (ev_f rfl (ev_f rfl (ev_t (show (!decide (e = 0)) = true by rw [decide_eq_false he]; rfl) (ev_opt swLives_ok (ev_r rfl)))))))))
  have r1 := to_ok f1 hX hb hq
  obtain ⟨g1, g2, g3, g4, g5, g6⟩ := to_ends f1 hb hq
  have r2 := to_ok hs hl hb hq
  obtain ⟨k1, k2, k3, k4, k5, k6⟩ := to_ends hs hb hq
  have hX2 : (swp s b q 16 2).length ≤ Lim := by rw [swp_len hs]; exact alln_le hs
  have r3 := from_ok k1 hX2 ha hp
  obtain ⟨m1, m2, m3, m4, m5, m6⟩ := from_ends k1 ha hp
  have lY : (swp (swp s a p 12 0) b q 16 2).length = alln s := by rw [swp_len f1, swp_alln hs ha hp (.inl rfl) (.inl rfl)]
  have lY2 : (swp (swp s b q 16 2) a p 12 0).length = alln s := by rw [swp_len k1, swp_alln hs hb hq (.inr rfl) (.inr rfl)]
  have eY := ends_ok g1 (by rw [lY]; exact alln_le hs)
  have eY2 := ends_ok m1 (by rw [lY2]; exact alln_le hs)
  rw [g2, g3, g4, g5, g6, f2, f4, f6] at eY
  rw [m2, m3, m4, m5, m6, k2, k4, k6] at eY2
  refine ev_opt r0 (ev_opt r1 (ev_opt r2 (ev_opt r3 (ev_opt swLives_ok (ev_f rfl (ev_f rfl (ev_f rfl (ev_f rfl (ev_f rfl (ev_opt eY (ev_opt eY2 (ev_t rfl (ev_t rfl (ev_t (by simp) (ev_t (by simp) (ev_t (by simp) (ev_t (by simp) (ev_t (by simp) (ev_r ?_)))))))))))))))))))
  simp only [lY, lY2, decide_true]
theorem swapBoth_true {s : List UInt8} {a b p q : Int} (b0 : s.length ≤ 140737488351232) (h1 : 0 ≤ a ∧ a ≤ 4294967295) (h2 : 0 ≤ b ∧ b ≤ 4294967295) (h3 : -9223372036854775808 ≤ p ∧ p ≤ 9223372036854775807) (h4 : -9223372036854775808 ≤ q ∧ q ≤ 9223372036854775807) :
    (swapBoth_tree (s, (a, (b, (p, (q, ())))))).eval = some (true, ()) := both_law s a b p q (by unfold Lim; omega) h1 h2

/-! ### SwapRight -/
theorem right_law (s : List UInt8) (a p : Int) (f : Bool) (hl : s.length ≤ Lim) (ha : U32 a) : (swapRight_tree (s, (a, (p, (f, ()))))).eval = some (true, ()) := by
  obtain ⟨x1, e1, r1, hx1⟩ := to_any hl (p := p) ha
  by_cases hs : EndOk s
  case neg =>
    obtain ⟨e, he, hr⟩ := ends_bad hs hl
    have hz : (!decide (e = 0)) = true := by rw [decide_eq_false he]; rfl
    cases f with
    | true =>
      obtain ⟨e2, he2, r2⟩ := from_no hl a p (fun h => hs h.1)
      exact ev_opt hr (ev_opt r1 (ev_t rfl (ev_opt r2 (ev_opt swLives_ok (ev_f rfl (ev_t hz (ev_opt swLives_ok (ev_t rfl (ev_r rfl)))))))))
    | false =>
      obtain ⟨e2, he2, r2⟩ := to_no hl a p (fun h => hs h.1)
      exact ev_opt hr (ev_opt r2 (ev_f rfl (ev_opt swLives_ok (ev_f rfl (ev_t hz (ev_opt swLives_ok (ev_t rfl (ev_r rfl))))))))
  have hr := ends_ok hs hl
  by_cases hp : U16 p
  case neg =>
    cases f with
    | true =>
      obtain ⟨e2, he2, r2⟩ := from_no hl a p (fun h => hp h.2)
      exact ev_opt hr (ev_opt r1 (ev_t rfl (ev_opt r2 (ev_opt swLives_ok (ev_f rfl (ev_f rfl (ev_t (show (!decide (e2 = 0)) = true by rw [decide_eq_false he2]; rfl) (ev_opt swLives_ok (ev_t rfl (ev_r rfl))))))))))
    | false =>
      obtain ⟨e2, he2, r2⟩ := to_no hl a p (fun h => hp h.2)
      exact ev_opt hr (ev_opt r2 (ev_f rfl (ev_opt swLives_ok (ev_f rfl (ev_f rfl (ev_t (show (!decide (e2 = 0)) = true by rw [decide_eq_false he2]; rfl) (ev_opt swLives_ok (ev_t rfl (ev_r rfl)))))))))
  obtain ⟨l1, l2, l3, l4, l5, l6, l7⟩ := end_len hs
  have rp := ipRead_ok hs.ip hl
  have tail : ∀ (i off : Nat), (i = 12 ∨ i = 16) → (off = 0 ∨ off = 2) → (dNew (udpB s) (s.take (hn s)) (pk s).data a p i off (cOf s)).take (cOf s) = setW ((pk s).data.take (cOf s)) off p ∧ (dNew (udpB s) (s.take (hn s)) (pk s).data a p i off (cOf s)).drop (cOf s + 2) = (pk s).data.drop (cOf s + 2) := by
    intro i off hi ho
    obtain ⟨h1, h2, h3, ⟨k, h4⟩, h5⟩ := swp_all hs (a := a) (p := p) ha hp hi ho
    have hc := cOf_two s
    rw [h4]
    exact ⟨by rw [take_setW_out _ _ _ _ (by omega), take_setW_in _ _ _ _ (by omega)], by rw [drop_setW_out _ _ _ _ (by omega), drop_setW_out _ _ _ _ (by omega)]⟩
  cases f with
  | true =>
    have r2 := from_ok hs hl ha hp
    obtain ⟨f1, f2, f3, f4, f5, f6⟩ := from_ends hs ha hp
    obtain ⟨_, hpk, _, _, _⟩ := swp_all hs (i := 12) (off := 0) ha hp (.inl rfl) (.inl rfl)
    have hX : (swp s a p 12 0).length ≤ Lim := by rw [swp_len hs]; exact alln_le hs
    have eX := ends_ok f1 hX
    rw [f2, f3, f4, f5, f6] at eX
    have rX := ipRead_ok f1.ip hX
    rw [hpk] at rX
    obtain ⟨t1, t2⟩ := tail 12 0 (.inl rfl) (.inl rfl)
    have ld : (dNew (udpB s) (s.take (hn s)) (pk s).data a p 12 0 (cOf s)).length = (pk s).data.length := dNew_len _ _ _ _ _ _ _ _
    refine ev_opt hr (ev_opt r1 (ev_t rfl (ev_opt r2 (ev_opt swLives_ok (ev_f rfl (ev_f rfl (ev_f rfl (ev_opt eX (ev_opt rp (ev_opt rX (ev_f rfl (ev_f rfl (ev_f ?_ (ev_t rfl ?_))))))))))))))
    · show (!decide (((pk s).data.length : Int) = ((dNew (udpB s) (s.take (hn s)) (pk s).data a p 12 0 (cOf s)).length : Int))) = false
      rw [ld]; simp
    generalize hD : dNew (udpB s) (s.take (hn s)) (pk s).data a p 12 0 (cOf s) = D at *
    rcases hs.proto with h6 | h17
    · have hc : cOf s = 16 := by unfold cOf; rw [if_neg (by omega)]
      rw [hc] at t1 t2 l3
      have m : List.drop 4 (List.take 16 D) = List.drop 4 (List.take 16 (pk s).data) := by rw [t1, drop_setW_out _ _ _ _ (by omega)]
      have td : List.take (Int.toNat (D.length : Int)) D = D := by rw [Int.toNat_natCast, List.take_length]
      have td2 : List.take (Int.toNat ((pk s).data.length : Int)) (pk s).data = (pk s).data := by rw [Int.toNat_natCast, List.take_length]
      refine ev_f (show decide (((s.getD 9 0).toNat : Int) = 17) = false by rw [decide_eq_false (by omega)]) (ev_t (by simp) (ev_t (by simp [p11]) (ev_g (show decide ((0 : Int) ≤ 4 ∧ (4 : Int) ≤ 16 ∧ (16 : Int) ≤ ((pk s).data.length : Int)) = true by (first | (simp; done) | (simp; omega) | omega)) (ev_g (show decide ((0 : Int) ≤ 4 ∧ (4 : Int) ≤ 16 ∧ (16 : Int) ≤ (D.length : Int)) = true by (first | (simp; done) | (simp; omega) | omega)) (ev_t (show decide (List.drop 4 (List.take 16 (pk s).data) = List.drop 4 (List.take 16 D)) = true by rw [m]; simp) (ev_g (show decide ((0 : Int) ≤ 18 ∧ (18 : Int) ≤ ((pk s).data.length : Int) ∧ ((pk s).data.length : Int) ≤ ((pk s).data.length : Int)) = true by (first | (simp; done) | (simp; omega) | omega)) (ev_g (show decide ((0 : Int) ≤ 18 ∧ (18 : Int) ≤ (D.length : Int) ∧ (D.length : Int) ≤ (D.length : Int)) = true by (first | (simp; done) | (simp; omega) | omega)) (ev_r ?_))))))))
      show (decide (List.drop 18 (List.take (Int.toNat ((pk s).data.length : Int)) (pk s).data) = List.drop 18 (List.take (Int.toNat (D.length : Int)) D)), ()) = (true, ())
      rw [td, td2, t2]; simp
    · have hc : cOf s = 6 := by unfold cOf; rw [if_pos h17]
      rw [hc] at t1 t2 l3
      have m : List.drop 4 (List.take 6 D) = List.drop 4 (List.take 6 (pk s).data) := by rw [t1, drop_setW_out _ _ _ _ (by omega)]
      have td : List.take (Int.toNat (D.length : Int)) D = D := by rw [Int.toNat_natCast, List.take_length]
      have td2 : List.take (Int.toNat ((pk s).data.length : Int)) (pk s).data = (pk s).data := by rw [Int.toNat_natCast, List.take_length]
      refine ev_t (show decide (((s.getD 9 0).toNat : Int) = 17) = true by rw [decide_eq_true (by omega)]) (ev_t (by simp) (ev_t (by simp [p11]) (ev_g (show decide ((0 : Int) ≤ 4 ∧ (4 : Int) ≤ 6 ∧ (6 : Int) ≤ ((pk s).data.length : Int)) = true by (first | (simp; done) | (simp; omega) | omega)) (ev_g (show decide ((0 : Int) ≤ 4 ∧ (4 : Int) ≤ 6 ∧ (6 : Int) ≤ (D.length : Int)) = true by (first | (simp; done) | (simp; omega) | omega)) (ev_t (show decide (List.drop 4 (List.take 6 (pk s).data) = List.drop 4 (List.take 6 D)) = true by rw [m]; simp) (ev_g (show decide ((0 : Int) ≤ 8 ∧ (8 : Int) ≤ ((pk s).data.length : Int) ∧ ((pk s).data.length : Int) ≤ ((pk s).data.length : Int)) = true by (first | (simp; done) | (simp; omega) | omega)) (ev_g (show decide ((0 : Int) ≤ 8 ∧ (8 : Int) ≤ (D.length : Int) ∧ (D.length : Int) ≤ (D.length : Int)) = true by (first | (simp; done) | (simp; omega) | omega)) (ev_r ?_))))))))
      show (decide (List.drop 8 (List.take (Int.toNat ((pk s).data.length : Int)) (pk s).data) = List.drop 8 (List.take (Int.toNat (D.length : Int)) D)), ()) = (true, ())
      rw [td, td2, t2]; simp
  | false =>
    have r2 := to_ok hs hl ha hp
    obtain ⟨f1, f2, f3, f4, f5, f6⟩ := to_ends hs ha hp
    obtain ⟨_, hpk, _, _, _⟩ := swp_all hs (i := 16) (off := 2) ha hp (.inr rfl) (.inr rfl)
    have hX : (swp s a p 16 2).length ≤ Lim := by rw [swp_len hs]; exact alln_le hs
    have eX := ends_ok f1 hX
    rw [f2, f3, f4, f5, f6] at eX
    have rX := ipRead_ok f1.ip hX
    rw [hpk] at rX
    obtain ⟨t1, t2⟩ := tail 16 2 (.inr rfl) (.inr rfl)
    have ld : (dNew (udpB s) (s.take (hn s)) (pk s).data a p 16 2 (cOf s)).length = (pk s).data.length := dNew_len _ _ _ _ _ _ _ _
    refine ev_opt hr (ev_opt r2 (ev_f rfl (ev_opt swLives_ok (ev_f rfl (ev_f rfl (ev_f rfl (ev_opt eX (ev_opt rp (ev_opt rX (ev_f rfl (ev_f rfl (ev_f ?_ (ev_f rfl ?_)))))))))))))
    · show (!decide (((pk s).data.length : Int) = ((dNew (udpB s) (s.take (hn s)) (pk s).data a p 16 2 (cOf s)).length : Int))) = false
      rw [ld]; simp
    generalize hD : dNew (udpB s) (s.take (hn s)) (pk s).data a p 16 2 (cOf s) = D at *
    rcases hs.proto with h6 | h17
    · have hc : cOf s = 16 := by unfold cOf; rw [if_neg (by omega)]
      rw [hc] at t1 t2 l3
      have m : List.drop 4 (List.take 16 D) = List.drop 4 (List.take 16 (pk s).data) := by rw [t1, drop_setW_out _ _ _ _ (by omega)]
      have td : List.take (Int.toNat (D.length : Int)) D = D := by rw [Int.toNat_natCast, List.take_length]
      have td2 : List.take (Int.toNat ((pk s).data.length : Int)) (pk s).data = (pk s).data := by rw [Int.toNat_natCast, List.take_length]
      refine ev_f (show decide (((s.getD 9 0).toNat : Int) = 17) = false by rw [decide_eq_false (by omega)]) (ev_t (by simp) (ev_t (by simp [p11]) (ev_g (show decide ((0 : Int) ≤ 4 ∧ (4 : Int) ≤ 16 ∧ (16 : Int) ≤ ((pk s).data.length : Int)) = true by (first | (simp; done) | (simp; omega) | omega)) (ev_g (show decide ((0 : Int) ≤ 4 ∧ (4 : Int) ≤ 16 ∧ (16 : Int) ≤ (D.length : Int)) = true by (first | (simp; done) | (simp; omega) | omega)) (ev_t (show decide (List.drop 4 (List.take 16 (pk s).data) = List.drop 4 (List.take 16 D)) = true by rw [m]; simp) (ev_g (show decide ((0 : Int) ≤ 18 ∧ (18 : Int) ≤ ((pk s).data.length : Int) ∧ ((pk s).data.length : Int) ≤ ((pk s).data.length : Int)) = true by (first | (simp; done) | (simp; omega) | omega)) (ev_g (show decide ((0 : Int) ≤ 18 ∧ (18 : Int) ≤ (D.length : Int) ∧ (D.length : Int) ≤ (D.length : Int)) = true by (first | (simp; done) | (simp; omega) | omega)) (ev_r ?_))))))))
      show (decide (List.drop 18 (List.take (Int.toNat ((pk s).data.length : Int)) (pk s).data) = List.drop 18 (List.take (Int.toNat (D.length : Int)) D)), ()) = (true, ())
      rw [td, td2, t2]; simp
    · have hc : cOf s = 6 := by unfold cOf; rw [if_pos h17]
      rw [hc] at t1 t2 l3
      have m : List.drop 4 (List.take 6 D) = List.drop 4 (List.take 6 (pk s).data) := by rw [t1, drop_setW_out _ _ _ _ (by omega)]
      have td : List.take (Int.toNat (D.length : Int)) D = D := by rw [Int.toNat_natCast, List.take_length]
      have td2 : List.take (Int.toNat ((pk s).data.length : Int)) (pk s).data = (pk s).data := by rw [Int.toNat_natCast, List.take_length]
      refine ev_t (show decide (((s.getD 9 0).toNat : Int) = 17) = true by rw [decide_eq_true (by omega)]) (ev_t (by simp) (ev_t (by simp [p11]) (ev_g (show decide ((0 : Int) ≤ 4 ∧ (4 : Int) ≤ 6 ∧ (6 : Int) ≤ ((pk s).data.length : Int)) = true by (first | (simp; done) | (simp; omega) | omega)) (ev_g (show decide ((0 : Int) ≤ 4 ∧ (4 : Int) ≤ 6 ∧ (6 : Int) ≤ (D.length : Int)) = true by (first | (simp; done) | (simp; omega) | omega)) (ev_t (show decide (List.drop 4 (List.take 6 (pk s).data) = List.drop 4 (List.take 6 D)) = true by rw [m]; simp) (ev_g (show decide ((0 : Int) ≤ 8 ∧ (8 : Int) ≤ ((pk s).data.length : Int) ∧ ((pk s).data.length : Int) ≤ ((pk s).data.length : Int)) = true by (first | (simp; done) | (simp; omega) | omega)) (ev_g (show decide ((0 : Int) ≤ 8 ∧ (8 : Int) ≤ (D.length : Int) ∧ (D.length : Int) ≤ (D.length : Int)) = true by (first | (simp; done) | (simp; omega) | omega)) (ev_r ?_))))))))
      show (decide (List.drop 8 (List.take (Int.toNat ((pk s).data.length : Int)) (pk s).data) = List.drop 8 (List.take (Int.toNat (D.length : Int)) D)), ()) = (true, ())
      rw [td, td2, t2]; simp
theorem swapRight_true {s : List UInt8} {a p : Int} {f : Bool} (b0 : s.length ≤ 140737488351232) (h1 : 0 ≤ a ∧ a ≤ 4294967295) (h2 : -9223372036854775808 ≤ p ∧ p ≤ 9223372036854775807) :
    (swapRight_tree (s, (a, (p, (f, ()))))).eval = some (true, ()) := right_law s a p f (by unfold Lim; omega) h1
end Go.Proofs.Ytkfpdgibaadmbaa.X
