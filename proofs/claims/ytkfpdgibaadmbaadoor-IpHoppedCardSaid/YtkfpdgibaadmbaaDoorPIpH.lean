/- ip: a hop; the law IpHopped. Conditions: none. -/
import Derived.Test.YtkfpdgibaadmbaaDoorPIpL
namespace Go.Proofs.YtkfpdgibaadmbaaDoor.X
open Go Go.RowKit Go.Proofs.YtkfpdgibaadmbaaDoor.Abs Go.Proofs.YtkfpdgibaadmbaaDoor.Bits
set_option linter.unusedVariables false
set_option linter.unnecessarySimpa false
set_option linter.unusedSimpArgs false
set_option maxRecDepth 100000

/-! ### IpHopped -/
theorem hopWord (k c : Int) (hk : 0 ≤ k ∧ k ≤ 255) (hc : 0 ≤ c ∧ c ≤ 255) : bits BinOp.or IntKind.i64 (IntKind.wrap IntKind.i64 (k * (2 : Int) ^ (8 : Nat))) c = k * 256 + c := by
  have e3 : IntKind.i64.wrap (k * 2 ^ 8) = k * 2 ^ 8 := wrapI64 ⟨by omega, by omega⟩
  rw [e3, bits_or_disjoint .i64 8 k c (by omega) (by omega) (by omega) (by show _ < (2 : Int) ^ 64; omega) (fun _ => by show _ < (2 : Int) ^ 63; omega)]
  omega
theorem take_drop (l : List UInt8) (n m : Nat) : (l.take n).drop m = (l.drop m).take (n - m) := List.drop_take ..
set_option maxHeartbeats 1000000 in
theorem hop_ok (x0 x1 x2 x3 x4 x5 x6 x7 x8 x9 x10 x11 : UInt8) (r : List UInt8) (s : List UInt8) (hs : s = x0 :: x1 :: x2 :: x3 :: x4 :: x5 :: x6 :: x7 :: x8 :: x9 :: x10 :: x11 :: r) (h : IpOk s) (hl : 2 ≤ x8.toNat) (y8 : UInt8) (hy8 : (y8.toNat : Int) = x8.toNat - 1) (C : Int)
    (hC : C = 65535 - (ear (65535 - (wv x10 x11).toNat + (65535 - (wv x8 x9).toNat) + (wv y8 x9).toNat) : Int)) (al : Nat) (hal : alln s = al) (t : List UInt8) (ht : t = x0 :: x1 :: x2 :: x3 :: x4 :: x5 :: x6 :: x7 :: y8 :: x9 :: byteOf (C / 256) :: byteOf C :: r.take (al - 12)) :
    IpOk t ∧ pk t = { pk s with life := (pk s).life - 1 } ∧ t.length = al := by
  have e0 : hn t = hn s := by rw [ht, hs]; rfl
  have e2 : wAt t 2 = wAt s 2 := by rw [ht, hs]; rfl
  have ea : alln t = al := by rw [← hal]; unfold alln; rw [e2]
  have e6 : wAt t 6 = wAt s 6 := by rw [ht, hs]; rfl
  obtain ⟨h1, h2, h3, h4, h5, h6, h7, h8, h9, h10⟩ := h
  rw [hal] at h3 h6
  have hlen : s.length = r.length + 12 := by rw [hs]; simp
  have htl : t.length = al := by rw [ht]; simp; omega
  have hg : ∀ i, i + 12 < al → (r.take (al - 12)).getD i 0 = r.getD i 0 := fun i hi => by
    rw [List.getD_eq_getElem?_getD, List.getElem?_take, if_pos (by omega), ← List.getD_eq_getElem?_getD]
  have l12 : lAt t 12 = lAt s 12 := by
    rw [ht, hs]
    show wv ((r.take (al - 12)).getD 0 0) ((r.take (al - 12)).getD 1 0) * 65536 + wv ((r.take (al - 12)).getD 2 0) ((r.take (al - 12)).getD 3 0) = wv (r.getD 0 0) (r.getD 1 0) * 65536 + wv (r.getD 2 0) (r.getD 3 0)
    rw [hg 0 (by omega), hg 1 (by omega), hg 2 (by omega), hg 3 (by omega)]
  have l16 : lAt t 16 = lAt s 16 := by
    rw [ht, hs]
    show wv ((r.take (al - 12)).getD 4 0) ((r.take (al - 12)).getD 5 0) * 65536 + wv ((r.take (al - 12)).getD 6 0) ((r.take (al - 12)).getD 7 0) = wv (r.getD 4 0) (r.getD 5 0) * 65536 + wv (r.getD 6 0) (r.getD 7 0)
    rw [hg 4 (by omega), hg 5 (by omega), hg 6 (by omega), hg 7 (by omega)]
  have hdr : ∀ m, 12 ≤ m → t.drop m = (s.take (al)).drop m := fun m hm => by
    obtain ⟨j, rfl⟩ : ∃ j, m = j + 12 := ⟨m - 12, by omega⟩
    obtain ⟨a, ha⟩ : ∃ a, al = a + 12 := ⟨al - 12, by omega⟩
    rw [ht, ha, hs]
    show List.drop j (r.take (a + 12 - 12)) = List.drop j (r.take a)
    rw [Nat.add_sub_cancel]
  have hpk : pk t = { pk s with life := (pk s).life - 1 } := by
    have p8 : ((t.getD 8 0).toNat : Int) = ((s.getD 8 0).toNat : Int) - 1 := by rw [ht, hs]; exact hy8
    have p1 : t.getD 1 0 = s.getD 1 0 := by rw [ht, hs]; rfl
    have p9 : t.getD 9 0 = s.getD 9 0 := by rw [ht, hs]; rfl
    have p4 : wAt t 4 = wAt s 4 := by rw [ht, hs]; rfl
    have d1 : (t.take (hn s)).drop 20 = (s.take (hn s)).drop 20 := by
      rw [take_drop, hdr 20 (by omega), take_drop s (hn s), take_drop s (al), List.take_take, Nat.min_eq_left (by omega)]
    have d2 : (t.take (al)).drop (hn s) = (s.take (al)).drop (hn s) := by
      rw [List.take_of_length_le (by omega), hdr _ (by omega)]
    unfold pk
    rw [e0, ea, hal, l12, l16, e6, p4, p1, p9, p8, d1, d2]
  have hb8 : (pk s).life = (x8.toNat : Int) := by rw [hs]; rfl
  have u8 := u8n x8
  refine ⟨⟨by omega, by omega, by omega, ?_, by omega, by omega, by omega, ?_, ?_, ?_⟩, hpk, htl⟩
  · rw [ht]; rw [hs] at h4; exact h4
  · rw [hpk]; exact ⟨h8.tos, by show 0 ≤ (pk s).life - 1 ∧ (pk s).life - 1 ≤ 255; omega, h8.proto, h8.id, h8.start, h8.opt, h8.four, h8.one, h8.data⟩
  · obtain ⟨m, hm⟩ : ∃ m, hn s = m + 12 := ⟨hn s - 12, by omega⟩
    have hv : x0.toNat / 16 = 4 := by rw [hs] at h4; exact h4
    rw [e0, hm, ht]
    show ws (x0 :: x1 :: _) ≠ 0
    have := ws_cons2 x0 x1 (List.take (m + 10) (x2 :: x3 :: x4 :: x5 :: x6 :: x7 :: y8 :: x9 :: byteOf (C / 256) :: byteOf C :: r.take (al - 12)))
    have b := wv_bound x0 x1
    have : wv x0 x1 ≠ 0 := by unfold wv; omega
    intro hz
    have hz' : ws (x0 :: x1 :: (List.take (m + 10) (x2 :: x3 :: x4 :: x5 :: x6 :: x7 :: y8 :: x9 :: byteOf (C / 256) :: byteOf C :: r.take (al - 12)))) = 0 := hz
    omega
  · obtain ⟨m, hm⟩ : ∃ m, hn s = m + 12 := ⟨hn s - 12, by omega⟩
    have hts : ws (s.take (m + 12)) % 65535 = 0 := by rw [← hm]; exact h10
    rw [e0, hm]
    have hrm : (r.take (al - 12)).take m = r.take m := by rw [List.take_take, Nat.min_eq_left (by omega)]
    have f1 : t.take (m + 12) = x0 :: x1 :: x2 :: x3 :: x4 :: x5 :: x6 :: x7 :: y8 :: x9 :: byteOf (C / 256) :: byteOf C :: r.take m := by rw [ht, ← hrm]; rfl
    have f2 : s.take (m + 12) = x0 :: x1 :: x2 :: x3 :: x4 :: x5 :: x6 :: x7 :: x8 :: x9 :: x10 :: x11 :: r.take m := by rw [hs]; rfl
    rw [f1]
    rw [f2] at hts
    have g1 : (ws (x0 :: x1 :: x2 :: x3 :: x4 :: x5 :: x6 :: x7 :: y8 :: x9 :: byteOf (C / 256) :: byteOf C :: r.take m) : Int) = wv x0 x1 + (wv x2 x3 + (wv x4 x5 + (wv x6 x7 + (wv y8 x9 + (C % 65536 + ws (r.take m)))))) := by
      rw [ws_cons2, ws_cons2, ws_cons2, ws_cons2, ws_cons2, ws_cons2, wv_wd]
    have g2 : (ws (x0 :: x1 :: x2 :: x3 :: x4 :: x5 :: x6 :: x7 :: x8 :: x9 :: x10 :: x11 :: r.take m) : Int) = wv x0 x1 + (wv x2 x3 + (wv x4 x5 + (wv x6 x7 + (wv x8 x9 + (wv x10 x11 + ws (r.take m)))))) := by
      rw [ws_cons2, ws_cons2, ws_cons2, ws_cons2, ws_cons2, ws_cons2]
    have b1 := wv_bound x8 x9; have b2 := wv_bound x10 x11; have b3 := wv_bound y8 x9
    have hem := ear_mod (65535 - (wv x10 x11).toNat + (65535 - (wv x8 x9).toNat) + (wv y8 x9).toNat)
    have hel := ear_le (65535 - (wv x10 x11).toNat + (65535 - (wv x8 x9).toNat) + (wv y8 x9).toNat)
    generalize ear (65535 - (wv x10 x11).toNat + (65535 - (wv x8 x9).toNat) + (wv y8 x9).toNat) = E at *
    have hC2 : C % 65536 = C := by omega
    rw [hC2] at g1
    clear hel hC2 hg hdr
    generalize ws (x0 :: x1 :: x2 :: x3 :: x4 :: x5 :: x6 :: x7 :: y8 :: x9 :: byteOf (C / 256) :: byteOf C :: List.take m r) = A at *
    generalize ws (x0 :: x1 :: x2 :: x3 :: x4 :: x5 :: x6 :: x7 :: x8 :: x9 :: x10 :: x11 :: List.take m r) = B at *
    have hE : ((E : Int) - ((65535 - wv x10 x11) + (65535 - wv x8 x9) + wv y8 x9)) % 65535 = 0 := by omega
    have hAB : ((A : Int) - B) % 65535 = 0 := by
      have : (A : Int) - B = -((E : Int) - ((65535 - wv x10 x11) + (65535 - wv x8 x9) + wv y8 x9)) - 65535 := by omega
      omega
    omega
theorem un1 : ∀ (s : List UInt8) (n : Nat), n + 1 ≤ s.length → ∃ x r, s = x :: r ∧ n ≤ r.length
  | [], n, h => by simp at h
  | x :: r, n, h => ⟨x, r, rfl, by simpa using h⟩
theorem un12 (s : List UInt8) (h : 12 ≤ s.length) : ∃ x0 x1 x2 x3 x4 x5 x6 x7 x8 x9 x10 x11 r, s = x0 :: x1 :: x2 :: x3 :: x4 :: x5 :: x6 :: x7 :: x8 :: x9 :: x10 :: x11 :: r := by
  obtain ⟨x0, r0, rfl, g0⟩ := un1 s 11 h
  obtain ⟨x1, r1, rfl, g1⟩ := un1 r0 10 g0
  obtain ⟨x2, r2, rfl, g2⟩ := un1 r1 9 g1
  obtain ⟨x3, r3, rfl, g3⟩ := un1 r2 8 g2
  obtain ⟨x4, r4, rfl, g4⟩ := un1 r3 7 g3
  obtain ⟨x5, r5, rfl, g5⟩ := un1 r4 6 g4
  obtain ⟨x6, r6, rfl, g6⟩ := un1 r5 5 g5
  obtain ⟨x7, r7, rfl, g7⟩ := un1 r6 4 g6
  obtain ⟨x8, r8, rfl, g8⟩ := un1 r7 3 g7
  obtain ⟨x9, r9, rfl, g9⟩ := un1 r8 2 g8
  obtain ⟨x10, r10, rfl, g10⟩ := un1 r9 1 g9
  obtain ⟨x11, r11, rfl, g11⟩ := un1 r10 0 g10
  exact ⟨_, _, _, _, _, _, _, _, _, _, _, _, _, rfl⟩
theorem hop_end {s : List UInt8} (h : IpOk s) (hl : s.length ≤ Lim) (h2 : (pk s).life < 2) : ipHop_fn (s, ()) = some ([], (7, ())) := by
  unfold ipHop_fn ipHop_tree
  exact ev_opt (ipRead_ok h hl) (ev_f rfl (ev_t (decide_eq_true h2) (ev_r rfl)))
theorem hop_fn {s : List UInt8} (h : IpOk s) (hl : s.length ≤ Lim) (h2 : 2 ≤ (pk s).life) : ∃ t, ipHop_fn (s, ()) = some (t, (0, ())) ∧ IpOk t ∧ pk t = { pk s with life := (pk s).life - 1 } ∧ t.length ≤ s.length := by
  obtain ⟨x0, x1, x2, x3, x4, x5, x6, x7, x8, x9, x10, x11, r, hs⟩ := un12 s (by have := h.len; omega)
  have hlife : (pk s).life = (x8.toNat : Int) := by rw [hs]; rfl
  have hproto : (pk s).proto = (x9.toNat : Int) := by rw [hs]; rfl
  have hw8 : wAt s 8 = wv x8 x9 := by rw [hs]; rfl
  have hw10 : wAt s 10 = wv x10 x11 := by rw [hs]; rfl
  have u8 := u8n x8; have u9 := u8n x9
  have b8 := wv_bound x8 x9; have b10 := wv_bound x10 x11; have b2 := wAt_bound s 2
  have hal : (alln s : Int) = wAt s 2 := by unfold alln; omega
  have hlen := h.len; have hall := h.all; have h20 := h.h20; have hha := h.hall
  generalize hV : ((x8.toNat : Int) - 1) * 256 + x9.toNat = V
  have hVb : 0 ≤ V ∧ V ≤ 65535 := by omega
  have hy : ((byteOf (V / 256)).toNat : Int) = (x8.toNat : Int) - 1 := by rw [byteOf_nat]; omega
  have hyv : wv (byteOf (V / 256)) x9 = V := by unfold wv; rw [hy]; omega
  have hb9 : byteOf V = x9 := by
    rw [← byteOf_self x9]; unfold byteOf
    have : V % 256 = (x9.toNat : Int) % 256 := by omega
    rw [this]
  obtain ⟨C, hC⟩ : ∃ C : Int, C = 65535 - (ear (65535 - (wv x10 x11).toNat + (65535 - (wv x8 x9).toNat) + (wv (byteOf (V / 256)) x9).toNat) : Int) := ⟨_, rfl⟩
  have hCb : 0 ≤ C ∧ C ≤ 65535 := by
    have := ear_le (65535 - (wv x10 x11).toNat + (65535 - (wv x8 x9).toNat) + (wv (byteOf (V / 256)) x9).toNat)
    omega
  obtain ⟨k1, k2, k3⟩ := hop_ok x0 x1 x2 x3 x4 x5 x6 x7 x8 x9 x10 x11 r s hs h (by omega) (byteOf (V / 256)) hy C hC (alln s) rfl _ rfl
  refine ⟨_, ?_, k1, k2, by omega⟩
  have hor : bits BinOp.or IntKind.i64 (IntKind.wrap IntKind.i64 (IntKind.wrap IntKind.i64 ((pk s).life - (1 : Int)) * (2 : Int) ^ (8 : Nat))) (pk s).proto = V := by
    rw [hlife, hproto, show IntKind.wrap IntKind.i64 ((x8.toNat : Int) - 1) = (x8.toNat : Int) - 1 from wrapI64 ⟨by omega, by omega⟩, hopWord _ _ ⟨by omega, by omega⟩ ⟨by omega, by omega⟩]
    exact hV
  have hVw : IntKind.wrap IntKind.u16 V = V := by rw [wrap16u]; omega
  have hVi : IntKind.wrap IntKind.i64 V = V := wrapI64 ⟨by omega, by omega⟩
  have hCi : IntKind.wrap IntKind.i64 C = C := wrapI64 ⟨by omega, by omega⟩
  have hfix : sumFix_fn (IntKind.wrap IntKind.u16 (wAt s 10), (IntKind.wrap IntKind.u16 (wAt s 8), (IntKind.wrap IntKind.u16 (bits BinOp.or IntKind.i64 (IntKind.wrap IntKind.i64 (IntKind.wrap IntKind.i64 ((pk s).life - (1 : Int)) * (2 : Int) ^ (8 : Nat))) (pk s).proto), ()))) = some (C, ()) := by
    rw [hor, hVw, hw8, hw10]
    have e1 : IntKind.wrap IntKind.u16 (wv x10 x11) = ((wv x10 x11).toNat : Int) := by rw [wrap16u]; omega
    have e2 : IntKind.wrap IntKind.u16 (wv x8 x9) = ((wv x8 x9).toNat : Int) := by rw [wrap16u]; omega
    have e3 : V = ((wv (byteOf (V / 256)) x9).toNat : Int) := by rw [hyv]; omega
    rw [e1, e2, hC]
    conv => lhs; rw [e3]
    exact fix_fn _ _ _ (by omega) (by omega) (by rw [hyv]; omega)
  have ht : List.drop 0 (List.take 8 s) ++ wd V ++ wd C ++ List.drop 12 (List.take (Int.toNat (wAt s 2)) s) = x0 :: x1 :: x2 :: x3 :: x4 :: x5 :: x6 :: x7 :: byteOf (V / 256) :: x9 :: byteOf (C / 256) :: byteOf C :: r.take (alln s - 12) := by
    rw [← hal, Int.toNat_natCast]
    obtain ⟨a, ha⟩ : ∃ a, alln s = a + 12 := ⟨alln s - 12, by omega⟩
    rw [ha, Nat.add_sub_cancel, hs]
    show x0 :: x1 :: x2 :: x3 :: x4 :: x5 :: x6 :: x7 :: byteOf (V / 256) :: byteOf V :: byteOf (C / 256) :: byteOf C :: r.take a = _
    rw [hb9]
  unfold ipHop_fn ipHop_tree
  refine ev_opt (ipRead_ok h hl) (ev_f rfl (ev_f (decide_eq_false (by show ¬ (pk s).life < 2; omega)) (ev_opt (ipAt_ok s 8 (by omega) hl) (ev_g rfl (ev_opt (ipAt_ok s 10 (by omega) hl) (ev_opt hfix (ev_g (by simp; omega) (ev_opt (ipWd_ok _) ?_))))))))
  refine ev_g (by simp [wd]; unfold Lim at hl; omega) (ev_opt (ipWd_ok _) (ev_g (by simp [wd]; unfold Lim at hl; omega) (ev_opt (ipAt_ok s 2 (by omega) hl) (ev_g (decide_eq_true ⟨by omega, by show (12 : Int) ≤ wAt s 2; omega, by show wAt s 2 ≤ (s.length : Int); omega⟩) (ev_g ?_ (ev_r ?_))))))
  · refine decide_eq_true ?_
    simp only [List.length_append, List.length_drop, List.length_take]
    unfold Lim at hl
    simp [wd]; omega
  · show (_ ++ wd (IntKind.wrap IntKind.i64 (IntKind.wrap IntKind.u16 (bits BinOp.or IntKind.i64 (IntKind.wrap IntKind.i64 (IntKind.wrap IntKind.i64 ((pk s).life - (1 : Int)) * (2 : Int) ^ (8 : Nat))) (pk s).proto))) ++ wd (IntKind.wrap IntKind.i64 C) ++ _, _) = _
    rw [hor, hVw, hVi, hCi]
    exact congrArg (fun q => (q, ((0 : Int), ()))) ht
theorem ev_srH {α β γ : Type} {x : γ} {f : β → Tr α} {g : γ → Tr α} {r : Option α} (h : (g x).eval = r) : (Tr.sum (.inr x) f g).eval = r := h
theorem hop_bad {s : List UInt8} (h : ¬ IpOk s) (hl : s.length ≤ Lim) : ∃ e : Int, e ≠ 0 ∧ ipRead_fn (s, ()) = some (p11 zp (e, ())) ∧ ipHop_fn (s, ()) = some ([], (e, ())) := by
  obtain ⟨e, ⟨he, _⟩, hr⟩ := ipRead_bad h hl
  refine ⟨e, he, hr, ?_⟩
  unfold ipHop_fn ipHop_tree
  exact ev_opt hr (ev_t (by show (!decide (e = 0)) = true; rw [decide_eq_false he]; rfl) (ev_r rfl))
theorem hopped_loop : ∀ (d n : Nat) (t : List UInt8) (p : TPacket) (k : Nat), IpOk t → t.length ≤ Lim → pk t = { p with life := p.life - 1 } → p.life = (d : Int) + 2 → d ≤ 300 → n + d ≤ 290 → d + 2 < k →
    ∃ (n' : Nat) (p' : TPacket), loopO 40006 (fun x => (ipHopped_step4_6 x).eval) k ((n : Int), (t, ((0 : Int), p11 p ()))) = some (.inr ((n' : Int), ((7 : Int), p11 p' ()))) ∧ p'.life ≤ 1 ∧ n' < 300 := by
  intro d
  induction d with
  | zero =>
    intro n t p k h hl hpk hlife hd hn hk
    obtain ⟨k, rfl⟩ : ∃ m, k = m + 1 + 1 := ⟨k - 2, by omega⟩
    have hrd := ipRead_ok h hl
    have hw : IntKind.wrap IntKind.i64 (p.life - (1 : Int)) = p.life - 1 := wrapI64 ⟨by omega, by omega⟩
    have hl2 : (pk t).life < 2 := by rw [hpk]; show p.life - 1 < 2; omega
    have step : (ipHopped_step4_6 ((n : Int), (t, ((0 : Int), p11 p ())))).eval = some (.inl (((n + 1 : Nat) : Int), ([], ((7 : Int), p11 { p with life := p.life - 1 } ())))) := by
      refine ev_t rfl (ev_t (decide_eq_true (by omega)) (ev_opt hrd (ev_f rfl (ev_f ?_ (ev_opt (hop_end h hl hl2) (ev_r ?_))))))
      · rw [hpk, hw]; simp [p11]
      · rw [next_i64 n (by omega), hw]; rfl
    rw [loopO_in step]
    refine ⟨n + 1, { p with life := p.life - 1 }, loopO_out (show (ipHopped_step4_6 _).eval = _ from ev_f rfl (ev_r rfl)), by show p.life - 1 ≤ 1; omega, by omega⟩
  | succ d ih =>
    intro n t p k h hl hpk hlife hd hn hk
    obtain ⟨k, rfl⟩ : ∃ m, k = m + 1 := ⟨k - 1, by omega⟩
    have hrd := ipRead_ok h hl
    have hw : IntKind.wrap IntKind.i64 (p.life - (1 : Int)) = p.life - 1 := wrapI64 ⟨by omega, by omega⟩
    obtain ⟨t', hh, h', hpk', hlen'⟩ := hop_fn h hl (by rw [hpk]; show 2 ≤ p.life - 1; omega)
    have step : (ipHopped_step4_6 ((n : Int), (t, ((0 : Int), p11 p ())))).eval = some (.inl (((n + 1 : Nat) : Int), (t', ((0 : Int), p11 { p with life := p.life - 1 } ())))) := by
      refine ev_t rfl (ev_t (decide_eq_true (by omega)) (ev_opt hrd (ev_f rfl (ev_f ?_ (ev_opt hh (ev_r ?_))))))
      · rw [hpk, hw]; simp [p11]
      · rw [next_i64 n (by omega), hw]; rfl
    rw [loopO_in step]
    exact ih (n + 1) t' { p with life := p.life - 1 } k h' (by omega) (by rw [hpk', hpk]) (by show p.life - 1 = (d : Int) + 2; omega) (by omega) (by omega) (by omega)
theorem ipHopped_true {s : List UInt8} (b0 : s.length ≤ 140737488351232) : (ipHopped_tree (s, ())).eval = some (true, ()) := by
  have hl : s.length ≤ Lim := by unfold Lim; omega
  unfold ipHopped_tree
  by_cases h : IpOk s
  case neg =>
    obtain ⟨e, he, hr, hh⟩ := hop_bad h hl
    exact ev_opt hr (ev_opt hh (ev_opt ipLives_ok (ev_f rfl (ev_t (by show (!decide (e = 0)) = true; rw [decide_eq_false he]; rfl) (ev_opt ipLives_ok (ev_t rfl (ev_t (decide_eq_true rfl) (ev_r rfl))))))))
  have hrd := ipRead_ok h hl
  have hlb := h.ref.life
  by_cases h2 : (pk s).life < 2
  · have hend : ipHopped_loop4_6 ((0 : Int), ([], ((7 : Int), p11 (pk s) ()))) = some (.inr ((0 : Int), ((7 : Int), p11 (pk s) ()))) := loopO_out (show (ipHopped_step4_6 _).eval = _ from ev_f rfl (ev_r rfl))
    exact ev_opt hrd (ev_opt (hop_end h hl h2) (ev_opt ipLives_ok (ev_f rfl (ev_f rfl (ev_opt hend (ev_srH (ev_t rfl (ev_t (decide_eq_true (by show (pk s).life ≤ 1; omega)) (ev_r rfl)))))))))
  · obtain ⟨t, hh, h', hpk', hlen'⟩ := hop_fn h hl (by omega)
    obtain ⟨n', p', hloop, hp', hn'⟩ := hopped_loop ((pk s).life - 2).toNat 0 t (pk s) 18446744073709551616 h' (by omega) hpk' (by omega) (by omega) (by omega) (by omega)
    exact ev_opt hrd (ev_opt hh (ev_opt ipLives_ok (ev_f rfl (ev_f rfl (ev_opt (show ipHopped_loop4_6 _ = _ from hloop) (ev_srH (ev_t rfl (ev_t (decide_eq_true hp') (ev_r (by rw [decide_eq_true (show (n' : Int) < 300 by omega)]))))))))))
end Go.Proofs.YtkfpdgibaadmbaaDoor.X
