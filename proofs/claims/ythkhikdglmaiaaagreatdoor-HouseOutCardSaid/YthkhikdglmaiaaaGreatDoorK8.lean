/- Texts towards the law HouseOut, put together (part 8): an abstract walk and its proof, functions of the program as trees, and plain laws. Conditions: none. -/
import Derived.KernelRfl
import Derived.Test.YthkhikdglmaiaaaGreatDoorK7
namespace Go.Proofs.YthkhikdglmaiaaaGreatDoor.X
open Go Go.RowKit Go.Proofs.YthkhikdglmaiaaaGreatDoor.Abs Go.Proofs.YthkhikdglmaiaaaGreatDoor.Bits
set_option linter.unusedVariables false
set_option linter.unnecessarySimpa false
set_option linter.unusedSimpArgs false
set_option maxRecDepth 100000
theorem swp_len {s : List UInt8} (h : EndOk s) (a p : Int) (i off : Nat) : (swp s a p i off).length = alln s := by
 obtain ⟨l1, l2, l3, l4, l5, l6, l7⟩ := end_len h
 unfold swp; rw [List.length_append, gNew_len, dNew_len]; omega
theorem from_ok {s : List UInt8} (h : EndOk s) (hl : s.length <= Lim) {a p : Int} (ha : U32 a) (hp : U16 p) : swFrom_fn (s, (a, (p, ()))) = some (swp s a p 12 0, ((0 : Int), ())) :=
 ev_opt (swapped_ok h hl (i := 12) (off := 0) ha hp (.inl rfl) (.inl rfl)) (ev_r rfl)
theorem to_ok {s : List UInt8} (h : EndOk s) (hl : s.length <= Lim) {a p : Int} (ha : U32 a) (hp : U16 p) : swTo_fn (s, (a, (p, ()))) = some (swp s a p 16 2, ((0 : Int), ())) :=
 ev_opt (swapped_ok h hl (i := 16) (off := 2) ha hp (.inr rfl) (.inr rfl)) (ev_r rfl)
theorem cOf_two (s : List UInt8) : cOf s = 6 \/ cOf s = 16 := by unfold cOf; split <;> simp
theorem from_ends {s : List UInt8} (h : EndOk s) {a p : Int} (ha : U32 a) (hp : U16 p) :
   EndOk (swp s a p 12 0) /\ (pk (swp s a p 12 0)).from' = a /\ (pk (swp s a p 12 0)).to = (pk s).to /\ wAt (pk (swp s a p 12 0)).data 0 = p /\ wAt (pk (swp s a p 12 0)).data 2 = wAt (pk s).data 2 /\ (swp s a p 12 0).getD 9 0 = s.getD 9 0 := by
 obtain ⟨h1, h2, h3, ⟨k, h4⟩, h5⟩ := swp_all h (i := 12) (off := 0) ha hp (.inl rfl) (.inl rfl)
 obtain ⟨l1, l2, l3, l4, l5, l6, l7⟩ := end_len h
 have hc := cOf_two s
 refine ⟨h1, by rw [h2]; rfl, by rw [h2]; rfl, ?_, ?_, h3⟩
 · rw [h2]; show wAt (dNew _ _ _ _ _ _ _ _) 0 = p
   rw [h4, wAt_setW_ne _ _ _ _ (by simp only [setW_len]; omega) (by omega), wAt_setW _ _ _ (by omega), u16_mod hp]
 · rw [h2]; show wAt (dNew _ _ _ _ _ _ _ _) 2 = _
   rw [h4, wAt_setW_ne _ _ _ _ (by simp only [setW_len]; omega) (by omega), wAt_setW_ne _ _ _ _ (by omega) (by omega)]
theorem ipWd_ok (x : Int) : ipWord_fn (x, ()) = some (wd x, ()) := by
 unfold ipWord_fn ipWord_tree
 simp only [wrap8u, fdiv8]
 exact ev_g rfl (ev_g (by (first | (simp; done) | (simp; omega) | omega)) (ev_g (by (first | (simp; done) | (simp; omega) | omega)) (ev_r rfl)))
def ifl (p : TPacket) : Int := p.start + (if p.whole then 16384 else 0) + (if p.more then 8192 else 0)
def iA (p : TPacket) : List UInt8 := [byteOf (64 + (20 + p.options.length) / 4), byteOf p.tos] ++ wd (20 + p.options.length + p.data.length) ++ wd p.id ++ wd (ifl p) ++ [byteOf p.life, byteOf p.proto]
def iB (p : TPacket) : List UInt8 := lg p.from' ++ lg p.to ++ p.options
def ick (p : TPacket) : Int := 65535 - (ear (ws (iA p ++ iB p)) : Int)
def ib (p : TPacket) : List UInt8 := iA p ++ wd (ick p) ++ iB p ++ p.data
theorem hopWord (k c : Int) (hk : 0 <= k /\ k <= 255) (hc : 0 <= c /\ c <= 255) : bits BinOp.or IntKind.i64 (IntKind.wrap IntKind.i64 (k * (2 : Int) ^ (8 : Nat))) c = k * 256 + c := by
 have e3 : IntKind.i64.wrap (k * 2 ^ 8) = k * 2 ^ 8 := wrapI64 ⟨by omega, by omega⟩
 rw [e3, bits_or_disjoint .i64 8 k c (by omega) (by omega) (by omega) (by show _ < (2 : Int) ^ 64; omega) (fun _ => by show _ < (2 : Int) ^ 63; omega)]
 omega
theorem take_drop (l : List UInt8) (n m : Nat) : (l.take n).drop m = (l.drop m).take (n - m) := List.drop_take ..
set_option maxHeartbeats 1000000 in
theorem hop_ok (x0 x1 x2 x3 x4 x5 x6 x7 x8 x9 x10 x11 : UInt8) (r : List UInt8) (s : List UInt8) (hs : s = x0 :: x1 :: x2 :: x3 :: x4 :: x5 :: x6 :: x7 :: x8 :: x9 :: x10 :: x11 :: r) (h : IpOk s) (hl : 2 <= x8.toNat) (y8 : UInt8) (hy8 : (y8.toNat : Int) = x8.toNat - 1) (C : Int)
   (hC : C = 65535 - (ear (65535 - (wv x10 x11).toNat + (65535 - (wv x8 x9).toNat) + (wv y8 x9).toNat) : Int)) (al : Nat) (hal : alln s = al) (t : List UInt8) (ht : t = x0 :: x1 :: x2 :: x3 :: x4 :: x5 :: x6 :: x7 :: y8 :: x9 :: byteOf (C / 256) :: byteOf C :: r.take (al - 12)) :
   IpOk t /\ pk t = { pk s with life := (pk s).life - 1 } /\ t.length = al := by
 have e0 : hn t = hn s := by rw [ht, hs]; rfl
 have e2 : wAt t 2 = wAt s 2 := by rw [ht, hs]; rfl
 have ea : alln t = al := by rw [<- hal]; unfold alln; rw [e2]
 have e6 : wAt t 6 = wAt s 6 := by rw [ht, hs]; rfl
 obtain ⟨h1, h2, h3, h4, h5, h6, h7, h8, h9, h10⟩ := h
 rw [hal] at h3 h6
 have hlen : s.length = r.length + 12 := by rw [hs]; simp
 have htl : t.length = al := by rw [ht]; simp; omega
 have hg : ∀ i, i + 12 < al -> (r.take (al - 12)).getD i 0 = r.getD i 0 := fun i hi => by
   rw [List.getD_eq_getElem?_getD, List.getElem?_take, if_pos (by omega), <- List.getD_eq_getElem?_getD]
 have l12 : lAt t 12 = lAt s 12 := by
   rw [ht, hs]
   show wv ((r.take (al - 12)).getD 0 0) ((r.take (al - 12)).getD 1 0) * 65536 + wv ((r.take (al - 12)).getD 2 0) ((r.take (al - 12)).getD 3 0) = wv (r.getD 0 0) (r.getD 1 0) * 65536 + wv (r.getD 2 0) (r.getD 3 0)
   rw [hg 0 (by omega), hg 1 (by omega), hg 2 (by omega), hg 3 (by omega)]
 have l16 : lAt t 16 = lAt s 16 := by
   rw [ht, hs]
   show wv ((r.take (al - 12)).getD 4 0) ((r.take (al - 12)).getD 5 0) * 65536 + wv ((r.take (al - 12)).getD 6 0) ((r.take (al - 12)).getD 7 0) = wv (r.getD 4 0) (r.getD 5 0) * 65536 + wv (r.getD 6 0) (r.getD 7 0)
   rw [hg 4 (by omega), hg 5 (by omega), hg 6 (by omega), hg 7 (by omega)]
 have hdr : ∀ m, 12 <= m -> t.drop m = (s.take (al)).drop m := fun m hm => by
   obtain ⟨j, rfl⟩ : ∃ j, m = j + 12 := ⟨m - 12, by omega⟩
   obtain ⟨a, ha⟩ : ∃ a, al = a + 12 := ⟨al - 12, by omega⟩
   rw [ht, ha, hs]
   show List.drop j (r.take (a + 12 - 12)) = List.drop j (r.take a)
   rw [Nat.add_sub_cancel]
 have hpk : pk t = { pk s with life := (pk s).life - 1 } := by
   have p8 : ((t.getD 8 0).toNat : Int) = ((s.getD 8 0).toNat : Int) - 1 := by rw [ht, hs]; exact hy8
   have p1 : t.getD 1 0 = s.getD 1 0 := by rw [ht, hs]; rfl
   have p9 : t.getD 9 0 = s.getD 9 0 := by rw [ht, hs]; rfl
   have p4 : wAt t 4 = wAt s 4 := by rw [ht, hs]; rfl
   have d1 : (t.take (hn s)).drop 20 = (s.take (hn s)).drop 20 := by
    rw [take_drop, hdr 20 (by omega), take_drop s (hn s), take_drop s (al), List.take_take, Nat.min_eq_left (by omega)]
   have d2 : (t.take (al)).drop (hn s) = (s.take (al)).drop (hn s) := by
    rw [List.take_of_length_le (by omega), hdr _ (by omega)]
   unfold pk
   rw [e0, ea, hal, l12, l16, e6, p4, p1, p9, p8, d1, d2]
 have hb8 : (pk s).life = (x8.toNat : Int) := by rw [hs]; rfl
 have u8 := u8n x8
 refine ⟨⟨by omega, by omega, by omega, ?_, by omega, by omega, by omega, ?_, ?_, ?_⟩, hpk, htl⟩
 · rw [ht]; rw [hs] at h4; exact h4
 · rw [hpk]; exact ⟨h8.tos, by show 0 <= (pk s).life - 1 /\ (pk s).life - 1 <= 255; omega, h8.proto, h8.id, h8.start, h8.opt, h8.four, h8.one, h8.data⟩
 · obtain ⟨m, hm⟩ : ∃ m, hn s = m + 12 := ⟨hn s - 12, by omega⟩
   have hv : x0.toNat / 16 = 4 := by rw [hs] at h4; exact h4
   rw [e0, hm, ht]
   show ws (x0 :: x1 :: _) ≠ 0
   have := ws_cons2 x0 x1 (List.take (m + 10) (x2 :: x3 :: x4 :: x5 :: x6 :: x7 :: y8 :: x9 :: byteOf (C / 256) :: byteOf C :: r.take (al - 12)))
   have b := wv_bound x0 x1
   have : wv x0 x1 ≠ 0 := by unfold wv; omega
   intro hz
   have hz' : ws (x0 :: x1 :: (List.take (m + 10) (x2 :: x3 :: x4 :: x5 :: x6 :: x7 :: y8 :: x9 :: byteOf (C / 256) :: byteOf C :: r.take (al - 12)))) = 0 := hz
   omega
 · obtain ⟨m, hm⟩ : ∃ m, hn s = m + 12 := ⟨hn s - 12, by omega⟩
   have hts : ws (s.take (m + 12)) % 65535 = 0 := by rw [<- hm]; exact h10
   rw [e0, hm]
   have hrm : (r.take (al - 12)).take m = r.take m := by rw [List.take_take, Nat.min_eq_left (by omega)]
   have f1 : t.take (m + 12) = x0 :: x1 :: x2 :: x3 :: x4 :: x5 :: x6 :: x7 :: y8 :: x9 :: byteOf (C / 256) :: byteOf C :: r.take m := by rw [ht, <- hrm]; rfl
   have f2 : s.take (m + 12) = x0 :: x1 :: x2 :: x3 :: x4 :: x5 :: x6 :: x7 :: x8 :: x9 :: x10 :: x11 :: r.take m := by rw [hs]; rfl
   rw [f1]
   rw [f2] at hts
   have g1 : (ws (x0 :: x1 :: x2 :: x3 :: x4 :: x5 :: x6 :: x7 :: y8 :: x9 :: byteOf (C / 256) :: byteOf C :: r.take m) : Int) = wv x0 x1 + (wv x2 x3 + (wv x4 x5 + (wv x6 x7 + (wv y8 x9 + (C % 65536 + ws (r.take m)))))) := by
    rw [ws_cons2, ws_cons2, ws_cons2, ws_cons2, ws_cons2, ws_cons2, wv_wd]
   have g2 : (ws (x0 :: x1 :: x2 :: x3 :: x4 :: x5 :: x6 :: x7 :: x8 :: x9 :: x10 :: x11 :: r.take m) : Int) = wv x0 x1 + (wv x2 x3 + (wv x4 x5 + (wv x6 x7 + (wv x8 x9 + (wv x10 x11 + ws (r.take m)))))) := by
    rw [ws_cons2, ws_cons2, ws_cons2, ws_cons2, ws_cons2, ws_cons2]
   have b1 := wv_bound x8 x9; have b2 := wv_bound x10 x11; have b3 := wv_bound y8 x9
   have hem := ear_mod (65535 - (wv x10 x11).toNat + (65535 - (wv x8 x9).toNat) + (wv y8 x9).toNat)
   have hel := ear_le (65535 - (wv x10 x11).toNat + (65535 - (wv x8 x9).toNat) + (wv y8 x9).toNat)
   generalize ear (65535 - (wv x10 x11).toNat + (65535 - (wv x8 x9).toNat) + (wv y8 x9).toNat) = E at *
   have hC2 : C % 65536 = C := by omega
   rw [hC2] at g1
   clear hel hC2 hg hdr
   generalize ws (x0 :: x1 :: x2 :: x3 :: x4 :: x5 :: x6 :: x7 :: y8 :: x9 :: byteOf (C / 256) :: byteOf C :: List.take m r) = A at *
   generalize ws (x0 :: x1 :: x2 :: x3 :: x4 :: x5 :: x6 :: x7 :: x8 :: x9 :: x10 :: x11 :: List.take m r) = B at *
   have hE : ((E : Int) - ((65535 - wv x10 x11) + (65535 - wv x8 x9) + wv y8 x9)) % 65535 = 0 := by omega
   have hAB : ((A : Int) - B) % 65535 = 0 := by
    have : (A : Int) - B = -((E : Int) - ((65535 - wv x10 x11) + (65535 - wv x8 x9) + wv y8 x9)) - 65535 := by omega
    omega
   omega
theorem un1 : ∀ (s : List UInt8) (n : Nat), n + 1 <= s.length -> ∃ x r, s = x :: r /\ n <= r.length
 | [], n, h => by simp at h
 | x :: r, n, h => ⟨x, r, rfl, by simpa using h⟩
theorem un12 (s : List UInt8) (h : 12 <= s.length) : ∃ x0 x1 x2 x3 x4 x5 x6 x7 x8 x9 x10 x11 r, s = x0 :: x1 :: x2 :: x3 :: x4 :: x5 :: x6 :: x7 :: x8 :: x9 :: x10 :: x11 :: r := by
 obtain ⟨x0, r0, rfl, g0⟩ := un1 s 11 h
 obtain ⟨x1, r1, rfl, g1⟩ := un1 r0 10 g0
 obtain ⟨x2, r2, rfl, g2⟩ := un1 r1 9 g1
 obtain ⟨x3, r3, rfl, g3⟩ := un1 r2 8 g2
 obtain ⟨x4, r4, rfl, g4⟩ := un1 r3 7 g3
 obtain ⟨x5, r5, rfl, g5⟩ := un1 r4 6 g4
 obtain ⟨x6, r6, rfl, g6⟩ := un1 r5 5 g5
 obtain ⟨x7, r7, rfl, g7⟩ := un1 r6 4 g6
 obtain ⟨x8, r8, rfl, g8⟩ := un1 r7 3 g7
 obtain ⟨x9, r9, rfl, g9⟩ := un1 r8 2 g8
 obtain ⟨x10, r10, rfl, g10⟩ := un1 r9 1 g9
 obtain ⟨x11, r11, rfl, g11⟩ := un1 r10 0 g10
 exact ⟨_, _, _, _, _, _, _, _, _, _, _, _, _, rfl⟩
theorem hop_end {s : List UInt8} (h : IpOk s) (hl : s.length <= Lim) (h2 : (pk s).life < 2) : ipHop_fn (s, ()) = some ([], (7, ())) := by
 unfold ipHop_fn ipHop_tree
 exact ev_opt (ipRead_ok h hl) (ev_f rfl (ev_t (decide_eq_true h2) (ev_r rfl)))
theorem hop_fnL {s : List UInt8} (h : IpOk s) (hl : s.length <= Lim) (h2 : 2 <= (pk s).life) : ∃ t, ipHop_fn (s, ()) = some (t, (0, ())) /\ IpOk t /\ pk t = { pk s with life := (pk s).life - 1 } /\ t.length <= s.length /\ t.length = alln s := by
 obtain ⟨x0, x1, x2, x3, x4, x5, x6, x7, x8, x9, x10, x11, r, hs⟩ := un12 s (by have := h.len; omega)
 have hlife : (pk s).life = (x8.toNat : Int) := by rw [hs]; rfl
 have hproto : (pk s).proto = (x9.toNat : Int) := by rw [hs]; rfl
 have hw8 : wAt s 8 = wv x8 x9 := by rw [hs]; rfl
 have hw10 : wAt s 10 = wv x10 x11 := by rw [hs]; rfl
 have u8 := u8n x8; have u9 := u8n x9
 have b8 := wv_bound x8 x9; have b10 := wv_bound x10 x11; have b2 := wAt_bound s 2
 have hal : (alln s : Int) = wAt s 2 := by unfold alln; omega
 have hlen := h.len; have hall := h.all; have h20 := h.h20; have hha := h.hall
 generalize hV : ((x8.toNat : Int) - 1) * 256 + x9.toNat = V
 have hVb : 0 <= V /\ V <= 65535 := by omega
 have hy : ((byteOf (V / 256)).toNat : Int) = (x8.toNat : Int) - 1 := by rw [byteOf_nat]; omega
 have hyv : wv (byteOf (V / 256)) x9 = V := by unfold wv; rw [hy]; omega
 have hb9 : byteOf V = x9 := by
   rw [<- byteOf_self x9]; unfold byteOf
   have : V % 256 = (x9.toNat : Int) % 256 := by omega
   rw [this]
 obtain ⟨C, hC⟩ : ∃ C : Int, C = 65535 - (ear (65535 - (wv x10 x11).toNat + (65535 - (wv x8 x9).toNat) + (wv (byteOf (V / 256)) x9).toNat) : Int) := ⟨_, rfl⟩
 have hCb : 0 <= C /\ C <= 65535 := by
   have := ear_le (65535 - (wv x10 x11).toNat + (65535 - (wv x8 x9).toNat) + (wv (byteOf (V / 256)) x9).toNat)
   omega
 obtain ⟨k1, k2, k3⟩ := hop_ok x0 x1 x2 x3 x4 x5 x6 x7 x8 x9 x10 x11 r s hs h (by omega) (byteOf (V / 256)) hy C hC (alln s) rfl _ rfl
 refine ⟨_, ?_, k1, k2, by omega, k3⟩
 have hor : bits BinOp.or IntKind.i64 (IntKind.wrap IntKind.i64 (IntKind.wrap IntKind.i64 ((pk s).life - (1 : Int)) * (2 : Int) ^ (8 : Nat))) (pk s).proto = V := by
   rw [hlife, hproto, show IntKind.wrap IntKind.i64 ((x8.toNat : Int) - 1) = (x8.toNat : Int) - 1 from wrapI64 ⟨by omega, by omega⟩, hopWord _ _ ⟨by omega, by omega⟩ ⟨by omega, by omega⟩]
   exact hV
 have hVw : IntKind.wrap IntKind.u16 V = V := by rw [wrap16u]; omega
 have hVi : IntKind.wrap IntKind.i64 V = V := wrapI64 ⟨by omega, by omega⟩
 have hCi : IntKind.wrap IntKind.i64 C = C := wrapI64 ⟨by omega, by omega⟩
 have hfix : sumFix_fn (IntKind.wrap IntKind.u16 (wAt s 10), (IntKind.wrap IntKind.u16 (wAt s 8), (IntKind.wrap IntKind.u16 (bits BinOp.or IntKind.i64 (IntKind.wrap IntKind.i64 (IntKind.wrap IntKind.i64 ((pk s).life - (1 : Int)) * (2 : Int) ^ (8 : Nat))) (pk s).proto), ()))) = some (C, ()) := by
   rw [hor, hVw, hw8, hw10]
   have e1 : IntKind.wrap IntKind.u16 (wv x10 x11) = ((wv x10 x11).toNat : Int) := by rw [wrap16u]; omega
   have e2 : IntKind.wrap IntKind.u16 (wv x8 x9) = ((wv x8 x9).toNat : Int) := by rw [wrap16u]; omega
   have e3 : V = ((wv (byteOf (V / 256)) x9).toNat : Int) := by rw [hyv]; omega
   rw [e1, e2, hC]
   conv => lhs; rw [e3]
   exact fix_fn _ _ _ (by omega) (by omega) (by rw [hyv]; omega)
 have ht : List.drop 0 (List.take 8 s) ++ wd V ++ wd C ++ List.drop 12 (List.take (Int.toNat (wAt s 2)) s) = x0 :: x1 :: x2 :: x3 :: x4 :: x5 :: x6 :: x7 :: byteOf (V / 256) :: x9 :: byteOf (C / 256) :: byteOf C :: r.take (alln s - 12) := by
   rw [<- hal, Int.toNat_natCast]
   obtain ⟨a, ha⟩ : ∃ a, alln s = a + 12 := ⟨alln s - 12, by omega⟩
   rw [ha, Nat.add_sub_cancel, hs]
   show x0 :: x1 :: x2 :: x3 :: x4 :: x5 :: x6 :: x7 :: byteOf (V / 256) :: byteOf V :: byteOf (C / 256) :: byteOf C :: r.take a = _
   rw [hb9]
 unfold ipHop_fn ipHop_tree
 refine ev_opt (ipRead_ok h hl) (ev_f rfl (ev_f (decide_eq_false (by show ¬ (pk s).life < 2; omega)) (ev_opt (ipAt_ok s 8 (by omega) hl) (ev_g rfl (ev_opt (ipAt_ok s 10 (by omega) hl) (ev_opt hfix (ev_g (by simp <;> omega) (ev_opt (ipWd_ok _) ?_))))))))
 refine ev_g (by simp [wd]; unfold Lim at hl; omega) (ev_opt (ipWd_ok _) (ev_g (by simp [wd]; unfold Lim at hl; omega) (ev_opt (ipAt_ok s 2 (by omega) hl) (ev_g (decide_eq_true ⟨by omega, by show (12 : Int) <= wAt s 2; omega, by show wAt s 2 <= (s.length : Int); omega⟩) (ev_g ?_ (ev_r ?_))))))
 · refine decide_eq_true ?_
   simp only [List.length_append, List.length_drop, List.length_take]
   unfold Lim at hl
   simp [wd]; omega
 · show (_ ++ wd (IntKind.wrap IntKind.i64 (IntKind.wrap IntKind.u16 (bits BinOp.or IntKind.i64 (IntKind.wrap IntKind.i64 (IntKind.wrap IntKind.i64 ((pk s).life - (1 : Int)) * (2 : Int) ^ (8 : Nat))) (pk s).proto))) ++ wd (IntKind.wrap IntKind.i64 C) ++ _, _) = _
   rw [hor, hVw, hVi, hCi]
   exact congrArg (fun q => (q, ((0 : Int), ()))) ht
structure Hs where (out lt st life rate most : Int) (rules : List TRule) (els : Bool) (met : List TMeter) (trk : List TTalk) (nl lb : Int) (L : Nat) (sb : Int) (S : Nat) (maps : List TMap)
def Hs.t (h : Hs) {R : Type} (r : R) : Int × (Int × (Int × (Int × (Int × (Int × ((List TRule) × (Bool × ((List TMeter) × ((List TTalk) × (Int × (Int × (Int × (Int × (Int × ((List TMap) × R))))))))))))))) :=
 (h.out, (h.lt, (h.st, (h.life, (h.rate, (h.most, (h.rules, (h.els, (h.met, (h.trk, (h.nl, (h.lb, ((h.L : Int), (h.sb, ((h.S : Int), (h.maps, r))))))))))))))))
structure PlanOk (h : Hs) : Prop where
 lt : baseOk h.lt
 st : baseOk h.st
 life : 1 <= h.life /\ h.life <= 1000000
 rate : 0 <= h.rate /\ h.rate <= 1000000
 most : 1 <= h.most /\ h.most <= 1000000000
 rules : ruChk h.rules = 0
theorem conf_ex (h : Hs) : ∃ c : Int, confCheck_fn (h.out, (h.lt, (h.st, (h.life, (h.rate, (h.most, (h.rules, (h.els, ())))))))) = some (c, ()) /\ (c = 0 ↔ PlanOk h) := by
 unfold confCheck_fn confCheck_tree
 have no : ∀ {c : Int}, c ≠ 0 -> ¬ PlanOk h -> (c = 0 ↔ PlanOk h) := fun h1 h2 => ⟨fun h => absurd h h1, fun h => absurd h h2⟩
 by_cases h1 : baseOk h.lt
 case neg => exact ⟨1, ev_opt (check_no 0 h1) (ev_t rfl (ev_r rfl)), no (by decide) fun h => h1 h.lt⟩
 by_cases h2 : baseOk h.st
 case neg => exact ⟨1, ev_opt (check_ok 0 h1) (ev_f rfl (ev_opt (check_no 0 h2) (ev_t rfl (ev_r rfl)))), no (by decide) fun h => h2 h.st⟩
 have go : ∀ {c : Int} {T : Tr (Int × Unit)}, T.eval = some (c, ()) -> (Tr.opt (β := (Int × Unit)) ((portsCheck_fn (h.lt, ((0 : Int), ())))) (fun r0 =>
   .ite (!decide (r0.1 = (0 : Int))) (
    .ret ((1 : Int), ())) (
    .opt (β := (Int × Unit)) ((portsCheck_fn (h.st, ((0 : Int), ())))) (fun r1 =>
    .ite (!decide (r1.1 = (0 : Int))) (
     .ret ((1 : Int), ())) T)))).eval = some (c, ()) := fun hT => ev_opt (check_ok 0 h1) (ev_f rfl (ev_opt (check_ok 0 h2) (ev_f rfl hT)))
 by_cases h3 : h.life < 1
 · exact ⟨1, go (ev_t (decide_eq_true h3) (ev_r rfl)), no (by decide) fun h => by have := h.life; omega⟩
 by_cases h4 : 1000000 < h.life
 · exact ⟨1, go (ev_f (decide_eq_false h3) (ev_t (decide_eq_true h4) (ev_r rfl))), no (by decide) fun h => by have := h.life; omega⟩
 by_cases h5 : h.rate < 0
 · exact ⟨1, go (ev_f (decide_eq_false h3) (ev_f (decide_eq_false h4) (ev_t (decide_eq_true h5) (ev_r rfl)))), no (by decide) fun h => by have := h.rate; omega⟩
 by_cases h6 : 1000000 < h.rate
 · exact ⟨1, go (ev_f (decide_eq_false h3) (ev_f (decide_eq_false h4) (ev_f (decide_eq_false h5) (ev_t (decide_eq_true h6) (ev_r rfl))))), no (by decide) fun h => by have := h.rate; omega⟩
 by_cases h7 : h.most < 1
 · exact ⟨1, go (ev_f (decide_eq_false h3) (ev_f (decide_eq_false h4) (ev_f (decide_eq_false h5) (ev_f (decide_eq_false h6) (ev_t (decide_eq_true h7) (ev_r rfl)))))), no (by decide) fun h => by have := h.most; omega⟩
 by_cases h8 : 1000000000 < h.most
 · exact ⟨1, go (ev_f (decide_eq_false h3) (ev_f (decide_eq_false h4) (ev_f (decide_eq_false h5) (ev_f (decide_eq_false h6) (ev_f (decide_eq_false h7) (ev_t (decide_eq_true h8) (ev_r rfl))))))), no (by decide) fun h => by have := h.most; omega⟩
 exact ⟨ruChk h.rules, go (ev_f (decide_eq_false h3) (ev_f (decide_eq_false h4) (ev_f (decide_eq_false h5) (ev_f (decide_eq_false h6) (ev_f (decide_eq_false h7) (ev_f (decide_eq_false h8) (ev_opt (check_fn h.rules) (ev_r rfl)))))))),
   fun e => ⟨h1, h2, by omega, by omega, by omega, e⟩, fun h => h.rules⟩

def mb (a : Int) (m : TMeter) : Bool := decide (m.addr = a)
def bOf (m : TMeter) : Bu := ⟨m.rate, m.most, m.has, m.at'⟩
theorem meter_fn (h : Hs) (a : Int) (hl : h.met.length < Big) : hsMeter_fn (h.t (a, ())) = some ((match hit (mb a) h.met with | some r => (r.1 : Int) | none => -1), ()) := by
 unfold Big at hl
 have lp := loop_hit (tag := 1320002) (f := fun x => (hsMeter_step132_2 x).eval) (l := h.met) (fun i => ((i : Int), (h.met, ((h.met.length : Int), (a, ())))))
  (mb a) (fun r => match r with | some r => Sum.inl ((r.1 : Int), (a, ())) | none => Sum.inr (a, ()))
  (fun i x hx => by
   have hi := (List.getElem?_eq_some_iff.1 hx).1
   show (hsMeter_step132_2 _).eval = _
   unfold hsMeter_step132_2
   refine ev_t (by simp <;> omega) (ev_g (by simp) (ev_opt (show h.met[Int.toNat (i : Int)]? = some x by simpa using hx) ?_))
   rw [next_i64 i (by omega)]
   unfold mb
   cases h1 : decide (x.addr = a) with
   | false => exact ev_f rfl (ev_r rfl)
   | true => exact ev_t rfl (ev_r rfl))
  (by show (hsMeter_step132_2 _).eval = _; exact ev_f (by simp) (ev_r rfl)) 18446744073709551616 (by omega)
 refine ev_opt lp ?_
 cases hit (mb a) h.met <;> exact ev_r rfl
def MetOk (l : List TMeter) (rate most : Int) : Prop := l.length <= 64 /\ (∀ m ∈ l, BOk (bOf m) /\ m.rate = rate /\ m.most = most) /\ l.Pairwise (fun x y => x.at' <= y.at' /\ x.addr ≠ y.addr)
def pAt (l : List TMeter) (i : Nat) : Int := match i with | 0 => 0 | i + 1 => match l[i]? with | some m => m.at' | none => 0
def MAt (l : List TMeter) (rate most : Int) (i : Nat) (x : TMeter) : Prop := BOk (bOf x) /\ x.rate = rate /\ x.most = most /\ pAt l i <= x.at' /\ (hit (mb x.addr) l).map (·.1) = some i
theorem met_at {l : List TMeter} {rate most : Int} : (l.length <= 64 /\ ∀ i x, l[i]? = some x -> MAt l rate most i x) ↔ MetOk l rate most := by
 constructor
 · rintro ⟨h1, h2⟩
   refine ⟨h1, fun x hx => ?_, ?_⟩
   · obtain ⟨i, hi, rfl⟩ := List.getElem_of_mem hx
     have := h2 i _ (List.getElem?_eq_getElem hi)
     exact ⟨this.1, this.2.1, this.2.2.1⟩
   · rw [List.pairwise_iff_getElem]
     intro i j hi hj hij
     refine ⟨?_, ?_⟩
     · have key : ∀ d, ∀ (k : Nat) (hk : k < l.length), k = i + d -> l[i].at' <= l[k].at' := by
        intro d
        induction d with
        | zero => intro k hk e; subst e; exact Int.le_refl _
        | succ d ih =>
         intro k hk e
         obtain ⟨k, rfl⟩ : ∃ q, k = q + 1 := ⟨k - 1, by omega⟩
         have := (h2 (k + 1) _ (List.getElem?_eq_getElem hk)).2.2.2.1
         simp only [pAt, List.getElem?_eq_getElem (show k < l.length by omega)] at this
         exact Int.le_trans (ih k (by omega) (by omega)) this
       exact key (j - i) j hj (by omega)
     · intro he
       have h3 := (h2 j _ (List.getElem?_eq_getElem hj)).2.2.2.2
       have h4 : mb l[j].addr l[i] = true := decide_eq_true he
       have e : l = l.take i ++ l[i] :: l.drop (i + 1) := by rw [<- List.drop_eq_getElem_cons hi, List.take_append_drop]
       rw [show hit (mb l[j].addr) l = hit (mb l[j].addr) (l.take i ++ l[i] :: l.drop (i + 1)) from congrArg _ e, hit_app] at h3
       simp only [hit, h4, Option.map_some] at h3
       cases h5 : hit (mb l[j].addr) (l.take i) with
       | none => rw [h5] at h3; simp at h3; omega
       | some q =>
        rw [h5] at h3
        have := hit_lt (i := q.1) (x := q.2) h5
        simp at h3 this; omega
 · rintro ⟨h1, h2, h3⟩
   refine ⟨h1, fun i x hx => ?_⟩
   obtain ⟨g1, g2, g3⟩ := h2 x (List.mem_of_getElem? hx)
   refine ⟨g1, g2, g3, ?_, ?_⟩
   · cases i with
     | zero => exact g1.2.2.2.2.2.2.1
     | succ i =>
       obtain ⟨hi', rfl⟩ := List.getElem?_eq_some_iff.1 hx
       simp only [pAt, List.getElem?_eq_getElem (show i < l.length by omega)]
       exact ((List.pairwise_iff_getElem.1 h3) i (i + 1) (by omega) hi' (by omega)).1
   · obtain ⟨hi', rfl⟩ := List.getElem?_eq_some_iff.1 hx
     have e : l = l.take i ++ l[i] :: l.drop (i + 1) := by rw [<- List.drop_eq_getElem_cons hi', List.take_append_drop]
     have hn : hit (mb l[i].addr) (l.take i) = none := hit_none.2 fun y hy => by
       obtain ⟨j, hj, rfl⟩ := List.getElem_of_mem hy
       have hj2 : j < i := by simp at hj; omega
       rw [List.getElem_take]
       have := ((List.pairwise_iff_getElem.1 h3) j i (by omega) hi' hj2).2
       exact decide_eq_false this
     have hs : mb l[i].addr l[i] = true := decide_eq_true rfl
     generalize hx : l[i] = x at *
     conv => lhs; rw [e]
     rw [hit_app, hn]
     simp only [hit, hs, Option.map_some, Option.none_or]
     simp; omega
structure HouseOk (h : Hs) : Prop where
 plan : PlanOk h
 trk : Good h.trk
 nat : NatOk h.nl h.lb h.L h.sb h.S h.maps
 met : MetOk h.met h.rate h.most
 el : h.nl = h.life
 eb : h.lb = h.lt
 es : h.sb = h.st
structure Fits (h : Hs) : Prop where
 L : h.L < 2 ^ 64
 S : h.S < 2 ^ 64
 met : h.met.length * 40 <= 140737488351232
 trk : h.trk.length * 48 <= 140737488351232
 maps : h.maps.length * 40 <= 140737488351232
 rules : h.rules.length * 80 <= 140737488351232
theorem HouseOk.fits {h : Hs} (k : HouseOk h) : Fits h := by
 have h1 := k.nat.len.2.2
 have h2 := k.trk.1
 have h3 := k.met.1
 have h4 := (ruChk_zero.1 k.plan.rules).1
 exact ⟨k.nat.ltL, k.nat.ltS, by omega, by omega, by omega, by omega⟩
theorem nat_ex {life lb : Int} {L : Nat} {sb : Int} {S : Nat} {l : List TMap} (hL : L < 2 ^ 64) (hS : S < 2 ^ 64) (hl : l.length < BigN) : ∃ c : Int, natCheck_fn (life, (lb, ((L : Int), (sb, ((S : Int), (l, ())))))) = some (c, ()) /\ (c = 0 ↔ NatOk life lb L sb S l) := by
 by_cases h : NatOk life lb L sb S l
 · exact ⟨0, natCheck_yes h hl, fun _ => h, fun _ => rfl⟩
 · obtain ⟨e, he, hc⟩ := natCheck_no h hL hS hl
   exact ⟨e, hc, fun q => absurd q he, fun q => absurd q h⟩
theorem hsCheck_ex (h : Hs) (hf : Fits h) : ∃ c : Int, hsCheck_fn (h.t ()) = some (c, ()) /\ (c = 0 ↔ HouseOk h) := by
  obtain ⟨f1, f2, f3, f4, f5, f6⟩ := hf
  obtain ⟨c1, e1, q1⟩ := conf_ex h
  obtain ⟨c2, e2, q2⟩ := checkT_fn h.trk
  obtain ⟨c3, e3, q3⟩ := nat_ex (life := h.nl) (lb := h.lb) (sb := h.sb) f1 f2 (show h.maps.length < BigN by unfold BigN; omega)
  have lp : ∃ r, hsCheck_loop40_2 ((0 : Int), (c1, (c2, (c3, h.t ())))) = some r /\ ((∃ c, c ≠ 0 /\ r = Sum.inl (c, ()) /\ ¬ (c1 = 0 /\ c2 = 0 /\ c3 = 0)) \/ (r = Sum.inr (h.t ()) /\ c1 = 0 /\ c2 = 0 /\ c3 = 0)) := by
    have s0 : c1 ≠ 0 -> (hsCheck_step40_2 ((0 : Int), (c1, (c2, (c3, h.t ()))))).eval = some (.inr (.inl (c1, ()))) := fun q => ev_t rfl (ev_g rfl (ev_opt rfl (ev_t (by simpa using q) (ev_r rfl))))
    have s0' : c1 = 0 -> (hsCheck_step40_2 ((0 : Int), (c1, (c2, (c3, h.t ()))))).eval = some (.inl ((1 : Int), (c1, (c2, (c3, h.t ()))))) := fun q => ev_t rfl (ev_g rfl (ev_opt rfl (ev_f (by simpa using q) (ev_r rfl))))
    have s1 : c2 ≠ 0 -> (hsCheck_step40_2 ((1 : Int), (c1, (c2, (c3, h.t ()))))).eval = some (.inr (.inl (c2, ()))) := fun q => ev_t rfl (ev_g rfl (ev_opt rfl (ev_t (by simpa using q) (ev_r rfl))))
    have s1' : c2 = 0 -> (hsCheck_step40_2 ((1 : Int), (c1, (c2, (c3, h.t ()))))).eval = some (.inl ((2 : Int), (c1, (c2, (c3, h.t ()))))) := fun q => ev_t rfl (ev_g rfl (ev_opt rfl (ev_f (by simpa using q) (ev_r rfl))))
    have s2 : c3 ≠ 0 -> (hsCheck_step40_2 ((2 : Int), (c1, (c2, (c3, h.t ()))))).eval = some (.inr (.inl (c3, ()))) := fun q => ev_t rfl (ev_g rfl (ev_opt rfl (ev_t (by simpa using q) (ev_r rfl))))
    have s2' : c3 = 0 -> (hsCheck_step40_2 ((2 : Int), (c1, (c2, (c3, h.t ()))))).eval = some (.inl ((3 : Int), (c1, (c2, (c3, h.t ()))))) := fun q => ev_t rfl (ev_g rfl (ev_opt rfl (ev_f (by simpa using q) (ev_r rfl))))
    have s3 : (hsCheck_step40_2 ((3 : Int), (c1, (c2, (c3, h.t ()))))).eval = some (.inr (.inr (h.t ()))) := ev_f rfl (ev_r rfl)
    have L4 : hsCheck_loop40_2 ((0 : Int), (c1, (c2, (c3, h.t ())))) = loopO 400002 (fun x => (hsCheck_step40_2 x).eval) (18446744073709551612 + 1 + 1 + 1 + 1) ((0 : Int), (c1, (c2, (c3, h.t ())))) := rfl
    rw [L4]
    by_cases z1 : c1 = 0
    case neg => exact ⟨_, loopO_out (s0 z1), .inl ⟨c1, z1, rfl, fun q => z1 q.1⟩⟩
    rw [loopO_in (s0' z1)]
    by_cases z2 : c2 = 0
    case neg => exact ⟨_, loopO_out (s1 z2), .inl ⟨c2, z2, rfl, fun q => z2 q.2.1⟩⟩
    rw [loopO_in (s1' z2)]
    by_cases z3 : c3 = 0
    case neg => exact ⟨_, loopO_out (s2 z3), .inl ⟨c3, z3, rfl, fun q => z3 q.2.2⟩⟩
    rw [loopO_in (s2' z3)]
    exact ⟨_, loopO_out s3, .inr ⟨rfl, z1, z2, z3⟩⟩
  obtain ⟨r, hr, hcase⟩ := lp
  unfold hsCheck_fn
  have no : ∀ {c : Int}, c ≠ 0 -> ¬ HouseOk h -> (c = 0 ↔ HouseOk h) := fun h1 h2 => ⟨fun h => absurd h h1, fun h => absurd h h2⟩
  rcases hcase with ⟨c, hc, rfl, hn⟩ | ⟨rfl, z1, z2, z3⟩
  · exact ⟨c, (ev_opt e1 (ev_opt e2 (ev_opt e3 (ev_opt hr (ev_r rfl))))), no hc fun k => hn ⟨q1.2 k.plan, q2.2 k.trk, q3.2 k.nat⟩⟩
  by_cases g1 : 64 < h.met.length
  · exact ⟨4, (ev_opt e1 (ev_opt e2 (ev_opt e3 (ev_opt hr (ev_t (decide_eq_true (by show (64 : Int) < (h.met.length : Int); omega)) (ev_r rfl)))))), no (by decide) fun k => by have := k.met.1; omega⟩
  have d1 : decide ((64 : Int) < (h.met.length : Int)) = false := decide_eq_false (by omega)
  by_cases g2 : h.nl = h.life
  case neg => exact ⟨4, (ev_opt e1 (ev_opt e2 (ev_opt e3 (ev_opt hr (ev_f d1 (ev_t (by show (!decide (h.nl = h.life)) = true; simp [g2]) (ev_r rfl))))))), no (by decide) fun k => g2 k.el⟩
  have d2 : (!decide (h.nl = h.life)) = false := by simp [g2]
  by_cases g3 : h.lb = h.lt
  case neg => exact ⟨4, (ev_opt e1 (ev_opt e2 (ev_opt e3 (ev_opt hr (ev_f d1 (ev_f d2 (ev_t (by show (!decide (h.lb = h.lt)) = true; simp [g3]) (ev_r rfl)))))))), no (by decide) fun k => g3 k.eb⟩
  have d3 : (!decide (h.lb = h.lt)) = false := by simp [g3]
  by_cases g4 : h.sb = h.st
  case neg => exact ⟨4, (ev_opt e1 (ev_opt e2 (ev_opt e3 (ev_opt hr (ev_f d1 (ev_f d2 (ev_f d3 (ev_t (by show (!decide (h.sb = h.st)) = true; simp [g4]) (ev_r rfl))))))))), no (by decide) fun k => g4 k.es⟩
  have d4 : (!decide (h.sb = h.st)) = false := by simp [g4]
  have lp := loop_all (tag := 400012) (f := fun x => (hsCheck_step40_12 x).eval) (l := h.met)
      (fun i => ((i : Int), (pAt h.met i, (h.met, ((h.met.length : Int), h.t (h.out, (h.lt, (h.st, (h.life, (h.rate, (h.most, (h.rules, (h.els, ())))))))))))))
      (MAt h.met h.rate h.most) (Sum.inl ((4 : Int), ())) (Sum.inr ())
      (fun i x hx => by
        have hi := (List.getElem?_eq_some_iff.1 hx).1
        obtain ⟨c, hc, hq⟩ := buCheck_ex (bOf x)
        have hm := meter_fn h x.addr (by unfold Big; omega)
        have hp : pAt h.met (i + 1) = x.at' := by simp only [pAt, hx]
        show (MAt h.met h.rate h.most i x -> (hsCheck_step40_12 _).eval = _) /\ (¬ MAt h.met h.rate h.most i x -> (hsCheck_step40_12 _).eval = _)
        refine ⟨fun hA => ?_, fun hA => ?_⟩
        · obtain ⟨a1, a2, a3, a4, a5⟩ := hA
          refine ev_t (decide_eq_true (by show (i : Int) < (h.met.length : Int); omega)) (ev_g (decide_eq_true (by show (0 : Int) <= (i : Int); omega)) (ev_opt (show h.met[Int.toNat (i : Int)]? = some x by simpa using hx) (ev_opt hc (ev_f (by simp [hq.2 a1]) (ev_f (by show (!decide (x.rate = h.rate)) = false; simp [a2]) (ev_f (by show (!decide (x.most = h.most)) = false; simp [a3]) (ev_f (decide_eq_false (by show ¬ x.at' < pAt h.met i; omega)) (ev_opt hm ?_))))))))
          refine ev_f ?_ (ev_r ?_)
          · cases h5 : hit (mb x.addr) h.met with
            | none => rw [h5] at a5; cases a5
            | some q => rw [h5] at a5; have : q.1 = i := by simpa using a5
                        simp [this]
          · rw [next_i64 i (by omega), hp]; rfl
        · refine ev_t (decide_eq_true (by show (i : Int) < (h.met.length : Int); omega)) (ev_g (decide_eq_true (by show (0 : Int) <= (i : Int); omega)) (ev_opt (show h.met[Int.toNat (i : Int)]? = some x by simpa using hx) (ev_opt hc ?_)))
          by_cases b1 : c = 0
          case neg => exact ev_t (by simpa using b1) (ev_r rfl)
          refine ev_f (by simpa using b1) ?_
          by_cases b2 : x.rate = h.rate
          case neg => exact ev_t (by show (!decide (x.rate = h.rate)) = true; simp [b2]) (ev_r rfl)
          refine ev_f (by show (!decide (x.rate = h.rate)) = false; simp [b2]) ?_
          by_cases b3 : x.most = h.most
          case neg => exact ev_t (by show (!decide (x.most = h.most)) = true; simp [b3]) (ev_r rfl)
          refine ev_f (by show (!decide (x.most = h.most)) = false; simp [b3]) ?_
          by_cases b4 : x.at' < pAt h.met i
          · exact ev_t (decide_eq_true b4) (ev_r rfl)
          refine ev_f (decide_eq_false b4) (ev_opt hm (ev_t ?_ (ev_r rfl)))
          have b5 : ¬ (hit (mb x.addr) h.met).map (·.1) = some i := fun q => hA ⟨hq.1 b1, b2, b3, by omega, q⟩
          cases h5 : hit (mb x.addr) h.met with
          | none => simp <;> omega
          | some q => rw [h5] at b5; have : ¬ q.1 = i := by simpa using b5
                      simp <;> omega)
      (by show (hsCheck_step40_12 _).eval = _; exact ev_f (by simp) (ev_r rfl)) 18446744073709551616 (by omega)
  rcases lp with ⟨k1, k2⟩ | ⟨k1, k2⟩
  · refine ⟨0, (ev_opt e1 (ev_opt e2 (ev_opt e3 (ev_opt hr (ev_f d1 (ev_f d2 (ev_f d3 (ev_f d4 (ev_opt k2 (ev_r rfl)))))))))), fun _ => ⟨q1.1 z1, q2.1 z2, q3.1 z3, met_at.1 ⟨by omega, k1⟩, g2, g3, g4⟩, fun _ => rfl⟩
  · refine ⟨4, (ev_opt e1 (ev_opt e2 (ev_opt e3 (ev_opt hr (ev_f d1 (ev_f d2 (ev_f d3 (ev_f d4 (ev_opt k2 (ev_r rfl)))))))))), no (by decide) fun k => k1 (met_at.2 k.met).2⟩

def lastM (l : List TMeter) : Int := match l.getLast? with | some m => m.at' | none => 0
def mx (a b : Int) : Int := if b > a then b else a
def lastH (h : Hs) : Int := mx (mx (lastM h.met) (last h.trk)) (lastAt h.maps)
theorem hsLast_ok (h : Hs) (k : HouseOk h) : hsLast_fn (h.t ()) = some (lastH h, ()) := by
 have f1 := k.met.1; have f2 := k.trk.1; have f3 := k.nat.len.2.2
 unfold hsLast_fn
 have get : ∀ {α : Type} (l : List α), 0 < l.length -> l.length <= 128 -> decide ((0 : Int) <= IntKind.wrap IntKind.i64 ((↑(List.length l) : Int) - (1 : Int))) = true /\ l[Int.toNat (IntKind.wrap IntKind.i64 ((↑(List.length l) : Int) - (1 : Int)))]? = l.getLast? := by
   intro α l h1 h2
   rw [prev_i64 _ h1 (by omega)]
   exact ⟨by simp, by rw [List.getLast?_eq_getElem?]; simp⟩
 have ne : ∀ {α : Type} (l : List α), ¬ 0 < l.length -> l.getLast? = none := fun l hl => by
   have : l = [] := List.eq_nil_of_length_eq_zero (by omega)
   rw [this]; rfl
 have sm : ∀ {α : Type} (l : List α), 0 < l.length -> ∃ x, l.getLast? = some x := fun l hl => by
   cases e : l.getLast? with
   | none => rw [List.getLast?_eq_none_iff] at e; rw [e] at hl; simp at hl
   | some x => exact ⟨x, rfl⟩
 have nm : ∀ x ∈ h.met, 0 <= x.at' := fun x hx => ((k.met.2.1 x hx).1).2.2.2.2.2.2.1
 have nt : ∀ x ∈ h.trk, 0 <= x.at' := fun x hx => (form_st (k.trk.2.1 x hx)).2.1
 have nn : ∀ x ∈ h.maps, 0 <= x.at' := fun x hx => (k.nat.ok x hx).2.2.2.1
 have z : ∀ x : Int, 0 <= x -> mx 0 x = x := fun x hx => by unfold mx; split <;> omega
 have z' : ∀ x : Int, 0 <= x -> mx x 0 = x := fun x hx => by unfold mx; rw [if_neg (by omega)]
 have nmx : ∀ a b : Int, 0 <= a -> 0 <= b -> 0 <= mx a b := fun a b h1 h2 => by unfold mx; split <;> omega
 unfold lastH lastM last lastAt
 by_cases c1 : 0 < h.met.length
 · obtain ⟨x1, e1⟩ := sm _ c1
   refine ev_t (decide_eq_true (by show (0 : Int) < (h.met.length : Int); omega)) (ev_g (get h.met c1 (by omega)).1 (ev_opt ((get h.met c1 (by omega)).2.trans e1) ?_))
   have p1 := nm x1 (List.mem_of_getLast? e1)
   by_cases c2 : 0 < h.trk.length
   · obtain ⟨x2, e2⟩ := sm _ c2
     have p2 := nt x2 (List.mem_of_getLast? e2)
     refine ev_t (decide_eq_true (by show (0 : Int) < (h.trk.length : Int); omega)) (ev_g (get h.trk c2 (by omega)).1 (ev_opt ((get h.trk c2 (by omega)).2.trans e2) ?_))
     by_cases c3 : 0 < h.maps.length
     · obtain ⟨x3, e3⟩ := sm _ c3
       refine ev_t (decide_eq_true (by show (0 : Int) < (h.maps.length : Int); omega)) (ev_g (get h.maps c3 (by omega)).1 (ev_opt ((get h.maps c3 (by omega)).2.trans e3) (ev_r ?_)))
       simp only [e1, e2, e3]; rfl
     · refine ev_f (decide_eq_false (by show ¬ (0 : Int) < (h.maps.length : Int); omega)) (ev_r ?_)
       simp only [e1, e2, ne _ c3]; rw [z' _ (nmx _ _ p1 p2)]; rfl
   · refine ev_f (decide_eq_false (by show ¬ (0 : Int) < (h.trk.length : Int); omega)) ?_
     by_cases c3 : 0 < h.maps.length
     · obtain ⟨x3, e3⟩ := sm _ c3
       refine ev_t (decide_eq_true (by show (0 : Int) < (h.maps.length : Int); omega)) (ev_g (get h.maps c3 (by omega)).1 (ev_opt ((get h.maps c3 (by omega)).2.trans e3) (ev_r ?_)))
       simp only [e1, ne _ c2, e3]; rw [z' _ p1]; rfl
     · refine ev_f (decide_eq_false (by show ¬ (0 : Int) < (h.maps.length : Int); omega)) (ev_r ?_)
       simp only [e1, ne _ c2, ne _ c3]; rw [z' _ p1, z' _ p1]
 · refine ev_f (decide_eq_false (by show ¬ (0 : Int) < (h.met.length : Int); omega)) ?_
   by_cases c2 : 0 < h.trk.length
   · obtain ⟨x2, e2⟩ := sm _ c2
     have p2 := nt x2 (List.mem_of_getLast? e2)
     refine ev_t (decide_eq_true (by show (0 : Int) < (h.trk.length : Int); omega)) (ev_g (get h.trk c2 (by omega)).1 (ev_opt ((get h.trk c2 (by omega)).2.trans e2) ?_))
     by_cases c3 : 0 < h.maps.length
     · obtain ⟨x3, e3⟩ := sm _ c3
       refine ev_t (decide_eq_true (by show (0 : Int) < (h.maps.length : Int); omega)) (ev_g (get h.maps c3 (by omega)).1 (ev_opt ((get h.maps c3 (by omega)).2.trans e3) (ev_r ?_)))
       simp only [ne _ c1, e2, e3]; rfl
     · refine ev_f (decide_eq_false (by show ¬ (0 : Int) < (h.maps.length : Int); omega)) (ev_r ?_)
       simp only [ne _ c1, e2, ne _ c3]; rw [z' _ (nmx _ _ (Int.le_refl 0) p2)]; rfl
   · refine ev_f (decide_eq_false (by show ¬ (0 : Int) < (h.trk.length : Int); omega)) ?_
     by_cases c3 : 0 < h.maps.length
     · obtain ⟨x3, e3⟩ := sm _ c3
       refine ev_t (decide_eq_true (by show (0 : Int) < (h.maps.length : Int); omega)) (ev_g (get h.maps c3 (by omega)).1 (ev_opt ((get h.maps c3 (by omega)).2.trans e3) (ev_r ?_)))
       simp only [ne _ c1, ne _ c2, e3]; rfl
     · refine ev_f (decide_eq_false (by show ¬ (0 : Int) < (h.maps.length : Int); omega)) (ev_r ?_)
       simp only [ne _ c1, ne _ c2, ne _ c3]; rfl
structure Till (h : Hs) (now : Int) : Prop where
 met : ∀ m ∈ h.met, m.at' <= now
 trk : ∀ m ∈ h.trk, m.at' <= now
 maps : ∀ m ∈ h.maps, m.at' <= now
 pos : 0 <= now
theorem lastM_ge {l : List TMeter} {r m : Int} (h : MetOk l r m) : ∀ x ∈ l, x.at' <= lastM l := by
 intro x hx
 unfold lastM
 cases e : l.getLast? with
 | none => rw [List.getLast?_eq_none_iff] at e; rw [e] at hx; cases hx
 | some y =>
  obtain ⟨ys, rfl⟩ := List.getLast?_eq_some_iff.1 e
  rcases List.mem_append.1 hx with h1 | h1
  · exact ((List.pairwise_append.1 h.2.2).2.2 x h1 y (by simp)).1
  · simp at h1; rw [h1]; exact Int.le_refl _
theorem lastM_le {l : List TMeter} {now : Int} (h0 : 0 <= now) (h : ∀ m ∈ l, m.at' <= now) : lastM l <= now := by
 unfold lastM
 cases e : l.getLast? with
 | none => exact h0
 | some y => exact h y (List.mem_of_getLast? e)
theorem last_le' {l : List TTalk} {now : Int} (h0 : 0 <= now) (h : ∀ m ∈ l, m.at' <= now) : last l <= now := by
 unfold last
 cases e : l.getLast? with
 | none => exact h0
 | some y => exact h y (List.mem_of_getLast? e)
theorem till_iff {h : Hs} (k : HouseOk h) (now : Int) : lastH h <= now ↔ Till h now := by
 have a1 := lastM_ge k.met; have a2 := last_le k.trk; have a3 := lastAt_ge k.nat.sorted
 constructor
 · intro hn
   have hz : 0 <= lastM h.met := by
    unfold lastM
    cases e : h.met.getLast? with
    | none => exact Int.le_refl _
    | some y => exact ((k.met.2.1 y (List.mem_of_getLast? e)).1).2.2.2.2.2.2.1
   have b : lastM h.met <= now /\ last h.trk <= now /\ lastAt h.maps <= now := by
    unfold lastH mx at hn
    repeat' split at hn
    all_goals omega
   exact ⟨fun m hm => Int.le_trans (a1 m hm) b.1, fun m hm => Int.le_trans (a2 m hm) b.2.1, fun m hm => Int.le_trans (a3 m hm) b.2.2, by omega⟩
 · rintro ⟨h1, h2, h3, h4⟩
   have b1 := lastM_le h4 h1; have b2 := last_le' h4 h2; have b3 := lastAt_le h4 h3
   unfold lastH mx
   repeat' split
   all_goals omega
structure Fl where (a b pr p q : Int)
def wk (h : Hs) (f : Fl) (d : List UInt8) (now : Int) : Int × (Int × (Int × (Int × (Int × (Int × ((List TRule) × (Bool × ((List TTalk) × (Int × (Int × (Int × (Int × (Int × ((List TMap) × (Int × (Int × (Int × (Int × (Int × ((List UInt8) × (Int × ((List TMeter) × Unit)))))))))))))))))))))) :=
 (h.out, (h.lt, (h.st, (h.life, (h.rate, (h.most, (h.rules, (h.els, (h.trk, (h.nl, (h.lb, ((h.L : Int), (h.sb, ((h.S : Int), (h.maps, (f.a, (f.b, (f.pr, (f.p, (f.q, (d, (now, (h.met, ())))))))))))))))))))))))
theorem delMeter_ok (l : List TMeter) (i j : Nat) (hij : i <= j) (hj : j <= l.length) : delMeter_fn ((i : Int), ((j : Int), (l, ()))) = some (l.take i ++ l.drop j, ()) := by
 by_cases he : i = j
 · subst he
   show (delMeter_tree _).eval = _
   refine ev_g (decide_eq_true (by omega)) (ev_t (decide_eq_true rfl) (ev_g (decide_eq_true rfl) (ev_r ?_)))
   rw [List.take_append_drop]
 · unfold delMeter_fn delMeter_tree
   have hj2 : Int.toNat ((l.length : Int) - (j : Int)) = l.length - j := by omega
   have hB : (List.take (l.length - j) (List.drop j l)).length = l.length - j := by simp
   simp only [Int.toNat_natCast, hj2]
   refine ev_g (by simp <;> omega) (ev_f (by simp <;> omega) (ev_g (by simp <;> omega) (ev_g (by simp <;> omega) (ev_g (by simp <;> omega) (ev_g (by rw [hB]; simp; omega) ?_)))))
   refine ev_g (by simp [hB]; omega) (ev_g (by simp [hB]; omega) (ev_g (by simp [hB]; omega) (ev_r ?_)))
   simp only [del_eq l i j (by omega) (by omega)]
def mBu (h : Hs) (a now : Int) : Bu := match hit (mb a) h.met with | some r => bOf r.2 | none => ⟨h.rate, h.most, h.most, now⟩
def mRest (h : Hs) (a : Int) : List TMeter := match hit (mb a) h.met with | some r => h.met.take r.1 ++ h.met.drop (r.1 + 1) | none => if h.met.length = 64 then h.met.drop 1 else h.met
def mOf (a : Int) (b : Bu) : TMeter := ⟨a, b.rate, b.most, b.has, b.at'⟩
def mNew (h : Hs) (a now n : Int) : List TMeter := mRest h a ++ [mOf a (tkR (mBu h a now) now n).1]
def mHs (h : Hs) (a now n : Int) : Hs := { h with met := mNew h a now n }
def mGo (h : Hs) (a now n : Int) : Bool := (tkR (mBu h a now) now n).2
theorem mRest_sub (h : Hs) (a : Int) : (mRest h a).Sublist h.met := by
 unfold mRest
 split
 · rename_i r e
   conv => rhs; rw [<- List.take_append_drop r.1 h.met]
   exact List.Sublist.append_left (by rw [show r.1 + 1 = 1 + r.1 by omega, <- List.drop_drop, List.drop_drop, Nat.add_comm, <- List.drop_drop]; exact List.drop_sublist _ _) _
 · split
   · exact List.drop_sublist _ _
   · exact List.Sublist.refl _
theorem mRest_len (h : Hs) (a : Int) (k : HouseOk h) : (mRest h a).length < 64 := by
 have := k.met.1
 unfold mRest
 split
 · rename_i r e
   have := hit_lt (i := r.1) (x := r.2) e
   simp; omega
 · split <;> simp <;> omega
theorem mRest_not (h : Hs) (a : Int) (k : HouseOk h) : ∀ m ∈ mRest h a, m.addr ≠ a := by
 intro m hm
 unfold mRest at hm
 split at hm
 · rename_i r e
   have h1 := hit_at (i := r.1) (x := r.2) e
   obtain ⟨hlt, hx⟩ := List.getElem?_eq_some_iff.1 h1.1
   have ha : r.2.addr = a := of_decide_eq_true h1.2
   have hp := List.pairwise_iff_getElem.1 k.met.2.2
   rcases List.mem_append.1 hm with h2 | h2
   · obtain ⟨j, hj, rfl⟩ := List.getElem_of_mem h2
     rw [List.getElem_take]
     have hj2 : j < r.1 := by simp at hj; omega
     have := (hp j r.1 (by omega) hlt hj2).2
     rw [hx, ha] at this; exact this
   · obtain ⟨j, hj, rfl⟩ := List.getElem_of_mem h2
     rw [List.getElem_drop]
     have := (hp r.1 (r.1 + 1 + j) hlt (by simp at hj; omega) (by omega)).2
     rw [hx, ha] at this; exact fun q => this q.symm
 · rename_i e
   have h1 := hit_none.1 e
   have hm' : m ∈ h.met := by
     split at hm
     · exact List.mem_of_mem_drop hm
     · exact hm
   exact of_decide_eq_false (h1 m hm')
theorem mBu_ok {h : Hs} (k : HouseOk h) {a now : Int} (ht : Till h now) (hn : now <= 1099511627776) : BOk (mBu h a now) /\ (mBu h a now).rate = h.rate /\ (mBu h a now).most = h.most /\ (mBu h a now).at' <= now := by
 have h0 := ht.pos; have p1 := k.plan.rate; have p2 := k.plan.most
 unfold mBu
 split
 · rename_i r e
   have hm := List.mem_of_getElem? (hit_at (i := r.1) (x := r.2) e).1
   obtain ⟨g1, g2, g3⟩ := k.met.2.1 _ hm
   exact ⟨g1, g2, g3, ht.met _ hm⟩
 · exact ⟨⟨p1.1, p1.2, p2.1, p2.2, by show 0 <= h.most; omega, Int.le_refl _, h0, hn⟩, rfl, rfl, Int.le_refl _⟩
theorem tkR_parts (b : Bu) (now n : Int) : (tkR b now n).1.rate = b.rate /\ (tkR b now n).1.most = b.most /\ (tkR b now n).1.at' = now := by
 unfold tkR; split <;> exact ⟨rfl, rfl, rfl⟩
theorem mHs_ok {h : Hs} (k : HouseOk h) {a now n : Int} (ht : Till h now) (hn : now <= 1099511627776) (h0 : 0 <= n /\ n <= 1000000000) : HouseOk (mHs h a now n) /\ Till (mHs h a now n) now := by
 obtain ⟨b1, b2, b3, b4⟩ := mBu_ok (a := a) k ht hn
 have tk := tk_bok (b := mBu h a now) (now := now) (n := n) ⟨b1, b4, hn, h0.1, h0.2⟩
 obtain ⟨t1, t2, t3⟩ := tkR_parts (mBu h a now) now n
 have hsub := mRest_sub h a
 have hl := mRest_len h a k
 have hno := mRest_not h a k
 refine ⟨⟨⟨k.plan.lt, k.plan.st, k.plan.life, k.plan.rate, k.plan.most, k.plan.rules⟩, k.trk, k.nat, ⟨?_, ?_, ?_⟩, k.el, k.eb, k.es⟩, ⟨?_, ht.trk, ht.maps, ht.pos⟩⟩
 · show (mRest h a ++ [_]).length <= 64
   rw [List.length_append]; simp only [List.length_singleton]; omega
 · intro m hm
   rcases List.mem_append.1 hm with h1 | h1
   · exact k.met.2.1 m (hsub.subset h1)
   · simp at h1
     rw [h1]
     exact ⟨tk, t1.trans b2, t2.trans b3⟩
 · refine List.pairwise_append.2 ⟨k.met.2.2.sublist hsub, List.pairwise_singleton _ _, fun x hx y hy => ?_⟩
   simp at hy
   rw [hy]
   exact ⟨by show x.at' <= (tkR _ _ _).1.at'; rw [t3]; exact ht.met x (hsub.subset hx), hno x hx⟩
 · intro m hm
   rcases List.mem_append.1 hm with h1 | h1
   · exact ht.met m (hsub.subset h1)
   · simp at h1
     rw [h1]; show (tkR _ _ _).1.at' <= now; rw [t3]; exact Int.le_refl _
theorem measured_fn {h : Hs} (k : HouseOk h) (f : Fl) (d : List UInt8) {now : Int} (ht : Till h now) (hn : now <= 1099511627776) (hd : d.length <= 1000000000) : wMeasured_fn (wk h f d now) = some (mGo h f.a now d.length, wk (mHs h f.a now d.length) f d now) := by
 obtain ⟨b1, b2, b3, b4⟩ := mBu_ok (a := f.a) k ht hn
 have hl64 := k.met.1
 have tk := take_ok (b := mBu h f.a now) (now := now) (n := d.length) ⟨b1, b4, hn, by omega, by omega⟩
 have hm := meter_fn h f.a (by unfold Big; omega)
 have hrl := mRest_len h f.a k
 have fin : ∀ (R : List TMeter), R = mRest h f.a -> (Tr.opt (β := (Int × (Int × (Int × (Int × (Bool × (Int × Unit))))))) ((buTake_fn ((mBu h f.a now).rate, ((mBu h f.a now).most, ((mBu h f.a now).has, ((mBu h f.a now).at', (now, ((↑(List.length d) : Int), ())))))))) (fun r1 =>
  .grd (decide ((List.length R + List.length [TMeter.mk f.a r1.1 r1.2.1 r1.2.2.1 r1.2.2.2.1]) * (40 : Nat) <= (140737488355328 : Nat) /\ List.length R + List.length [TMeter.mk f.a r1.1 r1.2.1 r1.2.2.1 r1.2.2.2.1] <= (9223372036854775807 : Nat))) (
  .grd (decide (List.length (R ++ [TMeter.mk f.a r1.1 r1.2.1 r1.2.2.1 r1.2.2.2.1]) = List.length (R ++ [TMeter.mk f.a r1.1 r1.2.1 r1.2.2.1 r1.2.2.2.1]))) (
  .ret (r1.2.2.2.2.1, (h.out, (h.lt, (h.st, (h.life, (h.rate, (h.most, (h.rules, (h.els, (h.trk, (h.nl, (h.lb, ((h.L : Int), (h.sb, ((h.S : Int), (h.maps, (f.a, (f.b, (f.pr, (f.p, (f.q, (d, (now, ((R ++ [TMeter.mk f.a r1.1 r1.2.1 r1.2.2.1 r1.2.2.2.1]), ())))))))))))))))))))))))))))).eval = some (mGo h f.a now d.length, wk (mHs h f.a now d.length) f d now) := by
  rintro R rfl
  refine ev_opt tk (ev_g (decide_eq_true ?_) (ev_g (decide_eq_true rfl) (ev_r rfl)))
  simp only [List.length_singleton]; omega
 unfold wMeasured_fn
 refine ev_opt hm ?_
 cases e : hit (mb f.a) h.met with
 | some r =>
  have h1 := hit_at (i := r.1) (x := r.2) e
  have hlt := hit_lt (i := r.1) (x := r.2) e
  have eB : mBu h f.a now = bOf r.2 := by unfold mBu; rw [e]
  have eR : h.met.take r.1 ++ h.met.drop (r.1 + 1) = mRest h f.a := by unfold mRest; rw [e]
  refine ev_t (decide_eq_true (by show (0 : Int) <= (r.1 : Int); omega)) (ev_g (decide_eq_true (by show (0 : Int) <= (r.1 : Int) /\ (r.1 : Int) < (h.met.length : Int); omega)) (ev_opt (b := r.2) (by show h.met[Int.toNat (r.1 : Int)]? = some r.2; rw [Int.toNat_natCast]; exact h1.1) (ev_g (decide_eq_true rfl) (ev_opt (b := (h.met.take r.1 ++ h.met.drop (r.1 + 1), ())) ?_ ?_))))
  · show delMeter_fn ((r.1 : Int), (IntKind.wrap IntKind.i64 ((r.1 : Int) + 1), (h.met, ()))) = _
    rw [next_i64 r.1 (by omega)]
    exact delMeter_ok _ _ _ (by omega) (by omega)
  · have := fin _ eR
    rw [eB] at this
    exact this
 | none =>
  have eB : mBu h f.a now = ⟨h.rate, h.most, h.most, now⟩ := by unfold mBu; rw [e]
  refine ev_f (decide_eq_false (by show ¬ (0 : Int) <= -1; omega)) ?_
  by_cases h64 : h.met.length = 64
  · have eR : h.met.take 0 ++ h.met.drop 1 = mRest h f.a := by unfold mRest; rw [e]; simp [h64]
    refine ev_t (decide_eq_true (by show (h.met.length : Int) = 64; omega)) (ev_g (decide_eq_true rfl) (ev_opt (delMeter_ok h.met 0 1 (by omega) (by omega)) ?_))
    have := fin _ eR
    rw [eB] at this
    exact this
  · have eR : h.met = mRest h f.a := by unfold mRest; rw [e]; simp [h64]
    refine ev_f (decide_eq_false (by show ¬ (h.met.length : Int) = 64; omega)) ?_
    have := fin _ eR
    rw [eB] at this
    exact this

def kn (h : Hs) (w : Rd4) (now : Int) : Bool := match hit (meet w) h.trk with | none => false | some q => !oldB now q.2
theorem known_fn {h : Hs} (k : HouseOk h) (w : Rd4) (f : Fl) (d : List UInt8) {now : Int} (h0 : 0 <= now) (hn : now <= 1099511627776) : wKnown_fn (w.a, (w.b, (w.p, (w.q, wk h f d now)))) = some (kn h w now, wk h f d now) := by
 unfold wKnown_fn
 refine ev_opt (find_good h.trk w now k.trk h0 hn) (ev_g (decide_eq_true rfl) (ev_r ?_))
 unfold fnd kn
 cases hit (meet w) h.trk with
 | none => rfl
 | some q => cases h1 : oldB now q.2 <;> simp [h1, noT, okT] <;> rfl
def Heard (l : List TTalk) (w : Rd4) (flags now : Int) (l1 : List TTalk) (ok : Bool) : Prop :=
 ∃ (a : List TTalk) (b : Bool) (e : Int), trHear_fn (l, (w.a, (w.b, (w.p, (w.q, (flags, (now, ()))))))) = some (a, (b, (e, ()))) /\ l1 = (if e = 0 then a else l) /\ ok = (decide (e = 0) && b)
theorem hear_till (l : List TTalk) (w : Rd4) (flags now : Int) (hg : Good l) (hr : InR l w flags now) {a : List TTalk} {ok : Bool} {e : Int} (h : trHear_fn (l, (w.a, (w.b, (w.p, (w.q, (flags, (now, ()))))))) = some (a, (ok, (e, ())))) : ∀ x ∈ a, x.at' <= now := by
 rw [hear_good l w flags now hg hr] at h
 obtain ⟨r1, r2, r3, r4, r5⟩ := hr
 have hl : ∀ y ∈ l, y.at' <= now := fun y hy => Int.le_trans (last_le hg y hy) r4
 have hnow : ∀ y ∈ Young l now, y.at' <= now := fun y hy => hl y (young_mem.1 hy).1
 cases h2 : hit (meet w) (Young l now) with
 | none =>
  rw [tail_none l w flags now hg h2] at h
  split at h
  · split at h
    · cases h; exact hl
    · cases h
      intro x hx
      rcases List.mem_append.1 hx with h3 | h3
      · exact hnow x h3
      · simp at h3; rw [h3]; exact Int.le_refl _
  · cases h; exact hnow
 | some q =>
  obtain ⟨i, x⟩ := q
  cases hrst : rstB flags with
  | true =>
    rw [tail_some l w flags now hg h2 hrst] at h
    cases h
    exact fun y hy => hnow y ((out_sub _ i).subset hy)
  | false =>
    obtain ⟨b, x', e1, e2, e3, e4⟩ := tail_pass l w flags now hg h2 hrst
    rw [e4] at h
    cases b with
    | false => cases h; exact hnow
    | true =>
      cases h
      intro y hy
      rcases List.mem_append.1 hy with h3 | h3
      · exact hnow y ((out_sub _ i).subset h3)
      · simp at h3; rw [h3, e2]; exact Int.le_refl _
theorem heard_ex {l : List TTalk} (hg : Good l) (w : Rd4) (flags now : Int) (hl : ∀ x ∈ l, x.at' <= now) : ∃ l1 ok, Heard l w flags now l1 ok := by
 have hb : l.length * 48 <= 140737488351232 := by have := hg.1; omega
 by_cases hr : InR l w flags now
 · obtain ⟨a, ok, e, h1, _⟩ := hear_all l w flags now hg hr
   exact ⟨_, _, a, ok, e, h1, rfl, rfl⟩
 · obtain ⟨e, _, h1⟩ := hear_bad l w flags now hb fun q => hr q.2
   exact ⟨_, _, _, _, _, h1, rfl, rfl⟩
theorem heard_good {l : List TTalk} (hg : Good l) {w : Rd4} {flags now : Int} (hl : ∀ x ∈ l, x.at' <= now) {l1 : List TTalk} {ok : Bool} (h : Heard l w flags now l1 ok) : Good l1 /\ ∀ x ∈ l1, x.at' <= now := by
 obtain ⟨a, b, e, h1, rfl, rfl⟩ := h
 have hb : l.length * 48 <= 140737488351232 := by have := hg.1; omega
 by_cases he : e = 0
 case neg => rw [if_neg he]; exact ⟨hg, hl⟩
 rw [if_pos he]
 by_cases hr : InR l w flags now
 · obtain ⟨a', ok', e', h2, h3⟩ := hear_all l w flags now hg hr
   rw [h1] at h2
   obtain ⟨rfl, rfl, rfl⟩ : a = a' /\ b = ok' /\ e = e' := by simpa using h2
   refine ⟨?_, hear_till l w flags now hg hr h1⟩
   rcases h3 with ⟨h4, _⟩ | ⟨_, h4, _⟩
   · exact absurd he h4
   · exact h4
 · obtain ⟨e', he', h2⟩ := hear_bad l w flags now hb fun q => hr q.2
   rw [h1] at h2
   obtain ⟨_, _, rfl⟩ : a = l /\ b = false /\ e = e' := by simpa using h2
   exact absurd he he'
def flagsOf (d : List UInt8) : Int := (((pk d).data.getD 13 0).toNat : Int)
theorem talked_fn {h : Hs} (w : Rd4) (f : Fl) (d : List UInt8) {now : Int} (hd : EndOk d) (h6 : (d.getD 9 0).toNat = 6) (hl : d.length <= Lim) {l1 : List TTalk} {ok : Bool} (hh : Heard h.trk w (flagsOf d) now l1 ok) :
   wTalked_fn (w.a, (w.b, (w.p, (w.q, wk h f d now)))) = some (ok, wk { h with trk := l1 } f d now) := by
 obtain ⟨a, b, e, h1, rfl, rfl⟩ := hh
 obtain ⟨u1, u2⟩ := pk_u32 d
 obtain ⟨o, ho⟩ := tc_ok u1 u2 (hd.tcp h6)
 unfold wTalked_fn
 refine ev_opt (ipRead_ok hd.ip hl) (ev_opt ho (ev_opt h1 ?_))
 by_cases he : e = 0
 · have d1 : decide (e = 0) = true := decide_eq_true he
   refine ev_t d1 (ev_t d1 (ev_g (decide_eq_true rfl) (ev_r ?_)))
   rw [if_pos he, d1]; rfl
 · have d1 : decide (e = 0) = false := decide_eq_false he
   refine ev_f d1 (ev_f d1 (ev_g (decide_eq_true rfl) (ev_r ?_)))
   rw [if_neg he, d1]; rfl

def pass (h : Hs) (f : Fl) : Bool := (dec h.rules (meetsB f.a f.b f.pr f.p f.q) (badB f.pr f.p f.q) h.els).1
def road (f : Fl) : Rd4 := ⟨f.a, f.b, f.p, f.q⟩
structure Fit32 (h : Hs) : Prop where
 out : U32 h.out
 adr : ∀ m ∈ h.maps, U32 m.addr
def Talks (h : Hs) (f : Fl) (w : Rd4) (d : List UInt8) (now : Int) (l1 : List TTalk) (ok : Bool) : Prop := (f.pr ≠ 6 /\ l1 = h.trk /\ ok = true) \/ (f.pr = 6 /\ Heard h.trk w (flagsOf d) now l1 ok)
def nOut (h : Hs) (f : Fl) (now : Int) : Option (Int × (Int × (Int × (Int × (Int × ((List TMap) × (Int × (Int × Unit)))))))) := natOut_fn (h.nl, (h.lb, ((h.L : Int), (h.sb, ((h.S : Int), (h.maps, (f.pr, (f.a, (f.p, (now, ()))))))))))
inductive Leaves (h : Hs) (f : Fl) (d : List UInt8) (now : Int) : Hs -> List UInt8 -> Int -> Prop
 | rules (h1 : f.pr ≠ 6 \/ kn h (road f) now = false) (h2 : pass h f = false) : Leaves h f d now h [] 4
 | talk (l1 : List TTalk) (h1 : f.pr = 6) (h2 : kn h (road f) now = true \/ pass h f = true) (h3 : Heard h.trk (road f) (flagsOf d) now l1 false) : Leaves h f d now { h with trk := l1 } [] 4
 | full (l1 : List TTalk) (e : Int) (h1 : (f.pr = 6 /\ kn h (road f) now = true) \/ pass h f = true) (h2 : Talks h f (road f) d now l1 true) (he : e ≠ 0) (h3 : nOut h f now = some (h.nl, (h.lb, ((h.L : Int), (h.sb, ((h.S : Int), (h.maps, ((0 : Int), (e, ()))))))))) : Leaves h f d now { h with trk := l1 } [] 5
 | out (l1 : List TTalk) (port : Int) (L2 S2 : Nat) (m2 : List TMap) (h1 : (f.pr = 6 /\ kn h (road f) now = true) \/ pass h f = true) (h2 : Talks h f (road f) d now l1 true)
  (h3 : nOut h f now = some (h.nl, (h.lb, ((L2 : Int), (h.sb, ((S2 : Int), (m2, (port, ((0 : Int), ()))))))))) (hp : U16 port) : Leaves h f d now { h with trk := l1, L := L2, S := S2, maps := m2 } (swp d h.out port 12 0) 0
theorem nOut_ex {h : Hs} (k : HouseOk h) {f : Fl} {now : Int} (ht : Till h now) (hn : now <= 1099511627776) (hpr : f.pr = 17 \/ f.pr = 6) (hp : 0 <= f.p /\ f.p <= 65535) (ha : U32 f.a) :
   (∃ e : Int, e ≠ 0 /\ nOut h f now = some (h.nl, (h.lb, ((h.L : Int), (h.sb, ((h.S : Int), (h.maps, ((0 : Int), (e, ()))))))))) \/ ∃ (port : Int) (L2 S2 : Nat) (Z : List TMap), nOut h f now = some (h.nl, (h.lb, ((L2 : Int), (h.sb, ((S2 : Int), (Z ++ [⟨f.pr, f.a, f.p, port, now⟩], (port, ((0 : Int), ())))))))) /\
    NatOk h.nl h.lb L2 h.sb S2 (Z ++ [⟨f.pr, f.a, f.p, port, now⟩]) /\ (∀ m ∈ Z, m ∈ h.maps /\ now - m.at' <= h.nl /\ kb f.pr f.a f.p m = false) /\ (∀ m ∈ h.maps, now - m.at' <= h.nl -> kb f.pr f.a f.p m = false -> m ∈ Z) := by
 have hl := k.nat.len.2.2
 have hA : ArgOk h.maps f.pr f.p now := ⟨hpr, hp, lastAt_le ht.pos ht.maps, ht.pos, hn⟩
 obtain ⟨Y, _, hY, hcase⟩ := out_ok (addr := f.a) k.nat hA (by omega) (by unfold BigN; omega)
 rcases hcase with ⟨out, L2, S2, Z, ho, hN, _, hZ, _, _⟩ | ⟨ho, _⟩
 · exact .inr ⟨out, L2, S2, Z, ho, hN, fun m hm => ⟨((hY m).1 ((hZ m).1 hm).1).1, ((hY m).1 ((hZ m).1 hm).1).2, ((hZ m).1 hm).2⟩, fun m h1 h2 h3 => (hZ m).2 ⟨(hY m).2 ⟨h1, h2⟩, h3⟩⟩
 · exact .inl ⟨6, by decide, ho⟩
theorem nat_port {life lb : Int} {L : Nat} {sb : Int} {S : Nat} {l : List TMap} (h : NatOk life lb L sb S l) : ∀ m ∈ l, U16 m.out /\ ((m.proto = 17 /\ lb <= m.out /\ m.out < lb + 64) \/ (m.proto = 6 /\ sb <= m.out /\ m.out < sb + 64)) := by
 intro m hm
 have hb := h.bl; have hs := h.bs
 unfold baseOk at hb hs
 unfold U16
 rcases (h.ok m hm).1 with e | e
 · have : m.out ∈ outs 17 l := outs_mem.2 ⟨m, hm, e, rfl⟩
   obtain ⟨k, h1, _, h3⟩ := (h.covL.2 _).1 this
   exact ⟨by omega, .inl ⟨e, by omega, by omega⟩⟩
 · have : m.out ∈ outs 6 l := outs_mem.2 ⟨m, hm, e, rfl⟩
   obtain ⟨k, h1, _, h3⟩ := (h.covS.2 _).1 this
   exact ⟨by omega, .inr ⟨e, by omega, by omega⟩⟩
theorem dec_some (h : Hs) (f : Fl) : ruDecide_fn (h.rules, (f.a, (f.b, (f.pr, (f.p, (f.q, (h.els, ()))))))) = some (dec h.rules (meetsB f.a f.b f.pr f.p f.q) (badB f.pr f.p f.q) h.els) := decide_fn _ _ _ _ _ _ _
def flow (s : List UInt8) : Fl := ⟨(pk s).from', (pk s).to, ((s.getD 9 0).toNat : Int), wAt (pk s).data 0, wAt (pk s).data 2⟩
theorem flow_ok {d : List UInt8} (hd : EndOk d) : U32 (flow d).a /\ U32 (flow d).b /\ ((flow d).pr = 17 \/ (flow d).pr = 6) /\ U16 (flow d).p /\ U16 (flow d).q /\ ((flow d).pr = 6 ↔ (d.getD 9 0).toNat = 6) := by
 obtain ⟨u1, u2⟩ := pk_u32 d
 refine ⟨u1, u2, ?_, wAt_bound _ _, wAt_bound _ _, ?_⟩
 · rcases hd.proto with h | h
   · right; show ((d.getD 9 0).toNat : Int) = 6; omega
   · left; show ((d.getD 9 0).toNat : Int) = 17; omega
 · show ((d.getD 9 0).toNat : Int) = 6 ↔ _; omega
def Fine (h : Hs) (now : Int) : Prop := HouseOk h /\ Fit32 h /\ Till h now
theorem Fine.trk {h : Hs} {now : Int} (k : Fine h now) {w : Rd4} {flags : Int} {l1 : List TTalk} {ok : Bool} (hh : Heard h.trk w flags now l1 ok) : Fine { h with trk := l1 } now := by
 obtain ⟨k1, k2, k3⟩ := k
 obtain ⟨g1, g2⟩ := heard_good k1.trk k3.trk hh
 exact ⟨⟨⟨k1.plan.lt, k1.plan.st, k1.plan.life, k1.plan.rate, k1.plan.most, k1.plan.rules⟩, g1, k1.nat, k1.met, k1.el, k1.eb, k1.es⟩, ⟨k2.out, k2.adr⟩, ⟨k3.met, g2, k3.maps, k3.pos⟩⟩
theorem out_tail {h : Hs} {now : Int} (k : Fine h now) (hn : now <= 1099511627776) {d : List UInt8} (hd : EndOk d) :
   (∃ e : Int, e ≠ 0 /\ (!decide (e = 0)) = true /\ nOut h (flow d) now = some (h.nl, (h.lb, ((h.L : Int), (h.sb, ((h.S : Int), (h.maps, ((0 : Int), (e, ()))))))))) \/
   (∃ (port : Int) (L2 S2 : Nat) (m2 : List TMap), nOut h (flow d) now = some (h.nl, (h.lb, ((L2 : Int), (h.sb, ((S2 : Int), (m2, (port, ((0 : Int), ())))))))) /\ U16 port /\ Fine { h with L := L2, S := S2, maps := m2 } now) := by
 obtain ⟨k1, k2, k3⟩ := k
 obtain ⟨f1, f2, f3, f4, f5, f6⟩ := flow_ok hd
 rcases nOut_ex k1 k3 hn f3 f4 f1 with ⟨e, he, ho⟩ | ⟨port, L2, S2, Z, ho, hN, hZ, _⟩
 · left
   exact ⟨e, he, by rw [decide_eq_false he]; rfl, ho⟩
 · right
   have hp : U16 port := (nat_port hN _ (List.mem_append_right _ (List.mem_singleton.2 rfl))).1
   refine ⟨port, L2, S2, _, ho, hp, ⟨⟨k1.plan.lt, k1.plan.st, k1.plan.life, k1.plan.rate, k1.plan.most, k1.plan.rules⟩, k1.trk, hN, k1.met, k1.el, k1.eb, k1.es⟩, ⟨k2.out, fun m hm => ?_⟩, ⟨k3.met, k3.trk, fun m hm => ?_, k3.pos⟩⟩
   · rcases List.mem_append.1 hm with h1 | h1
     · exact k2.adr m (hZ m h1).1
     · simp at h1; rw [h1]; exact f1
   · rcases List.mem_append.1 hm with h1 | h1
     · exact k3.maps m (hZ m h1).1
     · simp at h1; rw [h1]; exact Int.le_refl _
theorem leaves_ex {h : Hs} {now : Int} (k : Fine h now) (hn : now <= 1099511627776) {d : List UInt8} (hd : EndOk d) (hl : d.length <= Lim) :
  ∃ (h' : Hs) (out : List UInt8) (why : Int), wLeaves_fn (wk h (flow d) d now) = some (out, (why, wk h' (flow d) d now)) /\ Leaves h (flow d) d now h' out why /\ Fine h' now := by
 obtain ⟨f1, f2, f3, f4, f5, f6⟩ := flow_ok hd
 have hdec := dec_some h (flow d)
 have h0 := k.2.2.pos
 unfold wLeaves_fn
 by_cases p6 : (flow d).pr = 6
 case neg =>
  have d6 : decide ((flow d).pr = 6) = false := decide_eq_false p6
  have d6' : (!decide ((flow d).pr = 6)) = true := by rw [d6]; rfl
  cases hp : pass h (flow d) with
  | false => exact ⟨h, [], 4, ev_t d6' (ev_opt hdec (ev_t (by show (!pass h (flow d)) = true; rw [hp]; rfl) (ev_g (decide_eq_true rfl) (ev_r rfl)))), .rules (.inl p6) hp, k⟩
  | true =>
   have np : (!pass h (flow d)) = false := by rw [hp]; rfl
   rcases out_tail k hn hd with ⟨e, he, he', ho⟩ | ⟨port, L2, S2, m2, ho, hpo, hF⟩
   · exact ⟨h, [], 5, ev_t d6' (ev_opt hdec (ev_f np (ev_f d6 (ev_opt ho (ev_t he' (ev_g (decide_eq_true rfl) (ev_r rfl))))))), .full h.trk e (.inr hp) (.inl ⟨p6, rfl, rfl⟩) he ho, k⟩
   · exact ⟨_, _, 0, ev_t d6' (ev_opt hdec (ev_f np (ev_f d6 (ev_opt ho (ev_f rfl (ev_opt (from_ok hd hl k.2.1.out hpo) (ev_g (decide_eq_true rfl) (ev_r rfl)))))))), .out h.trk port L2 S2 m2 (.inr hp) (.inl ⟨p6, rfl, rfl⟩) ho hpo, hF⟩
 have d6 : decide ((flow d).pr = 6) = true := decide_eq_true p6
 have d6' : (!decide ((flow d).pr = 6)) = false := by rw [d6]; rfl
 have hkn := known_fn k.1 (road (flow d)) (flow d) d h0 hn
 obtain ⟨l1, ok, hh⟩ := heard_ex k.1.trk (road (flow d)) (flagsOf d) now k.2.2.trk
 have htk := talked_fn (h := h) (road (flow d)) (flow d) d hd (f6.1 p6) hl hh
 have kF := k.trk hh
 cases hk : kn h (road (flow d)) now with
 | false =>
  have nk : (!kn h (road (flow d)) now) = true := by rw [hk]; rfl
  cases hp : pass h (flow d) with
  | false => exact ⟨h, [], 4, ev_f d6' (ev_g (decide_eq_true rfl) (ev_opt hkn (ev_t nk (ev_opt hdec (ev_t (by show (!pass h (flow d)) = true; rw [hp]; rfl) (ev_g (decide_eq_true rfl) (ev_r rfl))))))), .rules (.inr hk) hp, k⟩
  | true =>
   have np : (!pass h (flow d)) = false := by rw [hp]; rfl
   cases ok with
   | false => exact ⟨{ h with trk := l1 }, [], 4, ev_f d6' (ev_g (decide_eq_true rfl) (ev_opt hkn (ev_t nk (ev_opt hdec (ev_f np (ev_t d6 (ev_g (decide_eq_true rfl) (ev_opt htk (ev_t rfl (ev_g (decide_eq_true rfl) (ev_r rfl))))))))))), .talk l1 p6 (.inr hp) hh, kF⟩
   | true =>
     rcases out_tail kF hn hd with ⟨e, he, he', ho⟩ | ⟨port, L2, S2, m2, ho, hpo, hF⟩
     · exact ⟨{ h with trk := l1 }, [], 5, ev_f d6' (ev_g (decide_eq_true rfl) (ev_opt hkn (ev_t nk (ev_opt hdec (ev_f np (ev_t d6 (ev_g (decide_eq_true rfl) (ev_opt htk (ev_f rfl (ev_opt ho (ev_t he' (ev_g (decide_eq_true rfl) (ev_r rfl))))))))))))), .full l1 e (.inr hp) (.inr ⟨p6, hh⟩) he ho, kF⟩
     · exact ⟨{ h with trk := l1, L := L2, S := S2, maps := m2 }, swp d h.out port 12 0, 0, ev_f d6' (ev_g (decide_eq_true rfl) (ev_opt hkn (ev_t nk (ev_opt hdec (ev_f np (ev_t d6 (ev_g (decide_eq_true rfl) (ev_opt htk (ev_f rfl (ev_opt ho (ev_f rfl (ev_opt (from_ok hd hl k.2.1.out hpo) (ev_g (decide_eq_true rfl) (ev_r rfl)))))))))))))), .out l1 port L2 S2 m2 (.inr hp) (.inr ⟨p6, hh⟩) ho hpo, hF⟩
 | true =>
  have nk : (!kn h (road (flow d)) now) = false := by rw [hk]; rfl
  cases ok with
  | false => exact ⟨{ h with trk := l1 }, [], 4, ev_f d6' (ev_g (decide_eq_true rfl) (ev_opt hkn (ev_f nk (ev_t d6 (ev_g (decide_eq_true rfl) (ev_opt htk (ev_t rfl (ev_g (decide_eq_true rfl) (ev_r rfl))))))))), .talk l1 p6 (.inl hk) hh, kF⟩
  | true =>
   rcases out_tail kF hn hd with ⟨e, he, he', ho⟩ | ⟨port, L2, S2, m2, ho, hpo, hF⟩
   · exact ⟨{ h with trk := l1 }, [], 5, ev_f d6' (ev_g (decide_eq_true rfl) (ev_opt hkn (ev_f nk (ev_t d6 (ev_g (decide_eq_true rfl) (ev_opt htk (ev_f rfl (ev_opt ho (ev_t he' (ev_g (decide_eq_true rfl) (ev_r rfl))))))))))), .full l1 e (.inl ⟨p6, hk⟩) (.inr ⟨p6, hh⟩) he ho, kF⟩
   · exact ⟨{ h with trk := l1, L := L2, S := S2, maps := m2 }, swp d h.out port 12 0, 0, ev_f d6' (ev_g (decide_eq_true rfl) (ev_opt hkn (ev_f nk (ev_t d6 (ev_g (decide_eq_true rfl) (ev_opt htk (ev_f rfl (ev_opt ho (ev_f rfl (ev_opt (from_ok hd hl k.2.1.out hpo) (ev_g (decide_eq_true rfl) (ev_r rfl)))))))))))), .out l1 port L2 S2 m2 (.inl ⟨p6, hk⟩) (.inr ⟨p6, hh⟩) ho hpo, hF⟩
def roadIn (f : Fl) (addr port : Int) : Rd4 := ⟨f.a, addr, f.p, port⟩
def nIn (h : Hs) (f : Fl) (now : Int) : Option (Nat × TMap) := hit (inB h.nl f.pr f.q now) h.maps
inductive Enters (h : Hs) (f : Fl) (d : List UInt8) (now : Int) : Hs -> List UInt8 -> Int -> Prop
 | none (h1 : nIn h f now = .none) : Enters h f d now h [] 4
 | unknown (r : Nat × TMap) (h1 : nIn h f now = some r) (h2 : f.pr = 6) (h3 : kn h (roadIn f r.2.addr r.2.port) now = false) : Enters h f d now h [] 4
 | talk (r : Nat × TMap) (l1 : List TTalk) (h1 : nIn h f now = some r) (h2 : f.pr = 6) (h3 : kn h (roadIn f r.2.addr r.2.port) now = true) (h4 : Heard h.trk (roadIn f r.2.addr r.2.port) (flagsOf d) now l1 false) : Enters h f d now { h with trk := l1 } [] 4
 | ins (r : Nat × TMap) (l1 : List TTalk) (h1 : nIn h f now = some r) (h2 : f.pr = 6 -> kn h (roadIn f r.2.addr r.2.port) now = true) (h3 : Talks h f (roadIn f r.2.addr r.2.port) d now l1 true) (h4 : U32 r.2.addr /\ U16 r.2.port) : Enters h f d now { h with trk := l1 } (swp d r.2.addr r.2.port 16 2) 0
theorem enters_ex {h : Hs} {now : Int} (k : Fine h now) (hn : now <= 1099511627776) {d : List UInt8} (hd : EndOk d) (hl : d.length <= Lim) :
  ∃ (h' : Hs) (out : List UInt8) (why : Int), wEnters_fn (wk h (flow d) d now) = some (out, (why, wk h' (flow d) d now)) /\ Enters h (flow d) d now h' out why /\ Fine h' now := by
 obtain ⟨f1, f2, f3, f4, f5, f6⟩ := flow_ok hd
 have h0 := k.2.2.pos
 have hlm := k.1.nat.len.2.2
 have hin := in_ok (out := (flow d).q) k.1.nat f3 ⟨h0, hn⟩ (by unfold BigN; omega)
 have hr : ∀ r, nIn h (flow d) now = some r -> U32 r.2.addr /\ U16 r.2.port := fun r e => by
  have hm := List.mem_of_getElem? (hit_at (i := r.1) (x := r.2) e).1
  exact ⟨k.2.1.adr _ hm, (k.1.nat.ok _ hm).2.1, (k.1.nat.ok _ hm).2.2.1⟩
 have hE : nIn h (flow d) now = hit (inB h.nl (flow d).pr (flow d).q now) h.maps := rfl
 unfold wEnters_fn
 rw [<- hE] at hin
 cases e : nIn h (flow d) now with
 | none =>
  rw [e] at hin
  exact ⟨h, [], 4, ev_opt hin (ev_t rfl (ev_g (decide_eq_true rfl) (ev_r rfl))), .none e, k⟩
 | some r =>
  rw [e] at hin
  obtain ⟨ra, rp⟩ := hr r e
  by_cases p6 : (flow d).pr = 6
  case neg =>
   exact ⟨h, _, 0, ev_opt hin (ev_f rfl (ev_f (decide_eq_false p6) (ev_opt (to_ok hd hl ra rp) (ev_g (decide_eq_true rfl) (ev_r rfl))))), .ins r h.trk e (fun q => absurd q p6) (.inl ⟨p6, rfl, rfl⟩) ⟨ra, rp⟩, k⟩
  have d6 : decide ((flow d).pr = 6) = true := decide_eq_true p6
  have hkn := known_fn k.1 (roadIn (flow d) r.2.addr r.2.port) (flow d) d h0 hn
  cases hk : kn h (roadIn (flow d) r.2.addr r.2.port) now with
  | false =>
   have nk : (!kn h (roadIn (flow d) r.2.addr r.2.port) now) = true := by rw [hk]; rfl
   exact ⟨h, [], 4, ev_opt hin (ev_f rfl (ev_t d6 (ev_g (decide_eq_true rfl) (ev_opt hkn (ev_t nk (ev_g (decide_eq_true rfl) (ev_r rfl))))))), .unknown r e p6 hk, k⟩
  | true =>
   have nk : (!kn h (roadIn (flow d) r.2.addr r.2.port) now) = false := by rw [hk]; rfl
   obtain ⟨l1, ok, hh⟩ := heard_ex k.1.trk (roadIn (flow d) r.2.addr r.2.port) (flagsOf d) now k.2.2.trk
   have htk := talked_fn (h := h) (roadIn (flow d) r.2.addr r.2.port) (flow d) d hd (f6.1 p6) hl hh
   have kF := k.trk hh
   cases ok with
   | false => exact ⟨{ h with trk := l1 }, [], 4, ev_opt hin (ev_f rfl (ev_t d6 (ev_g (decide_eq_true rfl) (ev_opt hkn (ev_f nk (ev_g (decide_eq_true rfl) (ev_opt htk (ev_t rfl (ev_g (decide_eq_true rfl) (ev_r rfl)))))))))), .talk r l1 e p6 hk hh, kF⟩
   | true => exact ⟨{ h with trk := l1 }, _, 0, ev_opt hin (ev_f rfl (ev_t d6 (ev_g (decide_eq_true rfl) (ev_opt hkn (ev_f nk (ev_g (decide_eq_true rfl) (ev_opt htk (ev_f rfl (ev_opt (to_ok hd hl ra rp) (ev_g (decide_eq_true rfl) (ev_r rfl))))))))))), .ins r l1 e (fun _ => hk) (.inr ⟨p6, hh⟩) ⟨ra, rp⟩, kF⟩
structure Hop (s t : List UInt8) : Prop where
 fn : ipHop_fn (s, ()) = some (t, ((0 : Int), ()))
 ends : EndOk t
 flow : flow t = flow s
 life : 2 <= (pk s).life /\ (pk t).life = (pk s).life - 1
 pk : pk t = { pk s with life := (pk s).life - 1 }
 len : t.length <= s.length
 all : t.length = alln s
 big : t.length <= 65535
theorem hop_ex {s : List UInt8} (h : EndOk s) (hl : s.length <= Lim) (h2 : 2 <= (pk s).life) : ∃ t, Hop s t := by
 obtain ⟨t, h3, h4, h5, h6, h7⟩ := hop_fnL h.ip hl h2
 have h8 := (end_len h).2.2.2.2.2.1
 have e9 : (t.getD 9 0).toNat = (s.getD 9 0).toNat := by
   have : (pk t).proto = (pk s).proto := by rw [h5]
   have : ((t.getD 9 0).toNat : Int) = ((s.getD 9 0).toNat : Int) := this
   omega
 have ed : (pk t).data = (pk s).data := by rw [h5]
 have ef : (pk t).from' = (pk s).from' := by rw [h5]
 have eb : (pk t).to = (pk s).to := by rw [h5]
 refine ⟨t, h3, ⟨h4, by rw [e9]; exact h.proto, by rw [h5]; exact h.whole, ?_, ?_⟩, ?_, ⟨h2, by rw [h5]⟩, h5, h6, h7, by omega⟩
 · rw [e9, ed, ef, eb]; exact h.tcp
 · rw [e9, ed, ef, eb]; exact h.udp
 · unfold X.flow; rw [ed, ef, eb, e9]
inductive Goes (h : Hs) (ins : Bool) (s : List UInt8) (now : Int) : Hs -> List UInt8 -> Int -> Prop
 | broken (h1 : ¬ EndOk s) : Goes h ins s now h [] 1
 | other (h1 : EndOk s) (h2 : ins = false) (h3 : (flow s).b ≠ h.out) : Goes h ins s now h [] 4
 | life (h1 : EndOk s) (h3 : (pk s).life < 2) : Goes h ins s now h [] 2
 | much (t : List UInt8) (h1 : EndOk s) (h2 : Hop s t) (h3 : mGo h (flow s).a now t.length = false) (h4 : ins = true \/ (flow s).b = h.out) : Goes h ins s now (mHs h (flow s).a now t.length) [] 3
 | leaves (t : List UInt8) (h' : Hs) (out : List UInt8) (why : Int) (h1 : EndOk s) (h2 : Hop s t) (h3 : mGo h (flow s).a now t.length = true) (h4 : ins = true) (h5 : Leaves (mHs h (flow s).a now t.length) (flow s) t now h' out why) : Goes h ins s now h' out why
 | enters (t : List UInt8) (h' : Hs) (out : List UInt8) (why : Int) (h1 : EndOk s) (h2 : Hop s t) (h3 : mGo h (flow s).a now t.length = true) (h4 : ins = false) (h5 : (flow s).b = h.out) (h6 : Enters (mHs h (flow s).a now t.length) (flow s) t now h' out why) : Goes h ins s now h' out why
theorem goes_ex {h : Hs} {now : Int} (k : Fine h now) (hn : now <= 1099511627776) (ins : Bool) {s : List UInt8} (hl : s.length <= Lim) (f0 : Fl) (d0 : List UInt8) :
   ∃ (h' : Hs) (out : List UInt8) (why : Int) (f' : Fl) (d' : List UInt8), wGoes_fn (ins, (s, wk h f0 d0 now)) = some (out, (why, wk h' f' d' now)) /\ Goes h ins s now h' out why /\ Fine h' now := by
 have hl' := hl
 unfold wGoes_fn
 by_cases hE : EndOk s
 case neg =>
   obtain ⟨e, he, h1⟩ := ends_bad hE hl'
   exact ⟨h, [], 1, ⟨0, 0, 0, 0, 0⟩, d0, ev_opt h1 (ev_t (by show (!decide (e = 0)) = true; rw [decide_eq_false he]; rfl) (ev_g (decide_eq_true rfl) (ev_r rfl))), .broken hE, k⟩
 have hends := ends_ok hE hl'
 by_cases hb : ins = false /\ (flow s).b ≠ h.out
 · obtain ⟨rfl, hb⟩ := hb
   exact ⟨h, [], 4, flow s, d0, ev_opt hends (ev_f rfl (ev_t rfl (ev_t (by show (!decide ((flow s).b = h.out)) = true; rw [decide_eq_false hb]; rfl) (ev_g (decide_eq_true rfl) (ev_r rfl))))), .other hE rfl hb, k⟩
 have hor : ins = true \/ (flow s).b = h.out := by
   cases ins with
   | true => exact .inl rfl
   | false => right; exact Classical.byContradiction fun q => hb ⟨rfl, q⟩
 by_cases hlife : (pk s).life < 2
 · have hh := hop_end hE.ip hl' hlife
   cases ins with
   | true => exact ⟨h, [], 2, flow s, [], ev_opt hends (ev_f rfl (ev_f rfl (ev_opt hh (ev_t rfl (ev_g (decide_eq_true rfl) (ev_r rfl)))))), .life hE hlife, k⟩
   | false =>
    have hq : (flow s).b = h.out := by rcases hor with q | q; (cases q); exact q
    exact ⟨h, [], 2, flow s, [], ev_opt hends (ev_f rfl (ev_t rfl (ev_f (by show (!decide ((flow s).b = h.out)) = false; rw [decide_eq_true hq]; rfl) (ev_opt hh (ev_t rfl (ev_g (decide_eq_true rfl) (ev_r rfl))))))), .life hE hlife, k⟩
 obtain ⟨t, ht⟩ := hop_ex hE hl' (by omega)
 have htl := ht.len
 have htb := ht.big
 have htl' : t.length <= Lim := Nat.le_trans htl hl'
 have hm := measured_fn k.1 (flow s) t k.2.2 hn (by omega)
 obtain ⟨m1, m2⟩ := mHs_ok (a := (flow s).a) (n := (t.length : Int)) k.1 k.2.2 hn ⟨by omega, by omega⟩
 have kM : Fine (mHs h (flow s).a now t.length) now := ⟨m1, ⟨k.2.1.out, k.2.1.adr⟩, m2⟩
 cases hg : mGo h (flow s).a now t.length with
 | false =>
   have ng : (!mGo h (flow s).a now t.length) = true := by rw [hg]; rfl
   cases ins with
   | true => exact ⟨_, [], 3, flow s, t, ev_opt hends (ev_f rfl (ev_f rfl (ev_opt ht.fn (ev_f rfl (ev_g (decide_eq_true rfl) (ev_opt hm (ev_t ng (ev_g (decide_eq_true rfl) (ev_r rfl))))))))), .much t hE ht hg hor, kM⟩
   | false =>
    have hq : (flow s).b = h.out := by rcases hor with q | q; (cases q); exact q
    exact ⟨_, [], 3, flow s, t, ev_opt hends (ev_f rfl (ev_t rfl (ev_f (by show (!decide ((flow s).b = h.out)) = false; rw [decide_eq_true hq]; rfl) (ev_opt ht.fn (ev_f rfl (ev_g (decide_eq_true rfl) (ev_opt hm (ev_t ng (ev_g (decide_eq_true rfl) (ev_r rfl)))))))))), .much t hE ht hg hor, kM⟩
 | true =>
   have ng : (!mGo h (flow s).a now t.length) = false := by rw [hg]; rfl
   cases ins with
   | true =>
    obtain ⟨h', out, why, q1, q2, q3⟩ := leaves_ex kM hn ht.ends htl'
    rw [ht.flow] at q1 q2
    exact ⟨h', out, why, flow s, t, ev_opt hends (ev_f rfl (ev_f rfl (ev_opt ht.fn (ev_f rfl (ev_g (decide_eq_true rfl) (ev_opt hm (ev_f ng (ev_t rfl (ev_g (decide_eq_true rfl) (ev_opt q1 (ev_g (decide_eq_true rfl) (ev_r rfl)))))))))))), .leaves t h' out why hE ht hg rfl q2, q3⟩
   | false =>
    have hq : (flow s).b = h.out := by rcases hor with q | q; (cases q); exact q
    obtain ⟨h', out, why, q1, q2, q3⟩ := enters_ex kM hn ht.ends htl'
    rw [ht.flow] at q1 q2
    exact ⟨h', out, why, flow s, t, ev_opt hends (ev_f rfl (ev_t rfl (ev_f (by show (!decide ((flow s).b = h.out)) = false; rw [decide_eq_true hq]; rfl) (ev_opt ht.fn (ev_f rfl (ev_g (decide_eq_true rfl) (ev_opt hm (ev_f ng (ev_f rfl (ev_g (decide_eq_true rfl) (ev_opt q1 (ev_g (decide_eq_true rfl) (ev_r rfl))))))))))))), .enters t h' out why hE ht hg rfl hq q2, q3⟩
theorem hear_ok {h : Hs} {now : Int} (k : Fine h now) (hn : now <= 1099511627776) (ins : Bool) {s : List UInt8} (hl : s.length <= Lim) :
  ∃ (h' : Hs) (out : List UInt8) (why : Int), hsHear_fn (h.t (ins, (s, (now, ())))) = some (h'.t (out, (why, ((0 : Int), ())))) /\ Goes h ins s now h' out why /\ Fine h' now := by
 obtain ⟨g1, g2, g3, g4, g5, g6⟩ := k.1.fits
 obtain ⟨c, hc, hq⟩ := hsCheck_ex h k.1.fits
 have hc0 := hq.2 k.1
 have hlast := hsLast_ok h k.1
 have ht := (till_iff k.1 now).2 k.2.2
 obtain ⟨h', out, why, f', d', q1, q2, q3⟩ := goes_ex k hn ins hl ⟨0, 0, 0, 0, 0⟩ []
 refine ⟨h', out, why, ?_, q2, q3⟩
 unfold hsHear_fn
 refine ev_g (decide_eq_true (by show (0 + h.rules.length) * 80 <= 140737488355328 /\ 0 + h.rules.length <= 9223372036854775807; omega)) (ev_g (decide_eq_true (by show (0 + h.met.length) * 40 <= 140737488355328 /\ 0 + h.met.length <= 9223372036854775807; omega)) (ev_g (decide_eq_true (by show (0 + h.trk.length) * 48 <= 140737488355328 /\ 0 + h.trk.length <= 9223372036854775807; omega)) (ev_g (decide_eq_true (by show (0 + h.maps.length) * 40 <= 140737488355328 /\ 0 + h.maps.length <= 9223372036854775807; omega)) ?_)))
 refine ev_opt hc (ev_f (by show (!decide (c = 0)) = false; rw [decide_eq_true hc0]; rfl) (ev_opt hlast (ev_f (decide_eq_false (by show ¬ now < lastH h; omega)) (ev_f (decide_eq_false (by show ¬ 1099511627776 < now; omega)) (ev_g (decide_eq_true rfl) (ev_opt q1 (ev_r rfl)))))))
theorem hear_no {h : Hs} (hf : Fits h) (ins : Bool) (s : List UInt8) {now : Int} (hbad : ¬ (HouseOk h /\ Till h now /\ now <= 1099511627776)) :
   ∃ e : Int, e ≠ 0 /\ hsHear_fn (h.t (ins, (s, (now, ())))) = some (h.t ([], ((0 : Int), (e, ())))) := by
 obtain ⟨g1, g2, g3, g4, g5, g6⟩ := hf
 obtain ⟨c, hc, hq⟩ := hsCheck_ex h ⟨g1, g2, g3, g4, g5, g6⟩
 unfold hsHear_fn
 have b1 : decide ((0 + h.rules.length) * 80 <= 140737488355328 /\ 0 + h.rules.length <= 9223372036854775807) = true := decide_eq_true (by omega)
 have b2 : decide ((0 + h.met.length) * 40 <= 140737488355328 /\ 0 + h.met.length <= 9223372036854775807) = true := decide_eq_true (by omega)
 have b3 : decide ((0 + h.trk.length) * 48 <= 140737488355328 /\ 0 + h.trk.length <= 9223372036854775807) = true := decide_eq_true (by omega)
 have b4 : decide ((0 + h.maps.length) * 40 <= 140737488355328 /\ 0 + h.maps.length <= 9223372036854775807) = true := decide_eq_true (by omega)
 by_cases hc0 : c = 0
 case neg => exact ⟨c, hc0, ev_g b1 (ev_g b2 (ev_g b3 (ev_g b4 (ev_opt hc (ev_t (by show (!decide (c = 0)) = true; rw [decide_eq_false hc0]; rfl) (ev_r rfl))))))⟩
 have k := hq.1 hc0
 have hlast := hsLast_ok h k
 have cf : (!decide (c = 0)) = false := by rw [decide_eq_true hc0]; rfl
 by_cases h1 : now < lastH h
 · exact ⟨1, by decide, ev_g b1 (ev_g b2 (ev_g b3 (ev_g b4 (ev_opt hc (ev_f cf (ev_opt hlast (ev_t (decide_eq_true h1) (ev_r rfl))))))))⟩
 by_cases h2 : 1099511627776 < now
 · exact ⟨1, by decide, ev_g b1 (ev_g b2 (ev_g b3 (ev_g b4 (ev_opt hc (ev_f cf (ev_opt hlast (ev_f (decide_eq_false h1) (ev_t (decide_eq_true h2) (ev_r rfl)))))))))⟩
 exact absurd ⟨k, (till_iff k now).1 (by omega), by omega⟩ hbad
structure Same8 (h h' : Hs) : Prop where
 out : h'.out = h.out
 lt : h'.lt = h.lt
 st : h'.st = h.st
 life : h'.life = h.life
 rate : h'.rate = h.rate
 most : h'.most = h.most
 rules : h'.rules = h.rules
 els : h'.els = h.els
theorem Same8.rfl' (h : Hs) : Same8 h h := ⟨rfl, rfl, rfl, rfl, rfl, rfl, rfl, rfl⟩
theorem Leaves.same {h : Hs} {f : Fl} {d : List UInt8} {now : Int} {h' : Hs} {out : List UInt8} {why : Int} (k : Leaves h f d now h' out why) : Same8 h h' /\ h'.met = h.met := by
 cases k <;> exact ⟨⟨rfl, rfl, rfl, rfl, rfl, rfl, rfl, rfl⟩, rfl⟩
theorem Enters.same {h : Hs} {f : Fl} {d : List UInt8} {now : Int} {h' : Hs} {out : List UInt8} {why : Int} (k : Enters h f d now h' out why) : Same8 h h' /\ h'.met = h.met := by
 cases k <;> exact ⟨⟨rfl, rfl, rfl, rfl, rfl, rfl, rfl, rfl⟩, rfl⟩
theorem Goes.same {h : Hs} {ins : Bool} {s : List UInt8} {now : Int} {h' : Hs} {out : List UInt8} {why : Int} (k : Goes h ins s now h' out why) : Same8 h h' := by
 cases k with
 | broken => exact .rfl' h
 | other => exact .rfl' h
 | life => exact .rfl' h
 | much => exact ⟨rfl, rfl, rfl, rfl, rfl, rfl, rfl, rfl⟩
 | leaves t _ _ _ h1 h2 h3 h4 h5 => exact ⟨h5.same.1.1, h5.same.1.2, h5.same.1.3, h5.same.1.4, h5.same.1.5, h5.same.1.6, h5.same.1.7, h5.same.1.8⟩
 | enters t _ _ _ h1 h2 h3 h4 h5 h6 => exact ⟨h6.same.1.1, h6.same.1.2, h6.same.1.3, h6.same.1.4, h6.same.1.5, h6.same.1.6, h6.same.1.7, h6.same.1.8⟩
theorem Same8.trans {a b c : Hs} (h : Same8 a b) (k : Same8 b c) : Same8 a c := ⟨k.1.trans h.1, k.2.trans h.2, k.3.trans h.3, k.4.trans h.4, k.5.trans h.5, k.6.trans h.6, k.7.trans h.7, k.8.trans h.8⟩
inductive StepR (h : Hs) (c : TCame) : Hs -> TWent -> Prop
 | no (e : Int) (he : e ≠ 0) : StepR h c h ⟨[], 0, e⟩
 | go (h' : Hs) (out : List UInt8) (why : Int) (h1 : Till h c.at') (h2 : c.at' <= 1099511627776) (h3 : Goes h c.inside c.data c.at' h' out why) : StepR h c h' ⟨out, why, 0⟩
theorem StepR.same {h : Hs} {c : TCame} {h' : Hs} {w : TWent} (k : StepR h c h' w) : Same8 h h' := by
 cases k with
 | no => exact .rfl' h
 | go _ _ _ h1 h2 h3 => exact h3.same
inductive RunR : Hs -> List TCame -> Hs -> List TWent -> Prop
 | nil (h : Hs) : RunR h [] h []
 | cons {h h1 h2 : Hs} {c : TCame} {cs : List TCame} {w : TWent} {ws : List TWent} (a : StepR h c h1 w) (b : RunR h1 cs h2 ws) : RunR h (c :: cs) h2 (w :: ws)
theorem RunR.states {h : Hs} {l : List TCame} {h' : Hs} {ws : List TWent} (k : RunR h l h' ws) : ws.length = l.length /\ ∃ H : Nat -> Hs, H 0 = h /\ H l.length = h' /\ ∀ (i : Nat) (c : TCame), l[i]? = some c -> ∃ w, ws[i]? = some w /\ StepR (H i) c (H (i + 1)) w := by
 induction k with
 | nil h => exact ⟨rfl, fun _ => h, rfl, rfl, fun i c hc => by simp at hc⟩
 | @cons h h1 h2 c cs w ws a b ih =>
  obtain ⟨e, H, e1, e2, e3⟩ := ih
  refine ⟨by simp [e], fun i => match i with | 0 => h | i + 1 => H i, rfl, e2, fun i x hx => ?_⟩
  cases i with
  | zero =>
   simp at hx
   subst hx
   exact ⟨w, rfl, by show StepR h c (H 0) w; rw [e1]; exact a⟩
  | succ i =>
   obtain ⟨w', g1, g2⟩ := e3 i x (by simpa using hx)
   exact ⟨w', by simpa using g1, g2⟩
theorem houseLives_ok : kHouseLives_fn () = some (true, ()) := by kernel_rfl
theorem out_len {h : Hs} {f : Fl} {d : List UInt8} {now : Int} (hd : EndOk d) {h' : Hs} {out : List UInt8} {why : Int} (k : Leaves h f d now h' out why) : out.length <= d.length := by
 have := hd.ip.all
 cases k with
 | out => rw [swp_len hd]; exact this
 | _ => simp
theorem in_len {h : Hs} {f : Fl} {d : List UInt8} {now : Int} (hd : EndOk d) {h' : Hs} {out : List UInt8} {why : Int} (k : Enters h f d now h' out why) : out.length <= d.length := by
 have := hd.ip.all
 cases k with
 | ins => rw [swp_len hd]; exact this
 | _ => simp
def mkp (pr f t : Int) (d : List UInt8) : TPacket := ⟨0, 0, false, false, 0, 9, pr, f, t, [], d⟩
def lp (x y : Int) (d : List UInt8) (f t : Int) : List UInt8 := ib (mkp 17 f t (lb x y d (lc f t x y d)))
theorem goes_len {h : Hs} {ins : Bool} {s : List UInt8} {now : Int} {h' : Hs} {out : List UInt8} {why : Int} (k : Goes h ins s now h' out why) : out.length <= Lim := by
 cases k with
 | leaves t _ _ _ h1 h2 h3 h4 h5 => have := out_len h2.ends h5; have := h2.big; unfold Lim; omega
 | enters t _ _ _ h1 h2 h3 h4 h5 h6 => have := in_len h2.ends h6; have := h2.big; unfold Lim; omega
 | _ => simp
theorem goes_out_empty {h : Hs} {ins : Bool} {s : List UInt8} {now : Int} {h' : Hs} {out : List UInt8} {why : Int} (k : Goes h ins s now h' out why) (hw : why ≠ 0) : out = [] := by
 cases k with
 | leaves t _ _ _ h1 h2 h3 h4 h5 => cases h5 <;> first | rfl | exact absurd rfl hw
 | enters t _ _ _ h1 h2 h3 h4 h5 h6 => cases h6 <;> first | rfl | exact absurd rfl hw
 | _ => rfl
theorem between_ok (x a b : Int) : rBetween_fn (x, (a, (b, ()))) = some (decide (a <= x /\ x <= b), ()) := by
 unfold rBetween_fn rBetween_tree
 by_cases h : a <= x
 · exact ev_t (decide_eq_true h) (ev_r (by simp [h]))
 · exact ev_f (decide_eq_false h) (ev_r (by simp [h]))
theorem btw_y {x a b : Int} (h : a <= x /\ x <= b) : rBetween_fn (x, (a, (b, ()))) = some (true, ()) := by rw [between_ok, decide_eq_true h]
theorem w8gO (x : Int) : decide ((0 : Int) <= IntKind.wrap IntKind.u8 x /\ IntKind.wrap IntKind.u8 x < (256 : Int)) = true := by rw [wrap8u]; simp; omega
theorem rBytes_lp (l : List Int) (hl : l.length <= 1000) (acc : List UInt8) (ha : acc.length = l.length) : ∃ r : List UInt8, r.length = l.length /\ rBytes_loop92_3 ((0 : Int), (l, ((l.length : Int), (acc, ())))) = some (r, ()) := by
 have := loopO_ex (tag := 920003) (f := fun x => (rBytes_step92_3 x).eval) (fun a => ∃ (i : Nat) (r : List UInt8), i <= l.length /\ r.length = l.length /\ a = ((i : Int), (l, ((l.length : Int), (r, ()))))) (fun b => ∃ r : List UInt8, r.length = l.length /\ b = (r, ())) (fun a => l.length - a.1.toNat)
  (by
   rintro _ ⟨i, r, hi, hr, rfl⟩
   by_cases hlt : i < l.length
   · have hx : l[i]? = some l[i] := List.getElem?_eq_getElem hlt
     have hy : r[i]? = some r[i] := List.getElem?_eq_getElem (by omega)
     refine .inr ⟨(((i + 1 : Nat) : Int), (l, ((l.length : Int), (r.set i (UInt8.ofNat (Int.toNat (IntKind.wrap IntKind.u8 l[i]))), ())))), ?_, ⟨i + 1, _, by omega, by simpa using hr, rfl⟩, ?_⟩
     · show (rBytes_step92_3 _).eval = _
       unfold rBytes_step92_3
       exact ev_t (by simp <;> omega) (ev_g (by simp) (ev_opt (b := l[i]) (by simpa using hx) (ev_g (by simp <;> omega) (ev_opt (b := r[i]) (by simpa using hy) (ev_g (w8gO _) (ev_g (by simp) (ev_r (by rw [next_i64 i (by omega)]; simp))))))))
     · show l.length - (((i + 1 : Nat) : Int)).toNat < l.length - ((i : Nat) : Int).toNat; omega
   · refine .inl ⟨(r, ()), ?_, r, hr, rfl⟩
     show (rBytes_step92_3 _).eval = _
     exact ev_f (by simp <;> omega) (ev_g (by simp) (ev_r rfl))) 18446744073709551616 ((0 : Int), (l, ((l.length : Int), (acc, ())))) ⟨0, acc, by omega, ha, rfl⟩ (by show l.length - _ < _; omega)
 obtain ⟨b, h1, r, h2, rfl⟩ := this
 exact ⟨r, h2, h1⟩
theorem bytes_ok (l : List Int) (hl : l.length <= 1000) : ∃ r : List UInt8, r.length = l.length /\ rBytes_fn (l, ()) = some (r, ()) := by
 obtain ⟨r, h1, h2⟩ := rBytes_lp l hl (List.replicate (Int.toNat (l.length : Int)) (UInt8.ofNat 0)) (by simp)
 exact ⟨r, h1, ev_g (by simp <;> omega) (ev_g rfl (ev_g (by simp) (ev_opt h2 (ev_r rfl))))⟩
theorem word_ok (n : Int) : ∃ r : List UInt8, r.length = 2 /\ rWord_fn (n, ()) = some (r, ()) := by
 obtain ⟨r, h1, h2⟩ := bytes_ok [IntKind.wrap IntKind.i64 (Int.tdiv n (256 : Int)), Int.tmod n (256 : Int)] (by simp)
 exact ⟨r, h1, ev_g rfl (ev_g rfl (ev_opt h2 (ev_r rfl)))⟩
theorem long_ok (n : Int) : ∃ r : List UInt8, r.length = 4 /\ rLong_fn (n, ()) = some (r, ()) := by
 obtain ⟨r, h1, h2⟩ := word_ok (IntKind.wrap IntKind.i64 (IntKind.wrap IntKind.u32 (Int.tdiv n (65536 : Int))))
 obtain ⟨s, h3, h4⟩ := word_ok (IntKind.wrap IntKind.i64 (Int.tmod n (65536 : Int)))
 exact ⟨r ++ s, by simp [h1, h3], ev_g rfl (ev_opt h2 (ev_g rfl (ev_opt h4 (ev_g (by simp [h1, h3]) (ev_r rfl)))))⟩
theorem rAt_ok (s : List UInt8) (i : Nat) (hi : i + 1 < s.length) (hs : s.length <= Lim) : rWordAt_fn (s, ((i : Int), ())) = some (wAt s i, ()) := by
 unfold Lim at hs
 have b0 := u8n (s.getD i 0); have b1 := u8n (s.getD (i + 1) 0)
 unfold rWordAt_fn rWordAt_tree
 refine ev_g (by simp <;> omega) (ev_t (by rw [next_i64 i (by omega)]; simp; omega) (ev_g (by rw [next_i64 i (by omega)]; simp; omega) (ev_r ?_)))
 rw [next_i64 i (by omega)]
 simp only [Int.toNat_natCast]
 have e1 : IntKind.wrap IntKind.i64 ((s.getD i 0).toNat : Int) = ((s.getD i 0).toNat : Int) := wrapI64 ⟨by omega, by omega⟩
 have e2 : IntKind.wrap IntKind.i64 ((s.getD (i + 1) 0).toNat : Int) = ((s.getD (i + 1) 0).toNat : Int) := wrapI64 ⟨by omega, by omega⟩
 have e3 : IntKind.wrap IntKind.i64 ((256 : Int) * ((s.getD i 0).toNat : Int)) = (256 : Int) * ((s.getD i 0).toNat : Int) := wrapI64 ⟨by omega, by omega⟩
 have e4 : IntKind.wrap IntKind.i64 ((256 : Int) * ((s.getD i 0).toNat : Int) + ((s.getD (i + 1) 0).toNat : Int)) = (256 : Int) * ((s.getD i 0).toNat : Int) + ((s.getD (i + 1) 0).toNat : Int) := wrapI64 ⟨by omega, by omega⟩
 rw [e1, e2, e3, e4]
 unfold wAt wv
 rw [Int.mul_comm]
theorem rLAt_ok (s : List UInt8) (i : Nat) (hi : i + 3 < s.length) (hs : s.length <= Lim) : rLongAt_fn (s, ((i : Int), ())) = some (lAt s i, ()) := by
 have hs' := hs
 unfold Lim at hs'
 have b0 := wAt_bound s i; have b1 := wAt_bound s (i + 2)
 have n2 : IntKind.wrap IntKind.i64 ((i : Int) + (2 : Int)) = ((i + 2 : Nat) : Int) := by rw [wrapI64 (x := (i : Int) + 2) ⟨by omega, by omega⟩]; rfl
 refine ev_opt (rAt_ok s i (by omega) hs) (ev_opt (b := (wAt s (i + 2), ())) ?_ (ev_r ?_))
 · rw [n2]; exact rAt_ok s (i + 2) (by omega) hs
 · have e1 : IntKind.wrap IntKind.i64 ((65536 : Int) * wAt s i) = (65536 : Int) * wAt s i := wrapI64 ⟨by omega, by omega⟩
   have e2 : IntKind.wrap IntKind.i64 ((65536 : Int) * wAt s i + wAt s (i + 2)) = (65536 : Int) * wAt s i + wAt s (i + 2) := wrapI64 ⟨by omega, by omega⟩
   have e3 : IntKind.wrap IntKind.u32 ((65536 : Int) * wAt s i + wAt s (i + 2)) = lAt s i := by rw [wrap32u]; unfold lAt; omega
   show (IntKind.wrap IntKind.u32 (IntKind.wrap IntKind.i64 (IntKind.wrap IntKind.i64 ((65536 : Int) * wAt s i) + wAt s (i + 2))), ()) = _
   rw [e1, e2, e3]
theorem rEnd_ok (n : Nat) (b : Int) (hb : 0 <= b /\ b <= 65535) : rEndAround_fn ((ear n : Int), (b, ())) = some ((ear (n + b.toNat) : Int), ()) := by
 have h1 := ear_le n
 have e1 : IntKind.wrap IntKind.i64 ((ear n : Int) + b) = (ear n : Int) + b := wrapI64 ⟨by omega, by omega⟩
 have e2 : IntKind.wrap IntKind.i64 ((ear n : Int) + b - 65535) = (ear n : Int) + b - 65535 := wrapI64 ⟨by omega, by omega⟩
 have key : ear (n + b.toNat) = if 65535 < ear n + b.toNat then ear n + b.toNat - 65535 else ear n + b.toNat := by
   rw [<- ear_add]
   have : ear (ear n + b.toNat) = if ear n + b.toNat = 0 then 0 else (ear n + b.toNat - 1) % 65535 + 1 := rfl
   rw [this]
   split <;> split <;> omega
 unfold rEndAround_fn rEndAround_tree
 by_cases h : (65535 : Int) < (ear n : Int) + b
 · refine ev_t (decide_eq_true (by rw [e1]; exact h)) (ev_r ?_)
   show (IntKind.wrap IntKind.i64 (IntKind.wrap IntKind.i64 ((ear n : Int) + b) - 65535), ()) = _
   rw [e1, e2, key, if_pos (by omega)]
   congr 1; omega
 · refine ev_f (decide_eq_false (by rw [e1]; exact h)) (ev_r ?_)
   show (IntKind.wrap IntKind.i64 ((ear n : Int) + b), ()) = _
   rw [e1, key, if_neg (by omega)]
   congr 1; omega
theorem ws_take2 (s : List UInt8) (k : Nat) (h : 2 * k + 1 < s.length) : ws (s.take (2 * (k + 1))) = ws (s.take (2 * k)) + (wAt s (2 * k)).toNat := by
 have e : s.take (2 * (k + 1)) = s.take (2 * k) ++ [s[2 * k], s[2 * k + 1]] := by
  rw [show 2 * (k + 1) = 2 * k + 2 by omega, List.take_add, List.drop_eq_getElem_cons (show 2 * k < s.length by omega), List.drop_eq_getElem_cons (show 2 * k + 1 < s.length by omega)]
  rfl
 rw [e, ws_app _ _ (by simp <;> omega)]
 have g0 : s.getD (2 * k) 0 = s[2 * k] := by rw [List.getD_eq_getElem?_getD, List.getElem?_eq_getElem (by omega)]; rfl
 have g1 : s.getD (2 * k + 1) 0 = s[2 * k + 1] := by rw [List.getD_eq_getElem?_getD, List.getElem?_eq_getElem (by omega)]; rfl
 unfold wAt wv
 rw [g0, g1]
 simp only [ws]
 omega
theorem rSum_ok (s : List UInt8) (hs : s.length <= Lim) (h2 : s.length % 2 = 0) : rSumOf_fn ((0 : Int), (s, ())) = some ((ear (ws s) : Int), ()) := by
 unfold Lim at hs
 have key : ∀ (c k n : Nat), 2 * k + 2 * c = s.length -> c < n -> loopO 500002 (fun x => (rSumOf_step50_2 x).eval) n (((2 * k : Nat) : Int), (s, ((ear (ws (s.take (2 * k))) : Int), ()))) = some ((ear (ws s) : Int), ()) := by
  intro c
  induction c with
  | zero =>
   intro k n hk hn
   obtain ⟨n, rfl⟩ : ∃ m, n = m + 1 := ⟨n - 1, by omega⟩
   have : s.take (2 * k) = s := List.take_of_length_le (by omega)
   rw [this]
   exact loopO_out (ev_f (decide_eq_false (by show ¬ ((2 * k : Nat) : Int) < (s.length : Int); omega)) (ev_r rfl))
  | succ c ih =>
   intro k n hk hn
   obtain ⟨n, rfl⟩ : ∃ m, n = m + 1 := ⟨n - 1, by omega⟩
   have hw := rAt_ok s (2 * k) (by omega) (by unfold Lim; omega)
   have he := rEnd_ok (ws (s.take (2 * k))) (wAt s (2 * k)) (wAt_bound _ _)
   have hst : (rSumOf_step50_2 (((2 * k : Nat) : Int), (s, ((ear (ws (s.take (2 * k))) : Int), ())))).eval = some (.inl (IntKind.wrap IntKind.i64 (((2 * k : Nat) : Int) + (2 : Int)), (s, ((ear (ws (s.take (2 * k)) + (wAt s (2 * k)).toNat) : Int), ())))) :=
    ev_t (decide_eq_true (by show ((2 * k : Nat) : Int) < (s.length : Int); omega)) (ev_opt hw (ev_opt he (ev_r rfl)))
   rw [loopO_in hst]
   have n2 : IntKind.wrap IntKind.i64 (((2 * k : Nat) : Int) + (2 : Int)) = ((2 * (k + 1) : Nat) : Int) := by rw [wrapI64 (x := ((2 * k : Nat) : Int) + 2) ⟨by omega, by omega⟩]; omega
   rw [n2, <- ws_take2 s k (by omega)]
   exact ih (k + 1) n (by omega) (by omega)
 have := key (s.length / 2) 0 18446744073709551616 (by omega) (by omega)
 exact ev_opt (show rSumOf_loop50_2 ((0 : Int), (s, ((0 : Int), ()))) = _ from this) (ev_r rfl)
theorem rCheck_ok (s : List UInt8) (hs : s.length <= Lim) (h2 : s.length % 2 = 0) : ∃ n : Int, rCheck_fn (s, ()) = some (n, ()) := ⟨_, ev_opt (rSum_ok s hs h2) (ev_r rfl)⟩
theorem exO {α β R : Type} {o : Option β} {k : β -> Tr α} {b : β} {r : R -> Option α} (h : o = some b) (h2 : ∃ s, (k b).eval = r s) : ∃ s, (Tr.opt o k).eval = r s := by obtain ⟨s, h3⟩ := h2; exact ⟨s, ev_opt h h3⟩
theorem exF {α R : Type} {c : Bool} {t e : Tr α} {r : R -> Option α} (h : c = false) (h2 : ∃ s, e.eval = r s) : ∃ s, (Tr.ite c t e).eval = r s := by obtain ⟨s, h3⟩ := h2; exact ⟨s, ev_f h h3⟩
theorem exG {α R : Type} {c : Bool} {t : Tr α} {r : R -> Option α} (h : c = true) (h2 : ∃ s, t.eval = r s) : ∃ s, (Tr.grd c t).eval = r s := by obtain ⟨s, h3⟩ := h2; exact ⟨s, ev_g h h3⟩
def pktTail (p : TPacket) (fl : Int) : Tr (List UInt8 × (Int × Unit)) :=
 .grd (true) (
 .opt (β := ((List UInt8) × Unit)) ((rBytes_fn ([IntKind.wrap IntKind.i64 ((69 : Int) + IntKind.wrap IntKind.i64 (Int.tdiv (↑(List.length p.options) : Int) (4 : Int))), p.tos], ()))) (fun r5 =>
 .opt (β := ((List UInt8) × Unit)) ((rWord_fn (IntKind.wrap IntKind.i64 (IntKind.wrap IntKind.i64 ((20 : Int) + (↑(List.length p.options) : Int)) + (↑(List.length p.data) : Int)), ()))) (fun r6 =>
 .grd (decide (List.length r5.1 + List.length r6.1 <= (9223372036854775807 : Nat))) (
 .opt (β := ((List UInt8) × Unit)) ((rWord_fn (p.id, ()))) (fun r7 =>
 .grd (decide (List.length (r5.1 ++ r6.1) + List.length r7.1 <= (9223372036854775807 : Nat))) (
 .opt (β := ((List UInt8) × Unit)) ((rWord_fn (fl, ()))) (fun r8 =>
 .grd (decide (List.length (r5.1 ++ r6.1 ++ r7.1) + List.length r8.1 <= (9223372036854775807 : Nat))) (
 .opt (β := ((List UInt8) × Unit)) ((rBytes_fn ([p.life, p.proto, (0 : Int), (0 : Int)], ()))) (fun r9 =>
 .grd (decide (List.length (r5.1 ++ r6.1 ++ r7.1 ++ r8.1) + List.length r9.1 <= (9223372036854775807 : Nat))) (
 .opt (β := ((List UInt8) × Unit)) ((rLong_fn (p.from', ()))) (fun r10 =>
 .grd (decide (List.length (r5.1 ++ r6.1 ++ r7.1 ++ r8.1 ++ r9.1) + List.length r10.1 <= (9223372036854775807 : Nat))) (
 .opt (β := ((List UInt8) × Unit)) ((rLong_fn (p.to, ()))) (fun r11 =>
 .grd (decide (List.length (r5.1 ++ r6.1 ++ r7.1 ++ r8.1 ++ r9.1 ++ r10.1) + List.length r11.1 <= (9223372036854775807 : Nat))) (
 .grd (decide (List.length (r5.1 ++ r6.1 ++ r7.1 ++ r8.1 ++ r9.1 ++ r10.1 ++ r11.1) + List.length p.options <= (9223372036854775807 : Nat))) (
 .grd (decide ((0 : Int) <= (0 : Int) /\ (0 : Int) <= (10 : Int) /\ (10 : Int) <= (↑(List.length (r5.1 ++ r6.1 ++ r7.1 ++ r8.1 ++ r9.1 ++ r10.1 ++ r11.1 ++ p.options)) : Int))) (
 .opt (β := (Int × Unit)) ((rCheck_fn (r5.1 ++ r6.1 ++ r7.1 ++ r8.1 ++ r9.1 ++ r10.1 ++ r11.1 ++ p.options, ()))) (fun r12 =>
 .opt (β := ((List UInt8) × Unit)) ((rWord_fn (r12.1, ()))) (fun r13 =>
 .grd (decide (List.length (List.drop (0 : Nat) (List.take (10 : Nat) (r5.1 ++ r6.1 ++ r7.1 ++ r8.1 ++ r9.1 ++ r10.1 ++ r11.1 ++ p.options))) + List.length r13.1 <= (9223372036854775807 : Nat))) (
 .grd (decide ((0 : Int) <= (12 : Int) /\ (12 : Int) <= (↑(List.length (r5.1 ++ r6.1 ++ r7.1 ++ r8.1 ++ r9.1 ++ r10.1 ++ r11.1 ++ p.options)) : Int) /\ (↑(List.length (r5.1 ++ r6.1 ++ r7.1 ++ r8.1 ++ r9.1 ++ r10.1 ++ r11.1 ++ p.options)) : Int) <= (↑(List.length (r5.1 ++ r6.1 ++ r7.1 ++ r8.1 ++ r9.1 ++ r10.1 ++ r11.1 ++ p.options)) : Int))) (
 .grd (decide (List.length (List.drop (0 : Nat) (List.take (10 : Nat) (r5.1 ++ r6.1 ++ r7.1 ++ r8.1 ++ r9.1 ++ r10.1 ++ r11.1 ++ p.options)) ++ r13.1) + List.length (List.drop (12 : Nat) (List.take (Int.toNat (↑(List.length (r5.1 ++ r6.1 ++ r7.1 ++ r8.1 ++ r9.1 ++ r10.1 ++ r11.1 ++ p.options)) : Int)) (r5.1 ++ r6.1 ++ r7.1 ++ r8.1 ++ r9.1 ++ r10.1 ++ r11.1 ++ p.options))) <= (9223372036854775807 : Nat))) (
 .grd (decide (List.length (List.drop (0 : Nat) (List.take (10 : Nat) (r5.1 ++ r6.1 ++ r7.1 ++ r8.1 ++ r9.1 ++ r10.1 ++ r11.1 ++ p.options)) ++ r13.1 ++ List.drop (12 : Nat) (List.take (Int.toNat (↑(List.length (r5.1 ++ r6.1 ++ r7.1 ++ r8.1 ++ r9.1 ++ r10.1 ++ r11.1 ++ p.options)) : Int)) (r5.1 ++ r6.1 ++ r7.1 ++ r8.1 ++ r9.1 ++ r10.1 ++ r11.1 ++ p.options))) + List.length p.data <= (9223372036854775807 : Nat))) (
 .ret (List.drop (0 : Nat) (List.take (10 : Nat) (r5.1 ++ r6.1 ++ r7.1 ++ r8.1 ++ r9.1 ++ r10.1 ++ r11.1 ++ p.options)) ++ r13.1 ++ List.drop (12 : Nat) (List.take (Int.toNat (↑(List.length (r5.1 ++ r6.1 ++ r7.1 ++ r8.1 ++ r9.1 ++ r10.1 ++ r11.1 ++ p.options)) : Int)) (r5.1 ++ r6.1 ++ r7.1 ++ r8.1 ++ r9.1 ++ r10.1 ++ r11.1 ++ p.options)) ++ p.data, ((0 : Int), ()))))))))))))))))))))))))
set_option maxHeartbeats 1000000 in
theorem pktText_ok {p : TPacket} (h : RefOk p) : ∃ z, rPacketText_fn (p11 p ()) = some (z, ((0 : Int), ())) := by
 obtain ⟨h1, h2, h3, h4, h5, h6, h7, h8, h9⟩ := h
 have wl : IntKind.wrap IntKind.i64 (IntKind.wrap IntKind.i64 ((20 : Int) + (p.options.length : Int)) + (p.data.length : Int)) = 20 + p.options.length + p.data.length := by
  rw [wrapI64 (x := (20 : Int) + p.options.length) ⟨by omega, by omega⟩, wrapI64 ⟨by omega, by omega⟩]
 have tail : ∀ (fl : Int), ∃ z, (Tr.ite (decide ((65535 : Int) < IntKind.wrap IntKind.i64 (IntKind.wrap IntKind.i64 ((20 : Int) + (p.options.length : Int)) + (p.data.length : Int)))) (.ret (([] : List UInt8), ((2 : Int), ()))) (pktTail p fl)).eval = some (z, ((0 : Int), ())) := by
  intro fl
  obtain ⟨r5, a5, b5⟩ := bytes_ok [IntKind.wrap IntKind.i64 ((69 : Int) + IntKind.wrap IntKind.i64 (Int.tdiv (p.options.length : Int) (4 : Int))), p.tos] (by simp)
  obtain ⟨r6, a6, b6⟩ := word_ok (IntKind.wrap IntKind.i64 (IntKind.wrap IntKind.i64 ((20 : Int) + (p.options.length : Int)) + (p.data.length : Int)))
  obtain ⟨r7, a7, b7⟩ := word_ok p.id
  obtain ⟨r8, a8, b8⟩ := word_ok fl
  obtain ⟨r9, a9, b9⟩ := bytes_ok [p.life, p.proto, (0 : Int), (0 : Int)] (by simp)
  obtain ⟨r10, a10, b10⟩ := long_ok p.from'
  obtain ⟨r11, a11, b11⟩ := long_ok p.to
  simp only [List.length_cons, List.length_nil] at a5 a9
  have hlen : (r5 ++ r6 ++ r7 ++ r8 ++ r9 ++ r10 ++ r11 ++ p.options).length = 20 + p.options.length := by simp only [List.length_append]; omega
  obtain ⟨n, b12⟩ := rCheck_ok (r5 ++ r6 ++ r7 ++ r8 ++ r9 ++ r10 ++ r11 ++ p.options) (by rw [hlen]; unfold Lim; omega) (by rw [hlen]; omega)
  obtain ⟨r13, a13, b13⟩ := word_ok n
  unfold pktTail
  refine exF (r := fun z => some (z, ((0 : Int), ()))) (decide_eq_false (by rw [wl]; omega)) (exG rfl (exO b5 (exO b6 (exG (by simp only [List.length_append]; simp; omega) (exO b7 (exG (by simp only [List.length_append]; simp; omega) (exO b8 (exG (by simp only [List.length_append]; simp; omega) (exO b9 (exG (by simp only [List.length_append]; simp; omega) (exO b10 (exG (by simp only [List.length_append]; simp; omega) (exO b11 (exG (by simp only [List.length_append]; simp; omega) (exG (by simp only [List.length_append]; simp; omega) (exG (by simp only [hlen]; simp; omega) (exO b12 (exO b13 ?_))))))))))))))))))
  refine exG ?_ (exG ?_ (exG ?_ (exG ?_ ⟨_, ev_r rfl⟩)))
  all_goals simp only [hlen, List.length_append, List.length_drop, List.length_take]; simp; omega
 have n1 : (!(true : Bool)) = false := rfl
 have c1 : decide ((40 : Int) < (p.options.length : Int)) = false := decide_eq_false (by omega)
 have c2 : decide ((0 : Int) < Int.tmod (p.options.length : Int) (4 : Int)) = false := decide_eq_false (by rw [Int.tmod_eq_emod_of_nonneg (by omega)]; omega)
 unfold rPacketText_fn
 cases hw : p.whole with
 | true =>
  obtain ⟨g1, g2⟩ := h8 hw
  obtain ⟨z, hz⟩ := tail 16384
  exact ⟨z, ev_opt (btw_y h1) (ev_f rfl (ev_opt (btw_y h2) (ev_f rfl (ev_opt (btw_y h3) (ev_f rfl (ev_opt (btw_y h4) (ev_f rfl (ev_opt (btw_y h5) (ev_f rfl (ev_f c1 (ev_g rfl (ev_f c2 (ev_t hw (ev_f g1 (ev_f (decide_eq_false (by show ¬ 0 < p.start; omega)) (ev_f g1 hz))))))))))))))))⟩
 | false =>
  cases hm : p.more with
  | true =>
   obtain ⟨z, hz⟩ := tail (IntKind.wrap IntKind.i64 (p.start + (8192 : Int)))
   exact ⟨z, ev_opt (btw_y h1) (ev_f rfl (ev_opt (btw_y h2) (ev_f rfl (ev_opt (btw_y h3) (ev_f rfl (ev_opt (btw_y h4) (ev_f rfl (ev_opt (btw_y h5) (ev_f rfl (ev_f c1 (ev_g rfl (ev_f c2 (ev_f hw (ev_t hm hz))))))))))))))⟩
  | false =>
   obtain ⟨z, hz⟩ := tail p.start
   exact ⟨z, ev_opt (btw_y h1) (ev_f rfl (ev_opt (btw_y h2) (ev_f rfl (ev_opt (btw_y h3) (ev_f rfl (ev_opt (btw_y h4) (ev_f rfl (ev_opt (btw_y h5) (ev_f rfl (ev_f c1 (ev_g rfl (ev_f c2 (ev_f hw (ev_f hm hz))))))))))))))⟩

theorem txt_ok {s : List UInt8} (h : IpOk s) (hl : s.length <= Lim) : rTextPacket_fn (s, ()) = some (p11 (pk s) ((0 : Int), ())) := by
 have hl' := hl
 unfold Lim at hl'
 obtain ⟨k1, k2, k3, k4, k5, k6, k7, k8, k9, k10⟩ := h
 have u0 := u8n (s.getD 0 0); have u1 := u8n (s.getD 1 0); have u8' := u8n (s.getD 8 0); have u9 := u8n (s.getD 9 0)
 have b2 := wAt_bound s 2; have b6 := wAt_bound s 6
 have hn60 : hn s <= 60 := by unfold hn; omega
 have hN : IntKind.wrap IntKind.i64 ((4 : Int) * Int.tmod (IntKind.wrap IntKind.i64 ((s.getD 0 0).toNat : Int)) (16 : Int)) = (hn s : Int) := by
   rw [wrapI64 (x := ((s.getD 0 0).toNat : Int)) ⟨by omega, by omega⟩, Int.tmod_eq_emod_of_nonneg (by omega), wrapI64 ⟨by omega, by omega⟩]
   unfold hn; omega
 have hA : ((alln s : Nat) : Int) = wAt s 2 := by unfold alln; omega
 have w0 : IntKind.wrap IntKind.i64 ((s.getD 0 0).toNat : Int) = ((s.getD 0 0).toNat : Int) := wrapI64 ⟨by omega, by omega⟩
 have w1 : IntKind.wrap IntKind.i64 ((s.getD 1 0).toNat : Int) = ((s.getD 1 0).toNat : Int) := wrapI64 ⟨by omega, by omega⟩
 have w8' : IntKind.wrap IntKind.i64 ((s.getD 8 0).toNat : Int) = ((s.getD 8 0).toNat : Int) := wrapI64 ⟨by omega, by omega⟩
 have w9 : IntKind.wrap IntKind.i64 ((s.getD 9 0).toNat : Int) = ((s.getD 9 0).toNat : Int) := wrapI64 ⟨by omega, by omega⟩
 have t1 : IntKind.wrap IntKind.i64 (Int.tdiv (wAt s 6) (16384 : Int)) = wAt s 6 / 16384 := by rw [Int.tdiv_eq_ediv_of_nonneg (by omega), wrapI64 ⟨by omega, by omega⟩]
 have t2 : Int.tmod (IntKind.wrap IntKind.i64 (Int.tdiv (wAt s 6) (8192 : Int))) (2 : Int) = wAt s 6 / 8192 % 2 := by rw [Int.tdiv_eq_ediv_of_nonneg (by omega), wrapI64 ⟨by omega, by omega⟩, Int.tmod_eq_emod_of_nonneg (by omega)]
 have t3 : Int.tmod (wAt s 6) (8192 : Int) = wAt s 6 % 8192 := Int.tmod_eq_emod_of_nonneg (by omega)
 have hwh : decide (wAt s 6 / 16384 = (1 : Int)) = decide (wAt s 6 / 16384 % 2 = 1) := by
   by_cases e : wAt s 6 / 16384 = 1
   · rw [decide_eq_true e, decide_eq_true (by omega)]
   · rw [decide_eq_false e, decide_eq_false (by omega)]
 obtain ⟨z, hz⟩ := pktText_ok k8
 have ht : (s.take (hn s)).length = hn s := List.length_take_of_le k2
 have hsum := rSum_ok (s.take (hn s)) (by rw [ht]; unfold Lim; omega) (by rw [ht]; unfold hn; omega)
 have hear : ear (ws (s.take (hn s))) = 65535 := (ear_full _).2 ⟨k9, k10⟩
 have hsum' : rSumOf_fn ((0 : Int), (s.take (hn s), ())) = some ((65535 : Int), ()) := by rw [hsum, hear]; rfl
 have cmax : ¬ ((s.length : Int) < if false = true then if wAt s 2 < (hn s : Int) then wAt s 2 else (hn s : Int) else if wAt s 2 > (hn s : Int) then wAt s 2 else (hn s : Int)) := by
   simp only [Bool.false_eq_true, if_false]
   split <;> omega
 have r2 := rAt_ok s 2 (by omega) hl
 have r6 := rAt_ok s 6 (by omega) hl
 have r4 := rAt_ok s 4 (by omega) hl
 have r12 := rLAt_ok s 12 (by omega) hl
 have r16 := rLAt_ok s 16 (by omega) hl
 unfold rTextPacket_fn rTextPacket_tree
 have hN2 : IntKind.wrap IntKind.i64 ((4 : Int) * Int.tmod ((s.getD 0 0).toNat : Int) (16 : Int)) = (hn s : Int) := by rw [w0] at hN; exact hN
 simp only [w0, w1, w8', w9, t3, hN2]
 refine ev_f (decide_eq_false (by omega)) (ev_g (decide_eq_true (by omega)) (ev_g rfl (ev_opt r2 (ev_f (decide_eq_false cmax) (ev_opt r6 (ev_g (decide_eq_true (by omega)) (ev_opt (btw_y (x := ((s.getD 0 0).toNat : Int)) (a := 69) (b := 79) ?_) (ev_f rfl (ev_f (decide_eq_false (by show ¬ wAt s 2 < (hn s : Int); omega)) (ev_f (decide_eq_false (by show ¬ (32768 : Int) <= wAt s 6; omega)) (ev_g (decide_eq_true (by omega)) (ev_opt r4 (ev_g rfl (ev_g rfl (ev_g rfl (ev_g rfl (ev_g (decide_eq_true (by omega)) (ev_g (decide_eq_true (by omega)) (ev_opt r12 (ev_opt r16 ?_))))))))))))))))))))
 · unfold hn at k5; omega
 simp only [t1, t2, t3, Int.toNat_natCast, hwh]
 refine ev_g (decide_eq_true (by omega)) (ev_g (decide_eq_true (by omega)) (ev_opt (b := (z, ((0 : Int), ()))) ?_ (ev_f rfl (ev_g (decide_eq_true (by omega)) (ev_opt (b := ((65535 : Int), ())) hsum' (ev_f rfl (ev_r rfl)))))))
 exact hz
theorem went_any {h : Hs} {now : Int} (k : Fine h now) (hn : now <= 1099511627776) {s : List UInt8} {h' : Hs} {out : List UInt8} (hg : Goes h true s now h' out 0) :
  ∃ (port : Int), EndOk s /\ EndOk out /\ flow out = ⟨h.out, (flow s).b, (flow s).pr, port, (flow s).q⟩ /\ (((flow s).pr = 17 /\ h.lt <= port /\ port < h.lt + 64) \/ ((flow s).pr = 6 /\ h.st <= port /\ port < h.st + 64)) /\ 0 < h'.maps.length /\
   (pk out).life = (pk s).life - 1 /\ (pk out).data.length = (pk s).data.length := by
 cases hg with
 | leaves t _ _ _ h1 h2 h3 h4 h5 =>
  obtain ⟨m1, m2⟩ := mHs_ok (a := (flow s).a) (n := (t.length : Int)) k.1 k.2.2 hn ⟨by omega, by have := h2.big; omega⟩
  obtain ⟨f1, f2, f3, f4, f5, f6⟩ := flow_ok h1
  cases h5 with
  | out l1 port L2 S2 mm g1 g2 g3 g4 =>
   obtain ⟨e1, e2, e3, e4, e5, e6⟩ := from_ends (s := t) h2.ends k.2.1.out g4
   obtain ⟨_, a2, _, _, _⟩ := swp_all h2.ends (i := 12) (off := 0) (a := h.out) (p := port) k.2.1.out g4 (.inl rfl) (.inl rfl)
   have hfl := h2.flow
   rcases nOut_ex (f := flow s) m1 m2 hn f3 f4 f1 with ⟨e, he, ho⟩ | ⟨port', L', S', Z, ho, hN, hZ, _⟩
   · rw [g3] at ho
     have := Option.some.inj ho
     simp only [Prod.mk.injEq] at this
     exact absurd this.2.2.2.2.2.2.2.1.symm he
   · rw [g3] at ho
     have := Option.some.inj ho
     simp only [Prod.mk.injEq] at this
     obtain ⟨_, _, q1, _, q2, q3, q4, _⟩ := this
     subst q3; subst q4
     have hpt := (nat_port hN _ (List.mem_append_right _ (List.mem_singleton.2 rfl))).2
     have hlb : h.lb = h.lt := k.1.eb
     have hsb : h.sb = h.st := k.1.es
     refine ⟨port, h1, e1, ?_, ?_, by show 0 < (Z ++ [_]).length; simp, ?_, ?_⟩
     · show Fl.mk (pk (swp t h.out port 12 0)).from' (pk (swp t h.out port 12 0)).to (((swp t h.out port 12 0).getD 9 0).toNat : Int) (wAt (pk (swp t h.out port 12 0)).data 0) (wAt (pk (swp t h.out port 12 0)).data 2) = Fl.mk h.out (flow s).b (flow s).pr port (flow s).q
       rw [e2, e3, e4, e5, e6]
       have b1 : (pk t).to = (flow s).b := by rw [<- hfl]; rfl
       have b2 : ((t.getD 9 0).toNat : Int) = (flow s).pr := by rw [<- hfl]; rfl
       have b3 : wAt (pk t).data 2 = (flow s).q := by rw [<- hfl]; rfl
       rw [b1, b2, b3]
     · rcases hpt with ⟨z1, z2, z3⟩ | ⟨z1, z2, z3⟩
       · left; exact ⟨z1, by rw [<- hlb]; exact z2, by rw [<- hlb]; exact z3⟩
       · right; exact ⟨z1, by rw [<- hsb]; exact z2, by rw [<- hsb]; exact z3⟩
     · show (pk (swp t h.out port 12 0)).life = _
       rw [a2]; exact h2.life.2
     · show (pk (swp t h.out port 12 0)).data.length = _
       rw [a2]
       show (dNew _ _ _ _ _ _ _ _).length = _
       rw [dNew_len, h2.pk]
 | enters => rename_i h4 _ _; cases h4
theorem kHouseOut_true {out lt st life rate most : Int} {rules : List TRule} {els : Bool} {met : List TMeter} {trk : List TTalk} {nl lb' L sb' S : Int} {maps : List TMap} {s : List UInt8} {now : Int}
   (c0 : 0 <= out /\ out <= 4294967295) (c1 : -9223372036854775808 <= lt /\ lt <= 9223372036854775807) (c2 : -9223372036854775808 <= st /\ st <= 9223372036854775807) (c3 : -9223372036854775808 <= life /\ life <= 9223372036854775807) (c4 : -9223372036854775808 <= rate /\ rate <= 9223372036854775807) (c5 : -9223372036854775808 <= most /\ most <= 9223372036854775807) (c6 : BndD 6 (D.st 10 rules))
   (c8 : BndD 6 (D.st 19 met)) (c9 : BndD 6 (D.st 16 trk)) (c10 : -9223372036854775808 <= nl /\ nl <= 9223372036854775807) (c11 : -9223372036854775808 <= lb' /\ lb' <= 9223372036854775807) (c12 : 0 <= L /\ L <= 18446744073709551615) (c13 : -9223372036854775808 <= sb' /\ sb' <= 9223372036854775807) (c14 : 0 <= S /\ S <= 18446744073709551615) (c15 : BndD 6 (D.st 17 maps))
   (h1 : s.length <= 140737488351232) (h2 : -9223372036854775808 <= now /\ now <= 9223372036854775807) :
   (kHouseOut_tree (out, (lt, (st, (life, (rate, (most, (rules, (els, (met, (trk, (nl, (lb', (L, (sb', (S, (maps, (s, (now, ()))))))))))))))))))).eval = some (true, ()) := by
 obtain ⟨L, rfl⟩ := Int.eq_ofNat_of_zero_le c12.1
 obtain ⟨S, rfl⟩ := Int.eq_ofNat_of_zero_le c14.1
 obtain ⟨h, hh⟩ : ∃ h : Hs, h = ⟨out, lt, st, life, rate, most, rules, els, met, trk, nl, lb', L, sb', S, maps⟩ := ⟨_, rfl⟩
 have hfit : Fits h := by
   rw [hh]
   exact ⟨by show L < 2 ^ 64; omega, by show S < 2 ^ 64; omega, c8.1, c9.1, c15.1, c6.1⟩
 have h32 : Fit32 h := by
   rw [hh]
   exact ⟨c0, fun m hm => by
    have h1 : BndD 5 (.i .u32 m.addr) := c15.2 m hm (.i .u32 m.addr) (by simp [enc])
    exact h1⟩
 have hear : hsHear_fn (h.t (true, (s, (now, ())))) = hsHear_fn (out, (lt, (st, (life, (rate, (most, (rules, (els, (met, (trk, (nl, (lb', ((L : Int), (sb', ((S : Int), (maps, (true, (s, (now, ()))))))))))))))))))) := by rw [hh]; rfl
 have hsl : s.length <= Lim := by unfold Lim; omega
 have lv := houseLives_ok
 by_cases hF : HouseOk h /\ Till h now /\ now <= 1099511627776
 case neg =>
   obtain ⟨e', he', hr⟩ := hear_no hfit true s hF
   rw [hear, hh] at hr
   exact ev_opt hr (ev_opt lv (ev_f rfl (ev_t (by show (!decide (e' = 0)) = true; rw [decide_eq_false he']; rfl) (ev_opt lv (ev_t rfl (ev_r rfl))))))
 have kF : Fine h now := ⟨hF.1, h32, hF.2.1⟩
 have hn := hF.2.2
 obtain ⟨h', o, why, r1, r2, r3⟩ := hear_ok (ins := true) kF hn hsl
 rw [hear] at r1
 by_cases hw : why = 0
 case neg =>
   have ho := goes_out_empty r2 hw
   subst ho
   exact ev_opt r1 (ev_opt lv (ev_f rfl (ev_f rfl (ev_t (by show (!decide (why = 0)) = true; rw [decide_eq_false hw]; rfl) (ev_opt lv (ev_t rfl (ev_r rfl)))))))
 subst hw
 have hol := goes_len r2
 obtain ⟨port, e1, e2, e3, e4, e5, e6, e7⟩ := went_any kF hn r2
 have x1 : swEnds_fn (s, ()) = some ((flow s).a, ((flow s).b, ((flow s).pr, ((flow s).p, ((flow s).q, ((0 : Int), ())))))) := ends_ok e1 hsl
 have x2 : swEnds_fn (o, ()) = some ((flow o).a, ((flow o).b, ((flow o).pr, ((flow o).p, ((flow o).q, ((0 : Int), ())))))) := ends_ok e2 hol
 have y1 := txt_ok e1.ip hsl
 have y2 := txt_ok e2.ip hol
 rw [e3] at x2
 have hb := kF.1.plan.lt; have hb2 := kF.1.plan.st
 have ho : h.out = out := by rw [hh]
 have hlt : h.lt = lt := by rw [hh]
 have hst : h.st = st := by rw [hh]
 rw [hlt] at hb e4
 rw [hst] at hb2 e4
 unfold baseOk at hb hb2
 have u8 := u8n (s.getD 8 0)
 have hlife : IntKind.wrap IntKind.i64 ((pk s).life - (1 : Int)) = (pk s).life - 1 := wi _ (by show -9223372036854775808 <= ((s.getD 8 0).toNat : Int) - 1 /\ ((s.getD 8 0).toNat : Int) - 1 <= 9223372036854775807; omega)
 have wl : IntKind.wrap IntKind.i64 (lt + (64 : Int)) = lt + 64 := wi _ (by omega)
 have ws' : IntKind.wrap IntKind.i64 (st + (64 : Int)) = st + 64 := wi _ (by omega)
 refine ev_opt r1 (ev_opt lv (ev_f rfl (ev_f rfl (ev_f rfl (ev_opt x1 (ev_opt x2 ?_))))))
 by_cases p6 : (flow s).pr = 6
 · have d6 : decide ((flow s).pr = 6) = true := decide_eq_true p6
   have e4' : st <= port /\ port < st + 64 := by rcases e4 with ⟨z, _⟩ | ⟨_, z⟩; (rw [p6] at z; cases z); exact z
   refine ev_t d6 (ev_opt y1 (ev_opt y2 (ev_t rfl (ev_t rfl (ev_t (decide_eq_true ho) (ev_t (decide_eq_true rfl) (ev_t (decide_eq_true rfl) (ev_t (decide_eq_true rfl) (ev_t (decide_eq_true e4'.1) (ev_t (decide_eq_true (by show port < IntKind.wrap IntKind.i64 (st + (64 : Int)); rw [ws']; exact e4'.2)) (ev_t (decide_eq_true (by show (pk o).life = IntKind.wrap IntKind.i64 ((pk s).life - (1 : Int)); rw [hlife]; exact e6)) (ev_t (decide_eq_true (by show (((pk o).data.length : Nat) : Int) = ((pk s).data.length : Nat); rw [e7])) (ev_r ?_)))))))))))))
   show (decide ((0 : Int) < (h'.maps.length : Int)), ()) = _
   rw [decide_eq_true (by omega)]
 · have d6 : decide ((flow s).pr = 6) = false := decide_eq_false p6
   have e4' : lt <= port /\ port < lt + 64 := by rcases e4 with ⟨_, z⟩ | ⟨z, _⟩; (exact z); exact absurd z p6
   refine ev_f d6 (ev_opt y1 (ev_opt y2 (ev_t rfl (ev_t rfl (ev_t (decide_eq_true ho) (ev_t (decide_eq_true rfl) (ev_t (decide_eq_true rfl) (ev_t (decide_eq_true rfl) (ev_t (decide_eq_true e4'.1) (ev_t (decide_eq_true (by show port < IntKind.wrap IntKind.i64 (lt + (64 : Int)); rw [wl]; exact e4'.2)) (ev_t (decide_eq_true (by show (pk o).life = IntKind.wrap IntKind.i64 ((pk s).life - (1 : Int)); rw [hlife]; exact e6)) (ev_t (decide_eq_true (by show (((pk o).data.length : Nat) : Int) = ((pk s).data.length : Nat); rw [e7])) (ev_r ?_)))))))))))))
   show (decide ((0 : Int) < (h'.maps.length : Int)), ()) = _
   rw [decide_eq_true (by omega)]
end Go.Proofs.YthkhikdglmaiaaaGreatDoor.X
namespace Go.Proofs.YthkhikdglmaiaaaGreatDoor.HouseOut
open Go Go.RowKit Go.Proofs.YthkhikdglmaiaaaGreatDoor Go.Proofs.YthkhikdglmaiaaaGreatDoor.Abs
set_option linter.unusedVariables false
set_option maxRecDepth 100000
theorem walk (a0 : Array Value) (a1 : ByteArray) (a2 : Int) (w : World) (h0 : Read.Rd Tryz.prog w 36 a0.toList) (h1 : a1.size <= 140737488351232) (h2 : -9223372036854775808 <= a2 /\ a2 <= 9223372036854775807) (hgl : ∀ e ∈ Abs.globs, ∃ x y, w.heap[e.1]? = some (.cells e.2 x y)) : Calls Tryz.prog 3 #[.agg a0, .string a1, .int .i64 a2] w fun e w' => e = .returned (.bool true) /\ Below w.heap.size w w' := by
 obtain ⟨x0, r0, b0⟩ := rd_typed (cod := X.cod) (ps := [.i .u32, .i .i64, .i .i64, .i .i64, .i .i64, .i .i64, .st 10, .b, .st 19, .st 16, .i .i64, .i .i64, .i .u64, .i .i64, .i .u64, .st 17]) (by kernel_rfl) (by kernel_rfl) h0
 obtain ⟨v0_0, v0_1, v0_2, v0_3, v0_4, v0_5, v0_6, v0_7, v0_8, v0_9, v0_10, v0_11, v0_12, v0_13, v0_14, v0_15, ⟨⟩⟩ := x0
 replace b0 : ∀ d ∈ [D.i .u32 v0_0, D.i .i64 v0_1, D.i .i64 v0_2, D.i .i64 v0_3, D.i .i64 v0_4, D.i .i64 v0_5, D.st 10 v0_6, D.b v0_7, D.st 19 v0_8, D.st 16 v0_9, D.i .i64 v0_10, D.i .i64 v0_11, D.i .u64 v0_12, D.i .i64 v0_13, D.i .u64 v0_14, D.st 17 v0_15], BndD 6 d := b0
 replace r0 : RepAll w (fun b => b < w.heap.size) _ [D.i .u32 v0_0, D.i .i64 v0_1, D.i .i64 v0_2, D.i .i64 v0_3, D.i .i64 v0_4, D.i .i64 v0_5, D.st 10 v0_6, D.b v0_7, D.st 19 v0_8, D.st 16 v0_9, D.i .i64 v0_10, D.i .i64 v0_11, D.i .u64 v0_12, D.i .i64 v0_13, D.i .u64 v0_14, D.st 17 v0_15] := r0
 have b0_0 : 0 <= v0_0 /\ v0_0 <= 4294967295 := b0 _ List.mem_cons_self
 have b0_1 : -9223372036854775808 <= v0_1 /\ v0_1 <= 9223372036854775807 := b0 _ (List.mem_cons_of_mem _ List.mem_cons_self)
 have b0_2 : -9223372036854775808 <= v0_2 /\ v0_2 <= 9223372036854775807 := b0 _ (List.mem_cons_of_mem _ (List.mem_cons_of_mem _ List.mem_cons_self))
 have b0_3 : -9223372036854775808 <= v0_3 /\ v0_3 <= 9223372036854775807 := b0 _ (List.mem_cons_of_mem _ (List.mem_cons_of_mem _ (List.mem_cons_of_mem _ List.mem_cons_self)))
 have b0_4 : -9223372036854775808 <= v0_4 /\ v0_4 <= 9223372036854775807 := b0 _ (List.mem_cons_of_mem _ (List.mem_cons_of_mem _ (List.mem_cons_of_mem _ (List.mem_cons_of_mem _ List.mem_cons_self))))
 have b0_5 : -9223372036854775808 <= v0_5 /\ v0_5 <= 9223372036854775807 := b0 _ (List.mem_cons_of_mem _ (List.mem_cons_of_mem _ (List.mem_cons_of_mem _ (List.mem_cons_of_mem _ (List.mem_cons_of_mem _ List.mem_cons_self)))))
 have b0_6 : BndD 6 (D.st 10 v0_6) := b0 _ (List.mem_cons_of_mem _ (List.mem_cons_of_mem _ (List.mem_cons_of_mem _ (List.mem_cons_of_mem _ (List.mem_cons_of_mem _ (List.mem_cons_of_mem _ List.mem_cons_self))))))
 have b0_8 : BndD 6 (D.st 19 v0_8) := b0 _ (List.mem_cons_of_mem _ (List.mem_cons_of_mem _ (List.mem_cons_of_mem _ (List.mem_cons_of_mem _ (List.mem_cons_of_mem _ (List.mem_cons_of_mem _ (List.mem_cons_of_mem _ (List.mem_cons_of_mem _ List.mem_cons_self))))))))
 have b0_9 : BndD 6 (D.st 16 v0_9) := b0 _ (List.mem_cons_of_mem _ (List.mem_cons_of_mem _ (List.mem_cons_of_mem _ (List.mem_cons_of_mem _ (List.mem_cons_of_mem _ (List.mem_cons_of_mem _ (List.mem_cons_of_mem _ (List.mem_cons_of_mem _ (List.mem_cons_of_mem _ List.mem_cons_self)))))))))
 have b0_10 : -9223372036854775808 <= v0_10 /\ v0_10 <= 9223372036854775807 := b0 _ (List.mem_cons_of_mem _ (List.mem_cons_of_mem _ (List.mem_cons_of_mem _ (List.mem_cons_of_mem _ (List.mem_cons_of_mem _ (List.mem_cons_of_mem _ (List.mem_cons_of_mem _ (List.mem_cons_of_mem _ (List.mem_cons_of_mem _ (List.mem_cons_of_mem _ List.mem_cons_self))))))))))
 have b0_11 : -9223372036854775808 <= v0_11 /\ v0_11 <= 9223372036854775807 := b0 _ (List.mem_cons_of_mem _ (List.mem_cons_of_mem _ (List.mem_cons_of_mem _ (List.mem_cons_of_mem _ (List.mem_cons_of_mem _ (List.mem_cons_of_mem _ (List.mem_cons_of_mem _ (List.mem_cons_of_mem _ (List.mem_cons_of_mem _ (List.mem_cons_of_mem _ (List.mem_cons_of_mem _ List.mem_cons_self)))))))))))
 have b0_12 : 0 <= v0_12 /\ v0_12 <= 18446744073709551615 := b0 _ (List.mem_cons_of_mem _ (List.mem_cons_of_mem _ (List.mem_cons_of_mem _ (List.mem_cons_of_mem _ (List.mem_cons_of_mem _ (List.mem_cons_of_mem _ (List.mem_cons_of_mem _ (List.mem_cons_of_mem _ (List.mem_cons_of_mem _ (List.mem_cons_of_mem _ (List.mem_cons_of_mem _ (List.mem_cons_of_mem _ List.mem_cons_self))))))))))))
 have b0_13 : -9223372036854775808 <= v0_13 /\ v0_13 <= 9223372036854775807 := b0 _ (List.mem_cons_of_mem _ (List.mem_cons_of_mem _ (List.mem_cons_of_mem _ (List.mem_cons_of_mem _ (List.mem_cons_of_mem _ (List.mem_cons_of_mem _ (List.mem_cons_of_mem _ (List.mem_cons_of_mem _ (List.mem_cons_of_mem _ (List.mem_cons_of_mem _ (List.mem_cons_of_mem _ (List.mem_cons_of_mem _ (List.mem_cons_of_mem _ List.mem_cons_self)))))))))))))
 have b0_14 : 0 <= v0_14 /\ v0_14 <= 18446744073709551615 := b0 _ (List.mem_cons_of_mem _ (List.mem_cons_of_mem _ (List.mem_cons_of_mem _ (List.mem_cons_of_mem _ (List.mem_cons_of_mem _ (List.mem_cons_of_mem _ (List.mem_cons_of_mem _ (List.mem_cons_of_mem _ (List.mem_cons_of_mem _ (List.mem_cons_of_mem _ (List.mem_cons_of_mem _ (List.mem_cons_of_mem _ (List.mem_cons_of_mem _ (List.mem_cons_of_mem _ List.mem_cons_self))))))))))))))
 have b0_15 : BndD 6 (D.st 17 v0_15) := b0 _ (List.mem_cons_of_mem _ (List.mem_cons_of_mem _ (List.mem_cons_of_mem _ (List.mem_cons_of_mem _ (List.mem_cons_of_mem _ (List.mem_cons_of_mem _ (List.mem_cons_of_mem _ (List.mem_cons_of_mem _ (List.mem_cons_of_mem _ (List.mem_cons_of_mem _ (List.mem_cons_of_mem _ (List.mem_cons_of_mem _ (List.mem_cons_of_mem _ (List.mem_cons_of_mem _ (List.mem_cons_of_mem _ List.mem_cons_self)))))))))))))))
 have b1 : a1.data.toList.length <= 140737488351232 := by rw [Array.length_toList]; exact h1
 exact law_told X.kHouseOut rfl (x := (v0_0, (v0_1, (v0_2, (v0_3, (v0_4, (v0_5, (v0_6, (v0_7, (v0_8, (v0_9, (v0_10, (v0_11, (v0_12, (v0_13, (v0_14, (v0_15, (a1.data.toList, (a2, ()))))))))))))))))))) ⟨(true, ()), X.kHouseOut_true b0_0 b0_1 b0_2 b0_3 b0_4 b0_5 b0_6 b0_8 b0_9 b0_10 b0_11 b0_12 b0_13 b0_14 b0_15 b1 h2, rfl, rfl⟩ (RepArgs.agg r0 (RepArgs.s (RepArgs.i RepArgs.nil))) rfl hgl
end Go.Proofs.YthkhikdglmaiaaaGreatDoor.HouseOut
