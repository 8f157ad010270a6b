/- Texts towards the law TopTalk, put together (part 8): an abstract walk and its proof, functions of the program as trees, and plain laws. Conditions: none. -/
import Derived.KernelRfl
import Derived.Test.YthkhikdglmaiaaaGreatDoorK7
namespace Go.Proofs.YthkhikdglmaiaaaGreatDoor.X
open Go Go.RowKit Go.Proofs.YthkhikdglmaiaaaGreatDoor.Abs Go.Proofs.YthkhikdglmaiaaaGreatDoor.Bits
set_option linter.unusedVariables false
set_option linter.unnecessarySimpa false
set_option linter.unusedSimpArgs false
set_option maxRecDepth 100000
theorem swp_len {s : List UInt8} (h : EndOk s) (a p : Int) (i off : Nat) : (swp s a p i off).length = alln s := by
 obtain ⟨l1, l2, l3, l4, l5, l6, l7⟩ := end_len h
 unfold swp; rw [List.length_append, gNew_len, dNew_len]; omega
theorem from_ok {s : List UInt8} (h : EndOk s) (hl : s.length <= Lim) {a p : Int} (ha : U32 a) (hp : U16 p) : swFrom_fn (s, (a, (p, ()))) = some (swp s a p 12 0, ((0 : Int), ())) :=
 ev_opt (swapped_ok h hl (i := 12) (off := 0) ha hp (.inl rfl) (.inl rfl)) (ev_r rfl)
theorem to_ok {s : List UInt8} (h : EndOk s) (hl : s.length <= Lim) {a p : Int} (ha : U32 a) (hp : U16 p) : swTo_fn (s, (a, (p, ()))) = some (swp s a p 16 2, ((0 : Int), ())) :=
 ev_opt (swapped_ok h hl (i := 16) (off := 2) ha hp (.inr rfl) (.inr rfl)) (ev_r rfl)
theorem ipWd_ok (x : Int) : ipWord_fn (x, ()) = some (wd x, ()) := by
 unfold ipWord_fn ipWord_tree
 simp only [wrap8u, fdiv8]
 exact ev_g rfl (ev_g (by (first | (simp; done) | (simp; omega) | omega)) (ev_g (by (first | (simp; done) | (simp; omega) | omega)) (ev_r rfl)))
theorem ipLg_ok (x : Int) : ipLong_fn (x, ()) = some (lg x, ()) := by
 have w8 : ∀ x : Int, UInt8.ofNat (Int.toNat (IntKind.wrap IntKind.u8 x)) = byteOf x := fun x => by rw [wrap8u]; rfl
 have e1 : Int.fdiv x ((2 : Int) ^ (24 : Nat)) = x / 65536 / 256 := by rw [fdiv_pos _ (by decide)]; omega
 unfold ipLong_fn ipLong_tree
 refine ev_g rfl (ev_g rfl (ev_g rfl (ev_g (decide_eq_true (wr8 _)) (ev_g (decide_eq_true (wr8 _)) (ev_g (decide_eq_true (wr8 _)) (ev_g (decide_eq_true (wr8 _)) (ev_r ?_)))))))
 rw [w8, w8, w8, w8, e1, fdiv16, fdiv8]; rfl
def ifl (p : TPacket) : Int := p.start + (if p.whole then 16384 else 0) + (if p.more then 8192 else 0)
def iA (p : TPacket) : List UInt8 := [byteOf (64 + (20 + p.options.length) / 4), byteOf p.tos] ++ wd (20 + p.options.length + p.data.length) ++ wd p.id ++ wd (ifl p) ++ [byteOf p.life, byteOf p.proto]
def iB (p : TPacket) : List UInt8 := lg p.from' ++ lg p.to ++ p.options
def ick (p : TPacket) : Int := 65535 - (ear (ws (iA p ++ iB p)) : Int)
def ib (p : TPacket) : List UInt8 := iA p ++ wd (ick p) ++ iB p ++ p.data
theorem iA_len (p : TPacket) : (iA p).length = 10 := by simp [iA]
theorem iB_len (p : TPacket) : (iB p).length = 8 + p.options.length := by simp [iB]; omega
theorem ib_len (p : TPacket) : (ib p).length = 20 + p.options.length + p.data.length := by simp only [ib, List.length_append, iA_len, iB_len, wd_len]; omega
theorem or8192 (x : Int) (h : 0 <= x /\ x <= 8191) : bits BinOp.or IntKind.i64 x (8192 : Int) = x + 8192 := by
 have := bits_or_nat .i64 x.toNat 8192 (by show _ < 2 ^ 64; omega) (by decide) (fun _ => ⟨by show _ < 2 ^ 63; omega, by decide⟩)
 rw [show ((x.toNat : Int)) = x by omega] at this
 rw [show ((8192 : Int)) = ((8192 : Nat) : Int) from rfl, this, Nat.or_comm]
 have h2 := Nat.two_pow_add_eq_or_of_lt (show x.toNat < 2 ^ 13 by omega) 1
 rw [show 2 ^ 13 * 1 = 8192 from rfl] at h2
 rw [<- h2]; omega
set_option maxHeartbeats 4000000 in
theorem write_ok {p : TPacket} (h : RefOk p) : ipWrite_fn (p11 p ()) = some (ib p, ((0 : Int), ())) := by
 obtain ⟨c, hc, hc0⟩ := refused_fn p
 have := hc0.2 h
 subst this
 have hd := h.data
 have ho := h.opt
 have w8 : ∀ x : Int, UInt8.ofNat (Int.toNat (IntKind.wrap IntKind.u8 x)) = byteOf x := fun x => by rw [wrap8u]; rfl
 have n1 : IntKind.wrap IntKind.i64 ((20 : Int) + (p.options.length : Int)) = 20 + (p.options.length : Int) := wrap_mid _ (by omega)
 have n2 : IntKind.wrap IntKind.i64 (20 + (p.options.length : Int) + (p.data.length : Int)) = 20 + (p.options.length : Int) + (p.data.length : Int) := wrap_mid _ (by omega)
 have n3 : IntKind.wrap IntKind.i64 (Int.tdiv (20 + (p.options.length : Int)) 4) = (20 + (p.options.length : Int)) / 4 := by rw [Int.tdiv_eq_ediv_of_nonneg (by omega), wrap_mid _ (by omega)]
 have n4 : bits BinOp.or IntKind.i64 (64 : Int) ((20 + (p.options.length : Int)) / 4) = 64 + (20 + (p.options.length : Int)) / 4 := by
  have := bits_or_disjoint .i64 6 1 ((20 + (p.options.length : Int)) / 4) (by omega) (by omega) (by omega) (by show _ < (2 : Int) ^ 64; omega) (fun _ => by show _ < (2 : Int) ^ 63; omega)
  exact this
 have hof := of_fn (iA p ++ iB p) (by simp only [List.length_append, iA_len, iB_len]; unfold Lim; omega)
 have hear := ear_le (ws (iA p ++ iB p))
 have n5 : IntKind.wrap IntKind.i64 (ick p) = ick p := wrap_mid _ (by unfold ick; omega)
 have gl : ∀ {a b c : List UInt8} {n : Nat}, a.length + b.length <= 100000 -> decide (List.length a + List.length b <= (9223372036854775807 : Nat)) = true := fun h => decide_eq_true (by omega)
 have tail : ∀ {k : List UInt8 × Unit -> Tr (List UInt8 × (Int × Unit))}, (k (wd (ick p), ())).eval = some (ib p, ((0 : Int), ())) -> (Tr.opt (ipWord_fn (IntKind.wrap IntKind.i64 (65535 - (ear (ws (iA p ++ iB p)) : Int)), ())) k).eval = some (ib p, ((0 : Int), ())) := fun {k} hk => by
  show (Tr.opt (ipWord_fn (IntKind.wrap IntKind.i64 (ick p), ())) k).eval = _
  rw [n5]; exact ev_opt (ipWd_ok _) hk
 unfold ipWrite_fn ipWrite_tree
 refine ev_opt hc (ev_f rfl ?_)
 simp only [n1, n2, n3, n4, w8]
 cases hw : p.whole with
 | true =>
  obtain ⟨hm, hs⟩ := h.one hw
  rw [hm, hs]
  have hfl : bits BinOp.or IntKind.i64 (0 : Int) (16384 : Int) = ifl p := by unfold ifl; rw [hw, hm, hs]; rfl
  rw [hfl]
  refine ev_t rfl (ev_f rfl (ev_g rfl (ev_g (decide_eq_true (wr8 _)) (ev_g (decide_eq_true (wr8 _)) (ev_opt (ipWd_ok _) (ev_g (by (first | (simp; done) | (simp; omega) | omega)) (ev_opt (ipWd_ok _) (ev_g (by (first | (simp; done) | (simp; omega) | omega)) (ev_opt (ipWd_ok _) (ev_g (by (first | (simp; done) | (simp; omega) | omega)) (ev_g (decide_eq_true (wr8 _)) (ev_g (decide_eq_true (wr8 _)) (ev_g (by (first | (simp; done) | (simp; omega) | omega)) (ev_opt (ipLg_ok _) (ev_opt (ipLg_ok _) (ev_g (by (first | (simp; done) | (simp; omega) | omega)) (ev_g (by (first | (simp; done) | (simp; omega) | omega)) (ev_g (by (first | (simp; done) | (simp; omega) | omega)) (ev_opt hof (tail (ev_g (by (first | (simp; done) | (simp; omega) | omega)) (ev_g (by (first | (simp; done) | (simp; omega) | omega)) (ev_g (by (first | (simp; done) | (simp; omega) | omega)) (ev_r rfl))))))))))))))))))))))))
 | false =>
  cases hm : p.more with
  | true =>
   have hfl : bits BinOp.or IntKind.i64 p.start (8192 : Int) = ifl p := by rw [or8192 _ h.start]; unfold ifl; rw [hw, hm]; simp
   rw [hfl]
   refine ev_f rfl (ev_t rfl (ev_g rfl (ev_g (decide_eq_true (wr8 _)) (ev_g (decide_eq_true (wr8 _)) (ev_opt (ipWd_ok _) (ev_g (by (first | (simp; done) | (simp; omega) | omega)) (ev_opt (ipWd_ok _) (ev_g (by (first | (simp; done) | (simp; omega) | omega)) (ev_opt (ipWd_ok _) (ev_g (by (first | (simp; done) | (simp; omega) | omega)) (ev_g (decide_eq_true (wr8 _)) (ev_g (decide_eq_true (wr8 _)) (ev_g (by (first | (simp; done) | (simp; omega) | omega)) (ev_opt (ipLg_ok _) (ev_opt (ipLg_ok _) (ev_g (by (first | (simp; done) | (simp; omega) | omega)) (ev_g (by (first | (simp; done) | (simp; omega) | omega)) (ev_g (by (first | (simp; done) | (simp; omega) | omega)) (ev_opt hof (tail (ev_g (by (first | (simp; done) | (simp; omega) | omega)) (ev_g (by (first | (simp; done) | (simp; omega) | omega)) (ev_g (by (first | (simp; done) | (simp; omega) | omega)) (ev_r rfl))))))))))))))))))))))))
  | false =>
   have hfl : p.start = ifl p := by unfold ifl; rw [hw, hm]; simp
   have hA : iA p = [byteOf (64 + (20 + p.options.length) / 4), byteOf p.tos] ++ wd (20 + p.options.length + p.data.length) ++ wd p.id ++ wd p.start ++ [byteOf p.life, byteOf p.proto] := by unfold iA; rw [<- hfl]
   rw [hA] at hof
   refine ev_f rfl (ev_f rfl (ev_g rfl (ev_g (decide_eq_true (wr8 _)) (ev_g (decide_eq_true (wr8 _)) (ev_opt (ipWd_ok _) (ev_g (by (first | (simp; done) | (simp; omega) | omega)) (ev_opt (ipWd_ok _) (ev_g (by (first | (simp; done) | (simp; omega) | omega)) (ev_opt (ipWd_ok _) (ev_g (by (first | (simp; done) | (simp; omega) | omega)) (ev_g (decide_eq_true (wr8 _)) (ev_g (decide_eq_true (wr8 _)) (ev_g (by (first | (simp; done) | (simp; omega) | omega)) (ev_opt (ipLg_ok _) (ev_opt (ipLg_ok _) (ev_g (by (first | (simp; done) | (simp; omega) | omega)) (ev_g (by (first | (simp; done) | (simp; omega) | omega)) (ev_g (by (first | (simp; done) | (simp; omega) | omega)) (ev_opt hof ?_)))))))))))))))))))
   rw [<- hA]
   refine tail (ev_g (decide_eq_true (by simp only [List.length_append, iA_len, wd_len]; omega)) (ev_g (decide_eq_true (by simp only [List.length_append, iA_len, wd_len, lg_len]; omega)) (ev_g (decide_eq_true (by simp only [List.length_append, iA_len, wd_len, lg_len]; omega)) (ev_r ?_))))
   unfold ib
   rw [hA]; rfl

theorem ib_at (p : TPacket) : ib p = byteOf (64 + (20 + p.options.length) / 4) :: byteOf p.tos :: (wd (20 + p.options.length + p.data.length) ++ (wd p.id ++ (wd (ifl p) ++ (byteOf p.life :: byteOf p.proto :: (wd (ick p) ++ (lg p.from' ++ (lg p.to ++ (p.options ++ p.data)))))))) := by
 unfold ib iA iB; simp
structure AdrOk (p : TPacket) : Prop where
 f : 0 <= p.from' /\ p.from' <= 4294967295
 t : 0 <= p.to /\ p.to <= 4294967295
set_option maxHeartbeats 2000000 in
theorem ib_read {p : TPacket} (h : RefOk p) (ha : AdrOk p) (z : List UInt8) : IpOk (ib p ++ z) /\ pk (ib p ++ z) = p /\ hn (ib p ++ z) = 20 + p.options.length /\ alln (ib p ++ z) = 20 + p.options.length + p.data.length := by
 have hd := h.data; have ho := h.opt; have h4 := h.four; have hid := h.id; have hst := h.start; have hto := h.tos; have hli := h.life; have hpr := h.proto
 obtain ⟨hf, ht⟩ := ha
 have hear := ear_le (ws (iA p ++ iB p))
 have B : ib p ++ z = byteOf (64 + (20 + p.options.length) / 4) :: byteOf p.tos :: (wd (20 + p.options.length + p.data.length) ++ (wd p.id ++ (wd (ifl p) ++ (byteOf p.life :: byteOf p.proto :: (wd (ick p) ++ (lg p.from' ++ (lg p.to ++ (p.options ++ (p.data ++ z))))))))) := by
  rw [ib_at]; simp
 have hle : (ib p ++ z).length = 20 + p.options.length + p.data.length + z.length := by rw [List.length_append, ib_len]
 have b0 : (ib p ++ z).getD 0 0 = byteOf (64 + (20 + p.options.length) / 4) := by rw [B]; rfl
 have b1 : (ib p ++ z).getD 1 0 = byteOf p.tos := by rw [B]; rfl
 have b8 : (ib p ++ z).getD 8 0 = byteOf p.life := by rw [B]; rfl
 have b9 : (ib p ++ z).getD 9 0 = byteOf p.proto := by rw [B]; rfl
 have w2 : wAt (ib p ++ z) 2 = (20 + p.options.length + p.data.length : Int) := by
  have : wAt (ib p ++ z) 2 = (20 + p.options.length + p.data.length : Int) % 65536 := by rw [B]; exact wv_wd _
  omega
 have w4 : wAt (ib p ++ z) 4 = p.id := by
  have : wAt (ib p ++ z) 4 = p.id % 65536 := by rw [B]; exact wv_wd _
  omega
 have hfl : 0 <= ifl p /\ ifl p < 32768 /\ ifl p % 8192 = p.start /\ (decide (ifl p / 16384 % 2 = 1)) = p.whole /\ (decide (ifl p / 8192 % 2 = 1)) = p.more := by
  have hone := h.one
  unfold ifl
  cases hw : p.whole with
  | true =>
   obtain ⟨e1, e2⟩ := hone hw
   rw [e1, e2]; decide
  | false =>
   cases hm : p.more with
   | true => simp; omega
   | false => simp; omega
 obtain ⟨fl0, fl1, fl2, fl3, fl4⟩ := hfl
 have w6 : wAt (ib p ++ z) 6 = ifl p := by
  have : wAt (ib p ++ z) 6 = ifl p % 65536 := by rw [B]; exact wv_wd _
  omega
 have l12 : lAt (ib p ++ z) 12 = p.from' := by
  have e1 : wAt (ib p ++ z) 12 = p.from' / 65536 % 65536 := by rw [B]; exact wv_wd _
  have e2 : wAt (ib p ++ z) (12 + 2) = p.from' % 65536 := by rw [B]; exact wv_wd _
  unfold lAt; rw [e1, e2]; omega
 have l16 : lAt (ib p ++ z) 16 = p.to := by
  have e1 : wAt (ib p ++ z) 16 = p.to / 65536 % 65536 := by rw [B]; exact wv_wd _
  have e2 : wAt (ib p ++ z) (16 + 2) = p.to % 65536 := by rw [B]; exact wv_wd _
  unfold lAt; rw [e1, e2]; omega
 have n0 := byteOf_nat (64 + (20 + p.options.length) / 4)
 have n1 := byteOf_nat p.tos; have n8 := byteOf_nat p.life; have n9 := byteOf_nat p.proto
 have ehn : hn (ib p ++ z) = 20 + p.options.length := by unfold hn; rw [b0]; omega
 have eal : alln (ib p ++ z) = 20 + p.options.length + p.data.length := by unfold alln; rw [w2]; omega
 have tk : (ib p ++ z).take (20 + p.options.length) = iA p ++ wd (ick p) ++ iB p := by
  unfold ib
  rw [List.append_assoc, List.take_left' (by simp only [List.length_append, iA_len, iB_len, wd_len]; omega)]
 have ta : (ib p ++ z).take (20 + p.options.length + p.data.length) = ib p := List.take_left' (ib_len p)
 have dr : (ib p).drop (20 + p.options.length) = p.data := by
  unfold ib; exact List.drop_left' (by simp only [List.length_append, iA_len, iB_len, wd_len]; omega)
 have dro : (iA p ++ wd (ick p) ++ iB p).drop 20 = p.options := by
  unfold iB
  rw [<- List.append_assoc]
  exact List.drop_left' (by simp [iA_len])
 have epk : pk (ib p ++ z) = p := by
  unfold pk
  rw [ehn, eal, tk, ta, dr, dro, l12, l16, b1, b8, b9, w4, w6, fl2, fl3, fl4, n1, n8, n9]
  rw [show p.tos % 256 = p.tos by omega, show p.life % 256 = p.life by omega, show p.proto % 256 = p.proto by omega]
 have h1 := ws_app (iA p) (iB p) (by rw [iA_len])
 have h2 := ws_app (iA p ++ wd (ick p)) (iB p) (by simp only [List.length_append, iA_len, wd_len])
 have h3 := ws_app (iA p) (wd (ick p)) (by rw [iA_len])
 have h5 := ws_wd (ick p)
 have e0 : ick p = 65535 - (ear (ws (iA p ++ iB p)) : Int) := rfl
 have h8 := ear_mod (ws (iA p ++ iB p))
 have hpos : 256 <= ws (iA p) := by
  have : ws (iA p) = (byteOf (64 + (20 + p.options.length) / 4)).toNat * 256 + (byteOf p.tos).toNat + ws (wd (20 + p.options.length + p.data.length) ++ wd p.id ++ wd (ifl p) ++ [byteOf p.life, byteOf p.proto]) := rfl
  omega
 have s0 : ws (iA p ++ wd (ick p) ++ iB p) ≠ 0 := by omega
 have s1 : ws (iA p ++ wd (ick p) ++ iB p) % 65535 = 0 := by
  clear B hle b0 b1 b8 b9 w2 w4 w6 l12 l16 n0 n1 n8 n9 tk ta dr dro epk
  omega
 exact ⟨⟨by omega, by omega, by omega, by rw [b0]; omega, by omega, by omega, by omega, by rw [epk]; exact h, by rw [ehn, tk]; exact s0, by rw [ehn, tk]; exact s1⟩, epk, ehn, eal⟩
theorem hopWord (k c : Int) (hk : 0 <= k /\ k <= 255) (hc : 0 <= c /\ c <= 255) : bits BinOp.or IntKind.i64 (IntKind.wrap IntKind.i64 (k * (2 : Int) ^ (8 : Nat))) c = k * 256 + c := by
 have e3 : IntKind.i64.wrap (k * 2 ^ 8) = k * 2 ^ 8 := wrapI64 ⟨by omega, by omega⟩
 rw [e3, bits_or_disjoint .i64 8 k c (by omega) (by omega) (by omega) (by show _ < (2 : Int) ^ 64; omega) (fun _ => by show _ < (2 : Int) ^ 63; omega)]
 omega
theorem take_drop (l : List UInt8) (n m : Nat) : (l.take n).drop m = (l.drop m).take (n - m) := List.drop_take ..
set_option maxHeartbeats 1000000 in
theorem hop_ok (x0 x1 x2 x3 x4 x5 x6 x7 x8 x9 x10 x11 : UInt8) (r : List UInt8) (s : List UInt8) (hs : s = x0 :: x1 :: x2 :: x3 :: x4 :: x5 :: x6 :: x7 :: x8 :: x9 :: x10 :: x11 :: r) (h : IpOk s) (hl : 2 <= x8.toNat) (y8 : UInt8) (hy8 : (y8.toNat : Int) = x8.toNat - 1) (C : Int)
   (hC : C = 65535 - (ear (65535 - (wv x10 x11).toNat + (65535 - (wv x8 x9).toNat) + (wv y8 x9).toNat) : Int)) (al : Nat) (hal : alln s = al) (t : List UInt8) (ht : t = x0 :: x1 :: x2 :: x3 :: x4 :: x5 :: x6 :: x7 :: y8 :: x9 :: byteOf (C / 256) :: byteOf C :: r.take (al - 12)) :
   IpOk t /\ pk t = { pk s with life := (pk s).life - 1 } /\ t.length = al := by
 have e0 : hn t = hn s := by rw [ht, hs]; rfl
 have e2 : wAt t 2 = wAt s 2 := by rw [ht, hs]; rfl
 have ea : alln t = al := by rw [<- hal]; unfold alln; rw [e2]
 have e6 : wAt t 6 = wAt s 6 := by rw [ht, hs]; rfl
 obtain ⟨h1, h2, h3, h4, h5, h6, h7, h8, h9, h10⟩ := h
 rw [hal] at h3 h6
 have hlen : s.length = r.length + 12 := by rw [hs]; simp
 have htl : t.length = al := by rw [ht]; simp; omega
 have hg : ∀ i, i + 12 < al -> (r.take (al - 12)).getD i 0 = r.getD i 0 := fun i hi => by
   rw [List.getD_eq_getElem?_getD, List.getElem?_take, if_pos (by omega), <- List.getD_eq_getElem?_getD]
 have l12 : lAt t 12 = lAt s 12 := by
   rw [ht, hs]
   show wv ((r.take (al - 12)).getD 0 0) ((r.take (al - 12)).getD 1 0) * 65536 + wv ((r.take (al - 12)).getD 2 0) ((r.take (al - 12)).getD 3 0) = wv (r.getD 0 0) (r.getD 1 0) * 65536 + wv (r.getD 2 0) (r.getD 3 0)
   rw [hg 0 (by omega), hg 1 (by omega), hg 2 (by omega), hg 3 (by omega)]
 have l16 : lAt t 16 = lAt s 16 := by
   rw [ht, hs]
   show wv ((r.take (al - 12)).getD 4 0) ((r.take (al - 12)).getD 5 0) * 65536 + wv ((r.take (al - 12)).getD 6 0) ((r.take (al - 12)).getD 7 0) = wv (r.getD 4 0) (r.getD 5 0) * 65536 + wv (r.getD 6 0) (r.getD 7 0)
   rw [hg 4 (by omega), hg 5 (by omega), hg 6 (by omega), hg 7 (by omega)]
 have hdr : ∀ m, 12 <= m -> t.drop m = (s.take (al)).drop m := fun m hm => by
   obtain ⟨j, rfl⟩ : ∃ j, m = j + 12 := ⟨m - 12, by omega⟩
   obtain ⟨a, ha⟩ : ∃ a, al = a + 12 := ⟨al - 12, by omega⟩
   rw [ht, ha, hs]
   show List.drop j (r.take (a + 12 - 12)) = List.drop j (r.take a)
   rw [Nat.add_sub_cancel]
 have hpk : pk t = { pk s with life := (pk s).life - 1 } := by
   have p8 : ((t.getD 8 0).toNat : Int) = ((s.getD 8 0).toNat : Int) - 1 := by rw [ht, hs]; exact hy8
   have p1 : t.getD 1 0 = s.getD 1 0 := by rw [ht, hs]; rfl
   have p9 : t.getD 9 0 = s.getD 9 0 := by rw [ht, hs]; rfl
   have p4 : wAt t 4 = wAt s 4 := by rw [ht, hs]; rfl
   have d1 : (t.take (hn s)).drop 20 = (s.take (hn s)).drop 20 := by
    rw [take_drop, hdr 20 (by omega), take_drop s (hn s), take_drop s (al), List.take_take, Nat.min_eq_left (by omega)]
   have d2 : (t.take (al)).drop (hn s) = (s.take (al)).drop (hn s) := by
    rw [List.take_of_length_le (by omega), hdr _ (by omega)]
   unfold pk
   rw [e0, ea, hal, l12, l16, e6, p4, p1, p9, p8, d1, d2]
 have hb8 : (pk s).life = (x8.toNat : Int) := by rw [hs]; rfl
 have u8 := u8n x8
 refine ⟨⟨by omega, by omega, by omega, ?_, by omega, by omega, by omega, ?_, ?_, ?_⟩, hpk, htl⟩
 . rw [ht]; rw [hs] at h4; exact h4
 . rw [hpk]; exact ⟨h8.tos, by show 0 <= (pk s).life - 1 /\ (pk s).life - 1 <= 255; omega, h8.proto, h8.id, h8.start, h8.opt, h8.four, h8.one, h8.data⟩
 . obtain ⟨m, hm⟩ : ∃ m, hn s = m + 12 := ⟨hn s - 12, by omega⟩
   have hv : x0.toNat / 16 = 4 := by rw [hs] at h4; exact h4
   rw [e0, hm, ht]
   show ws (x0 :: x1 :: _) ≠ 0
   have := ws_cons2 x0 x1 (List.take (m + 10) (x2 :: x3 :: x4 :: x5 :: x6 :: x7 :: y8 :: x9 :: byteOf (C / 256) :: byteOf C :: r.take (al - 12)))
   have b := wv_bound x0 x1
   have : wv x0 x1 ≠ 0 := by unfold wv; omega
   intro hz
   have hz' : ws (x0 :: x1 :: (List.take (m + 10) (x2 :: x3 :: x4 :: x5 :: x6 :: x7 :: y8 :: x9 :: byteOf (C / 256) :: byteOf C :: r.take (al - 12)))) = 0 := hz
   omega
 . obtain ⟨m, hm⟩ : ∃ m, hn s = m + 12 := ⟨hn s - 12, by omega⟩
   have hts : ws (s.take (m + 12)) % 65535 = 0 := by rw [<- hm]; exact h10
   rw [e0, hm]
   have hrm : (r.take (al - 12)).take m = r.take m := by rw [List.take_take, Nat.min_eq_left (by omega)]
   have f1 : t.take (m + 12) = x0 :: x1 :: x2 :: x3 :: x4 :: x5 :: x6 :: x7 :: y8 :: x9 :: byteOf (C / 256) :: byteOf C :: r.take m := by rw [ht, <- hrm]; rfl
   have f2 : s.take (m + 12) = x0 :: x1 :: x2 :: x3 :: x4 :: x5 :: x6 :: x7 :: x8 :: x9 :: x10 :: x11 :: r.take m := by rw [hs]; rfl
   rw [f1]
   rw [f2] at hts
   have g1 : (ws (x0 :: x1 :: x2 :: x3 :: x4 :: x5 :: x6 :: x7 :: y8 :: x9 :: byteOf (C / 256) :: byteOf C :: r.take m) : Int) = wv x0 x1 + (wv x2 x3 + (wv x4 x5 + (wv x6 x7 + (wv y8 x9 + (C % 65536 + ws (r.take m)))))) := by
    rw [ws_cons2, ws_cons2, ws_cons2, ws_cons2, ws_cons2, ws_cons2, wv_wd]
   have g2 : (ws (x0 :: x1 :: x2 :: x3 :: x4 :: x5 :: x6 :: x7 :: x8 :: x9 :: x10 :: x11 :: r.take m) : Int) = wv x0 x1 + (wv x2 x3 + (wv x4 x5 + (wv x6 x7 + (wv x8 x9 + (wv x10 x11 + ws (r.take m)))))) := by
    rw [ws_cons2, ws_cons2, ws_cons2, ws_cons2, ws_cons2, ws_cons2]
   have b1 := wv_bound x8 x9; have b2 := wv_bound x10 x11; have b3 := wv_bound y8 x9
   have hem := ear_mod (65535 - (wv x10 x11).toNat + (65535 - (wv x8 x9).toNat) + (wv y8 x9).toNat)
   have hel := ear_le (65535 - (wv x10 x11).toNat + (65535 - (wv x8 x9).toNat) + (wv y8 x9).toNat)
   generalize ear (65535 - (wv x10 x11).toNat + (65535 - (wv x8 x9).toNat) + (wv y8 x9).toNat) = E at *
   have hC2 : C % 65536 = C := by omega
   rw [hC2] at g1
   clear hel hC2 hg hdr
   generalize ws (x0 :: x1 :: x2 :: x3 :: x4 :: x5 :: x6 :: x7 :: y8 :: x9 :: byteOf (C / 256) :: byteOf C :: List.take m r) = A at *
   generalize ws (x0 :: x1 :: x2 :: x3 :: x4 :: x5 :: x6 :: x7 :: x8 :: x9 :: x10 :: x11 :: List.take m r) = B at *
   have hE : ((E : Int) - ((65535 - wv x10 x11) + (65535 - wv x8 x9) + wv y8 x9)) % 65535 = 0 := by omega
   have hAB : ((A : Int) - B) % 65535 = 0 := by
    have : (A : Int) - B = -((E : Int) - ((65535 - wv x10 x11) + (65535 - wv x8 x9) + wv y8 x9)) - 65535 := by omega
    omega
   omega
theorem un1 : ∀ (s : List UInt8) (n : Nat), n + 1 <= s.length -> ∃ x r, s = x :: r /\ n <= r.length
 | [], n, h => by simp at h
 | x :: r, n, h => ⟨x, r, rfl, by simpa using h⟩
theorem un12 (s : List UInt8) (h : 12 <= s.length) : ∃ x0 x1 x2 x3 x4 x5 x6 x7 x8 x9 x10 x11 r, s = x0 :: x1 :: x2 :: x3 :: x4 :: x5 :: x6 :: x7 :: x8 :: x9 :: x10 :: x11 :: r := by
 obtain ⟨x0, r0, rfl, g0⟩ := un1 s 11 h
 obtain ⟨x1, r1, rfl, g1⟩ := un1 r0 10 g0
 obtain ⟨x2, r2, rfl, g2⟩ := un1 r1 9 g1
 obtain ⟨x3, r3, rfl, g3⟩ := un1 r2 8 g2
 obtain ⟨x4, r4, rfl, g4⟩ := un1 r3 7 g3
 obtain ⟨x5, r5, rfl, g5⟩ := un1 r4 6 g4
 obtain ⟨x6, r6, rfl, g6⟩ := un1 r5 5 g5
 obtain ⟨x7, r7, rfl, g7⟩ := un1 r6 4 g6
 obtain ⟨x8, r8, rfl, g8⟩ := un1 r7 3 g7
 obtain ⟨x9, r9, rfl, g9⟩ := un1 r8 2 g8
 obtain ⟨x10, r10, rfl, g10⟩ := un1 r9 1 g9
 obtain ⟨x11, r11, rfl, g11⟩ := un1 r10 0 g10
 exact ⟨_, _, _, _, _, _, _, _, _, _, _, _, _, rfl⟩
theorem hop_end {s : List UInt8} (h : IpOk s) (hl : s.length <= Lim) (h2 : (pk s).life < 2) : ipHop_fn (s, ()) = some ([], (7, ())) := by
 unfold ipHop_fn ipHop_tree
 exact ev_opt (ipRead_ok h hl) (ev_f rfl (ev_t (decide_eq_true h2) (ev_r rfl)))
theorem hop_fnL {s : List UInt8} (h : IpOk s) (hl : s.length <= Lim) (h2 : 2 <= (pk s).life) : ∃ t, ipHop_fn (s, ()) = some (t, (0, ())) /\ IpOk t /\ pk t = { pk s with life := (pk s).life - 1 } /\ t.length <= s.length /\ t.length = alln s := by
 obtain ⟨x0, x1, x2, x3, x4, x5, x6, x7, x8, x9, x10, x11, r, hs⟩ := un12 s (by have := h.len; omega)
 have hlife : (pk s).life = (x8.toNat : Int) := by rw [hs]; rfl
 have hproto : (pk s).proto = (x9.toNat : Int) := by rw [hs]; rfl
 have hw8 : wAt s 8 = wv x8 x9 := by rw [hs]; rfl
 have hw10 : wAt s 10 = wv x10 x11 := by rw [hs]; rfl
 have u8 := u8n x8; have u9 := u8n x9
 have b8 := wv_bound x8 x9; have b10 := wv_bound x10 x11; have b2 := wAt_bound s 2
 have hal : (alln s : Int) = wAt s 2 := by unfold alln; omega
 have hlen := h.len; have hall := h.all; have h20 := h.h20; have hha := h.hall
 generalize hV : ((x8.toNat : Int) - 1) * 256 + x9.toNat = V
 have hVb : 0 <= V /\ V <= 65535 := by omega
 have hy : ((byteOf (V / 256)).toNat : Int) = (x8.toNat : Int) - 1 := by rw [byteOf_nat]; omega
 have hyv : wv (byteOf (V / 256)) x9 = V := by unfold wv; rw [hy]; omega
 have hb9 : byteOf V = x9 := by
   rw [<- byteOf_self x9]; unfold byteOf
   have : V % 256 = (x9.toNat : Int) % 256 := by omega
   rw [this]
 obtain ⟨C, hC⟩ : ∃ C : Int, C = 65535 - (ear (65535 - (wv x10 x11).toNat + (65535 - (wv x8 x9).toNat) + (wv (byteOf (V / 256)) x9).toNat) : Int) := ⟨_, rfl⟩
 have hCb : 0 <= C /\ C <= 65535 := by
   have := ear_le (65535 - (wv x10 x11).toNat + (65535 - (wv x8 x9).toNat) + (wv (byteOf (V / 256)) x9).toNat)
   omega
 obtain ⟨k1, k2, k3⟩ := hop_ok x0 x1 x2 x3 x4 x5 x6 x7 x8 x9 x10 x11 r s hs h (by omega) (byteOf (V / 256)) hy C hC (alln s) rfl _ rfl
 refine ⟨_, ?_, k1, k2, by omega, k3⟩
 have hor : bits BinOp.or IntKind.i64 (IntKind.wrap IntKind.i64 (IntKind.wrap IntKind.i64 ((pk s).life - (1 : Int)) * (2 : Int) ^ (8 : Nat))) (pk s).proto = V := by
   rw [hlife, hproto, show IntKind.wrap IntKind.i64 ((x8.toNat : Int) - 1) = (x8.toNat : Int) - 1 from wrapI64 ⟨by omega, by omega⟩, hopWord _ _ ⟨by omega, by omega⟩ ⟨by omega, by omega⟩]
   exact hV
 have hVw : IntKind.wrap IntKind.u16 V = V := by rw [wrap16u]; omega
 have hVi : IntKind.wrap IntKind.i64 V = V := wrapI64 ⟨by omega, by omega⟩
 have hCi : IntKind.wrap IntKind.i64 C = C := wrapI64 ⟨by omega, by omega⟩
 have hfix : sumFix_fn (IntKind.wrap IntKind.u16 (wAt s 10), (IntKind.wrap IntKind.u16 (wAt s 8), (IntKind.wrap IntKind.u16 (bits BinOp.or IntKind.i64 (IntKind.wrap IntKind.i64 (IntKind.wrap IntKind.i64 ((pk s).life - (1 : Int)) * (2 : Int) ^ (8 : Nat))) (pk s).proto), ()))) = some (C, ()) := by
   rw [hor, hVw, hw8, hw10]
   have e1 : IntKind.wrap IntKind.u16 (wv x10 x11) = ((wv x10 x11).toNat : Int) := by rw [wrap16u]; omega
   have e2 : IntKind.wrap IntKind.u16 (wv x8 x9) = ((wv x8 x9).toNat : Int) := by rw [wrap16u]; omega
   have e3 : V = ((wv (byteOf (V / 256)) x9).toNat : Int) := by rw [hyv]; omega
   rw [e1, e2, hC]
   conv => lhs; rw [e3]
   exact fix_fn _ _ _ (by omega) (by omega) (by rw [hyv]; omega)
 have ht : List.drop 0 (List.take 8 s) ++ wd V ++ wd C ++ List.drop 12 (List.take (Int.toNat (wAt s 2)) s) = x0 :: x1 :: x2 :: x3 :: x4 :: x5 :: x6 :: x7 :: byteOf (V / 256) :: x9 :: byteOf (C / 256) :: byteOf C :: r.take (alln s - 12) := by
   rw [<- hal, Int.toNat_natCast]
   obtain ⟨a, ha⟩ : ∃ a, alln s = a + 12 := ⟨alln s - 12, by omega⟩
   rw [ha, Nat.add_sub_cancel, hs]
   show x0 :: x1 :: x2 :: x3 :: x4 :: x5 :: x6 :: x7 :: byteOf (V / 256) :: byteOf V :: byteOf (C / 256) :: byteOf C :: r.take a = _
   rw [hb9]
 unfold ipHop_fn ipHop_tree
 refine ev_opt (ipRead_ok h hl) (ev_f rfl (ev_f (decide_eq_false (by show ¬ (pk s).life < 2; omega)) (ev_opt (ipAt_ok s 8 (by omega) hl) (ev_g rfl (ev_opt (ipAt_ok s 10 (by omega) hl) (ev_opt hfix (ev_g (by simp <;> omega) (ev_opt (ipWd_ok _) ?_))))))))
 refine ev_g (by simp [wd]; unfold Lim at hl; omega) (ev_opt (ipWd_ok _) (ev_g (by simp [wd]; unfold Lim at hl; omega) (ev_opt (ipAt_ok s 2 (by omega) hl) (ev_g (decide_eq_true ⟨by omega, by show (12 : Int) <= wAt s 2; omega, by show wAt s 2 <= (s.length : Int); omega⟩) (ev_g ?_ (ev_r ?_))))))
 . refine decide_eq_true ?_
   simp only [List.length_append, List.length_drop, List.length_take]
   unfold Lim at hl
   simp [wd]; omega
 . show (_ ++ wd (IntKind.wrap IntKind.i64 (IntKind.wrap IntKind.u16 (bits BinOp.or IntKind.i64 (IntKind.wrap IntKind.i64 (IntKind.wrap IntKind.i64 ((pk s).life - (1 : Int)) * (2 : Int) ^ (8 : Nat))) (pk s).proto))) ++ wd (IntKind.wrap IntKind.i64 C) ++ _, _) = _
   rw [hor, hVw, hVi, hCi]
   exact congrArg (fun q => (q, ((0 : Int), ()))) ht
structure Hs where (out lt st life rate most : Int) (rules : List TRule) (els : Bool) (met : List TMeter) (trk : List TTalk) (nl lb : Int) (L : Nat) (sb : Int) (S : Nat) (maps : List TMap)
def Hs.t (h : Hs) {R : Type} (r : R) : Int × (Int × (Int × (Int × (Int × (Int × ((List TRule) × (Bool × ((List TMeter) × ((List TTalk) × (Int × (Int × (Int × (Int × (Int × ((List TMap) × R))))))))))))))) :=
 (h.out, (h.lt, (h.st, (h.life, (h.rate, (h.most, (h.rules, (h.els, (h.met, (h.trk, (h.nl, (h.lb, ((h.L : Int), (h.sb, ((h.S : Int), (h.maps, r))))))))))))))))
structure PlanOk (h : Hs) : Prop where
 lt : baseOk h.lt
 st : baseOk h.st
 life : 1 <= h.life /\ h.life <= 1000000
 rate : 0 <= h.rate /\ h.rate <= 1000000
 most : 1 <= h.most /\ h.most <= 1000000000
 rules : ruChk h.rules = 0
theorem conf_ex (h : Hs) : ∃ c : Int, confCheck_fn (h.out, (h.lt, (h.st, (h.life, (h.rate, (h.most, (h.rules, (h.els, ())))))))) = some (c, ()) /\ (c = 0 ↔ PlanOk h) := by
 unfold confCheck_fn confCheck_tree
 have no : ∀ {c : Int}, c ≠ 0 -> ¬ PlanOk h -> (c = 0 ↔ PlanOk h) := fun h1 h2 => ⟨fun h => absurd h h1, fun h => absurd h h2⟩
 by_cases h1 : baseOk h.lt
 case neg => exact ⟨1, ev_opt (check_no 0 h1) (ev_t rfl (ev_r rfl)), no (by decide) fun h => h1 h.lt⟩
 by_cases h2 : baseOk h.st
 case neg => exact ⟨1, ev_opt (check_ok 0 h1) (ev_f rfl (ev_opt (check_no 0 h2) (ev_t rfl (ev_r rfl)))), no (by decide) fun h => h2 h.st⟩
 have go : ∀ {c : Int} {T : Tr (Int × Unit)}, T.eval = some (c, ()) -> (Tr.opt (β := (Int × Unit)) ((portsCheck_fn (h.lt, ((0 : Int), ())))) (fun r0 =>
   .ite (!decide (r0.1 = (0 : Int))) (
    .ret ((1 : Int), ())) (
    .opt (β := (Int × Unit)) ((portsCheck_fn (h.st, ((0 : Int), ())))) (fun r1 =>
    .ite (!decide (r1.1 = (0 : Int))) (
     .ret ((1 : Int), ())) T)))).eval = some (c, ()) := fun hT => ev_opt (check_ok 0 h1) (ev_f rfl (ev_opt (check_ok 0 h2) (ev_f rfl hT)))
 by_cases h3 : h.life < 1
 . exact ⟨1, go (ev_t (decide_eq_true h3) (ev_r rfl)), no (by decide) fun h => by have := h.life; omega⟩
 by_cases h4 : 1000000 < h.life
 . exact ⟨1, go (ev_f (decide_eq_false h3) (ev_t (decide_eq_true h4) (ev_r rfl))), no (by decide) fun h => by have := h.life; omega⟩
 by_cases h5 : h.rate < 0
 . exact ⟨1, go (ev_f (decide_eq_false h3) (ev_f (decide_eq_false h4) (ev_t (decide_eq_true h5) (ev_r rfl)))), no (by decide) fun h => by have := h.rate; omega⟩
 by_cases h6 : 1000000 < h.rate
 . exact ⟨1, go (ev_f (decide_eq_false h3) (ev_f (decide_eq_false h4) (ev_f (decide_eq_false h5) (ev_t (decide_eq_true h6) (ev_r rfl))))), no (by decide) fun h => by have := h.rate; omega⟩
 by_cases h7 : h.most < 1
 . exact ⟨1, go (ev_f (decide_eq_false h3) (ev_f (decide_eq_false h4) (ev_f (decide_eq_false h5) (ev_f (decide_eq_false h6) (ev_t (decide_eq_true h7) (ev_r rfl)))))), no (by decide) fun h => by have := h.most; omega⟩
 by_cases h8 : 1000000000 < h.most
 . exact ⟨1, go (ev_f (decide_eq_false h3) (ev_f (decide_eq_false h4) (ev_f (decide_eq_false h5) (ev_f (decide_eq_false h6) (ev_f (decide_eq_false h7) (ev_t (decide_eq_true h8) (ev_r rfl))))))), no (by decide) fun h => by have := h.most; omega⟩
 exact ⟨ruChk h.rules, go (ev_f (decide_eq_false h3) (ev_f (decide_eq_false h4) (ev_f (decide_eq_false h5) (ev_f (decide_eq_false h6) (ev_f (decide_eq_false h7) (ev_f (decide_eq_false h8) (ev_opt (check_fn h.rules) (ev_r rfl)))))))),
   fun e => ⟨h1, h2, by omega, by omega, by omega, e⟩, fun h => h.rules⟩

def mb (a : Int) (m : TMeter) : Bool := decide (m.addr = a)
def bOf (m : TMeter) : Bu := ⟨m.rate, m.most, m.has, m.at'⟩
theorem meter_fn (h : Hs) (a : Int) (hl : h.met.length < Big) : hsMeter_fn (h.t (a, ())) = some ((match hit (mb a) h.met with | some r => (r.1 : Int) | none => -1), ()) := by
 unfold Big at hl
 have lp := loop_hit (tag := 1320002) (f := fun x => (hsMeter_step132_2 x).eval) (l := h.met) (fun i => ((i : Int), (h.met, ((h.met.length : Int), (a, ())))))
  (mb a) (fun r => match r with | some r => Sum.inl ((r.1 : Int), (a, ())) | none => Sum.inr (a, ()))
  (fun i x hx => by
   have hi := (List.getElem?_eq_some_iff.1 hx).1
   show (hsMeter_step132_2 _).eval = _
   unfold hsMeter_step132_2
   refine ev_t (by simp <;> omega) (ev_g (by simp) (ev_opt (show h.met[Int.toNat (i : Int)]? = some x by simpa using hx) ?_))
   rw [next_i64 i (by omega)]
   unfold mb
   cases h1 : decide (x.addr = a) with
   | false => exact ev_f rfl (ev_r rfl)
   | true => exact ev_t rfl (ev_r rfl))
  (by show (hsMeter_step132_2 _).eval = _; exact ev_f (by simp) (ev_r rfl)) 18446744073709551616 (by omega)
 refine ev_opt lp ?_
 cases hit (mb a) h.met <;> exact ev_r rfl
def MetOk (l : List TMeter) (rate most : Int) : Prop := l.length <= 64 /\ (∀ m ∈ l, BOk (bOf m) /\ m.rate = rate /\ m.most = most) /\ l.Pairwise (fun x y => x.at' <= y.at' /\ x.addr ≠ y.addr)
def pAt (l : List TMeter) (i : Nat) : Int := match i with | 0 => 0 | i + 1 => match l[i]? with | some m => m.at' | none => 0
def MAt (l : List TMeter) (rate most : Int) (i : Nat) (x : TMeter) : Prop := BOk (bOf x) /\ x.rate = rate /\ x.most = most /\ pAt l i <= x.at' /\ (hit (mb x.addr) l).map (·.1) = some i
theorem met_at {l : List TMeter} {rate most : Int} : (l.length <= 64 /\ ∀ i x, l[i]? = some x -> MAt l rate most i x) ↔ MetOk l rate most := by
 constructor
 . rintro ⟨h1, h2⟩
   refine ⟨h1, fun x hx => ?_, ?_⟩
   . obtain ⟨i, hi, rfl⟩ := List.getElem_of_mem hx
     have := h2 i _ (List.getElem?_eq_getElem hi)
     exact ⟨this.1, this.2.1, this.2.2.1⟩
   . rw [List.pairwise_iff_getElem]
     intro i j hi hj hij
     refine ⟨?_, ?_⟩
     . have key : ∀ d, ∀ (k : Nat) (hk : k < l.length), k = i + d -> l[i].at' <= l[k].at' := by
        intro d
        induction d with
        | zero => intro k hk e; subst e; exact Int.le_refl _
        | succ d ih =>
         intro k hk e
         obtain ⟨k, rfl⟩ : ∃ q, k = q + 1 := ⟨k - 1, by omega⟩
         have := (h2 (k + 1) _ (List.getElem?_eq_getElem hk)).2.2.2.1
         simp only [pAt, List.getElem?_eq_getElem (show k < l.length by omega)] at this
         exact Int.le_trans (ih k (by omega) (by omega)) this
       exact key (j - i) j hj (by omega)
     . intro he
       have h3 := (h2 j _ (List.getElem?_eq_getElem hj)).2.2.2.2
       have h4 : mb l[j].addr l[i] = true := decide_eq_true he
       have e : l = l.take i ++ l[i] :: l.drop (i + 1) := by rw [<- List.drop_eq_getElem_cons hi, List.take_append_drop]
       rw [show hit (mb l[j].addr) l = hit (mb l[j].addr) (l.take i ++ l[i] :: l.drop (i + 1)) from congrArg _ e, hit_app] at h3
       simp only [hit, h4, Option.map_some] at h3
       cases h5 : hit (mb l[j].addr) (l.take i) with
       | none => rw [h5] at h3; simp at h3; omega
       | some q =>
        rw [h5] at h3
        have := hit_lt (i := q.1) (x := q.2) h5
        simp at h3 this; omega
 . rintro ⟨h1, h2, h3⟩
   refine ⟨h1, fun i x hx => ?_⟩
   obtain ⟨g1, g2, g3⟩ := h2 x (List.mem_of_getElem? hx)
   refine ⟨g1, g2, g3, ?_, ?_⟩
   . cases i with
     | zero => exact g1.2.2.2.2.2.2.1
     | succ i =>
       obtain ⟨hi', rfl⟩ := List.getElem?_eq_some_iff.1 hx
       simp only [pAt, List.getElem?_eq_getElem (show i < l.length by omega)]
       exact ((List.pairwise_iff_getElem.1 h3) i (i + 1) (by omega) hi' (by omega)).1
   . obtain ⟨hi', rfl⟩ := List.getElem?_eq_some_iff.1 hx
     have e : l = l.take i ++ l[i] :: l.drop (i + 1) := by rw [<- List.drop_eq_getElem_cons hi', List.take_append_drop]
     have hn : hit (mb l[i].addr) (l.take i) = none := hit_none.2 fun y hy => by
       obtain ⟨j, hj, rfl⟩ := List.getElem_of_mem hy
       have hj2 : j < i := by simp at hj; omega
       rw [List.getElem_take]
       have := ((List.pairwise_iff_getElem.1 h3) j i (by omega) hi' hj2).2
       exact decide_eq_false this
     have hs : mb l[i].addr l[i] = true := decide_eq_true rfl
     generalize hx : l[i] = x at *
     conv => lhs; rw [e]
     rw [hit_app, hn]
     simp only [hit, hs, Option.map_some, Option.none_or]
     simp; omega
structure HouseOk (h : Hs) : Prop where
 plan : PlanOk h
 trk : Good h.trk
 nat : NatOk h.nl h.lb h.L h.sb h.S h.maps
 met : MetOk h.met h.rate h.most
 el : h.nl = h.life
 eb : h.lb = h.lt
 es : h.sb = h.st
structure Fits (h : Hs) : Prop where
 L : h.L < 2 ^ 64
 S : h.S < 2 ^ 64
 met : h.met.length * 40 <= 140737488351232
 trk : h.trk.length * 48 <= 140737488351232
 maps : h.maps.length * 40 <= 140737488351232
 rules : h.rules.length * 80 <= 140737488351232
theorem HouseOk.fits {h : Hs} (k : HouseOk h) : Fits h := by
 have h1 := k.nat.len.2.2
 have h2 := k.trk.1
 have h3 := k.met.1
 have h4 := (ruChk_zero.1 k.plan.rules).1
 exact ⟨k.nat.ltL, k.nat.ltS, by omega, by omega, by omega, by omega⟩
theorem nat_ex {life lb : Int} {L : Nat} {sb : Int} {S : Nat} {l : List TMap} (hL : L < 2 ^ 64) (hS : S < 2 ^ 64) (hl : l.length < BigN) : ∃ c : Int, natCheck_fn (life, (lb, ((L : Int), (sb, ((S : Int), (l, ())))))) = some (c, ()) /\ (c = 0 ↔ NatOk life lb L sb S l) := by
 by_cases h : NatOk life lb L sb S l
 . exact ⟨0, natCheck_yes h hl, fun _ => h, fun _ => rfl⟩
 . obtain ⟨e, he, hc⟩ := natCheck_no h hL hS hl
   exact ⟨e, hc, fun q => absurd q he, fun q => absurd q h⟩
theorem hsCheck_ex (h : Hs) (hf : Fits h) : ∃ c : Int, hsCheck_fn (h.t ()) = some (c, ()) /\ (c = 0 ↔ HouseOk h) := by
  obtain ⟨f1, f2, f3, f4, f5, f6⟩ := hf
  obtain ⟨c1, e1, q1⟩ := conf_ex h
  obtain ⟨c2, e2, q2⟩ := checkT_fn h.trk
  obtain ⟨c3, e3, q3⟩ := nat_ex (life := h.nl) (lb := h.lb) (sb := h.sb) f1 f2 (show h.maps.length < BigN by unfold BigN; omega)
  have lp : ∃ r, hsCheck_loop40_2 ((0 : Int), (c1, (c2, (c3, h.t ())))) = some r /\ ((∃ c, c ≠ 0 /\ r = Sum.inl (c, ()) /\ ¬ (c1 = 0 /\ c2 = 0 /\ c3 = 0)) \/ (r = Sum.inr (h.t ()) /\ c1 = 0 /\ c2 = 0 /\ c3 = 0)) := by
    have s0 : c1 ≠ 0 -> (hsCheck_step40_2 ((0 : Int), (c1, (c2, (c3, h.t ()))))).eval = some (.inr (.inl (c1, ()))) := fun q => ev_t rfl (ev_g rfl (ev_opt rfl (ev_t (by simpa using q) (ev_r rfl))))
    have s0' : c1 = 0 -> (hsCheck_step40_2 ((0 : Int), (c1, (c2, (c3, h.t ()))))).eval = some (.inl ((1 : Int), (c1, (c2, (c3, h.t ()))))) := fun q => ev_t rfl (ev_g rfl (ev_opt rfl (ev_f (by simpa using q) (ev_r rfl))))
    have s1 : c2 ≠ 0 -> (hsCheck_step40_2 ((1 : Int), (c1, (c2, (c3, h.t ()))))).eval = some (.inr (.inl (c2, ()))) := fun q => ev_t rfl (ev_g rfl (ev_opt rfl (ev_t (by simpa using q) (ev_r rfl))))
    have s1' : c2 = 0 -> (hsCheck_step40_2 ((1 : Int), (c1, (c2, (c3, h.t ()))))).eval = some (.inl ((2 : Int), (c1, (c2, (c3, h.t ()))))) := fun q => ev_t rfl (ev_g rfl (ev_opt rfl (ev_f (by simpa using q) (ev_r rfl))))
    have s2 : c3 ≠ 0 -> (hsCheck_step40_2 ((2 : Int), (c1, (c2, (c3, h.t ()))))).eval = some (.inr (.inl (c3, ()))) := fun q => ev_t rfl (ev_g rfl (ev_opt rfl (ev_t (by simpa using q) (ev_r rfl))))
    have s2' : c3 = 0 -> (hsCheck_step40_2 ((2 : Int), (c1, (c2, (c3, h.t ()))))).eval = some (.inl ((3 : Int), (c1, (c2, (c3, h.t ()))))) := fun q => ev_t rfl (ev_g rfl (ev_opt rfl (ev_f (by simpa using q) (ev_r rfl))))
    have s3 : (hsCheck_step40_2 ((3 : Int), (c1, (c2, (c3, h.t ()))))).eval = some (.inr (.inr (h.t ()))) := ev_f rfl (ev_r rfl)
    have L4 : hsCheck_loop40_2 ((0 : Int), (c1, (c2, (c3, h.t ())))) = loopO 400002 (fun x => (hsCheck_step40_2 x).eval) (18446744073709551612 + 1 + 1 + 1 + 1) ((0 : Int), (c1, (c2, (c3, h.t ())))) := rfl
    rw [L4]
    by_cases z1 : c1 = 0
    case neg => exact ⟨_, loopO_out (s0 z1), .inl ⟨c1, z1, rfl, fun q => z1 q.1⟩⟩
    rw [loopO_in (s0' z1)]
    by_cases z2 : c2 = 0
    case neg => exact ⟨_, loopO_out (s1 z2), .inl ⟨c2, z2, rfl, fun q => z2 q.2.1⟩⟩
    rw [loopO_in (s1' z2)]
    by_cases z3 : c3 = 0
    case neg => exact ⟨_, loopO_out (s2 z3), .inl ⟨c3, z3, rfl, fun q => z3 q.2.2⟩⟩
    rw [loopO_in (s2' z3)]
    exact ⟨_, loopO_out s3, .inr ⟨rfl, z1, z2, z3⟩⟩
  obtain ⟨r, hr, hcase⟩ := lp
  unfold hsCheck_fn
  have no : ∀ {c : Int}, c ≠ 0 -> ¬ HouseOk h -> (c = 0 ↔ HouseOk h) := fun h1 h2 => ⟨fun h => absurd h h1, fun h => absurd h h2⟩
  rcases hcase with ⟨c, hc, rfl, hn⟩ | ⟨rfl, z1, z2, z3⟩
  . exact ⟨c, (ev_opt e1 (ev_opt e2 (ev_opt e3 (ev_opt hr (ev_r rfl))))), no hc fun k => hn ⟨q1.2 k.plan, q2.2 k.trk, q3.2 k.nat⟩⟩
  by_cases g1 : 64 < h.met.length
  . exact ⟨4, (ev_opt e1 (ev_opt e2 (ev_opt e3 (ev_opt hr (ev_t (decide_eq_true (by show (64 : Int) < (h.met.length : Int); omega)) (ev_r rfl)))))), no (by decide) fun k => by have := k.met.1; omega⟩
  have d1 : decide ((64 : Int) < (h.met.length : Int)) = false := decide_eq_false (by omega)
  by_cases g2 : h.nl = h.life
  case neg => exact ⟨4, (ev_opt e1 (ev_opt e2 (ev_opt e3 (ev_opt hr (ev_f d1 (ev_t (by show (!decide (h.nl = h.life)) = true; simp [g2]) (ev_r rfl))))))), no (by decide) fun k => g2 k.el⟩
  have d2 : (!decide (h.nl = h.life)) = false := by simp [g2]
  by_cases g3 : h.lb = h.lt
  case neg => exact ⟨4, (ev_opt e1 (ev_opt e2 (ev_opt e3 (ev_opt hr (ev_f d1 (ev_f d2 (ev_t (by show (!decide (h.lb = h.lt)) = true; simp [g3]) (ev_r rfl)))))))), no (by decide) fun k => g3 k.eb⟩
  have d3 : (!decide (h.lb = h.lt)) = false := by simp [g3]
  by_cases g4 : h.sb = h.st
  case neg => exact ⟨4, (ev_opt e1 (ev_opt e2 (ev_opt e3 (ev_opt hr (ev_f d1 (ev_f d2 (ev_f d3 (ev_t (by show (!decide (h.sb = h.st)) = true; simp [g4]) (ev_r rfl))))))))), no (by decide) fun k => g4 k.es⟩
  have d4 : (!decide (h.sb = h.st)) = false := by simp [g4]
  have lp := loop_all (tag := 400012) (f := fun x => (hsCheck_step40_12 x).eval) (l := h.met)
      (fun i => ((i : Int), (pAt h.met i, (h.met, ((h.met.length : Int), h.t (h.out, (h.lt, (h.st, (h.life, (h.rate, (h.most, (h.rules, (h.els, ())))))))))))))
      (MAt h.met h.rate h.most) (Sum.inl ((4 : Int), ())) (Sum.inr ())
      (fun i x hx => by
        have hi := (List.getElem?_eq_some_iff.1 hx).1
        obtain ⟨c, hc, hq⟩ := buCheck_ex (bOf x)
        have hm := meter_fn h x.addr (by unfold Big; omega)
        have hp : pAt h.met (i + 1) = x.at' := by simp only [pAt, hx]
        show (MAt h.met h.rate h.most i x -> (hsCheck_step40_12 _).eval = _) /\ (¬ MAt h.met h.rate h.most i x -> (hsCheck_step40_12 _).eval = _)
        refine ⟨fun hA => ?_, fun hA => ?_⟩
        . obtain ⟨a1, a2, a3, a4, a5⟩ := hA
          refine ev_t (decide_eq_true (by show (i : Int) < (h.met.length : Int); omega)) (ev_g (decide_eq_true (by show (0 : Int) <= (i : Int); omega)) (ev_opt (show h.met[Int.toNat (i : Int)]? = some x by simpa using hx) (ev_opt hc (ev_f (by simp [hq.2 a1]) (ev_f (by show (!decide (x.rate = h.rate)) = false; simp [a2]) (ev_f (by show (!decide (x.most = h.most)) = false; simp [a3]) (ev_f (decide_eq_false (by show ¬ x.at' < pAt h.met i; omega)) (ev_opt hm ?_))))))))
          refine ev_f ?_ (ev_r ?_)
          . cases h5 : hit (mb x.addr) h.met with
            | none => rw [h5] at a5; cases a5
            | some q => rw [h5] at a5; have : q.1 = i := by simpa using a5
                        simp [this]
          . rw [next_i64 i (by omega), hp]; rfl
        . refine ev_t (decide_eq_true (by show (i : Int) < (h.met.length : Int); omega)) (ev_g (decide_eq_true (by show (0 : Int) <= (i : Int); omega)) (ev_opt (show h.met[Int.toNat (i : Int)]? = some x by simpa using hx) (ev_opt hc ?_)))
          by_cases b1 : c = 0
          case neg => exact ev_t (by simpa using b1) (ev_r rfl)
          refine ev_f (by simpa using b1) ?_
          by_cases b2 : x.rate = h.rate
          case neg => exact ev_t (by show (!decide (x.rate = h.rate)) = true; simp [b2]) (ev_r rfl)
          refine ev_f (by show (!decide (x.rate = h.rate)) = false; simp [b2]) ?_
          by_cases b3 : x.most = h.most
          case neg => exact ev_t (by show (!decide (x.most = h.most)) = true; simp [b3]) (ev_r rfl)
          refine ev_f (by show (!decide (x.most = h.most)) = false; simp [b3]) ?_
          by_cases b4 : x.at' < pAt h.met i
          . exact ev_t (decide_eq_true b4) (ev_r rfl)
          refine ev_f (decide_eq_false b4) (ev_opt hm (ev_t ?_ (ev_r rfl)))
          have b5 : ¬ (hit (mb x.addr) h.met).map (·.1) = some i := fun q => hA ⟨hq.1 b1, b2, b3, by omega, q⟩
          cases h5 : hit (mb x.addr) h.met with
          | none => simp <;> omega
          | some q => rw [h5] at b5; have : ¬ q.1 = i := by simpa using b5
                      simp <;> omega)
      (by show (hsCheck_step40_12 _).eval = _; exact ev_f (by simp) (ev_r rfl)) 18446744073709551616 (by omega)
  rcases lp with ⟨k1, k2⟩ | ⟨k1, k2⟩
  . refine ⟨0, (ev_opt e1 (ev_opt e2 (ev_opt e3 (ev_opt hr (ev_f d1 (ev_f d2 (ev_f d3 (ev_f d4 (ev_opt k2 (ev_r rfl)))))))))), fun _ => ⟨q1.1 z1, q2.1 z2, q3.1 z3, met_at.1 ⟨by omega, k1⟩, g2, g3, g4⟩, fun _ => rfl⟩
  . refine ⟨4, (ev_opt e1 (ev_opt e2 (ev_opt e3 (ev_opt hr (ev_f d1 (ev_f d2 (ev_f d3 (ev_f d4 (ev_opt k2 (ev_r rfl)))))))))), no (by decide) fun k => k1 (met_at.2 k.met).2⟩

def lastM (l : List TMeter) : Int := match l.getLast? with | some m => m.at' | none => 0
def mx (a b : Int) : Int := if b > a then b else a
def lastH (h : Hs) : Int := mx (mx (lastM h.met) (last h.trk)) (lastAt h.maps)
theorem hsLast_ok (h : Hs) (k : HouseOk h) : hsLast_fn (h.t ()) = some (lastH h, ()) := by
 have f1 := k.met.1; have f2 := k.trk.1; have f3 := k.nat.len.2.2
 unfold hsLast_fn
 have get : ∀ {α : Type} (l : List α), 0 < l.length -> l.length <= 128 -> decide ((0 : Int) <= IntKind.wrap IntKind.i64 ((↑(List.length l) : Int) - (1 : Int))) = true /\ l[Int.toNat (IntKind.wrap IntKind.i64 ((↑(List.length l) : Int) - (1 : Int)))]? = l.getLast? := by
   intro α l h1 h2
   rw [prev_i64 _ h1 (by omega)]
   exact ⟨by simp, by rw [List.getLast?_eq_getElem?]; simp⟩
 have ne : ∀ {α : Type} (l : List α), ¬ 0 < l.length -> l.getLast? = none := fun l hl => by
   have : l = [] := List.eq_nil_of_length_eq_zero (by omega)
   rw [this]; rfl
 have sm : ∀ {α : Type} (l : List α), 0 < l.length -> ∃ x, l.getLast? = some x := fun l hl => by
   cases e : l.getLast? with
   | none => rw [List.getLast?_eq_none_iff] at e; rw [e] at hl; simp at hl
   | some x => exact ⟨x, rfl⟩
 have nm : ∀ x ∈ h.met, 0 <= x.at' := fun x hx => ((k.met.2.1 x hx).1).2.2.2.2.2.2.1
 have nt : ∀ x ∈ h.trk, 0 <= x.at' := fun x hx => (form_st (k.trk.2.1 x hx)).2.1
 have nn : ∀ x ∈ h.maps, 0 <= x.at' := fun x hx => (k.nat.ok x hx).2.2.2.1
 have z : ∀ x : Int, 0 <= x -> mx 0 x = x := fun x hx => by unfold mx; split <;> omega
 have z' : ∀ x : Int, 0 <= x -> mx x 0 = x := fun x hx => by unfold mx; rw [if_neg (by omega)]
 have nmx : ∀ a b : Int, 0 <= a -> 0 <= b -> 0 <= mx a b := fun a b h1 h2 => by unfold mx; split <;> omega
 unfold lastH lastM last lastAt
 by_cases c1 : 0 < h.met.length
 . obtain ⟨x1, e1⟩ := sm _ c1
   refine ev_t (decide_eq_true (by show (0 : Int) < (h.met.length : Int); omega)) (ev_g (get h.met c1 (by omega)).1 (ev_opt ((get h.met c1 (by omega)).2.trans e1) ?_))
   have p1 := nm x1 (List.mem_of_getLast? e1)
   by_cases c2 : 0 < h.trk.length
   . obtain ⟨x2, e2⟩ := sm _ c2
     have p2 := nt x2 (List.mem_of_getLast? e2)
     refine ev_t (decide_eq_true (by show (0 : Int) < (h.trk.length : Int); omega)) (ev_g (get h.trk c2 (by omega)).1 (ev_opt ((get h.trk c2 (by omega)).2.trans e2) ?_))
     by_cases c3 : 0 < h.maps.length
     . obtain ⟨x3, e3⟩ := sm _ c3
       refine ev_t (decide_eq_true (by show (0 : Int) < (h.maps.length : Int); omega)) (ev_g (get h.maps c3 (by omega)).1 (ev_opt ((get h.maps c3 (by omega)).2.trans e3) (ev_r ?_)))
       simp only [e1, e2, e3]; rfl
     . refine ev_f (decide_eq_false (by show ¬ (0 : Int) < (h.maps.length : Int); omega)) (ev_r ?_)
       simp only [e1, e2, ne _ c3]; rw [z' _ (nmx _ _ p1 p2)]; rfl
   . refine ev_f (decide_eq_false (by show ¬ (0 : Int) < (h.trk.length : Int); omega)) ?_
     by_cases c3 : 0 < h.maps.length
     . obtain ⟨x3, e3⟩ := sm _ c3
       refine ev_t (decide_eq_true (by show (0 : Int) < (h.maps.length : Int); omega)) (ev_g (get h.maps c3 (by omega)).1 (ev_opt ((get h.maps c3 (by omega)).2.trans e3) (ev_r ?_)))
       simp only [e1, ne _ c2, e3]; rw [z' _ p1]; rfl
     . refine ev_f (decide_eq_false (by show ¬ (0 : Int) < (h.maps.length : Int); omega)) (ev_r ?_)
       simp only [e1, ne _ c2, ne _ c3]; rw [z' _ p1, z' _ p1]
 . refine ev_f (decide_eq_false (by show ¬ (0 : Int) < (h.met.length : Int); omega)) ?_
   by_cases c2 : 0 < h.trk.length
   . obtain ⟨x2, e2⟩ := sm _ c2
     have p2 := nt x2 (List.mem_of_getLast? e2)
     refine ev_t (decide_eq_true (by show (0 : Int) < (h.trk.length : Int); omega)) (ev_g (get h.trk c2 (by omega)).1 (ev_opt ((get h.trk c2 (by omega)).2.trans e2) ?_))
     by_cases c3 : 0 < h.maps.length
     . obtain ⟨x3, e3⟩ := sm _ c3
       refine ev_t (decide_eq_true (by show (0 : Int) < (h.maps.length : Int); omega)) (ev_g (get h.maps c3 (by omega)).1 (ev_opt ((get h.maps c3 (by omega)).2.trans e3) (ev_r ?_)))
       simp only [ne _ c1, e2, e3]; rfl
     . refine ev_f (decide_eq_false (by show ¬ (0 : Int) < (h.maps.length : Int); omega)) (ev_r ?_)
       simp only [ne _ c1, e2, ne _ c3]; rw [z' _ (nmx _ _ (Int.le_refl 0) p2)]; rfl
   . refine ev_f (decide_eq_false (by show ¬ (0 : Int) < (h.trk.length : Int); omega)) ?_
     by_cases c3 : 0 < h.maps.length
     . obtain ⟨x3, e3⟩ := sm _ c3
       refine ev_t (decide_eq_true (by show (0 : Int) < (h.maps.length : Int); omega)) (ev_g (get h.maps c3 (by omega)).1 (ev_opt ((get h.maps c3 (by omega)).2.trans e3) (ev_r ?_)))
       simp only [ne _ c1, ne _ c2, e3]; rfl
     . refine ev_f (decide_eq_false (by show ¬ (0 : Int) < (h.maps.length : Int); omega)) (ev_r ?_)
       simp only [ne _ c1, ne _ c2, ne _ c3]; rfl
structure Till (h : Hs) (now : Int) : Prop where
 met : ∀ m ∈ h.met, m.at' <= now
 trk : ∀ m ∈ h.trk, m.at' <= now
 maps : ∀ m ∈ h.maps, m.at' <= now
 pos : 0 <= now
theorem lastM_ge {l : List TMeter} {r m : Int} (h : MetOk l r m) : ∀ x ∈ l, x.at' <= lastM l := by
 intro x hx
 unfold lastM
 cases e : l.getLast? with
 | none => rw [List.getLast?_eq_none_iff] at e; rw [e] at hx; cases hx
 | some y =>
  obtain ⟨ys, rfl⟩ := List.getLast?_eq_some_iff.1 e
  rcases List.mem_append.1 hx with h1 | h1
  . exact ((List.pairwise_append.1 h.2.2).2.2 x h1 y (by simp)).1
  . simp at h1; rw [h1]; exact Int.le_refl _
theorem lastM_le {l : List TMeter} {now : Int} (h0 : 0 <= now) (h : ∀ m ∈ l, m.at' <= now) : lastM l <= now := by
 unfold lastM
 cases e : l.getLast? with
 | none => exact h0
 | some y => exact h y (List.mem_of_getLast? e)
theorem last_le' {l : List TTalk} {now : Int} (h0 : 0 <= now) (h : ∀ m ∈ l, m.at' <= now) : last l <= now := by
 unfold last
 cases e : l.getLast? with
 | none => exact h0
 | some y => exact h y (List.mem_of_getLast? e)
theorem till_iff {h : Hs} (k : HouseOk h) (now : Int) : lastH h <= now ↔ Till h now := by
 have a1 := lastM_ge k.met; have a2 := last_le k.trk; have a3 := lastAt_ge k.nat.sorted
 constructor
 . intro hn
   have hz : 0 <= lastM h.met := by
    unfold lastM
    cases e : h.met.getLast? with
    | none => exact Int.le_refl _
    | some y => exact ((k.met.2.1 y (List.mem_of_getLast? e)).1).2.2.2.2.2.2.1
   have b : lastM h.met <= now /\ last h.trk <= now /\ lastAt h.maps <= now := by
    unfold lastH mx at hn
    repeat' split at hn
    all_goals omega
   exact ⟨fun m hm => Int.le_trans (a1 m hm) b.1, fun m hm => Int.le_trans (a2 m hm) b.2.1, fun m hm => Int.le_trans (a3 m hm) b.2.2, by omega⟩
 . rintro ⟨h1, h2, h3, h4⟩
   have b1 := lastM_le h4 h1; have b2 := last_le' h4 h2; have b3 := lastAt_le h4 h3
   unfold lastH mx
   repeat' split
   all_goals omega
structure Fl where (a b pr p q : Int)
def wk (h : Hs) (f : Fl) (d : List UInt8) (now : Int) : Int × (Int × (Int × (Int × (Int × (Int × ((List TRule) × (Bool × ((List TTalk) × (Int × (Int × (Int × (Int × (Int × ((List TMap) × (Int × (Int × (Int × (Int × (Int × ((List UInt8) × (Int × ((List TMeter) × Unit)))))))))))))))))))))) :=
 (h.out, (h.lt, (h.st, (h.life, (h.rate, (h.most, (h.rules, (h.els, (h.trk, (h.nl, (h.lb, ((h.L : Int), (h.sb, ((h.S : Int), (h.maps, (f.a, (f.b, (f.pr, (f.p, (f.q, (d, (now, (h.met, ())))))))))))))))))))))))
theorem delMeter_ok (l : List TMeter) (i j : Nat) (hij : i <= j) (hj : j <= l.length) : delMeter_fn ((i : Int), ((j : Int), (l, ()))) = some (l.take i ++ l.drop j, ()) := by
 by_cases he : i = j
 . subst he
   show (delMeter_tree _).eval = _
   refine ev_g (decide_eq_true (by omega)) (ev_t (decide_eq_true rfl) (ev_g (decide_eq_true rfl) (ev_r ?_)))
   rw [List.take_append_drop]
 . unfold delMeter_fn delMeter_tree
   have hj2 : Int.toNat ((l.length : Int) - (j : Int)) = l.length - j := by omega
   have hB : (List.take (l.length - j) (List.drop j l)).length = l.length - j := by simp
   simp only [Int.toNat_natCast, hj2]
   refine ev_g (by simp <;> omega) (ev_f (by simp <;> omega) (ev_g (by simp <;> omega) (ev_g (by simp <;> omega) (ev_g (by simp <;> omega) (ev_g (by rw [hB]; simp; omega) ?_)))))
   refine ev_g (by simp [hB]; omega) (ev_g (by simp [hB]; omega) (ev_g (by simp [hB]; omega) (ev_r ?_)))
   simp only [del_eq l i j (by omega) (by omega)]
def mBu (h : Hs) (a now : Int) : Bu := match hit (mb a) h.met with | some r => bOf r.2 | none => ⟨h.rate, h.most, h.most, now⟩
def mRest (h : Hs) (a : Int) : List TMeter := match hit (mb a) h.met with | some r => h.met.take r.1 ++ h.met.drop (r.1 + 1) | none => if h.met.length = 64 then h.met.drop 1 else h.met
def mOf (a : Int) (b : Bu) : TMeter := ⟨a, b.rate, b.most, b.has, b.at'⟩
def mNew (h : Hs) (a now n : Int) : List TMeter := mRest h a ++ [mOf a (tkR (mBu h a now) now n).1]
def mHs (h : Hs) (a now n : Int) : Hs := { h with met := mNew h a now n }
def mGo (h : Hs) (a now n : Int) : Bool := (tkR (mBu h a now) now n).2
theorem mRest_sub (h : Hs) (a : Int) : (mRest h a).Sublist h.met := by
 unfold mRest
 split
 . rename_i r e
   conv => rhs; rw [<- List.take_append_drop r.1 h.met]
   exact List.Sublist.append_left (by rw [show r.1 + 1 = 1 + r.1 by omega, <- List.drop_drop, List.drop_drop, Nat.add_comm, <- List.drop_drop]; exact List.drop_sublist _ _) _
 . split
   . exact List.drop_sublist _ _
   . exact List.Sublist.refl _
theorem mRest_len (h : Hs) (a : Int) (k : HouseOk h) : (mRest h a).length < 64 := by
 have := k.met.1
 unfold mRest
 split
 . rename_i r e
   have := hit_lt (i := r.1) (x := r.2) e
   simp; omega
 . split <;> simp <;> omega
theorem mRest_not (h : Hs) (a : Int) (k : HouseOk h) : ∀ m ∈ mRest h a, m.addr ≠ a := by
 intro m hm
 unfold mRest at hm
 split at hm
 . rename_i r e
   have h1 := hit_at (i := r.1) (x := r.2) e
   obtain ⟨hlt, hx⟩ := List.getElem?_eq_some_iff.1 h1.1
   have ha : r.2.addr = a := of_decide_eq_true h1.2
   have hp := List.pairwise_iff_getElem.1 k.met.2.2
   rcases List.mem_append.1 hm with h2 | h2
   . obtain ⟨j, hj, rfl⟩ := List.getElem_of_mem h2
     rw [List.getElem_take]
     have hj2 : j < r.1 := by simp at hj; omega
     have := (hp j r.1 (by omega) hlt hj2).2
     rw [hx, ha] at this; exact this
   . obtain ⟨j, hj, rfl⟩ := List.getElem_of_mem h2
     rw [List.getElem_drop]
     have := (hp r.1 (r.1 + 1 + j) hlt (by simp at hj; omega) (by omega)).2
     rw [hx, ha] at this; exact fun q => this q.symm
 . rename_i e
   have h1 := hit_none.1 e
   have hm' : m ∈ h.met := by
     split at hm
     . exact List.mem_of_mem_drop hm
     . exact hm
   exact of_decide_eq_false (h1 m hm')
theorem mBu_ok {h : Hs} (k : HouseOk h) {a now : Int} (ht : Till h now) (hn : now <= 1099511627776) : BOk (mBu h a now) /\ (mBu h a now).rate = h.rate /\ (mBu h a now).most = h.most /\ (mBu h a now).at' <= now := by
 have h0 := ht.pos; have p1 := k.plan.rate; have p2 := k.plan.most
 unfold mBu
 split
 . rename_i r e
   have hm := List.mem_of_getElem? (hit_at (i := r.1) (x := r.2) e).1
   obtain ⟨g1, g2, g3⟩ := k.met.2.1 _ hm
   exact ⟨g1, g2, g3, ht.met _ hm⟩
 . exact ⟨⟨p1.1, p1.2, p2.1, p2.2, by show 0 <= h.most; omega, Int.le_refl _, h0, hn⟩, rfl, rfl, Int.le_refl _⟩
theorem tkR_parts (b : Bu) (now n : Int) : (tkR b now n).1.rate = b.rate /\ (tkR b now n).1.most = b.most /\ (tkR b now n).1.at' = now := by
 unfold tkR; split <;> exact ⟨rfl, rfl, rfl⟩
theorem mHs_ok {h : Hs} (k : HouseOk h) {a now n : Int} (ht : Till h now) (hn : now <= 1099511627776) (h0 : 0 <= n /\ n <= 1000000000) : HouseOk (mHs h a now n) /\ Till (mHs h a now n) now := by
 obtain ⟨b1, b2, b3, b4⟩ := mBu_ok (a := a) k ht hn
 have tk := tk_bok (b := mBu h a now) (now := now) (n := n) ⟨b1, b4, hn, h0.1, h0.2⟩
 obtain ⟨t1, t2, t3⟩ := tkR_parts (mBu h a now) now n
 have hsub := mRest_sub h a
 have hl := mRest_len h a k
 have hno := mRest_not h a k
 refine ⟨⟨⟨k.plan.lt, k.plan.st, k.plan.life, k.plan.rate, k.plan.most, k.plan.rules⟩, k.trk, k.nat, ⟨?_, ?_, ?_⟩, k.el, k.eb, k.es⟩, ⟨?_, ht.trk, ht.maps, ht.pos⟩⟩
 . show (mRest h a ++ [_]).length <= 64
   rw [List.length_append]; simp only [List.length_singleton]; omega
 . intro m hm
   rcases List.mem_append.1 hm with h1 | h1
   . exact k.met.2.1 m (hsub.subset h1)
   . simp at h1
     rw [h1]
     exact ⟨tk, t1.trans b2, t2.trans b3⟩
 . refine List.pairwise_append.2 ⟨k.met.2.2.sublist hsub, List.pairwise_singleton _ _, fun x hx y hy => ?_⟩
   simp at hy
   rw [hy]
   exact ⟨by show x.at' <= (tkR _ _ _).1.at'; rw [t3]; exact ht.met x (hsub.subset hx), hno x hx⟩
 . intro m hm
   rcases List.mem_append.1 hm with h1 | h1
   . exact ht.met m (hsub.subset h1)
   . simp at h1
     rw [h1]; show (tkR _ _ _).1.at' <= now; rw [t3]; exact Int.le_refl _
theorem measured_fn {h : Hs} (k : HouseOk h) (f : Fl) (d : List UInt8) {now : Int} (ht : Till h now) (hn : now <= 1099511627776) (hd : d.length <= 1000000000) : wMeasured_fn (wk h f d now) = some (mGo h f.a now d.length, wk (mHs h f.a now d.length) f d now) := by
 obtain ⟨b1, b2, b3, b4⟩ := mBu_ok (a := f.a) k ht hn
 have hl64 := k.met.1
 have tk := take_ok (b := mBu h f.a now) (now := now) (n := d.length) ⟨b1, b4, hn, by omega, by omega⟩
 have hm := meter_fn h f.a (by unfold Big; omega)
 have hrl := mRest_len h f.a k
 have fin : ∀ (R : List TMeter), R = mRest h f.a -> (Tr.opt (β := (Int × (Int × (Int × (Int × (Bool × (Int × Unit))))))) ((buTake_fn ((mBu h f.a now).rate, ((mBu h f.a now).most, ((mBu h f.a now).has, ((mBu h f.a now).at', (now, ((↑(List.length d) : Int), ())))))))) (fun r1 =>
  .grd (decide ((List.length R + List.length [TMeter.mk f.a r1.1 r1.2.1 r1.2.2.1 r1.2.2.2.1]) * (40 : Nat) <= (140737488355328 : Nat) /\ List.length R + List.length [TMeter.mk f.a r1.1 r1.2.1 r1.2.2.1 r1.2.2.2.1] <= (9223372036854775807 : Nat))) (
  .grd (decide (List.length (R ++ [TMeter.mk f.a r1.1 r1.2.1 r1.2.2.1 r1.2.2.2.1]) = List.length (R ++ [TMeter.mk f.a r1.1 r1.2.1 r1.2.2.1 r1.2.2.2.1]))) (
  .ret (r1.2.2.2.2.1, (h.out, (h.lt, (h.st, (h.life, (h.rate, (h.most, (h.rules, (h.els, (h.trk, (h.nl, (h.lb, ((h.L : Int), (h.sb, ((h.S : Int), (h.maps, (f.a, (f.b, (f.pr, (f.p, (f.q, (d, (now, ((R ++ [TMeter.mk f.a r1.1 r1.2.1 r1.2.2.1 r1.2.2.2.1]), ())))))))))))))))))))))))))))).eval = some (mGo h f.a now d.length, wk (mHs h f.a now d.length) f d now) := by
  rintro R rfl
  refine ev_opt tk (ev_g (decide_eq_true ?_) (ev_g (decide_eq_true rfl) (ev_r rfl)))
  simp only [List.length_singleton]; omega
 unfold wMeasured_fn
 refine ev_opt hm ?_
 cases e : hit (mb f.a) h.met with
 | some r =>
  have h1 := hit_at (i := r.1) (x := r.2) e
  have hlt := hit_lt (i := r.1) (x := r.2) e
  have eB : mBu h f.a now = bOf r.2 := by unfold mBu; rw [e]
  have eR : h.met.take r.1 ++ h.met.drop (r.1 + 1) = mRest h f.a := by unfold mRest; rw [e]
  refine ev_t (decide_eq_true (by show (0 : Int) <= (r.1 : Int); omega)) (ev_g (decide_eq_true (by show (0 : Int) <= (r.1 : Int) /\ (r.1 : Int) < (h.met.length : Int); omega)) (ev_opt (b := r.2) (by show h.met[Int.toNat (r.1 : Int)]? = some r.2; rw [Int.toNat_natCast]; exact h1.1) (ev_g (decide_eq_true rfl) (ev_opt (b := (h.met.take r.1 ++ h.met.drop (r.1 + 1), ())) ?_ ?_))))
  . show delMeter_fn ((r.1 : Int), (IntKind.wrap IntKind.i64 ((r.1 : Int) + 1), (h.met, ()))) = _
    rw [next_i64 r.1 (by omega)]
    exact delMeter_ok _ _ _ (by omega) (by omega)
  . have := fin _ eR
    rw [eB] at this
    exact this
 | none =>
  have eB : mBu h f.a now = ⟨h.rate, h.most, h.most, now⟩ := by unfold mBu; rw [e]
  refine ev_f (decide_eq_false (by show ¬ (0 : Int) <= -1; omega)) ?_
  by_cases h64 : h.met.length = 64
  . have eR : h.met.take 0 ++ h.met.drop 1 = mRest h f.a := by unfold mRest; rw [e]; simp [h64]
    refine ev_t (decide_eq_true (by show (h.met.length : Int) = 64; omega)) (ev_g (decide_eq_true rfl) (ev_opt (delMeter_ok h.met 0 1 (by omega) (by omega)) ?_))
    have := fin _ eR
    rw [eB] at this
    exact this
  . have eR : h.met = mRest h f.a := by unfold mRest; rw [e]; simp [h64]
    refine ev_f (decide_eq_false (by show ¬ (h.met.length : Int) = 64; omega)) ?_
    have := fin _ eR
    rw [eB] at this
    exact this

def kn (h : Hs) (w : Rd4) (now : Int) : Bool := match hit (meet w) h.trk with | none => false | some q => !oldB now q.2
theorem known_fn {h : Hs} (k : HouseOk h) (w : Rd4) (f : Fl) (d : List UInt8) {now : Int} (h0 : 0 <= now) (hn : now <= 1099511627776) : wKnown_fn (w.a, (w.b, (w.p, (w.q, wk h f d now)))) = some (kn h w now, wk h f d now) := by
 unfold wKnown_fn
 refine ev_opt (find_good h.trk w now k.trk h0 hn) (ev_g (decide_eq_true rfl) (ev_r ?_))
 unfold fnd kn
 cases hit (meet w) h.trk with
 | none => rfl
 | some q => cases h1 : oldB now q.2 <;> simp [h1, noT, okT] <;> rfl
def Heard (l : List TTalk) (w : Rd4) (flags now : Int) (l1 : List TTalk) (ok : Bool) : Prop :=
 ∃ (a : List TTalk) (b : Bool) (e : Int), trHear_fn (l, (w.a, (w.b, (w.p, (w.q, (flags, (now, ()))))))) = some (a, (b, (e, ()))) /\ l1 = (if e = 0 then a else l) /\ ok = (decide (e = 0) && b)
theorem hear_till (l : List TTalk) (w : Rd4) (flags now : Int) (hg : Good l) (hr : InR l w flags now) {a : List TTalk} {ok : Bool} {e : Int} (h : trHear_fn (l, (w.a, (w.b, (w.p, (w.q, (flags, (now, ()))))))) = some (a, (ok, (e, ())))) : ∀ x ∈ a, x.at' <= now := by
 rw [hear_good l w flags now hg hr] at h
 obtain ⟨r1, r2, r3, r4, r5⟩ := hr
 have hl : ∀ y ∈ l, y.at' <= now := fun y hy => Int.le_trans (last_le hg y hy) r4
 have hnow : ∀ y ∈ Young l now, y.at' <= now := fun y hy => hl y (young_mem.1 hy).1
 cases h2 : hit (meet w) (Young l now) with
 | none =>
  rw [tail_none l w flags now hg h2] at h
  split at h
  . split at h
    . cases h; exact hl
    . cases h
      intro x hx
      rcases List.mem_append.1 hx with h3 | h3
      . exact hnow x h3
      . simp at h3; rw [h3]; exact Int.le_refl _
  . cases h; exact hnow
 | some q =>
  obtain ⟨i, x⟩ := q
  cases hrst : rstB flags with
  | true =>
    rw [tail_some l w flags now hg h2 hrst] at h
    cases h
    exact fun y hy => hnow y ((out_sub _ i).subset hy)
  | false =>
    obtain ⟨b, x', e1, e2, e3, e4⟩ := tail_pass l w flags now hg h2 hrst
    rw [e4] at h
    cases b with
    | false => cases h; exact hnow
    | true =>
      cases h
      intro y hy
      rcases List.mem_append.1 hy with h3 | h3
      . exact hnow y ((out_sub _ i).subset h3)
      . simp at h3; rw [h3, e2]; exact Int.le_refl _
theorem heard_ex {l : List TTalk} (hg : Good l) (w : Rd4) (flags now : Int) (hl : ∀ x ∈ l, x.at' <= now) : ∃ l1 ok, Heard l w flags now l1 ok := by
 have hb : l.length * 48 <= 140737488351232 := by have := hg.1; omega
 by_cases hr : InR l w flags now
 . obtain ⟨a, ok, e, h1, _⟩ := hear_all l w flags now hg hr
   exact ⟨_, _, a, ok, e, h1, rfl, rfl⟩
 . obtain ⟨e, _, h1⟩ := hear_bad l w flags now hb fun q => hr q.2
   exact ⟨_, _, _, _, _, h1, rfl, rfl⟩
theorem heard_good {l : List TTalk} (hg : Good l) {w : Rd4} {flags now : Int} (hl : ∀ x ∈ l, x.at' <= now) {l1 : List TTalk} {ok : Bool} (h : Heard l w flags now l1 ok) : Good l1 /\ ∀ x ∈ l1, x.at' <= now := by
 obtain ⟨a, b, e, h1, rfl, rfl⟩ := h
 have hb : l.length * 48 <= 140737488351232 := by have := hg.1; omega
 by_cases he : e = 0
 case neg => rw [if_neg he]; exact ⟨hg, hl⟩
 rw [if_pos he]
 by_cases hr : InR l w flags now
 . obtain ⟨a', ok', e', h2, h3⟩ := hear_all l w flags now hg hr
   rw [h1] at h2
   obtain ⟨rfl, rfl, rfl⟩ : a = a' /\ b = ok' /\ e = e' := by simpa using h2
   refine ⟨?_, hear_till l w flags now hg hr h1⟩
   rcases h3 with ⟨h4, _⟩ | ⟨_, h4, _⟩
   . exact absurd he h4
   . exact h4
 . obtain ⟨e', he', h2⟩ := hear_bad l w flags now hb fun q => hr q.2
   rw [h1] at h2
   obtain ⟨_, _, rfl⟩ : a = l /\ b = false /\ e = e' := by simpa using h2
   exact absurd he he'
def flagsOf (d : List UInt8) : Int := (((pk d).data.getD 13 0).toNat : Int)
theorem talked_fn {h : Hs} (w : Rd4) (f : Fl) (d : List UInt8) {now : Int} (hd : EndOk d) (h6 : (d.getD 9 0).toNat = 6) (hl : d.length <= Lim) {l1 : List TTalk} {ok : Bool} (hh : Heard h.trk w (flagsOf d) now l1 ok) :
   wTalked_fn (w.a, (w.b, (w.p, (w.q, wk h f d now)))) = some (ok, wk { h with trk := l1 } f d now) := by
 obtain ⟨a, b, e, h1, rfl, rfl⟩ := hh
 obtain ⟨u1, u2⟩ := pk_u32 d
 obtain ⟨o, ho⟩ := tc_ok u1 u2 (hd.tcp h6)
 unfold wTalked_fn
 refine ev_opt (ipRead_ok hd.ip hl) (ev_opt ho (ev_opt h1 ?_))
 by_cases he : e = 0
 . have d1 : decide (e = 0) = true := decide_eq_true he
   refine ev_t d1 (ev_t d1 (ev_g (decide_eq_true rfl) (ev_r ?_)))
   rw [if_pos he, d1]; rfl
 . have d1 : decide (e = 0) = false := decide_eq_false he
   refine ev_f d1 (ev_f d1 (ev_g (decide_eq_true rfl) (ev_r ?_)))
   rw [if_neg he, d1]; rfl

def pass (h : Hs) (f : Fl) : Bool := (dec h.rules (meetsB f.a f.b f.pr f.p f.q) (badB f.pr f.p f.q) h.els).1
def road (f : Fl) : Rd4 := ⟨f.a, f.b, f.p, f.q⟩
structure Fit32 (h : Hs) : Prop where
 out : U32 h.out
 adr : ∀ m ∈ h.maps, U32 m.addr
def Talks (h : Hs) (f : Fl) (w : Rd4) (d : List UInt8) (now : Int) (l1 : List TTalk) (ok : Bool) : Prop := (f.pr ≠ 6 /\ l1 = h.trk /\ ok = true) \/ (f.pr = 6 /\ Heard h.trk w (flagsOf d) now l1 ok)
def nOut (h : Hs) (f : Fl) (now : Int) : Option (Int × (Int × (Int × (Int × (Int × ((List TMap) × (Int × (Int × Unit)))))))) := natOut_fn (h.nl, (h.lb, ((h.L : Int), (h.sb, ((h.S : Int), (h.maps, (f.pr, (f.a, (f.p, (now, ()))))))))))
inductive Leaves (h : Hs) (f : Fl) (d : List UInt8) (now : Int) : Hs -> List UInt8 -> Int -> Prop
 | rules (h1 : f.pr ≠ 6 \/ kn h (road f) now = false) (h2 : pass h f = false) : Leaves h f d now h [] 4
 | talk (l1 : List TTalk) (h1 : f.pr = 6) (h2 : kn h (road f) now = true \/ pass h f = true) (h3 : Heard h.trk (road f) (flagsOf d) now l1 false) : Leaves h f d now { h with trk := l1 } [] 4
 | full (l1 : List TTalk) (e : Int) (h1 : (f.pr = 6 /\ kn h (road f) now = true) \/ pass h f = true) (h2 : Talks h f (road f) d now l1 true) (he : e ≠ 0) (h3 : nOut h f now = some (h.nl, (h.lb, ((h.L : Int), (h.sb, ((h.S : Int), (h.maps, ((0 : Int), (e, ()))))))))) : Leaves h f d now { h with trk := l1 } [] 5
 | out (l1 : List TTalk) (port : Int) (L2 S2 : Nat) (m2 : List TMap) (h1 : (f.pr = 6 /\ kn h (road f) now = true) \/ pass h f = true) (h2 : Talks h f (road f) d now l1 true)
  (h3 : nOut h f now = some (h.nl, (h.lb, ((L2 : Int), (h.sb, ((S2 : Int), (m2, (port, ((0 : Int), ()))))))))) (hp : U16 port) : Leaves h f d now { h with trk := l1, L := L2, S := S2, maps := m2 } (swp d h.out port 12 0) 0
theorem nOut_ex {h : Hs} (k : HouseOk h) {f : Fl} {now : Int} (ht : Till h now) (hn : now <= 1099511627776) (hpr : f.pr = 17 \/ f.pr = 6) (hp : 0 <= f.p /\ f.p <= 65535) (ha : U32 f.a) :
   (∃ e : Int, e ≠ 0 /\ nOut h f now = some (h.nl, (h.lb, ((h.L : Int), (h.sb, ((h.S : Int), (h.maps, ((0 : Int), (e, ()))))))))) \/ ∃ (port : Int) (L2 S2 : Nat) (Z : List TMap), nOut h f now = some (h.nl, (h.lb, ((L2 : Int), (h.sb, ((S2 : Int), (Z ++ [⟨f.pr, f.a, f.p, port, now⟩], (port, ((0 : Int), ())))))))) /\
    NatOk h.nl h.lb L2 h.sb S2 (Z ++ [⟨f.pr, f.a, f.p, port, now⟩]) /\ (∀ m ∈ Z, m ∈ h.maps /\ now - m.at' <= h.nl /\ kb f.pr f.a f.p m = false) /\ (∀ m ∈ h.maps, now - m.at' <= h.nl -> kb f.pr f.a f.p m = false -> m ∈ Z) := by
 have hl := k.nat.len.2.2
 have hA : ArgOk h.maps f.pr f.p now := ⟨hpr, hp, lastAt_le ht.pos ht.maps, ht.pos, hn⟩
 obtain ⟨Y, _, hY, hcase⟩ := out_ok (addr := f.a) k.nat hA (by omega) (by unfold BigN; omega)
 rcases hcase with ⟨out, L2, S2, Z, ho, hN, _, hZ, _, _⟩ | ⟨ho, _⟩
 . exact .inr ⟨out, L2, S2, Z, ho, hN, fun m hm => ⟨((hY m).1 ((hZ m).1 hm).1).1, ((hY m).1 ((hZ m).1 hm).1).2, ((hZ m).1 hm).2⟩, fun m h1 h2 h3 => (hZ m).2 ⟨(hY m).2 ⟨h1, h2⟩, h3⟩⟩
 . exact .inl ⟨6, by decide, ho⟩
theorem nat_port {life lb : Int} {L : Nat} {sb : Int} {S : Nat} {l : List TMap} (h : NatOk life lb L sb S l) : ∀ m ∈ l, U16 m.out /\ ((m.proto = 17 /\ lb <= m.out /\ m.out < lb + 64) \/ (m.proto = 6 /\ sb <= m.out /\ m.out < sb + 64)) := by
 intro m hm
 have hb := h.bl; have hs := h.bs
 unfold baseOk at hb hs
 unfold U16
 rcases (h.ok m hm).1 with e | e
 . have : m.out ∈ outs 17 l := outs_mem.2 ⟨m, hm, e, rfl⟩
   obtain ⟨k, h1, _, h3⟩ := (h.covL.2 _).1 this
   exact ⟨by omega, .inl ⟨e, by omega, by omega⟩⟩
 . have : m.out ∈ outs 6 l := outs_mem.2 ⟨m, hm, e, rfl⟩
   obtain ⟨k, h1, _, h3⟩ := (h.covS.2 _).1 this
   exact ⟨by omega, .inr ⟨e, by omega, by omega⟩⟩
theorem dec_some (h : Hs) (f : Fl) : ruDecide_fn (h.rules, (f.a, (f.b, (f.pr, (f.p, (f.q, (h.els, ()))))))) = some (dec h.rules (meetsB f.a f.b f.pr f.p f.q) (badB f.pr f.p f.q) h.els) := decide_fn _ _ _ _ _ _ _
def flow (s : List UInt8) : Fl := ⟨(pk s).from', (pk s).to, ((s.getD 9 0).toNat : Int), wAt (pk s).data 0, wAt (pk s).data 2⟩
theorem flow_ok {d : List UInt8} (hd : EndOk d) : U32 (flow d).a /\ U32 (flow d).b /\ ((flow d).pr = 17 \/ (flow d).pr = 6) /\ U16 (flow d).p /\ U16 (flow d).q /\ ((flow d).pr = 6 ↔ (d.getD 9 0).toNat = 6) := by
 obtain ⟨u1, u2⟩ := pk_u32 d
 refine ⟨u1, u2, ?_, wAt_bound _ _, wAt_bound _ _, ?_⟩
 . rcases hd.proto with h | h
   . right; show ((d.getD 9 0).toNat : Int) = 6; omega
   . left; show ((d.getD 9 0).toNat : Int) = 17; omega
 . show ((d.getD 9 0).toNat : Int) = 6 ↔ _; omega
def Fine (h : Hs) (now : Int) : Prop := HouseOk h /\ Fit32 h /\ Till h now
theorem Fine.trk {h : Hs} {now : Int} (k : Fine h now) {w : Rd4} {flags : Int} {l1 : List TTalk} {ok : Bool} (hh : Heard h.trk w flags now l1 ok) : Fine { h with trk := l1 } now := by
 obtain ⟨k1, k2, k3⟩ := k
 obtain ⟨g1, g2⟩ := heard_good k1.trk k3.trk hh
 exact ⟨⟨⟨k1.plan.lt, k1.plan.st, k1.plan.life, k1.plan.rate, k1.plan.most, k1.plan.rules⟩, g1, k1.nat, k1.met, k1.el, k1.eb, k1.es⟩, ⟨k2.out, k2.adr⟩, ⟨k3.met, g2, k3.maps, k3.pos⟩⟩
theorem Fine.talks {h : Hs} {now : Int} (k : Fine h now) {f : Fl} {w : Rd4} {d : List UInt8} {l1 : List TTalk} {ok : Bool} (hh : Talks h f w d now l1 ok) : Fine { h with trk := l1 } now := by
 rcases hh with ⟨_, rfl, _⟩ | ⟨_, hh⟩
 . exact k
 . exact k.trk hh
theorem out_tail {h : Hs} {now : Int} (k : Fine h now) (hn : now <= 1099511627776) {d : List UInt8} (hd : EndOk d) :
   (∃ e : Int, e ≠ 0 /\ (!decide (e = 0)) = true /\ nOut h (flow d) now = some (h.nl, (h.lb, ((h.L : Int), (h.sb, ((h.S : Int), (h.maps, ((0 : Int), (e, ()))))))))) \/
   (∃ (port : Int) (L2 S2 : Nat) (m2 : List TMap), nOut h (flow d) now = some (h.nl, (h.lb, ((L2 : Int), (h.sb, ((S2 : Int), (m2, (port, ((0 : Int), ())))))))) /\ U16 port /\ Fine { h with L := L2, S := S2, maps := m2 } now) := by
 obtain ⟨k1, k2, k3⟩ := k
 obtain ⟨f1, f2, f3, f4, f5, f6⟩ := flow_ok hd
 rcases nOut_ex k1 k3 hn f3 f4 f1 with ⟨e, he, ho⟩ | ⟨port, L2, S2, Z, ho, hN, hZ, _⟩
 . left
   exact ⟨e, he, by rw [decide_eq_false he]; rfl, ho⟩
 . right
   have hp : U16 port := (nat_port hN _ (List.mem_append_right _ (List.mem_singleton.2 rfl))).1
   refine ⟨port, L2, S2, _, ho, hp, ⟨⟨k1.plan.lt, k1.plan.st, k1.plan.life, k1.plan.rate, k1.plan.most, k1.plan.rules⟩, k1.trk, hN, k1.met, k1.el, k1.eb, k1.es⟩, ⟨k2.out, fun m hm => ?_⟩, ⟨k3.met, k3.trk, fun m hm => ?_, k3.pos⟩⟩
   . rcases List.mem_append.1 hm with h1 | h1
     . exact k2.adr m (hZ m h1).1
     . simp at h1; rw [h1]; exact f1
   . rcases List.mem_append.1 hm with h1 | h1
     . exact k3.maps m (hZ m h1).1
     . simp at h1; rw [h1]; exact Int.le_refl _
theorem leaves_ex {h : Hs} {now : Int} (k : Fine h now) (hn : now <= 1099511627776) {d : List UInt8} (hd : EndOk d) (hl : d.length <= Lim) :
  ∃ (h' : Hs) (out : List UInt8) (why : Int), wLeaves_fn (wk h (flow d) d now) = some (out, (why, wk h' (flow d) d now)) /\ Leaves h (flow d) d now h' out why /\ Fine h' now := by
 obtain ⟨f1, f2, f3, f4, f5, f6⟩ := flow_ok hd
 have hdec := dec_some h (flow d)
 have h0 := k.2.2.pos
 unfold wLeaves_fn
 by_cases p6 : (flow d).pr = 6
 case neg =>
  have d6 : decide ((flow d).pr = 6) = false := decide_eq_false p6
  have d6' : (!decide ((flow d).pr = 6)) = true := by rw [d6]; rfl
  cases hp : pass h (flow d) with
  | false => exact ⟨h, [], 4, ev_t d6' (ev_opt hdec (ev_t (by show (!pass h (flow d)) = true; rw [hp]; rfl) (ev_g (decide_eq_true rfl) (ev_r rfl)))), .rules (.inl p6) hp, k⟩
  | true =>
   have np : (!pass h (flow d)) = false := by rw [hp]; rfl
   rcases out_tail k hn hd with ⟨e, he, he', ho⟩ | ⟨port, L2, S2, m2, ho, hpo, hF⟩
   . exact ⟨h, [], 5, ev_t d6' (ev_opt hdec (ev_f np (ev_f d6 (ev_opt ho (ev_t he' (ev_g (decide_eq_true rfl) (ev_r rfl))))))), .full h.trk e (.inr hp) (.inl ⟨p6, rfl, rfl⟩) he ho, k⟩
   . exact ⟨_, _, 0, ev_t d6' (ev_opt hdec (ev_f np (ev_f d6 (ev_opt ho (ev_f rfl (ev_opt (from_ok hd hl k.2.1.out hpo) (ev_g (decide_eq_true rfl) (ev_r rfl)))))))), .out h.trk port L2 S2 m2 (.inr hp) (.inl ⟨p6, rfl, rfl⟩) ho hpo, hF⟩
 have d6 : decide ((flow d).pr = 6) = true := decide_eq_true p6
 have d6' : (!decide ((flow d).pr = 6)) = false := by rw [d6]; rfl
 have hkn := known_fn k.1 (road (flow d)) (flow d) d h0 hn
 obtain ⟨l1, ok, hh⟩ := heard_ex k.1.trk (road (flow d)) (flagsOf d) now k.2.2.trk
 have htk := talked_fn (h := h) (road (flow d)) (flow d) d hd (f6.1 p6) hl hh
 have kF := k.trk hh
 cases hk : kn h (road (flow d)) now with
 | false =>
  have nk : (!kn h (road (flow d)) now) = true := by rw [hk]; rfl
  cases hp : pass h (flow d) with
  | false => exact ⟨h, [], 4, ev_f d6' (ev_g (decide_eq_true rfl) (ev_opt hkn (ev_t nk (ev_opt hdec (ev_t (by show (!pass h (flow d)) = true; rw [hp]; rfl) (ev_g (decide_eq_true rfl) (ev_r rfl))))))), .rules (.inr hk) hp, k⟩
  | true =>
   have np : (!pass h (flow d)) = false := by rw [hp]; rfl
   cases ok with
   | false => exact ⟨{ h with trk := l1 }, [], 4, ev_f d6' (ev_g (decide_eq_true rfl) (ev_opt hkn (ev_t nk (ev_opt hdec (ev_f np (ev_t d6 (ev_g (decide_eq_true rfl) (ev_opt htk (ev_t rfl (ev_g (decide_eq_true rfl) (ev_r rfl))))))))))), .talk l1 p6 (.inr hp) hh, kF⟩
   | true =>
     rcases out_tail kF hn hd with ⟨e, he, he', ho⟩ | ⟨port, L2, S2, m2, ho, hpo, hF⟩
     . exact ⟨{ h with trk := l1 }, [], 5, ev_f d6' (ev_g (decide_eq_true rfl) (ev_opt hkn (ev_t nk (ev_opt hdec (ev_f np (ev_t d6 (ev_g (decide_eq_true rfl) (ev_opt htk (ev_f rfl (ev_opt ho (ev_t he' (ev_g (decide_eq_true rfl) (ev_r rfl))))))))))))), .full l1 e (.inr hp) (.inr ⟨p6, hh⟩) he ho, kF⟩
     . exact ⟨{ h with trk := l1, L := L2, S := S2, maps := m2 }, swp d h.out port 12 0, 0, ev_f d6' (ev_g (decide_eq_true rfl) (ev_opt hkn (ev_t nk (ev_opt hdec (ev_f np (ev_t d6 (ev_g (decide_eq_true rfl) (ev_opt htk (ev_f rfl (ev_opt ho (ev_f rfl (ev_opt (from_ok hd hl k.2.1.out hpo) (ev_g (decide_eq_true rfl) (ev_r rfl)))))))))))))), .out l1 port L2 S2 m2 (.inr hp) (.inr ⟨p6, hh⟩) ho hpo, hF⟩
 | true =>
  have nk : (!kn h (road (flow d)) now) = false := by rw [hk]; rfl
  cases ok with
  | false => exact ⟨{ h with trk := l1 }, [], 4, ev_f d6' (ev_g (decide_eq_true rfl) (ev_opt hkn (ev_f nk (ev_t d6 (ev_g (decide_eq_true rfl) (ev_opt htk (ev_t rfl (ev_g (decide_eq_true rfl) (ev_r rfl))))))))), .talk l1 p6 (.inl hk) hh, kF⟩
  | true =>
   rcases out_tail kF hn hd with ⟨e, he, he', ho⟩ | ⟨port, L2, S2, m2, ho, hpo, hF⟩
   . exact ⟨{ h with trk := l1 }, [], 5, ev_f d6' (ev_g (decide_eq_true rfl) (ev_opt hkn (ev_f nk (ev_t d6 (ev_g (decide_eq_true rfl) (ev_opt htk (ev_f rfl (ev_opt ho (ev_t he' (ev_g (decide_eq_true rfl) (ev_r rfl))))))))))), .full l1 e (.inl ⟨p6, hk⟩) (.inr ⟨p6, hh⟩) he ho, kF⟩
   . exact ⟨{ h with trk := l1, L := L2, S := S2, maps := m2 }, swp d h.out port 12 0, 0, ev_f d6' (ev_g (decide_eq_true rfl) (ev_opt hkn (ev_f nk (ev_t d6 (ev_g (decide_eq_true rfl) (ev_opt htk (ev_f rfl (ev_opt ho (ev_f rfl (ev_opt (from_ok hd hl k.2.1.out hpo) (ev_g (decide_eq_true rfl) (ev_r rfl)))))))))))), .out l1 port L2 S2 m2 (.inl ⟨p6, hk⟩) (.inr ⟨p6, hh⟩) ho hpo, hF⟩
def roadIn (f : Fl) (addr port : Int) : Rd4 := ⟨f.a, addr, f.p, port⟩
def nIn (h : Hs) (f : Fl) (now : Int) : Option (Nat × TMap) := hit (inB h.nl f.pr f.q now) h.maps
inductive Enters (h : Hs) (f : Fl) (d : List UInt8) (now : Int) : Hs -> List UInt8 -> Int -> Prop
 | none (h1 : nIn h f now = .none) : Enters h f d now h [] 4
 | unknown (r : Nat × TMap) (h1 : nIn h f now = some r) (h2 : f.pr = 6) (h3 : kn h (roadIn f r.2.addr r.2.port) now = false) : Enters h f d now h [] 4
 | talk (r : Nat × TMap) (l1 : List TTalk) (h1 : nIn h f now = some r) (h2 : f.pr = 6) (h3 : kn h (roadIn f r.2.addr r.2.port) now = true) (h4 : Heard h.trk (roadIn f r.2.addr r.2.port) (flagsOf d) now l1 false) : Enters h f d now { h with trk := l1 } [] 4
 | ins (r : Nat × TMap) (l1 : List TTalk) (h1 : nIn h f now = some r) (h2 : f.pr = 6 -> kn h (roadIn f r.2.addr r.2.port) now = true) (h3 : Talks h f (roadIn f r.2.addr r.2.port) d now l1 true) (h4 : U32 r.2.addr /\ U16 r.2.port) : Enters h f d now { h with trk := l1 } (swp d r.2.addr r.2.port 16 2) 0
theorem enters_ex {h : Hs} {now : Int} (k : Fine h now) (hn : now <= 1099511627776) {d : List UInt8} (hd : EndOk d) (hl : d.length <= Lim) :
  ∃ (h' : Hs) (out : List UInt8) (why : Int), wEnters_fn (wk h (flow d) d now) = some (out, (why, wk h' (flow d) d now)) /\ Enters h (flow d) d now h' out why /\ Fine h' now := by
 obtain ⟨f1, f2, f3, f4, f5, f6⟩ := flow_ok hd
 have h0 := k.2.2.pos
 have hlm := k.1.nat.len.2.2
 have hin := in_ok (out := (flow d).q) k.1.nat f3 ⟨h0, hn⟩ (by unfold BigN; omega)
 have hr : ∀ r, nIn h (flow d) now = some r -> U32 r.2.addr /\ U16 r.2.port := fun r e => by
  have hm := List.mem_of_getElem? (hit_at (i := r.1) (x := r.2) e).1
  exact ⟨k.2.1.adr _ hm, (k.1.nat.ok _ hm).2.1, (k.1.nat.ok _ hm).2.2.1⟩
 have hE : nIn h (flow d) now = hit (inB h.nl (flow d).pr (flow d).q now) h.maps := rfl
 unfold wEnters_fn
 rw [<- hE] at hin
 cases e : nIn h (flow d) now with
 | none =>
  rw [e] at hin
  exact ⟨h, [], 4, ev_opt hin (ev_t rfl (ev_g (decide_eq_true rfl) (ev_r rfl))), .none e, k⟩
 | some r =>
  rw [e] at hin
  obtain ⟨ra, rp⟩ := hr r e
  by_cases p6 : (flow d).pr = 6
  case neg =>
   exact ⟨h, _, 0, ev_opt hin (ev_f rfl (ev_f (decide_eq_false p6) (ev_opt (to_ok hd hl ra rp) (ev_g (decide_eq_true rfl) (ev_r rfl))))), .ins r h.trk e (fun q => absurd q p6) (.inl ⟨p6, rfl, rfl⟩) ⟨ra, rp⟩, k⟩
  have d6 : decide ((flow d).pr = 6) = true := decide_eq_true p6
  have hkn := known_fn k.1 (roadIn (flow d) r.2.addr r.2.port) (flow d) d h0 hn
  cases hk : kn h (roadIn (flow d) r.2.addr r.2.port) now with
  | false =>
   have nk : (!kn h (roadIn (flow d) r.2.addr r.2.port) now) = true := by rw [hk]; rfl
   exact ⟨h, [], 4, ev_opt hin (ev_f rfl (ev_t d6 (ev_g (decide_eq_true rfl) (ev_opt hkn (ev_t nk (ev_g (decide_eq_true rfl) (ev_r rfl))))))), .unknown r e p6 hk, k⟩
  | true =>
   have nk : (!kn h (roadIn (flow d) r.2.addr r.2.port) now) = false := by rw [hk]; rfl
   obtain ⟨l1, ok, hh⟩ := heard_ex k.1.trk (roadIn (flow d) r.2.addr r.2.port) (flagsOf d) now k.2.2.trk
   have htk := talked_fn (h := h) (roadIn (flow d) r.2.addr r.2.port) (flow d) d hd (f6.1 p6) hl hh
   have kF := k.trk hh
   cases ok with
   | false => exact ⟨{ h with trk := l1 }, [], 4, ev_opt hin (ev_f rfl (ev_t d6 (ev_g (decide_eq_true rfl) (ev_opt hkn (ev_f nk (ev_g (decide_eq_true rfl) (ev_opt htk (ev_t rfl (ev_g (decide_eq_true rfl) (ev_r rfl)))))))))), .talk r l1 e p6 hk hh, kF⟩
   | true => exact ⟨{ h with trk := l1 }, _, 0, ev_opt hin (ev_f rfl (ev_t d6 (ev_g (decide_eq_true rfl) (ev_opt hkn (ev_f nk (ev_g (decide_eq_true rfl) (ev_opt htk (ev_f rfl (ev_opt (to_ok hd hl ra rp) (ev_g (decide_eq_true rfl) (ev_r rfl))))))))))), .ins r l1 e (fun _ => hk) (.inr ⟨p6, hh⟩) ⟨ra, rp⟩, kF⟩
structure Hop (s t : List UInt8) : Prop where
 fn : ipHop_fn (s, ()) = some (t, ((0 : Int), ()))
 ends : EndOk t
 flow : flow t = flow s
 life : 2 <= (pk s).life /\ (pk t).life = (pk s).life - 1
 pk : pk t = { pk s with life := (pk s).life - 1 }
 len : t.length <= s.length
 all : t.length = alln s
 big : t.length <= 65535
theorem hop_ex {s : List UInt8} (h : EndOk s) (hl : s.length <= Lim) (h2 : 2 <= (pk s).life) : ∃ t, Hop s t := by
 obtain ⟨t, h3, h4, h5, h6, h7⟩ := hop_fnL h.ip hl h2
 have h8 := (end_len h).2.2.2.2.2.1
 have e9 : (t.getD 9 0).toNat = (s.getD 9 0).toNat := by
   have : (pk t).proto = (pk s).proto := by rw [h5]
   have : ((t.getD 9 0).toNat : Int) = ((s.getD 9 0).toNat : Int) := this
   omega
 have ed : (pk t).data = (pk s).data := by rw [h5]
 have ef : (pk t).from' = (pk s).from' := by rw [h5]
 have eb : (pk t).to = (pk s).to := by rw [h5]
 refine ⟨t, h3, ⟨h4, by rw [e9]; exact h.proto, by rw [h5]; exact h.whole, ?_, ?_⟩, ?_, ⟨h2, by rw [h5]⟩, h5, h6, h7, by omega⟩
 . rw [e9, ed, ef, eb]; exact h.tcp
 . rw [e9, ed, ef, eb]; exact h.udp
 . unfold X.flow; rw [ed, ef, eb, e9]
inductive Goes (h : Hs) (ins : Bool) (s : List UInt8) (now : Int) : Hs -> List UInt8 -> Int -> Prop
 | broken (h1 : ¬ EndOk s) : Goes h ins s now h [] 1
 | other (h1 : EndOk s) (h2 : ins = false) (h3 : (flow s).b ≠ h.out) : Goes h ins s now h [] 4
 | life (h1 : EndOk s) (h3 : (pk s).life < 2) : Goes h ins s now h [] 2
 | much (t : List UInt8) (h1 : EndOk s) (h2 : Hop s t) (h3 : mGo h (flow s).a now t.length = false) (h4 : ins = true \/ (flow s).b = h.out) : Goes h ins s now (mHs h (flow s).a now t.length) [] 3
 | leaves (t : List UInt8) (h' : Hs) (out : List UInt8) (why : Int) (h1 : EndOk s) (h2 : Hop s t) (h3 : mGo h (flow s).a now t.length = true) (h4 : ins = true) (h5 : Leaves (mHs h (flow s).a now t.length) (flow s) t now h' out why) : Goes h ins s now h' out why
 | enters (t : List UInt8) (h' : Hs) (out : List UInt8) (why : Int) (h1 : EndOk s) (h2 : Hop s t) (h3 : mGo h (flow s).a now t.length = true) (h4 : ins = false) (h5 : (flow s).b = h.out) (h6 : Enters (mHs h (flow s).a now t.length) (flow s) t now h' out why) : Goes h ins s now h' out why
theorem goes_ex {h : Hs} {now : Int} (k : Fine h now) (hn : now <= 1099511627776) (ins : Bool) {s : List UInt8} (hl : s.length <= Lim) (f0 : Fl) (d0 : List UInt8) :
   ∃ (h' : Hs) (out : List UInt8) (why : Int) (f' : Fl) (d' : List UInt8), wGoes_fn (ins, (s, wk h f0 d0 now)) = some (out, (why, wk h' f' d' now)) /\ Goes h ins s now h' out why /\ Fine h' now := by
 have hl' := hl
 unfold wGoes_fn
 by_cases hE : EndOk s
 case neg =>
   obtain ⟨e, he, h1⟩ := ends_bad hE hl'
   exact ⟨h, [], 1, ⟨0, 0, 0, 0, 0⟩, d0, ev_opt h1 (ev_t (by show (!decide (e = 0)) = true; rw [decide_eq_false he]; rfl) (ev_g (decide_eq_true rfl) (ev_r rfl))), .broken hE, k⟩
 have hends := ends_ok hE hl'
 by_cases hb : ins = false /\ (flow s).b ≠ h.out
 . obtain ⟨rfl, hb⟩ := hb
   exact ⟨h, [], 4, flow s, d0, ev_opt hends (ev_f rfl (ev_t rfl (ev_t (by show (!decide ((flow s).b = h.out)) = true; rw [decide_eq_false hb]; rfl) (ev_g (decide_eq_true rfl) (ev_r rfl))))), .other hE rfl hb, k⟩
 have hor : ins = true \/ (flow s).b = h.out := by
   cases ins with
   | true => exact .inl rfl
   | false => right; exact Classical.byContradiction fun q => hb ⟨rfl, q⟩
 by_cases hlife : (pk s).life < 2
 . have hh := hop_end hE.ip hl' hlife
   cases ins with
   | true => exact ⟨h, [], 2, flow s, [], ev_opt hends (ev_f rfl (ev_f rfl (ev_opt hh (ev_t rfl (ev_g (decide_eq_true rfl) (ev_r rfl)))))), .life hE hlife, k⟩
   | false =>
    have hq : (flow s).b = h.out := by rcases hor with q | q; (cases q); exact q
    exact ⟨h, [], 2, flow s, [], ev_opt hends (ev_f rfl (ev_t rfl (ev_f (by show (!decide ((flow s).b = h.out)) = false; rw [decide_eq_true hq]; rfl) (ev_opt hh (ev_t rfl (ev_g (decide_eq_true rfl) (ev_r rfl))))))), .life hE hlife, k⟩
 obtain ⟨t, ht⟩ := hop_ex hE hl' (by omega)
 have htl := ht.len
 have htb := ht.big
 have htl' : t.length <= Lim := Nat.le_trans htl hl'
 have hm := measured_fn k.1 (flow s) t k.2.2 hn (by omega)
 obtain ⟨m1, m2⟩ := mHs_ok (a := (flow s).a) (n := (t.length : Int)) k.1 k.2.2 hn ⟨by omega, by omega⟩
 have kM : Fine (mHs h (flow s).a now t.length) now := ⟨m1, ⟨k.2.1.out, k.2.1.adr⟩, m2⟩
 cases hg : mGo h (flow s).a now t.length with
 | false =>
   have ng : (!mGo h (flow s).a now t.length) = true := by rw [hg]; rfl
   cases ins with
   | true => exact ⟨_, [], 3, flow s, t, ev_opt hends (ev_f rfl (ev_f rfl (ev_opt ht.fn (ev_f rfl (ev_g (decide_eq_true rfl) (ev_opt hm (ev_t ng (ev_g (decide_eq_true rfl) (ev_r rfl))))))))), .much t hE ht hg hor, kM⟩
   | false =>
    have hq : (flow s).b = h.out := by rcases hor with q | q; (cases q); exact q
    exact ⟨_, [], 3, flow s, t, ev_opt hends (ev_f rfl (ev_t rfl (ev_f (by show (!decide ((flow s).b = h.out)) = false; rw [decide_eq_true hq]; rfl) (ev_opt ht.fn (ev_f rfl (ev_g (decide_eq_true rfl) (ev_opt hm (ev_t ng (ev_g (decide_eq_true rfl) (ev_r rfl)))))))))), .much t hE ht hg hor, kM⟩
 | true =>
   have ng : (!mGo h (flow s).a now t.length) = false := by rw [hg]; rfl
   cases ins with
   | true =>
    obtain ⟨h', out, why, q1, q2, q3⟩ := leaves_ex kM hn ht.ends htl'
    rw [ht.flow] at q1 q2
    exact ⟨h', out, why, flow s, t, ev_opt hends (ev_f rfl (ev_f rfl (ev_opt ht.fn (ev_f rfl (ev_g (decide_eq_true rfl) (ev_opt hm (ev_f ng (ev_t rfl (ev_g (decide_eq_true rfl) (ev_opt q1 (ev_g (decide_eq_true rfl) (ev_r rfl)))))))))))), .leaves t h' out why hE ht hg rfl q2, q3⟩
   | false =>
    have hq : (flow s).b = h.out := by rcases hor with q | q; (cases q); exact q
    obtain ⟨h', out, why, q1, q2, q3⟩ := enters_ex kM hn ht.ends htl'
    rw [ht.flow] at q1 q2
    exact ⟨h', out, why, flow s, t, ev_opt hends (ev_f rfl (ev_t rfl (ev_f (by show (!decide ((flow s).b = h.out)) = false; rw [decide_eq_true hq]; rfl) (ev_opt ht.fn (ev_f rfl (ev_g (decide_eq_true rfl) (ev_opt hm (ev_f ng (ev_f rfl (ev_g (decide_eq_true rfl) (ev_opt q1 (ev_g (decide_eq_true rfl) (ev_r rfl))))))))))))), .enters t h' out why hE ht hg rfl hq q2, q3⟩
theorem hear_ok {h : Hs} {now : Int} (k : Fine h now) (hn : now <= 1099511627776) (ins : Bool) {s : List UInt8} (hl : s.length <= Lim) :
  ∃ (h' : Hs) (out : List UInt8) (why : Int), hsHear_fn (h.t (ins, (s, (now, ())))) = some (h'.t (out, (why, ((0 : Int), ())))) /\ Goes h ins s now h' out why /\ Fine h' now := by
 obtain ⟨g1, g2, g3, g4, g5, g6⟩ := k.1.fits
 obtain ⟨c, hc, hq⟩ := hsCheck_ex h k.1.fits
 have hc0 := hq.2 k.1
 have hlast := hsLast_ok h k.1
 have ht := (till_iff k.1 now).2 k.2.2
 obtain ⟨h', out, why, f', d', q1, q2, q3⟩ := goes_ex k hn ins hl ⟨0, 0, 0, 0, 0⟩ []
 refine ⟨h', out, why, ?_, q2, q3⟩
 unfold hsHear_fn
 refine ev_g (decide_eq_true (by show (0 + h.rules.length) * 80 <= 140737488355328 /\ 0 + h.rules.length <= 9223372036854775807; omega)) (ev_g (decide_eq_true (by show (0 + h.met.length) * 40 <= 140737488355328 /\ 0 + h.met.length <= 9223372036854775807; omega)) (ev_g (decide_eq_true (by show (0 + h.trk.length) * 48 <= 140737488355328 /\ 0 + h.trk.length <= 9223372036854775807; omega)) (ev_g (decide_eq_true (by show (0 + h.maps.length) * 40 <= 140737488355328 /\ 0 + h.maps.length <= 9223372036854775807; omega)) ?_)))
 refine ev_opt hc (ev_f (by show (!decide (c = 0)) = false; rw [decide_eq_true hc0]; rfl) (ev_opt hlast (ev_f (decide_eq_false (by show ¬ now < lastH h; omega)) (ev_f (decide_eq_false (by show ¬ 1099511627776 < now; omega)) (ev_g (decide_eq_true rfl) (ev_opt q1 (ev_r rfl)))))))
def Right (h : Hs) : Prop := HouseOk h /\ Fit32 h
structure Same8 (h h' : Hs) : Prop where
 out : h'.out = h.out
 lt : h'.lt = h.lt
 st : h'.st = h.st
 life : h'.life = h.life
 rate : h'.rate = h.rate
 most : h'.most = h.most
 rules : h'.rules = h.rules
 els : h'.els = h.els
theorem Same8.rfl' (h : Hs) : Same8 h h := ⟨rfl, rfl, rfl, rfl, rfl, rfl, rfl, rfl⟩
theorem Leaves.same {h : Hs} {f : Fl} {d : List UInt8} {now : Int} {h' : Hs} {out : List UInt8} {why : Int} (k : Leaves h f d now h' out why) : Same8 h h' /\ h'.met = h.met := by
 cases k <;> exact ⟨⟨rfl, rfl, rfl, rfl, rfl, rfl, rfl, rfl⟩, rfl⟩
theorem Enters.same {h : Hs} {f : Fl} {d : List UInt8} {now : Int} {h' : Hs} {out : List UInt8} {why : Int} (k : Enters h f d now h' out why) : Same8 h h' /\ h'.met = h.met := by
 cases k <;> exact ⟨⟨rfl, rfl, rfl, rfl, rfl, rfl, rfl, rfl⟩, rfl⟩
theorem Goes.same {h : Hs} {ins : Bool} {s : List UInt8} {now : Int} {h' : Hs} {out : List UInt8} {why : Int} (k : Goes h ins s now h' out why) : Same8 h h' := by
 cases k with
 | broken => exact .rfl' h
 | other => exact .rfl' h
 | life => exact .rfl' h
 | much => exact ⟨rfl, rfl, rfl, rfl, rfl, rfl, rfl, rfl⟩
 | leaves t _ _ _ h1 h2 h3 h4 h5 => exact ⟨h5.same.1.1, h5.same.1.2, h5.same.1.3, h5.same.1.4, h5.same.1.5, h5.same.1.6, h5.same.1.7, h5.same.1.8⟩
 | enters t _ _ _ h1 h2 h3 h4 h5 h6 => exact ⟨h6.same.1.1, h6.same.1.2, h6.same.1.3, h6.same.1.4, h6.same.1.5, h6.same.1.6, h6.same.1.7, h6.same.1.8⟩
theorem Same8.trans {a b c : Hs} (h : Same8 a b) (k : Same8 b c) : Same8 a c := ⟨k.1.trans h.1, k.2.trans h.2, k.3.trans h.3, k.4.trans h.4, k.5.trans h.5, k.6.trans h.6, k.7.trans h.7, k.8.trans h.8⟩
theorem leaves_fine {h : Hs} {now : Int} (k : Fine h now) (hn : now <= 1099511627776) {d : List UInt8} (hd : EndOk d) {h' : Hs} {out : List UInt8} {why : Int} (hl : Leaves h (flow d) d now h' out why) : Fine h' now := by
 cases hl with
 | rules => exact k
 | talk l1 _ _ h3 => exact k.trk h3
 | full l1 e _ h2 => exact k.talks h2
 | out l1 port L2 S2 m2 _ h2 h3 hp =>
  have kF := k.talks h2
  rcases out_tail kF hn hd with ⟨e, he, _, ho⟩ | ⟨port', L', S', m', ho, _, hF⟩
  . have ho : nOut h (flow d) now = _ := ho
    rw [h3] at ho
    have := Option.some.inj ho
    simp only [Prod.mk.injEq] at this
    exact absurd this.2.2.2.2.2.2.2.1.symm he
  . have ho : nOut h (flow d) now = _ := ho
    rw [h3] at ho
    have := Option.some.inj ho
    simp only [Prod.mk.injEq] at this
    obtain ⟨_, _, e1, _, e2, e3, _⟩ := this
    obtain rfl : L2 = L' := Int.ofNat_inj.1 e1
    obtain rfl : S2 = S' := Int.ofNat_inj.1 e2
    subst e3
    exact hF
theorem enters_fine {h : Hs} {now : Int} (k : Fine h now) {d : List UInt8} {h' : Hs} {out : List UInt8} {why : Int} (hl : Enters h (flow d) d now h' out why) : Fine h' now := by
 cases hl with
 | none => exact k
 | unknown => exact k
 | talk r l1 _ _ _ h4 => exact k.trk h4
 | ins r l1 _ _ h3 _ => exact k.talks h3
inductive StepR (h : Hs) (c : TCame) : Hs -> TWent -> Prop
 | no (e : Int) (he : e ≠ 0) : StepR h c h ⟨[], 0, e⟩
 | go (h' : Hs) (out : List UInt8) (why : Int) (h1 : Till h c.at') (h2 : c.at' <= 1099511627776) (h3 : Goes h c.inside c.data c.at' h' out why) : StepR h c h' ⟨out, why, 0⟩
theorem StepR.same {h : Hs} {c : TCame} {h' : Hs} {w : TWent} (k : StepR h c h' w) : Same8 h h' := by
 cases k with
 | no => exact .rfl' h
 | go _ _ _ h1 h2 h3 => exact h3.same
inductive RunR : Hs -> List TCame -> Hs -> List TWent -> Prop
 | nil (h : Hs) : RunR h [] h []
 | cons {h h1 h2 : Hs} {c : TCame} {cs : List TCame} {w : TWent} {ws : List TWent} (a : StepR h c h1 w) (b : RunR h1 cs h2 ws) : RunR h (c :: cs) h2 (w :: ws)
theorem RunR.states {h : Hs} {l : List TCame} {h' : Hs} {ws : List TWent} (k : RunR h l h' ws) : ws.length = l.length /\ ∃ H : Nat -> Hs, H 0 = h /\ H l.length = h' /\ ∀ (i : Nat) (c : TCame), l[i]? = some c -> ∃ w, ws[i]? = some w /\ StepR (H i) c (H (i + 1)) w := by
 induction k with
 | nil h => exact ⟨rfl, fun _ => h, rfl, rfl, fun i c hc => by simp at hc⟩
 | @cons h h1 h2 c cs w ws a b ih =>
  obtain ⟨e, H, e1, e2, e3⟩ := ih
  refine ⟨by simp [e], fun i => match i with | 0 => h | i + 1 => H i, rfl, e2, fun i x hx => ?_⟩
  cases i with
  | zero =>
   simp at hx
   subst hx
   exact ⟨w, rfl, by show StepR h c (H 0) w; rw [e1]; exact a⟩
  | succ i =>
   obtain ⟨w', g1, g2⟩ := e3 i x (by simpa using hx)
   exact ⟨w', by simpa using g1, g2⟩
def hNew (h : Hs) : Hs := { h with met := [], trk := [], nl := h.life, lb := h.lt, L := 0, sb := h.st, S := 0, maps := [] }
theorem cov0 (b : Int) : Cov b 0 [] := (cov_nil (by decide)).2 rfl
theorem new_right {h : Hs} (k : PlanOk h) (ho : U32 h.out) : Right (hNew h) := by
 refine ⟨⟨⟨k.lt, k.st, k.life, k.rate, k.most, k.rules⟩, ⟨by show 0 <= 64; omega, fun x hx => (by cases hx), List.Pairwise.nil⟩, ⟨k.life, k.lt, k.st, (by show (0 : Nat) < 2 ^ 64; decide), (by show (0 : Nat) < 2 ^ 64; decide), fun m hm => (by cases hm), List.Pairwise.nil, List.Pairwise.nil, cov0 _, cov0 _⟩, ⟨by show 0 <= 64; omega, fun x hx => (by cases hx), List.Pairwise.nil⟩, rfl, rfl, rfl⟩, ⟨ho, fun m hm => (by cases hm)⟩⟩
theorem new_till (h : Hs) {now : Int} (h0 : 0 <= now) : Till (hNew h) now := ⟨fun m hm => (by cases hm), fun m hm => (by cases hm), fun m hm => (by cases hm), h0⟩
theorem new_ok {h : Hs} (k : PlanOk h) : hsNew_fn (h.out, (h.lt, (h.st, (h.life, (h.rate, (h.most, (h.rules, (h.els, ())))))))) = some ((hNew h).t ((0 : Int), ())) := by
 obtain ⟨c, hc, hq⟩ := conf_ex h
 have hc0 := hq.2 k
 have hr := (ruChk_zero.1 k.rules).1
 unfold hsNew_fn
 exact ev_opt hc (ev_f (by show (!decide (c = 0)) = false; rw [decide_eq_true hc0]; rfl) (ev_g (decide_eq_true (by show (0 + h.rules.length) * 80 <= 140737488355328 /\ 0 + h.rules.length <= 9223372036854775807; omega)) (ev_r rfl)))
theorem out_len {h : Hs} {f : Fl} {d : List UInt8} {now : Int} (hd : EndOk d) {h' : Hs} {out : List UInt8} {why : Int} (k : Leaves h f d now h' out why) : out.length <= d.length := by
 have := hd.ip.all
 cases k with
 | out => rw [swp_len hd]; exact this
 | _ => simp
theorem in_len {h : Hs} {f : Fl} {d : List UInt8} {now : Int} (hd : EndOk d) {h' : Hs} {out : List UInt8} {why : Int} (k : Enters h f d now h' out why) : out.length <= d.length := by
 have := hd.ip.all
 cases k with
 | ins => rw [swp_len hd]; exact this
 | _ => simp
theorem setW_at (a b : List UInt8) (x y : Int) (i : Nat) (h : a.length = i) : setW (a ++ (wd x ++ b)) i y = a ++ (wd y ++ b) := by
 have := setW_app_right a (wd x ++ b) 0 y
 rw [Nat.add_zero, h] at this
 rw [this]; rfl
theorem same_low {a b : Int} (ha : 0 <= a /\ a <= 65534) (hb : 0 <= b /\ b <= 65534) (h : (a - b) % 65535 = 0) : a = b := by omega
def mkp (pr f t : Int) (d : List UInt8) : TPacket := ⟨0, 0, false, false, 0, 9, pr, f, t, [], d⟩
theorem mkp_ref {pr f t : Int} {d : List UInt8} (hp : 0 <= pr /\ pr <= 255) (hd : d.length <= 65515) : RefOk (mkp pr f t d) :=
 ⟨(by show (0 : Int) <= 0 /\ (0 : Int) <= 255; decide), (by show (0 : Int) <= 9 /\ (9 : Int) <= 255; decide), hp, (by show (0 : Int) <= 0 /\ (0 : Int) <= 65535; decide), (by show (0 : Int) <= 0 /\ (0 : Int) <= 8191; decide), (by show (0 : Nat) <= 40; decide), rfl, (fun h => by have h' : false = true := h; cases h'), (by show 0 + d.length <= 65515; omega)⟩
theorem made_end {pr f t : Int} {d : List UInt8} (hpr : pr = 6 \/ pr = 17) (hf : U32 f) (ht : U32 t) (hd : d.length <= 65515) (h6 : pr = 6 -> TcOk d f t) (h17 : pr = 17 -> DgOk d f t) :
   EndOk (ib (mkp pr f t d)) /\ pk (ib (mkp pr f t d)) = mkp pr f t d /\ hn (ib (mkp pr f t d)) = 20 /\ (ib (mkp pr f t d)).take 20 = iA (mkp pr f t d) ++ wd (ick (mkp pr f t d)) ++ iB (mkp pr f t d) /\ ((ib (mkp pr f t d)).getD 9 0).toNat = pr.toNat /\ (ib (mkp pr f t d)).length = 20 + d.length := by
 have hr := mkp_ref (pr := pr) (f := f) (t := t) (d := d) (by omega) hd
 obtain ⟨i1, i2, i3, i4⟩ := ib_read hr ⟨hf, ht⟩ []
 rw [List.append_nil] at i1 i2 i3 i4
 have hp : ((ib (mkp pr f t d)).getD 9 0).toNat = pr.toNat := by
   have e : (pk (ib (mkp pr f t d))).proto = pr := by rw [i2]; rfl
   have e2 : (pk (ib (mkp pr f t d))).proto = (((ib (mkp pr f t d)).getD 9 0).toNat : Int) := rfl
   omega
 refine ⟨⟨i1, by omega, by rw [i2]; exact ⟨rfl, rfl⟩, fun h => by rw [i2]; exact h6 (by omega), fun h => by rw [i2]; exact h17 (by omega)⟩, i2, i3, ?_, hp, ?_⟩
 . unfold ib
   exact List.take_left' (by simp only [List.length_append, iA_len, iB_len, wd_len]; rfl)
 . rw [ib_len]; show 20 + 0 + d.length = _; omega

theorem tc_made {g : TSegment} {f t : Int} (hf : U32 f) (ht : U32 t) (hs : U32 g.seq) (ha : U32 g.ack) (hw : werr g = 0) : TcOk (sb g f t) f t /\ (sb g f t).length <= 65515 := by
 have h8 := (werr_in hw).2.2.2.2.2.2.2
 have h7 := (werr_in hw).2.2.2.2.2.2.1
 have pl := pad_len (obs g.options)
 have hl := sb_len g f t
 have hle : (sb g f t).length <= 65515 := by omega
 refine ⟨?_, hle⟩
 refine Classical.byContradiction fun hn => ?_
 obtain ⟨e, he, hr⟩ := tc_bad hf ht (by unfold Lim; omega) hn
 rw [tcRead_sb g f t hf ht hs ha hw] at hr
 have := congrArg (fun o => o.map (fun x : (Int × (Int × (Int × (Int × (Int × (Int × (Int × ((List TOption) × ((List UInt8) × (Int × Unit)))))))))) => x.2.2.2.2.2.2.2.2.2.1)) hr
 simp only [Option.map_some, Option.some.injEq] at this
 exact he this.symm
def gp (g : TSegment) (p : Int) : TSegment := ⟨p, g.to, g.seq, g.ack, g.flags, g.window, g.urgent, g.options, g.data⟩
theorem seg_data {g : TSegment} {f t a p : Int} (hf : U32 f) (ha : U32 a) (hw : werr g = 0) (hw2 : werr (gp g p) = 0) (G : List UInt8) (hG : 20 <= G.length) (q12 : wAt G 12 = f / 65536) (q14 : wAt G 14 = f % 65536) :
  dNew false G (sb g f t) a p 12 0 16 = sb (gp g p) a t := by
 have hp : U16 p := (werr_in hw2).1
 have hgp := (werr_in hw).1
 have hl := sb_len g f t
 obtain ⟨k, uk, ek, _, mk⟩ := dNew_eq (udp := false) (g := G) (d := sb g f t) (a := a) (p := p) (i := 12) (off := 0) (c := 16) ha hp (.inl rfl) hG (by omega) (by omega)
 obtain ⟨m1, _, m3⟩ := mk (by rintro ⟨h, _⟩; cases h)
 have eB : sB (gp g p) = sB g := rfl
 have en : sn (gp g p) = sn g := rfl
 have A : ∀ (g : TSegment) (c n : Int), sA g n ++ wd c ++ sB g = wd g.from' ++ (wd g.to ++ lg g.seq ++ lg g.ack ++ [byteOf (n * 4), byteOf g.flags] ++ wd g.window ++ (wd c ++ sB g)) := fun g c n => by unfold sA; simp
 have w0 : wAt (sb g f t) 0 = g.from' := by
  unfold sb; rw [A]
  have := wAt_k [] (wd g.to ++ lg g.seq ++ lg g.ack ++ [byteOf (sn g * 4), byteOf g.flags] ++ wd g.window ++ (wd (sc g f t) ++ sB g)) g.from' 0 rfl
  rw [List.nil_append] at this; rw [this]; omega
 have ear1 := ear_le (ws (under f t 6 (sn g + g.data.length) ++ sA g (sn g) ++ sB g))
 have ear2 := ear_le (ws (under a t 6 (sn g + g.data.length) ++ sA (gp g p) (sn g) ++ sB g))
 have z1 := ear_zero (ws (under f t 6 (sn g + g.data.length) ++ sA g (sn g) ++ sB g))
 have z2 := ear_zero (ws (under a t 6 (sn g + g.data.length) ++ sA (gp g p) (sn g) ++ sB g))
 have md1 := ear_mod (ws (under f t 6 (sn g + g.data.length) ++ sA g (sn g) ++ sB g))
 have md2 := ear_mod (ws (under a t 6 (sn g + g.data.length) ++ sA (gp g p) (sn g) ++ sB g))
 have s1 : sc g f t = 65535 - (ear (ws (under f t 6 (sn g + g.data.length) ++ sA g (sn g) ++ sB g)) : Int) := rfl
 have s2 : sc (gp g p) a t = 65535 - (ear (ws (under a t 6 (sn g + g.data.length) ++ sA (gp g p) (sn g) ++ sB g)) : Int) := rfl
 have v1 := ws_under f t 6 (sn g + g.data.length) (sA g (sn g) ++ sB g)
 have v2 := ws_under a t 6 (sn g + g.data.length) (sA (gp g p) (sn g) ++ sB g)
 rw [<- List.append_assoc] at v1 v2
 have p1 := uw6 f t (sn g + g.data.length); have p2 := uw6 a t (sn g + g.data.length)
 have x1 := ws_app (sA g (sn g)) (sB g) (by rw [sA_len]); have x2 := ws_app (sA (gp g p) (sn g)) (sB g) (by rw [sA_len])
 have y1 : (ws (sA g (sn g)) : Int) = g.from' % 65536 + ws (wd g.to ++ lg g.seq ++ lg g.ack ++ [byteOf (sn g * 4), byteOf g.flags] ++ wd g.window) := by
  rw [show sA g (sn g) = wd g.from' ++ (wd g.to ++ lg g.seq ++ lg g.ack ++ [byteOf (sn g * 4), byteOf g.flags] ++ wd g.window) by unfold sA; simp]; exact ws_wd_app _ _
 have y2 : (ws (sA (gp g p) (sn g)) : Int) = p % 65536 + ws (wd g.to ++ lg g.seq ++ lg g.ack ++ [byteOf (sn g * 4), byteOf g.flags] ++ wd g.window) := by
  rw [show sA (gp g p) (sn g) = wd p ++ (wd g.to ++ lg g.seq ++ lg g.ack ++ [byteOf (sn g * 4), byteOf g.flags] ++ wd g.window) by unfold sA gp; simp]; exact ws_wd_app _ _
 have uu := uw_from (w := f / 65536) (v := f % 65536) t a 6 (sn g + g.data.length) ha (by unfold U32 at hf; omega) (by omega)
 rw [show f / 65536 * 65536 + f % 65536 = f by omega] at uu
 have w16 : wAt (sb g f t) 16 = sc g f t := by
  unfold sb; rw [List.append_assoc, wAt_k _ _ _ _ (sA_len g (sn g)), s1]; omega
 have hk : k = sc (gp g p) a t := by
  rw [w16] at m1 m3
  rw [w0, q12, show (12 + 2 : Nat) = 14 from rfl, q14] at m1
  generalize ws (under f t 6 (sn g + g.data.length) ++ sA g (sn g) ++ sB g) = N1 at *
  generalize ws (under a t 6 (sn g + g.data.length) ++ sA (gp g p) (sn g) ++ sB g) = N2 at *
  have n1 : N1 ≠ 0 := by omega
  have n2 : N2 ≠ 0 := by omega
  have h2 : sc (gp g p) a t <= 65534 := by have := mt z2.1 n2; omega
  have h1 : sc g f t <= 65534 := by have := mt z1.1 n1; omega
  refine same_low ⟨uk.1, m3 rfl h1⟩ ⟨by omega, h2⟩ ?_
  rw [u16_mod hp] at y2
  rw [show g.from' % 65536 = g.from' by omega] at y1
  have e1 : (sc g f t + N1) % 65535 = 0 := by omega
  have e2 : (sc (gp g p) a t + N2) % 65535 = 0 := by omega
  have e3 : (N2 : Int) - N1 = (a / 65536 - f / 65536) + (a % 65536 - f % 65536) + (p - g.from') := by omega
  clear v1 v2 x1 x2 y1 y2 uu md1 md2 z1 z2 ear1 ear2 s1 s2 p1 p2 w16 w0 ek A
  omega
 rw [ek, hk]
 unfold sb
 rw [A g, A (gp g p)]
 have t1 : setW (wd g.from' ++ (wd g.to ++ lg g.seq ++ lg g.ack ++ [byteOf (sn g * 4), byteOf g.flags] ++ wd g.window ++ (wd (sc g f t) ++ sB g))) 0 p = wd p ++ (wd g.to ++ lg g.seq ++ lg g.ack ++ [byteOf (sn g * 4), byteOf g.flags] ++ wd g.window ++ (wd (sc g f t) ++ sB g)) := rfl
 rw [t1]
 have t2 : wd p ++ (wd g.to ++ lg g.seq ++ lg g.ack ++ [byteOf (sn g * 4), byteOf g.flags] ++ wd g.window ++ (wd (sc g f t) ++ sB g)) = (wd p ++ (wd g.to ++ lg g.seq ++ lg g.ack ++ [byteOf (sn g * 4), byteOf g.flags] ++ wd g.window)) ++ (wd (sc g f t) ++ sB g) := by simp
 rw [t2, setW_at _ _ _ _ _ (by simp)]
 show _ = wd p ++ (wd g.to ++ lg g.seq ++ lg g.ack ++ [byteOf (sn g * 4), byteOf g.flags] ++ wd g.window ++ (wd (sc (gp g p) a t) ++ sB g))
 simp
def lp (x y : Int) (d : List UInt8) (f t : Int) : List UInt8 := ib (mkp 17 f t (lb x y d (lc f t x y d)))
theorem goes_len {h : Hs} {ins : Bool} {s : List UInt8} {now : Int} {h' : Hs} {out : List UInt8} {why : Int} (k : Goes h ins s now h' out why) : out.length <= Lim := by
 cases k with
 | leaves t _ _ _ h1 h2 h3 h4 h5 => have := out_len h2.ends h5; have := h2.big; unfold Lim; omega
 | enters t _ _ _ h1 h2 h3 h4 h5 h6 => have := in_len h2.ends h6; have := h2.big; unfold Lim; omega
 | _ => simp
end Go.Proofs.YthkhikdglmaiaaaGreatDoor.X
namespace Go.Proofs.YthkhikdglmaiaaaGreatDoor.X
open Go Go.RowKit Go.Proofs.YthkhikdglmaiaaaGreatDoor.Abs
open Go.IntKind renaming wrap -> wW
set_option maxRecDepth 100000
set_option linter.unusedVariables false
def tOpen_ap : List VP1 := []
def tOpen_rp : SP := ⟨1, [(0, .v (.agg [.i .u32, .i .i64, .i .i64, .i .i64, .i .i64, .i .i64, .st 10 true, .b]))], []⟩
def tOpen_tree : Unit -> Tr (Int × (Int × (Int × (Int × (Int × (Int × ((List TRule) × (Bool × Unit)))))))) :=
 fun (_) =>
 .ret (3325256705, (1024, (2048, (100, (100000, (1000000, ([], (true, ()))))))))
noncomputable def gm64 : List (PF Go.Proofs.Tryz.prog) := gm62 ++ [FS.pf hsHear, FS.pf letterPacket]
theorem tOpen_eq (x : Unit) : fnTr Tryz.prog cod gm64 [] 30 26 tOpen_ap tOpen_rp x = tOpen_tree x := by kernel_rfl
def tOpen_fn (x : Unit) : Option (Int × (Int × (Int × (Int × (Int × (Int × ((List TRule) × (Bool × Unit)))))))) := (tOpen_tree x).eval
def tOpen : FS Tryz.prog := ⟨26, tOpen_ap, tOpen_rp, tOpen_fn, fun x r h => fnTr_sound (cod := cod) (Γ := gm64) (Λs := []) (n := 30) ((congrArg Tr.eval (tOpen_eq x)).trans h)⟩
def tLetter_ap : List VP1 := [.agg [.i .i64, .i .i64, .s], .one (.i .u32), .one (.i .u32)]
def tLetter_rp : SP := ⟨1, [(0, .tup [.one (.s), .one (.b)])], []⟩
def tLetter_tree : (Int × (Int × ((List UInt8) × (Int × (Int × Unit))))) -> Tr ((List UInt8) × (Bool × Unit)) :=
 fun (a0, a1, a2, a3, a4, _) =>
 .opt ((dgWrite_fn (a0, (a1, (a2, (a3, (a4, ()))))))) (fun r0 =>
 .opt ((ipWrite_fn (0, (0, (false, (false, (0, (9, (17, (a3, (a4, ([], (r0.1, ()))))))))))))) (fun r1 =>
 .ite (decide (r0.2.1 = 0)) (
 .ret (r1.1, (decide (r1.2.1 = 0), ()))) (
 .ret (r1.1, (false, ())))))
noncomputable def gm65 : List (PF Go.Proofs.Tryz.prog) := gm64 ++ [FS.pf tOpen]
theorem tLetter_eq (x : (Int × (Int × ((List UInt8) × (Int × (Int × Unit)))))) : fnTr Tryz.prog cod gm65 [] 30 33 tLetter_ap tLetter_rp x = tLetter_tree x := by kernel_rfl
def tLetter_fn (x : (Int × (Int × ((List UInt8) × (Int × (Int × Unit)))))) : Option ((List UInt8) × (Bool × Unit)) := (tLetter_tree x).eval
def tLetter : FS Tryz.prog := ⟨33, tLetter_ap, tLetter_rp, tLetter_fn, fun x r h => fnTr_sound (cod := cod) (Γ := gm65) (Λs := []) (n := 30) ((congrArg Tr.eval (tLetter_eq x)).trans h)⟩
def tLives_ap : List VP1 := []
def tLives_rp : SP := ⟨1, [(0, .v (.one (.b)))], []⟩
def tLives_tree : Unit -> Tr (Bool × Unit) :=
 fun (_) =>
 .opt ((tOpen_fn ())) (fun r0 =>
 .opt ((hsNew_fn (r0.1, (r0.2.1, (r0.2.2.1, (r0.2.2.2.1, (r0.2.2.2.2.1, (r0.2.2.2.2.2.1, (r0.2.2.2.2.2.2.1, (r0.2.2.2.2.2.2.2.1, ())))))))))) (fun r1 =>
 .opt ((tLetter_fn (1030, (53, ([(120 : UInt8)], (5, (6, ()))))))) (fun r2 =>
 .opt ((hsHear_fn (r1.1, (r1.2.1, (r1.2.2.1, (r1.2.2.2.1, (r1.2.2.2.2.1, (r1.2.2.2.2.2.1, (r1.2.2.2.2.2.2.1, (r1.2.2.2.2.2.2.2.1, (r1.2.2.2.2.2.2.2.2.1, (r1.2.2.2.2.2.2.2.2.2.1, (r1.2.2.2.2.2.2.2.2.2.2.1, (r1.2.2.2.2.2.2.2.2.2.2.2.1, (r1.2.2.2.2.2.2.2.2.2.2.2.2.1, (r1.2.2.2.2.2.2.2.2.2.2.2.2.2.1, (r1.2.2.2.2.2.2.2.2.2.2.2.2.2.2.1, (r1.2.2.2.2.2.2.2.2.2.2.2.2.2.2.2.1, (true, (r2.1, (0, ()))))))))))))))))))))) (fun r3 =>
 .ite (r2.2.1) (
 .ite (decide (r1.2.2.2.2.2.2.2.2.2.2.2.2.2.2.2.2.1 = 0)) (
 .ite (decide (r3.2.2.2.2.2.2.2.2.2.2.2.2.2.2.2.2.2.2.1 = 0)) (
 .ite (decide (r3.2.2.2.2.2.2.2.2.2.2.2.2.2.2.2.2.2.1 = 0)) (
 .ite (decide ((↑(List.length r2.1) : Int) = 29)) (
 .ret (decide ((↑(List.length r3.2.2.2.2.2.2.2.2.2.2.2.2.2.2.2.2.1) : Int) = 29), ())) (
 .ret (false, ()))) (
 .ret (false, ()))) (
 .ret (false, ()))) (
 .ret (false, ()))) (
 .ret (false, ()))))))
noncomputable def gm66 : List (PF Go.Proofs.Tryz.prog) := gm65 ++ [FS.pf tLetter]
theorem tLives_eq (x : Unit) : fnTr Tryz.prog cod gm66 [] 30 27 tLives_ap tLives_rp x = tLives_tree x := by kernel_rfl
def tLives_fn (x : Unit) : Option (Bool × Unit) := (tLives_tree x).eval
def tLives : FS Tryz.prog := ⟨27, tLives_ap, tLives_rp, tLives_fn, fun x r h => fnTr_sound (cod := cod) (Γ := gm66) (Λs := []) (n := 30) ((congrArg Tr.eval (tLives_eq x)).trans h)⟩
def tSegment_ap : List VP1 := [.agg [.i .i64, .i .i64, .i .u32, .i .u32, .i .i64, .i .i64, .i .i64, .st 4 false, .s], .one (.i .u32), .one (.i .u32)]
def tSegment_rp : SP := ⟨1, [(0, .tup [.one (.s), .one (.b)])], []⟩
def tSegment_tree : ty4_ -> Tr ((List UInt8) × (Bool × Unit)) :=
 fun (a0, a1, a2, a3, a4, a5, a6, a7, a8, a9, a10, _) =>
 .opt ((tcWrite_fn (a0, (a1, (a2, (a3, (a4, (a5, (a6, (a7, (a8, (a9, (a10, ()))))))))))))) (fun r0 =>
 .opt ((ipWrite_fn (0, (0, (false, (false, (0, (9, (6, (a9, (a10, ([], (r0.1, ()))))))))))))) (fun r1 =>
 .ite (decide (r0.2.1 = 0)) (
 .ret (r1.1, (decide (r1.2.1 = 0), ()))) (
 .ret (r1.1, (false, ())))))
noncomputable def gm67 : List (PF Go.Proofs.Tryz.prog) := gm66 ++ [FS.pf tLives]
theorem tSegment_eq (x : ty4_) : fnTr Tryz.prog cod gm67 [] 30 29 tSegment_ap tSegment_rp x = tSegment_tree x := by kernel_rfl
def tSegment_fn (x : ty4_) : Option ((List UInt8) × (Bool × Unit)) := (tSegment_tree x).eval
def tSegment : FS Tryz.prog := ⟨29, tSegment_ap, tSegment_rp, tSegment_fn, fun x r h => fnTr_sound (cod := cod) (Γ := gm67) (Λs := []) (n := 30) ((congrArg Tr.eval (tSegment_eq x)).trans h)⟩
def rSameSegment_L68_4 : LS := ⟨4, [], ⟨26, [(13, .v (.one (.i .i64))), (1, .v (.one (.st 4 false))), (0, .v (.one (.st 4 false))), (12, .v (.one (.i .i64)))], []⟩, [⟨none, [], ⟨26, [(4, .v (.one (.b)))], []⟩⟩, ⟨some 0, [], ⟨26, [], []⟩⟩], []⟩
def rSameSegment_step68_4 : (Int × ((List TOption) × ((List TOption) × (Int × Unit)))) -> Tr ((Int × ((List TOption) × ((List TOption) × (Int × Unit)))) ⊕ ((Bool × Unit) ⊕ Unit)) :=
 fun (a0, a1, a2, a3, _) =>
 .ite (decide (a0 < a3)) (
 .grd (decide (0 <= a0)) (
 .opt (a2[Int.toNat a0]?) (fun r0 =>
 .grd (decide (0 <= a0)) (
 .opt (a1[Int.toNat a0]?) (fun r1 =>
 .ite (!(decide (r0.kind = r1.kind) && (decide (r0.data = r1.data) && true))) (
 .ret (Sum.inr (Sum.inl (false, ())))) (
 .ret (Sum.inl (wW .i64 (a0 + 1), (a1, (a2, (a3, ()))))))))))) (
 .ret (Sum.inr (Sum.inr ())))
def rSameSegment_loop68_4 (x : (Int × ((List TOption) × ((List TOption) × (Int × Unit))))) : Option ((Bool × Unit) ⊕ Unit) := loopO 680004 (fun x => (rSameSegment_step68_4 x).eval) 18446744073709551616 x
def rSameSegment_ap : List VP1 := [.agg [.i .i64, .i .i64, .i .u32, .i .u32, .i .i64, .i .i64, .i .i64, .st 4 false, .s], .agg [.i .i64, .i .i64, .i .u32, .i .u32, .i .i64, .i .i64, .i .i64, .st 4 false, .s]]
def rSameSegment_rp : SP := ⟨1, [(0, .v (.one (.b)))], []⟩
abbrev ty25_ : Type := (Int × (Int × (Int × (Int × (Int × (Int × (Int × ((List TOption) × ((List UInt8) × (Int × (Int × (Int × (Int × (Int × (Int × (Int × ((List TOption) × ((List UInt8) × Unit))))))))))))))))))
def rSameSegment_tree : ty25_ -> Tr (Bool × Unit) :=
 fun (a0, a1, a2, a3, a4, a5, a6, a7, a8, a9, a10, a11, a12, a13, a14, a15, a16, a17, _) =>
 .ite (decide (a0 = a9)) (
 .ite (decide (a1 = a10)) (
 .ite (decide (a2 = a11)) (
 .ite (decide (a3 = a12)) (
 .ite (decide (a4 = a13)) (
 .ite (decide (a5 = a14)) (
 .ite (decide (a6 = a15)) (
 .ite (decide (a8 = a17)) (
 .ite (!decide ((↑(a7.length) : Int) = (↑(a16.length) : Int))) (
 .ret (false, ())) (
 .opt ((rSameSegment_loop68_4 (0, (a16, (a7, ((↑(a7.length) : Int), ())))))) (fun r0 =>
 .sum (r0) (fun r1 =>
 .ret (r1.1, ())) (fun r1 =>
 .ret (true, ()))))) (
 .ret (false, ()))) (
 .ret (false, ()))) (
 .ret (false, ()))) (
 .ret (false, ()))) (
 .ret (false, ()))) (
 .ret (false, ()))) (
 .ret (false, ()))) (
 .ret (false, ()))
noncomputable def gm68 : List (PF Go.Proofs.Tryz.prog) := gm67 ++ [FS.pf tSegment]
theorem rSameSegment_eq (x : ty25_) : fnTr Tryz.prog cod gm68 [(68, rSameSegment_L68_4)] 30 32 rSameSegment_ap rSameSegment_rp x = rSameSegment_tree x := by kernel_rfl
def rSameSegment_fn (x : ty25_) : Option (Bool × Unit) := (rSameSegment_tree x).eval
def rSameSegment : FS Tryz.prog := ⟨32, rSameSegment_ap, rSameSegment_rp, rSameSegment_fn, fun x r h => fnTr_sound (cod := cod) (Γ := gm68) (Λs := [(68, rSameSegment_L68_4)]) (n := 30) ((congrArg Tr.eval (rSameSegment_eq x)).trans h)⟩
end Go.Proofs.YthkhikdglmaiaaaGreatDoor.X
namespace Go.Proofs.YthkhikdglmaiaaaGreatDoor.X
open Go Go.RowKit Go.Proofs.YthkhikdglmaiaaaGreatDoor.Abs Go.Proofs.YthkhikdglmaiaaaGreatDoor.Bits
set_option linter.unusedVariables false
set_option linter.unnecessarySimpa false
set_option linter.unusedSimpArgs false
set_option maxRecDepth 100000
def sgp (g : TSegment) (f t : Int) : List UInt8 := ib (mkp 6 f t (sb g f t))
theorem pad_le (l : List UInt8) (h : ((l.length : Int)) <= 40) : (pad l).length <= 40 := by unfold pad; simp; omega
theorem werr_small {g : TSegment} (h : werr g = 0) : ((obs g.options).length : Int) <= 40 /\ (g.data.length : Int) <= 65455 := by
 unfold werr at h
 split at h
 . cases h
 split at h
 . cases h
 split at h
 . cases h
 split at h
 . cases h
 . rename_i q
   simp only [Bool.or_eq_false_iff, decide_eq_false_iff_not] at q
   omega
theorem seg_ok {g : TSegment} {f t : Int} (hs : U32 g.seq) (ha : U32 g.ack) (hf : U32 f) (ht : U32 t) (hl : g.options.length <= 1048576) (hw : werr g = 0) : tSegment_fn (g9 g (f, (t, ()))) = some (sgp g f t, (true, ())) := by
 obtain ⟨h1, h2⟩ := werr_small hw
 have h3 := pad_le _ h1
 have hr := tcWrite_ok g f t hs ha hf ht hl
 rw [decide_eq_true hw] at hr
 exact ev_opt hr (ev_opt (write_ok (mkp_ref (pr := 6) (f := f) (t := t) (by decide) (by rw [sb_len]; omega))) (ev_t rfl (ev_r rfl)))
theorem seg_no {g : TSegment} {f t : Int} (hs : U32 g.seq) (ha : U32 g.ack) (hf : U32 f) (ht : U32 t) (hl : g.options.length <= 1048576) (hw : werr g ≠ 0) : ∃ z, z.length <= Lim /\ tSegment_fn (g9 g (f, (t, ()))) = some (z, (false, ())) := by
 have hr := tcWrite_ok g f t hs ha hf ht hl
 rw [decide_eq_false hw] at hr
 exact ⟨_, by rw [ib_len]; simp [mkp, Lim], ev_opt hr (ev_opt (write_ok (mkp_ref (pr := 6) (f := f) (t := t) (d := []) (by decide) (by simp))) (ev_f (decide_eq_false hw) (ev_r rfl)))⟩
theorem wAt_sb (g : TSegment) (f t : Int) : wAt (sb g f t) 0 = g.from' % 65536 /\ wAt (sb g f t) 2 = g.to % 65536 := by
 have e0 : sb g f t = [] ++ (wd g.from' ++ (wd g.to ++ (lg g.seq ++ (lg g.ack ++ ([byteOf (sn g * 4), byteOf g.flags] ++ (wd g.window ++ (wd (sc g f t) ++ sB g))))))) := by simp [sb, sA]
 have e2 : sb g f t = wd g.from' ++ (wd g.to ++ (lg g.seq ++ (lg g.ack ++ ([byteOf (sn g * 4), byteOf g.flags] ++ (wd g.window ++ (wd (sc g f t) ++ sB g)))))) := by simp [sb, sA]
 exact ⟨by rw [e0]; exact wAt_k _ _ _ 0 rfl, by rw [e2]; exact wAt_k _ _ _ 2 (by simp [wd])⟩
theorem sgp_end {g : TSegment} {f t : Int} (hf : U32 f) (ht : U32 t) (hs : U32 g.seq) (ha : U32 g.ack) (hw : werr g = 0) (h1 : U16 g.from') (h2 : U16 g.to) :
  EndOk (sgp g f t) /\ flow (sgp g f t) = ⟨f, t, 6, g.from', g.to⟩ /\ (pk (sgp g f t)).life = 9 /\ (sgp g f t).length = 20 + (sb g f t).length /\ (pk (sgp g f t)).data = sb g f t := by
 obtain ⟨hm, hd⟩ := tc_made hf ht hs ha hw
 obtain ⟨e1, e2, e3, e4, e5, e6⟩ := made_end (pr := 6) (.inl rfl) hf ht hd (fun _ => hm) (fun q => by omega)
 obtain ⟨w0, w2⟩ := wAt_sb g f t
 refine ⟨e1, ?_, by rw [show pk (sgp g f t) = _ from e2]; rfl, e6, by rw [show pk (sgp g f t) = _ from e2]; rfl⟩
 unfold flow
 rw [show pk (sgp g f t) = _ from e2]
 have e9 : (((sgp g f t).getD 9 0).toNat : Int) = 6 := by rw [show ((sgp g f t).getD 9 0).toNat = _ from e5]; rfl
 rw [e9]
 show Fl.mk f t 6 (wAt (sb g f t) 0) (wAt (sb g f t) 2) = _
 rw [w0, w2]
 unfold U16 at h1 h2
 rw [show g.from' % 65536 = g.from' by omega, show g.to % 65536 = g.to by omega]
def gq (g : TSegment) (p : Int) : TSegment := ⟨g.from', p, g.seq, g.ack, g.flags, g.window, g.urgent, g.options, g.data⟩
theorem seg_dataT {g : TSegment} {f t a p : Int} (ht : U32 t) (ha : U32 a) (hw : werr g = 0) (hw2 : werr (gq g p) = 0) (G : List UInt8) (hG : 20 <= G.length) (q12 : wAt G 16 = t / 65536) (q14 : wAt G 18 = t % 65536) :
  dNew false G (sb g f t) a p 16 2 16 = sb (gq g p) f a := by
 have hp : U16 p := (werr_in hw2).2.1
 have hgp := (werr_in hw).2.1
 have hgf := (werr_in hw).1
 have hl := sb_len g f t
 obtain ⟨k, uk, ek, _, mk⟩ := dNew_eq (udp := false) (g := G) (d := sb g f t) (a := a) (p := p) (i := 16) (off := 2) (c := 16) ha hp (.inr rfl) hG (by omega) (by omega)
 obtain ⟨m1, _, m3⟩ := mk (by rintro ⟨h, _⟩; cases h)
 have eB : sB (gq g p) = sB g := rfl
 have en : sn (gq g p) = sn g := rfl
 have A : ∀ (g : TSegment) (c n : Int), sA g n ++ wd c ++ sB g = wd g.from' ++ (wd g.to ++ (lg g.seq ++ lg g.ack ++ [byteOf (n * 4), byteOf g.flags] ++ wd g.window ++ (wd c ++ sB g))) := fun g c n => by unfold sA; simp
 have w0 : wAt (sb g f t) 2 = g.to := by
  unfold sb; rw [A]
  rw [wAt_k (wd g.from') _ g.to 2 (by simp [wd])]; omega
 have ear1 := ear_le (ws (under f t 6 (sn g + g.data.length) ++ sA g (sn g) ++ sB g))
 have ear2 := ear_le (ws (under f a 6 (sn g + g.data.length) ++ sA (gq g p) (sn g) ++ sB g))
 have z1 := ear_zero (ws (under f t 6 (sn g + g.data.length) ++ sA g (sn g) ++ sB g))
 have z2 := ear_zero (ws (under f a 6 (sn g + g.data.length) ++ sA (gq g p) (sn g) ++ sB g))
 have md1 := ear_mod (ws (under f t 6 (sn g + g.data.length) ++ sA g (sn g) ++ sB g))
 have md2 := ear_mod (ws (under f a 6 (sn g + g.data.length) ++ sA (gq g p) (sn g) ++ sB g))
 have s1 : sc g f t = 65535 - (ear (ws (under f t 6 (sn g + g.data.length) ++ sA g (sn g) ++ sB g)) : Int) := rfl
 have s2 : sc (gq g p) f a = 65535 - (ear (ws (under f a 6 (sn g + g.data.length) ++ sA (gq g p) (sn g) ++ sB g)) : Int) := rfl
 have v1 := ws_under f t 6 (sn g + g.data.length) (sA g (sn g) ++ sB g)
 have v2 := ws_under f a 6 (sn g + g.data.length) (sA (gq g p) (sn g) ++ sB g)
 rw [<- List.append_assoc] at v1 v2
 have p1 := uw6 f t (sn g + g.data.length); have p2 := uw6 f a (sn g + g.data.length)
 have x1 := ws_app (sA g (sn g)) (sB g) (by rw [sA_len]); have x2 := ws_app (sA (gq g p) (sn g)) (sB g) (by rw [sA_len])
 have y1 : (ws (sA g (sn g)) : Int) = g.from' % 65536 + (g.to % 65536 + ws (lg g.seq ++ lg g.ack ++ [byteOf (sn g * 4), byteOf g.flags] ++ wd g.window)) := by
  rw [show sA g (sn g) = wd g.from' ++ (wd g.to ++ (lg g.seq ++ lg g.ack ++ [byteOf (sn g * 4), byteOf g.flags] ++ wd g.window)) by unfold sA; simp, ws_wd_app, ws_wd_app]
 have y2 : (ws (sA (gq g p) (sn g)) : Int) = g.from' % 65536 + (p % 65536 + ws (lg g.seq ++ lg g.ack ++ [byteOf (sn g * 4), byteOf g.flags] ++ wd g.window)) := by
  rw [show sA (gq g p) (sn g) = wd g.from' ++ (wd p ++ (lg g.seq ++ lg g.ack ++ [byteOf (sn g * 4), byteOf g.flags] ++ wd g.window)) by unfold sA gq; simp, ws_wd_app, ws_wd_app]
 have uu := uw_to (w := t / 65536) (v := t % 65536) f a 6 (sn g + g.data.length) ha (by unfold U32 at ht; omega) (by omega)
 rw [show t / 65536 * 65536 + t % 65536 = t by omega] at uu
 have w16 : wAt (sb g f t) 16 = sc g f t := by
  unfold sb; rw [List.append_assoc, wAt_k _ _ _ _ (sA_len g (sn g)), s1]; omega
 have hk : k = sc (gq g p) f a := by
  rw [w16] at m1 m3
  rw [w0, q12, show (16 + 2 : Nat) = 18 from rfl, q14] at m1
  generalize ws (under f t 6 (sn g + g.data.length) ++ sA g (sn g) ++ sB g) = N1 at *
  generalize ws (under f a 6 (sn g + g.data.length) ++ sA (gq g p) (sn g) ++ sB g) = N2 at *
  have n1 : N1 ≠ 0 := by omega
  have n2 : N2 ≠ 0 := by omega
  have h2 : sc (gq g p) f a <= 65534 := by have := mt z2.1 n2; omega
  have h1 : sc g f t <= 65534 := by have := mt z1.1 n1; omega
  refine same_low ⟨uk.1, m3 rfl h1⟩ ⟨by omega, h2⟩ ?_
  rw [u16_mod hp] at y2
  rw [show g.to % 65536 = g.to by omega] at y1
  have e1 : (sc g f t + N1) % 65535 = 0 := by omega
  have e2 : (sc (gq g p) f a + N2) % 65535 = 0 := by omega
  have e3 : (N2 : Int) - N1 = (a / 65536 - t / 65536) + (a % 65536 - t % 65536) + (p - g.to) := by omega
  clear v1 v2 x1 x2 y1 y2 uu md1 md2 z1 z2 ear1 ear2 s1 s2 p1 p2 w16 w0 ek A
  omega
 rw [ek, hk]
 unfold sb
 rw [A g, A (gq g p)]
 have L2 : ∀ (x : Int) (c : Int), wd g.from' ++ (wd x ++ (lg g.seq ++ lg g.ack ++ [byteOf (sn g * 4), byteOf g.flags] ++ wd g.window ++ (wd c ++ sB g))) = (wd g.from' ++ wd x ++ (lg g.seq ++ lg g.ack ++ [byteOf (sn g * 4), byteOf g.flags] ++ wd g.window)) ++ (wd c ++ sB g) := fun x c => by simp
 rw [setW_at (wd g.from') _ _ _ 2 (by simp), L2, setW_at _ _ _ _ 16 (by simp)]
 show _ = wd g.from' ++ (wd p ++ (lg g.seq ++ lg g.ack ++ [byteOf (sn g * 4), byteOf g.flags] ++ wd g.window ++ (wd (sc (gq g p) f a) ++ sB g)))
 rw [L2]
theorem head_words {s : List UInt8} (h : EndOk s) : wAt (s.take (hn s)) 12 = (pk s).from' / 65536 /\ wAt (s.take (hn s)) 14 = (pk s).from' % 65536 /\ wAt (s.take (hn s)) 16 = (pk s).to / 65536 /\ wAt (s.take (hn s)) 18 = (pk s).to % 65536 := by
 have h20 := (end_len h).2.2.2.2.2.2
 have e : ∀ i, i + 1 < 20 -> wAt (s.take (hn s)) i = wAt s i := fun i hi => by
  have g : ∀ j, j < 20 -> (s.take (hn s)).getD j 0 = s.getD j 0 := fun j hj => by
   rw [List.getD_eq_getElem?_getD, List.getD_eq_getElem?_getD, List.getElem?_take, if_pos (by omega)]
  unfold wAt
  rw [g i (by omega), g (i + 1) (by omega)]
 have b12 := wAt_bound s 12; have b14 := wAt_bound s 14; have b16 := wAt_bound s 16; have b18 := wAt_bound s 18
 rw [e 12 (by omega), e 14 (by omega), e 16 (by omega), e 18 (by omega)]
 have f1 : (pk s).from' = wAt s 12 * 65536 + wAt s 14 := rfl
 have f2 : (pk s).to = wAt s 16 * 65536 + wAt s 18 := rfl
 unfold U16 at b12 b14 b16 b18
 omega
theorem seen_from {g : TSegment} {f t a p : Int} {s : List UInt8} (h : EndOk s) (h6 : (s.getD 9 0).toNat = 6) (ef : (pk s).from' = f) (et : (pk s).to = t) (ed : (pk s).data = sb g f t) (hf : U32 f) (ht : U32 t) (ha : U32 a) (hs : U32 g.seq) (hk : U32 g.ack) (hw : werr g = 0) (hw2 : werr (gp g p) = 0) :
  ∃ P : TPacket, ipRead_fn (swp s a p 12 0, ()) = some (p11 P ((0 : Int), ())) /\ tcRead_fn (P.data, (P.from', (P.to, ()))) = some (g9 (gp g p) ((0 : Int), ())) := by
 have hp : U16 p := (werr_in hw2).1
 obtain ⟨w1, w2, w3, w4⟩ := head_words h
 obtain ⟨q1, q2, q3, q4, q5⟩ := swp_all h ha hp (i := 12) (off := 0) (.inl rfl) (.inl rfl)
 have hl := end_len h
 have hc : cOf s = 16 := by unfold cOf; rw [if_neg (by rw [h6]; decide)]
 have hu : udpB s = false := by unfold udpB; rw [decide_eq_false (by rw [h6]; decide)]
 refine ⟨_, ipRead_ok q1.ip (by rw [q5]; unfold Lim; omega), ?_⟩
 rw [q2, hc, hu, ed, et, seg_data hf ha hw hw2 _ (by omega) (by rw [w1, ef]) (by rw [w2, ef])]
 exact tcRead_sb (gp g p) a t ha ht hs hk hw2
theorem seen_to {g : TSegment} {f t a p : Int} {s : List UInt8} (h : EndOk s) (h6 : (s.getD 9 0).toNat = 6) (ef : (pk s).from' = f) (et : (pk s).to = t) (ed : (pk s).data = sb g f t) (hf : U32 f) (ht : U32 t) (ha : U32 a) (hs : U32 g.seq) (hk : U32 g.ack) (hw : werr g = 0) (hw2 : werr (gq g p) = 0) :
  ∃ P : TPacket, ipRead_fn (swp s a p 16 2, ()) = some (p11 P ((0 : Int), ())) /\ tcRead_fn (P.data, (P.from', (P.to, ()))) = some (g9 (gq g p) ((0 : Int), ())) := by
 have hp : U16 p := (werr_in hw2).2.1
 obtain ⟨w1, w2, w3, w4⟩ := head_words h
 obtain ⟨q1, q2, q3, q4, q5⟩ := swp_all h ha hp (i := 16) (off := 2) (.inr rfl) (.inr rfl)
 have hl := end_len h
 have hc : cOf s = 16 := by unfold cOf; rw [if_neg (by rw [h6]; decide)]
 have hu : udpB s = false := by unfold udpB; rw [decide_eq_false (by rw [h6]; decide)]
 refine ⟨_, ipRead_ok q1.ip (by rw [q5]; unfold Lim; omega), ?_⟩
 rw [q2, hc, hu, ed, ef, seg_dataT ht ha hw hw2 _ (by omega) (by rw [w3, et]) (by rw [w4, et])]
 exact tcRead_sb (gq g p) f a hf ha hs hk hw2
structure Roomy (h : Hs) (c : Int) : Prop where
 rate : h.rate = 100000
 most : h.most = 1000000
 le : c <= 1000000
 met : ∀ m ∈ h.met, m.at' = 0 /\ m.rate = 100000 /\ m.most = 1000000 /\ c <= m.has
theorem Roomy.mono {h : Hs} {c d : Int} (R : Roomy h c) (hd : d <= c) : Roomy h d := ⟨R.rate, R.most, by have := R.le; omega, fun m hm => by obtain ⟨h1, h2, h3, h4⟩ := R.met m hm; exact ⟨h1, h2, h3, by omega⟩⟩
theorem lev_geT {b : Bu} (hr : 0 <= b.rate) {now k : Int} (h0 : b.at' <= now) (h1 : k <= b.has) (h2 : k <= b.most) : k <= lev b now := by
 have ht : 0 <= tick b now := by unfold tick; split <;> omega
 have := Int.mul_nonneg hr ht
 unfold lev
 split <;> omega
theorem mBu_room {h : Hs} {c : Int} (R : Roomy h c) (a : Int) : c <= lev (mBu h a 0) 0 /\ (mBu h a 0).rate = 100000 /\ (mBu h a 0).most = 1000000 := by
 unfold mBu
 cases hh : hit (mb a) h.met with
 | none =>
  refine ⟨lev_geT ?_ (Int.le_refl 0) ?_ ?_, R.rate, R.most⟩
  . show 0 <= h.rate; rw [R.rate]; decide
  . show c <= h.most; rw [R.most]; exact R.le
  . show c <= h.most; rw [R.most]; exact R.le
 | some r =>
  obtain ⟨h1, h2, h3, h4⟩ := R.met r.2 (List.mem_of_getElem? (hit_at (i := r.1) (x := r.2) hh).1)
  refine ⟨lev_geT ?_ ?_ h4 ?_, h2, h3⟩
  . show 0 <= r.2.rate; rw [h2]; decide
  . show r.2.at' <= 0; rw [h1]; decide
  . show c <= r.2.most; rw [h3]; exact R.le
theorem room_go {h : Hs} {c : Int} (R : Roomy h c) (a : Int) {n : Int} (h0 : 0 <= n) (hn : n <= c) : mGo h a 0 n = true /\ Roomy (mHs h a 0 n) (c - n) := by
 obtain ⟨h1, h2, h3⟩ := mBu_room R a
 have e : tkR (mBu h a 0) 0 n = (⟨(mBu h a 0).rate, (mBu h a 0).most, lev (mBu h a 0) 0 - n, 0⟩, true) := by unfold tkR; rw [if_neg (by omega)]
 refine ⟨by unfold mGo; rw [e], R.rate, R.most, by have := R.le; omega, fun m hm => ?_⟩
 have hm : m ∈ mRest h a ++ [mOf a (tkR (mBu h a 0) 0 n).1] := hm
 rcases List.mem_append.1 hm with hm | hm
 . obtain ⟨q1, q2, q3, q4⟩ := R.met m ((mRest_sub h a).subset hm)
   exact ⟨q1, q2, q3, by omega⟩
 . rw [e] at hm
   obtain rfl := List.mem_singleton.1 hm
   exact ⟨rfl, h2, h3, by show c - n <= lev (mBu h a 0) 0 - n; omega⟩

structure Stg (h : Hs) (c : Int) (T : List TTalk) (M : List TMap) : Prop where
 fine : Fine h 0
 out : h.out = 3325256705
 rules : h.rules = []
 els : h.els = true
 nl : h.nl = 100
 room : Roomy h c
 trk : h.trk = T
 maps : h.maps = M
theorem Stg.meter {h : Hs} {c : Int} {T : List TTalk} {M : List TMap} (k : Stg h c T M) (a : Int) {n : Nat} (hn : (n : Int) <= c) (hb : n <= 1000000000) : mGo h a 0 n = true /\ Stg (mHs h a 0 n) (c - n) T M := by
 obtain ⟨h1, h2⟩ := room_go k.room a (Int.natCast_nonneg n) hn
 obtain ⟨q1, q2⟩ := mHs_ok k.fine.1 (a := a) (n := (n : Int)) k.fine.2.2 (by decide) ⟨by omega, by omega⟩
 exact ⟨h1, ⟨q1, ⟨k.fine.2.1.out, k.fine.2.1.adr⟩, q2⟩, k.out, k.rules, k.els, k.nl, h2, k.trk, k.maps⟩
theorem stg_in {h : Hs} {c : Int} {T : List TTalk} {M : List TMap} (k : Stg h c T M) {s : List UInt8} (hs : EndOk s) (hb : (flow s).b = 3325256705) (hl : 2 <= (pk s).life) (hc : (s.length : Int) <= c) {h' : Hs} {out : List UInt8} {why : Int} (hg : Goes h false s 0 h' out why) :
  ∃ t h0, Hop s t /\ Stg h0 (c - s.length) T M /\ Enters h0 (flow s) t 0 h' out why := by
 have hc1 := k.room.le
 cases hg with
 | broken h1 => exact absurd hs h1
 | other h1 h2 h3 => rw [k.out] at h3; exact absurd hb h3
 | life h1 h3 => omega
 | much t h1 h2 h3 h4 =>
  have := h2.len
  rw [(k.meter (flow s).a (n := t.length) (by omega) (by omega)).1] at h3; cases h3
 | leaves t _ _ _ h1 h2 h3 h4 => cases h4
 | enters t _ _ _ h1 h2 h3 h4 h5 h6 =>
  have := h2.len
  have q := (k.meter (flow s).a (n := t.length) (by omega) (by omega)).2
  exact ⟨t, _, h2, ⟨q.fine, q.out, q.rules, q.els, q.nl, q.room.mono (by omega), q.trk, q.maps⟩, h6⟩
theorem stg_out {h : Hs} {c : Int} {T : List TTalk} {M : List TMap} (k : Stg h c T M) {s : List UInt8} (hs : EndOk s) (hl : 2 <= (pk s).life) (hc : (s.length : Int) <= c) {h' : Hs} {out : List UInt8} {why : Int} (hg : Goes h true s 0 h' out why) :
  ∃ t h0, Hop s t /\ Stg h0 (c - s.length) T M /\ Leaves h0 (flow s) t 0 h' out why := by
 have hc1 := k.room.le
 cases hg with
 | broken h1 => exact absurd hs h1
 | other h1 h2 h3 => cases h2
 | life h1 h3 => omega
 | much t h1 h2 h3 h4 =>
  have := h2.len
  rw [(k.meter (flow s).a (n := t.length) (by omega) (by omega)).1] at h3; cases h3
 | enters t _ _ _ h1 h2 h3 h4 => cases h4
 | leaves t _ _ _ h1 h2 h3 h4 h5 =>
  have := h2.len
  have q := (k.meter (flow s).a (n := t.length) (by omega) (by omega)).2
  exact ⟨t, _, h2, ⟨q.fine, q.out, q.rules, q.els, q.nl, q.room.mono (by omega), q.trk, q.maps⟩, h5⟩

theorem heard_is {l : List TTalk} {w : Rd4} {fl : Int} {l1 : List TTalk} {ok : Bool} (h : Heard l w fl 0 l1 ok) {a : List TTalk} {b : Bool} (hr : trHear_fn (l, (w.a, (w.b, (w.p, (w.q, (fl, ((0 : Int), ()))))))) = some (a, (b, ((0 : Int), ())))) : l1 = a /\ ok = b := by
 obtain ⟨a', b', e', h1, h2, h3⟩ := h
 rw [hr] at h1
 cases h1
 exact ⟨by rw [h2, if_pos rfl], by rw [h3]; simp⟩
theorem good_nil : Good [] := ⟨Nat.zero_le _, fun x hx => (by cases hx), List.Pairwise.nil⟩
theorem hear_syn {w : Rd4} (hw : roadB w = true) : trHear_fn ([], (w.a, (w.b, (w.p, (w.q, ((2 : Int), ((0 : Int), ()))))))) = some ([⟨w.a, w.b, w.p, w.q, 1, 0, 0⟩], (true, ((0 : Int), ()))) := by
 rw [hear_good [] w 2 0 good_nil ⟨hw, by decide, by decide, by decide, by decide⟩, tail_none [] w 2 0 good_nil rfl]
 rfl
def tk1 (w : Rd4) (st : Int) : TTalk := ⟨w.a, w.b, w.p, w.q, st, 0, 0⟩
theorem hear_one {w v : Rd4} (hw : roadB w = true) (hv : v = w \/ v = turn w) (hne : w ≠ turn w) {st fl : Int} (hst : st = 1 \/ st = 2 \/ st = 3) (hfl : 0 <= fl /\ fl <= 255) (hr : rstB fl = false) {b : Bool} {st' : Int}
  (hp : passP (!decide (bits BinOp.and IntKind.i64 fl (2 : Int) = (0 : Int))) (!decide (bits BinOp.and IntKind.i64 fl (16 : Int) = (0 : Int))) (!decide (bits BinOp.and IntKind.i64 fl (1 : Int) = (0 : Int))) (decide (v = w)) st 0 = (b, (st', 0))) :
  trHear_fn ([tk1 w st], (v.a, (v.b, (v.p, (v.q, (fl, ((0 : Int), ()))))))) = some ([if b then tk1 w st' else tk1 w st], (b, ((0 : Int), ()))) := by
 have hrd : rdOf (tk1 w st) = w := rfl
 have hsts : ((tk1 w st).state, (tk1 w st).over) ∈ sts := by
  show (st, (0 : Int)) ∈ sts
  rcases hst with rfl | rfl | rfl <;> decide
 have hform : formB (tk1 w st) = true := form_mk (by rw [hrd]; exact hw) (Int.le_refl 0) (by show (0 : Int) <= 1099511627776; decide) (sts_stB hsts)
 have hg : Good [tk1 w st] := ⟨by simp, fun x hx => by rw [List.mem_singleton.1 hx]; exact hform, List.pairwise_singleton _ _⟩
 have hold : oldB 0 (tk1 w st) = false := by rcases hst with rfl | rfl | rfl <;> rfl
 have hy : Young [tk1 w st] 0 = [tk1 w st] := by simp [Young, keep, hold]
 have hm : meet v (tk1 w st) = true := meet_iff.2 (by rw [hrd]; rcases hv with e | e; exact .inl e.symm; exact .inr (by rw [e]; rfl))
 have hroad : roadB v = true := by
  rcases hv with e | e
  . rw [e]; exact hw
  . rw [e]
    unfold roadB at hw ⊢
    simp only [Bool.and_eq_true, Bool.not_eq_true', decide_eq_false_iff_not] at hw ⊢
    exact ⟨hw.2.1, hw.1, fun q => hne (by rw [turn_turn] at q; exact q.symm)⟩
 rw [hear_good _ v fl 0 hg ⟨hroad, hfl.1, hfl.2, by show (0 : Int) <= 0; decide, by decide⟩]
 unfold rstB at hr
 generalize hsy : (!decide (bits BinOp.and IntKind.i64 fl (2 : Int) = (0 : Int))) = syn at hp
 generalize hac : (!decide (bits BinOp.and IntKind.i64 fl (16 : Int) = (0 : Int))) = ack at hp
 generalize hfi : (!decide (bits BinOp.and IntKind.i64 fl (1 : Int) = (0 : Int))) = fin at hp
 have hop : (decide ((tk1 w st).from' = v.a) && (decide ((tk1 w st).to = v.b) && (decide ((tk1 w st).fromPort = v.p) && (decide ((tk1 w st).toPort = v.q) && true)))) = decide (v = w) := by
  rw [rd_eq, hrd]
  by_cases e : w = v
  . rw [decide_eq_true e, decide_eq_true e.symm]
  . rw [decide_eq_false e, decide_eq_false fun q => e q.symm]
 have hpp := pass_fn syn ack fin false (decide (v = w)) w.a w.b w.p w.q 0 _ hsts
 have hpp2 : passP syn ack fin (decide (v = w)) (tk1 w st).state (tk1 w st).over = (b, (st', 0)) := hp
 have hyf : dfTalk_fn ((0 : Int), ([tk1 w st], ())) = some ((0 : Int), ([tk1 w st], ())) := (young_fn 0 [tk1 w st] (by unfold Big; simp)).trans (by rw [show ([tk1 w st] : List TTalk).filter (keep 0) = [tk1 w st] from hy])
 have hpl : trPlace_fn ([tk1 w st], (v.a, (v.b, (v.p, (v.q, ()))))) = some ((0 : Int), ()) := by
  rw [placeT_fn [tk1 w st] v (by unfold Big; simp)]
  have hh : hit (meet v) [tk1 w st] = some (0, tk1 w st) := by simp [hit, hm]
  rw [hh]; rfl
 unfold hearTail
 refine ev_g (by rfl) (ev_g (by rfl) (ev_opt hyf (ev_opt hpl ?_)))
 refine ev_f (by rfl) (ev_g (by rfl) (ev_opt (b := tk1 w st) rfl (ev_t (by rw [hr]; rfl) ?_)))
 rw [hsy, hac, hfi, hr, hop]
 rw [hpp2] at hpp
 refine ev_opt hpp ?_
 cases b with
 | false => exact ev_t rfl (ev_r rfl)
 | true => exact ev_f rfl (ev_g (by rfl) (ev_opt (b := (([] : List TTalk), ())) (delTalk_ok [tk1 w st] 0 (by simp)) (ev_f (by rfl) (ev_g (by rfl) (ev_r rfl)))))
theorem kn_one {h : Hs} {w v : Rd4} {st : Int} (ht : h.trk = [tk1 w st]) (hv : v = w \/ v = turn w) (hst : st = 1 \/ st = 2 \/ st = 3) : kn h v 0 = true := by
 have hm : meet v (tk1 w st) = true := meet_iff.2 (by show w = v \/ w = turn v; rcases hv with e | e; exact .inl e.symm; exact .inr (by rw [e]; rfl))
 have hold : oldB 0 (tk1 w st) = false := by rcases hst with rfl | rfl | rfl <;> rfl
 unfold kn
 rw [ht]
 simp [hit, hm, hold]
theorem enter_none {h : Hs} {c : Int} {T : List TTalk} (k : Stg h c T []) {f : Fl} {d : List UInt8} {h' : Hs} {out : List UInt8} {why : Int} (E : Enters h f d 0 h' out why) : h' = h /\ out = [] := by
 have hn : nIn h f 0 = none := by unfold nIn; rw [k.maps]; rfl
 cases E with
 | none h1 => exact ⟨rfl, rfl⟩
 | unknown r h1 => rw [hn] at h1; cases h1
 | talk r l1 h1 => rw [hn] at h1; cases h1
 | ins r l1 h1 => rw [hn] at h1; cases h1
theorem enter_one {h : Hs} {c : Int} {w v : Rd4} {st A P port : Int} (k : Stg h c [tk1 w st] [⟨6, A, P, port, 0⟩]) (hst : st = 1 \/ st = 2 \/ st = 3) {f : Fl} {d : List UInt8} (hfd : f = flow d) {h' : Hs} {out : List UInt8} {why : Int} (E : Enters h f d 0 h' out why)
  (h6 : f.pr = 6) (hq : f.q = port) (hv : roadIn f A P = v) (hw : v = w \/ v = turn w) {T' : List TTalk} {b : Bool} (hr : trHear_fn ([tk1 w st], (v.a, (v.b, (v.p, (v.q, (flagsOf d, ((0 : Int), ()))))))) = some (T', (b, ((0 : Int), ())))) :
  Stg h' c T' [⟨6, A, P, port, 0⟩] /\ (if b then out = swp d A P 16 2 else out = []) := by
 have hF : Fine h' 0 := by subst hfd; exact enters_fine k.fine E
 have hn : nIn h f 0 = some (0, ⟨6, A, P, port, 0⟩) := by
  unfold nIn
  rw [k.maps, k.nl, h6, hq]
  simp [hit, inB]
 have hkn : kn h v 0 = true := kn_one k.trk hw hst
 have hh : ∀ {l1 : List TTalk} {ok : Bool}, Heard h.trk v (flagsOf d) 0 l1 ok -> l1 = T' /\ ok = b := fun hd => by
  rw [k.trk] at hd
  exact heard_is hd hr
 have mk : ∀ {l1 : List TTalk}, l1 = T' -> Fine { h with trk := l1 } 0 -> Stg { h with trk := l1 } c T' [⟨6, A, P, port, 0⟩] := fun e hf => ⟨hf, k.out, k.rules, k.els, k.nl, ⟨k.room.rate, k.room.most, k.room.le, k.room.met⟩, e, k.maps⟩
 cases E with
 | none h1 => rw [hn] at h1; cases h1
 | unknown r h1 h2 h3 => rw [hn] at h1; cases h1; rw [show roadIn f A P = v from hv, hkn] at h3; cases h3
 | talk r l1 h1 h2 h3 h4 =>
  rw [hn] at h1; cases h1
  rw [show roadIn f A P = v from hv] at h4
  obtain ⟨e1, e2⟩ := hh h4
  subst e2
  exact ⟨mk e1 hF, rfl⟩
 | ins r l1 h1 h2 h3 h4 =>
  rw [hn] at h1; cases h1
  rcases h3 with ⟨q, _⟩ | ⟨_, h4'⟩
  . exact absurd h6 q
  . rw [show roadIn f A P = v from hv] at h4'
    obtain ⟨e1, e2⟩ := hh h4'
    subst e2
    exact ⟨mk e1 hF, rfl⟩
theorem pass_open {h : Hs} {c : Int} {T : List TTalk} {M : List TMap} (k : Stg h c T M) {f : Fl} (h6 : f.pr = 6) (hp : U16 f.p) (hq : U16 f.q) : pass h f = true := by
 unfold pass
 rw [k.rules, k.els, h6]
 have hb : badB 6 f.p f.q = false := by
  unfold U16 at hp hq
  unfold badB bndB
  rw [decide_eq_true hp.1, decide_eq_true hp.2, decide_eq_true hq.1, decide_eq_true hq.2, decide_eq_true (Int.le_refl f.p), decide_eq_true (Int.le_refl f.q)]
  rfl
 rw [hb]
 rfl
theorem leave_one {h : Hs} {c : Int} {T T' : List TTalk} {M : List TMap} (k : Stg h c T M) {f : Fl} {d : List UInt8} (hd : EndOk d) (hfd : f = flow d) {h' : Hs} {out : List UInt8} {why : Int} (E : Leaves h f d 0 h' out why)
  (h6 : f.pr = 6) (hp : U16 f.p) (hq : U16 f.q) (hM : M = [] \/ ∃ o, M = [⟨6, f.a, f.p, o, 0⟩]) (hr : trHear_fn (T, ((road f).a, ((road f).b, ((road f).p, ((road f).q, (flagsOf d, ((0 : Int), ()))))))) = some (T', (true, ((0 : Int), ())))) :
  ∃ port, U16 port /\ out = swp d 3325256705 port 12 0 /\ Stg h' c T' [⟨6, f.a, f.p, port, 0⟩] /\ ∀ o, M = [⟨6, f.a, f.p, o, 0⟩] -> port = o := by
 have hF : Fine h' 0 := by subst hfd; exact leaves_fine k.fine (by decide) hd E
 have hh : ∀ {l1 : List TTalk} {ok : Bool}, Heard h.trk (road f) (flagsOf d) 0 l1 ok -> l1 = T' /\ ok = true := fun hd => by
  rw [k.trk] at hd
  exact heard_is hd hr
 have hpass := pass_open k h6 hp hq
 have hA : ArgOk h.maps 6 f.p 0 := by
  refine ⟨.inr rfl, hp, ?_, Int.le_refl 0, by decide⟩
  rw [k.maps]
  rcases hM with e | ⟨o, e⟩ <;> rw [e] <;> exact Int.le_refl 0
 have hlen : h.maps.length <= 1 := by
  rw [k.maps]
  rcases hM with e | ⟨o, e⟩ <;> rw [e] <;> simp
 obtain ⟨Y, _, hY, hres⟩ := out_ok (addr := f.a) k.fine.1.nat hA (by omega) (by unfold BigN; omega)
 have hall : ∀ m ∈ h.maps, m.at' = 0 /\ kb 6 f.a f.p m = true := by
  intro m hm
  rw [k.maps] at hm
  rcases hM with e | ⟨o, e⟩
  . rw [e] at hm; cases hm
  . rw [e] at hm
    rw [List.mem_singleton.1 hm]
    exact ⟨rfl, kb_iff.2 ⟨rfl, rfl, rfl⟩⟩
 have hYm : ∀ m, m ∈ Y ↔ m ∈ h.maps := fun m => by
  rw [hY]
  refine ⟨fun q => q.1, fun q => ⟨q, ?_⟩⟩
  rw [(hall m q).1, k.nl]; decide
 rcases hres with ⟨o2, L2, S2, Z, q1, q2, q3, q4, q5, q6⟩ | ⟨q1, q2, b, q3, q4⟩
 case inr =>
  exfalso
  have := q4 0 (by decide)
  obtain ⟨m, hm, _⟩ := outs_mem.1 this
  have h1 := (hall m ((hYm m).1 hm)).2
  rw [q2 m hm] at h1; cases h1
 have hZ : Z = [] := by
  cases Z with
  | nil => rfl
  | cons m r =>
    obtain ⟨h1, h2⟩ := (q4 m).1 List.mem_cons_self
    rw [(hall m ((hYm m).1 h1)).2] at h2; cases h2
 subst hZ
 have hN : nOut h f 0 = some (h.nl, (h.lb, ((L2 : Int), (h.sb, ((S2 : Int), ([⟨6, f.a, f.p, o2, 0⟩], (o2, ((0 : Int), ())))))))) := by
  unfold nOut; rw [h6]; exact q1
 cases E with
 | rules h1 h2 => rw [hpass] at h2; cases h2
 | talk l1 h1 h2 h3 => obtain ⟨_, e⟩ := hh h3; cases e
 | full l1 e h1 h2 he h3 =>
  rw [hN] at h3
  simp only [Option.some.injEq, Prod.mk.injEq] at h3
  exact absurd h3.2.2.2.2.2.2.2.1.symm he
 | out l1 port L3 S3 m2 h1 h2 h3 hp' =>
  rw [hN] at h3
  obtain ⟨eL, eS, em, ep⟩ : (L2 : Int) = L3 /\ (S2 : Int) = S3 /\ [(⟨6, f.a, f.p, o2, 0⟩ : TMap)] = m2 /\ o2 = port := by
    simp only [Option.some.injEq, Prod.mk.injEq] at h3
    exact ⟨h3.2.2.1, h3.2.2.2.2.1, h3.2.2.2.2.2.1, h3.2.2.2.2.2.2.1⟩
  subst em; subst ep
  have e1 : l1 = T' := by
    rcases h2 with ⟨q, _⟩ | ⟨_, hd⟩
    . exact absurd h6 q
    . exact (hh hd).1
  refine ⟨o2, hp', by rw [k.out], ⟨hF, k.out, k.rules, k.els, k.nl, ⟨k.room.rate, k.room.most, k.room.le, k.room.met⟩, e1, rfl⟩, fun o e => ?_⟩
  have hm : (⟨6, f.a, f.p, o, 0⟩ : TMap) ∈ h.maps := by rw [k.maps, e]; exact List.mem_cons_self
  exact (q5 _ ((hYm _).2 hm) (hall _ hm).2).symm
theorem flags_sb {g : TSegment} {f t : Int} {d : List UInt8} (hd : (pk d).data = sb g f t) (hf : 0 <= g.flags /\ g.flags <= 255) : flagsOf d = g.flags := by
 unfold flagsOf
 rw [hd]
 have e : sb g f t = (wd g.from' ++ wd g.to ++ lg g.seq ++ lg g.ack ++ [byteOf (sn g * 4)]) ++ (byteOf g.flags :: (wd g.window ++ (wd (sc g f t) ++ sB g))) := by simp [sb, sA]
 rw [e, getD_k _ _ _ 13 (by simp [wd, lg]), byteOf_nat]
 omega
end Go.Proofs.YthkhikdglmaiaaaGreatDoor.X
namespace Go.Proofs.YthkhikdglmaiaaaGreatDoor.X
open Go Go.RowKit Go.Proofs.YthkhikdglmaiaaaGreatDoor.Abs
open Go.IntKind renaming wrap -> wW
set_option maxRecDepth 100000
set_option linter.unusedVariables false
def kTopTalk_L28_100006 : LS := ⟨100006, [], ⟨0, [], []⟩, [⟨some 9998, [(9, 9), (1000004, 1000004)], ⟨67, [(9, .v (.one (.ptr 9 0))), (10, .v (.one (.b)))], [(9, .cells [.i .i64, .i .i64, .i .u32, .i .u32, .i .i64, .i .i64, .i .i64, .st 4 true, .s]), (1000004, .cells [.i .u32, .i .i64, .i .i64, .i .i64, .i .i64, .i .i64, .st 10 false, .b, .st 19 false, .st 16 false, .i .i64, .i .i64, .i .u64, .i .i64, .i .u64, .st 17 false])]⟩⟩], []⟩
def kTopTalk_ap : List VP1 := [.agg [.i .i64, .i .i64, .i .u32, .i .u32, .i .i64, .i .i64, .i .i64, .st 4 false, .s], .agg [.i .i64, .i .i64, .i .u32, .i .u32, .i .i64, .i .i64, .i .i64, .st 4 false, .s], .one (.i .u32), .one (.i .u32)]
def kTopTalk_rp : SP := ⟨1, [(0, .v (.one (.b)))], []⟩
abbrev ty26_ : Type := (Int × (Int × (Int × (Int × (Int × (Int × (Int × ((List TOption) × ((List UInt8) × (Int × (Int × (Int × (Int × (Int × (Int × (Int × ((List TOption) × ((List UInt8) × (Int × (Int × Unit))))))))))))))))))))
abbrev ty27_ : Type := (Bool × (Int × (Int × (Int × (Int × (Int × (Int × (Int × ((List TOption) × ((List UInt8) × (Int × (Int × (Int × (Int × (Int × (Int × ((List TRule) × (Bool × ((List TMeter) × ((List TTalk) × (Int × (Int × (Int × (Int × (Int × ((List TMap) × Unit))))))))))))))))))))))))))
def kTopTalk_tree : ty26_ -> Tr (Bool × Unit) :=
 fun (a0, a1, a2, a3, a4, a5, a6, a7, a8, a9, a10, a11, a12, a13, a14, a15, a16, a17, a18, a19, _) =>
 .opt ((tOpen_fn ())) (fun r0 =>
 .opt ((hsNew_fn (r0.1, (r0.2.1, (r0.2.2.1, (r0.2.2.2.1, (r0.2.2.2.2.1, (r0.2.2.2.2.2.1, (r0.2.2.2.2.2.2.1, (r0.2.2.2.2.2.2.2.1, ())))))))))) (fun r1 =>
 .opt ((tLives_fn ())) (fun r2 =>
 .ite (!r2.1) (
 .opt ((tLives_fn ())) (fun r3 =>
 .ret (r3.1, ()))) (
 .ite (!decide (r1.2.2.2.2.2.2.2.2.2.2.2.2.2.2.2.2.1 = 0)) (
 .opt ((tLives_fn ())) (fun r3 =>
 .ret (r3.1, ()))) (
 .ite (decide (a18 = a19)) (
 .opt ((tLives_fn ())) (fun r3 =>
 .ret (r3.1, ()))) (
 .ite (decide (2000 < wW .i64 ((↑(a8.length) : Int) + (↑(a17.length) : Int)))) (
 .opt ((tLives_fn ())) (fun r3 =>
 .ret (r3.1, ()))) (
 .opt ((tSegment_fn (a0, (a1, (a2, (a3, (24, (a5, (a6, (a7, (a8, (a18, (a19, ()))))))))))))) (fun r3 =>
 .ite (!r3.2.1) (
 .ret (true, ())) (
 .opt ((tSegment_fn (a1, (a0, (a11, (a12, (24, (a14, (a15, (a16, (a17, (a19, (a18, ()))))))))))))) (fun r4 =>
 .ite (!r4.2.1) (
 .ret (true, ())) (
 .opt ((tSegment_fn (a1, (2048, (0, (0, (2, (0, (0, ([], ([], (a19, (3325256705, ()))))))))))))) (fun r5 =>
 .opt ((hsHear_fn (r1.1, (r1.2.1, (r1.2.2.1, (r1.2.2.2.1, (r1.2.2.2.2.1, (r1.2.2.2.2.2.1, (r1.2.2.2.2.2.2.1, (r1.2.2.2.2.2.2.2.1, (r1.2.2.2.2.2.2.2.2.1, (r1.2.2.2.2.2.2.2.2.2.1, (r1.2.2.2.2.2.2.2.2.2.2.1, (r1.2.2.2.2.2.2.2.2.2.2.2.1, (r1.2.2.2.2.2.2.2.2.2.2.2.2.1, (r1.2.2.2.2.2.2.2.2.2.2.2.2.2.1, (r1.2.2.2.2.2.2.2.2.2.2.2.2.2.2.1, (r1.2.2.2.2.2.2.2.2.2.2.2.2.2.2.2.1, (false, (r5.1, (0, ()))))))))))))))))))))) (fun r6 =>
 .opt ((ipRead_fn (r6.2.2.2.2.2.2.2.2.2.2.2.2.2.2.2.2.1, ()))) (fun r7 =>
 .opt ((tcRead_fn (r7.2.2.2.2.2.2.2.2.2.2.1, (r7.2.2.2.2.2.2.2.1, (r7.2.2.2.2.2.2.2.2.1, ()))))) (fun r8 =>
 .opt (Tr.eval (α := ty27_) (
 .ite (r5.2.1) (
 .ite (decide (r6.2.2.2.2.2.2.2.2.2.2.2.2.2.2.2.2.2.2.1 = 0)) (
 .ite (decide (r7.2.2.2.2.2.2.2.2.2.2.2.1 = 0)) (
 .ret (decide (r8.2.2.2.2.2.2.2.2.2.1 = 0), (r8.1, (r8.2.1, (r8.2.2.1, (r8.2.2.2.1, (r8.2.2.2.2.1, (r8.2.2.2.2.2.1, (r8.2.2.2.2.2.2.1, (r8.2.2.2.2.2.2.2.1, (r8.2.2.2.2.2.2.2.2.1, (r6.1, (r6.2.1, (r6.2.2.1, (r6.2.2.2.1, (r6.2.2.2.2.1, (r6.2.2.2.2.2.1, (r6.2.2.2.2.2.2.1, (r6.2.2.2.2.2.2.2.1, (r6.2.2.2.2.2.2.2.2.1, (r6.2.2.2.2.2.2.2.2.2.1, (r6.2.2.2.2.2.2.2.2.2.2.1, (r6.2.2.2.2.2.2.2.2.2.2.2.1, (r6.2.2.2.2.2.2.2.2.2.2.2.2.1, (r6.2.2.2.2.2.2.2.2.2.2.2.2.2.1, (r6.2.2.2.2.2.2.2.2.2.2.2.2.2.2.1, (r6.2.2.2.2.2.2.2.2.2.2.2.2.2.2.2.1, ()))))))))))))))))))))))))))) (
 .ret (false, (r8.1, (r8.2.1, (r8.2.2.1, (r8.2.2.2.1, (r8.2.2.2.2.1, (r8.2.2.2.2.2.1, (r8.2.2.2.2.2.2.1, (r8.2.2.2.2.2.2.2.1, (r8.2.2.2.2.2.2.2.2.1, (r6.1, (r6.2.1, (r6.2.2.1, (r6.2.2.2.1, (r6.2.2.2.2.1, (r6.2.2.2.2.2.1, (r6.2.2.2.2.2.2.1, (r6.2.2.2.2.2.2.2.1, (r6.2.2.2.2.2.2.2.2.1, (r6.2.2.2.2.2.2.2.2.2.1, (r6.2.2.2.2.2.2.2.2.2.2.1, (r6.2.2.2.2.2.2.2.2.2.2.2.1, (r6.2.2.2.2.2.2.2.2.2.2.2.2.1, (r6.2.2.2.2.2.2.2.2.2.2.2.2.2.1, (r6.2.2.2.2.2.2.2.2.2.2.2.2.2.2.1, (r6.2.2.2.2.2.2.2.2.2.2.2.2.2.2.2.1, ())))))))))))))))))))))))))))) (
 .ret (false, (r8.1, (r8.2.1, (r8.2.2.1, (r8.2.2.2.1, (r8.2.2.2.2.1, (r8.2.2.2.2.2.1, (r8.2.2.2.2.2.2.1, (r8.2.2.2.2.2.2.2.1, (r8.2.2.2.2.2.2.2.2.1, (r6.1, (r6.2.1, (r6.2.2.1, (r6.2.2.2.1, (r6.2.2.2.2.1, (r6.2.2.2.2.2.1, (r6.2.2.2.2.2.2.1, (r6.2.2.2.2.2.2.2.1, (r6.2.2.2.2.2.2.2.2.1, (r6.2.2.2.2.2.2.2.2.2.1, (r6.2.2.2.2.2.2.2.2.2.2.1, (r6.2.2.2.2.2.2.2.2.2.2.2.1, (r6.2.2.2.2.2.2.2.2.2.2.2.2.1, (r6.2.2.2.2.2.2.2.2.2.2.2.2.2.1, (r6.2.2.2.2.2.2.2.2.2.2.2.2.2.2.1, (r6.2.2.2.2.2.2.2.2.2.2.2.2.2.2.2.1, ())))))))))))))))))))))))))))) (
 .ret (false, (r8.1, (r8.2.1, (r8.2.2.1, (r8.2.2.2.1, (r8.2.2.2.2.1, (r8.2.2.2.2.2.1, (r8.2.2.2.2.2.2.1, (r8.2.2.2.2.2.2.2.1, (r8.2.2.2.2.2.2.2.2.1, (r6.1, (r6.2.1, (r6.2.2.1, (r6.2.2.2.1, (r6.2.2.2.2.1, (r6.2.2.2.2.2.1, (r6.2.2.2.2.2.2.1, (r6.2.2.2.2.2.2.2.1, (r6.2.2.2.2.2.2.2.2.1, (r6.2.2.2.2.2.2.2.2.2.1, (r6.2.2.2.2.2.2.2.2.2.2.1, (r6.2.2.2.2.2.2.2.2.2.2.2.1, (r6.2.2.2.2.2.2.2.2.2.2.2.2.1, (r6.2.2.2.2.2.2.2.2.2.2.2.2.2.1, (r6.2.2.2.2.2.2.2.2.2.2.2.2.2.2.1, (r6.2.2.2.2.2.2.2.2.2.2.2.2.2.2.2.1, ()))))))))))))))))))))))))))))) (fun r9 =>
 .ite (r9.1) (
 .ret (false, ())) (
 .opt ((tSegment_fn (a0, (a1, (0, (0, (2, (0, (0, ([], ([], (a18, (a19, ()))))))))))))) (fun r10 =>
 .opt ((hsHear_fn (r9.2.2.2.2.2.2.2.2.2.2.1, (r9.2.2.2.2.2.2.2.2.2.2.2.1, (r9.2.2.2.2.2.2.2.2.2.2.2.2.1, (r9.2.2.2.2.2.2.2.2.2.2.2.2.2.1, (r9.2.2.2.2.2.2.2.2.2.2.2.2.2.2.1, (r9.2.2.2.2.2.2.2.2.2.2.2.2.2.2.2.1, (r9.2.2.2.2.2.2.2.2.2.2.2.2.2.2.2.2.1, (r9.2.2.2.2.2.2.2.2.2.2.2.2.2.2.2.2.2.1, (r9.2.2.2.2.2.2.2.2.2.2.2.2.2.2.2.2.2.2.1, (r9.2.2.2.2.2.2.2.2.2.2.2.2.2.2.2.2.2.2.2.1, (r9.2.2.2.2.2.2.2.2.2.2.2.2.2.2.2.2.2.2.2.2.1, (r9.2.2.2.2.2.2.2.2.2.2.2.2.2.2.2.2.2.2.2.2.2.1, (r9.2.2.2.2.2.2.2.2.2.2.2.2.2.2.2.2.2.2.2.2.2.2.1, (r9.2.2.2.2.2.2.2.2.2.2.2.2.2.2.2.2.2.2.2.2.2.2.2.1, (r9.2.2.2.2.2.2.2.2.2.2.2.2.2.2.2.2.2.2.2.2.2.2.2.2.1, (r9.2.2.2.2.2.2.2.2.2.2.2.2.2.2.2.2.2.2.2.2.2.2.2.2.2.1, (true, (r10.1, (0, ()))))))))))))))))))))) (fun r11 =>
 .opt ((ipRead_fn (r11.2.2.2.2.2.2.2.2.2.2.2.2.2.2.2.2.1, ()))) (fun r12 =>
 .opt ((tcRead_fn (r12.2.2.2.2.2.2.2.2.2.2.1, (r12.2.2.2.2.2.2.2.1, (r12.2.2.2.2.2.2.2.2.1, ()))))) (fun r13 =>
 .opt (Tr.eval (α := ty27_) (
 .ite (r10.2.1) (
 .ite (decide (r11.2.2.2.2.2.2.2.2.2.2.2.2.2.2.2.2.2.2.1 = 0)) (
 .ite (decide (r12.2.2.2.2.2.2.2.2.2.2.2.1 = 0)) (
 .ret (decide (r13.2.2.2.2.2.2.2.2.2.1 = 0), (r13.1, (r13.2.1, (r13.2.2.1, (r13.2.2.2.1, (r13.2.2.2.2.1, (r13.2.2.2.2.2.1, (r13.2.2.2.2.2.2.1, (r13.2.2.2.2.2.2.2.1, (r13.2.2.2.2.2.2.2.2.1, (r11.1, (r11.2.1, (r11.2.2.1, (r11.2.2.2.1, (r11.2.2.2.2.1, (r11.2.2.2.2.2.1, (r11.2.2.2.2.2.2.1, (r11.2.2.2.2.2.2.2.1, (r11.2.2.2.2.2.2.2.2.1, (r11.2.2.2.2.2.2.2.2.2.1, (r11.2.2.2.2.2.2.2.2.2.2.1, (r11.2.2.2.2.2.2.2.2.2.2.2.1, (r11.2.2.2.2.2.2.2.2.2.2.2.2.1, (r11.2.2.2.2.2.2.2.2.2.2.2.2.2.1, (r11.2.2.2.2.2.2.2.2.2.2.2.2.2.2.1, (r11.2.2.2.2.2.2.2.2.2.2.2.2.2.2.2.1, ()))))))))))))))))))))))))))) (
 .ret (false, (r13.1, (r13.2.1, (r13.2.2.1, (r13.2.2.2.1, (r13.2.2.2.2.1, (r13.2.2.2.2.2.1, (r13.2.2.2.2.2.2.1, (r13.2.2.2.2.2.2.2.1, (r13.2.2.2.2.2.2.2.2.1, (r11.1, (r11.2.1, (r11.2.2.1, (r11.2.2.2.1, (r11.2.2.2.2.1, (r11.2.2.2.2.2.1, (r11.2.2.2.2.2.2.1, (r11.2.2.2.2.2.2.2.1, (r11.2.2.2.2.2.2.2.2.1, (r11.2.2.2.2.2.2.2.2.2.1, (r11.2.2.2.2.2.2.2.2.2.2.1, (r11.2.2.2.2.2.2.2.2.2.2.2.1, (r11.2.2.2.2.2.2.2.2.2.2.2.2.1, (r11.2.2.2.2.2.2.2.2.2.2.2.2.2.1, (r11.2.2.2.2.2.2.2.2.2.2.2.2.2.2.1, (r11.2.2.2.2.2.2.2.2.2.2.2.2.2.2.2.1, ())))))))))))))))))))))))))))) (
 .ret (false, (r13.1, (r13.2.1, (r13.2.2.1, (r13.2.2.2.1, (r13.2.2.2.2.1, (r13.2.2.2.2.2.1, (r13.2.2.2.2.2.2.1, (r13.2.2.2.2.2.2.2.1, (r13.2.2.2.2.2.2.2.2.1, (r11.1, (r11.2.1, (r11.2.2.1, (r11.2.2.2.1, (r11.2.2.2.2.1, (r11.2.2.2.2.2.1, (r11.2.2.2.2.2.2.1, (r11.2.2.2.2.2.2.2.1, (r11.2.2.2.2.2.2.2.2.1, (r11.2.2.2.2.2.2.2.2.2.1, (r11.2.2.2.2.2.2.2.2.2.2.1, (r11.2.2.2.2.2.2.2.2.2.2.2.1, (r11.2.2.2.2.2.2.2.2.2.2.2.2.1, (r11.2.2.2.2.2.2.2.2.2.2.2.2.2.1, (r11.2.2.2.2.2.2.2.2.2.2.2.2.2.2.1, (r11.2.2.2.2.2.2.2.2.2.2.2.2.2.2.2.1, ())))))))))))))))))))))))))))) (
 .ret (false, (r13.1, (r13.2.1, (r13.2.2.1, (r13.2.2.2.1, (r13.2.2.2.2.1, (r13.2.2.2.2.2.1, (r13.2.2.2.2.2.2.1, (r13.2.2.2.2.2.2.2.1, (r13.2.2.2.2.2.2.2.2.1, (r11.1, (r11.2.1, (r11.2.2.1, (r11.2.2.2.1, (r11.2.2.2.2.1, (r11.2.2.2.2.2.1, (r11.2.2.2.2.2.2.1, (r11.2.2.2.2.2.2.2.1, (r11.2.2.2.2.2.2.2.2.1, (r11.2.2.2.2.2.2.2.2.2.1, (r11.2.2.2.2.2.2.2.2.2.2.1, (r11.2.2.2.2.2.2.2.2.2.2.2.1, (r11.2.2.2.2.2.2.2.2.2.2.2.2.1, (r11.2.2.2.2.2.2.2.2.2.2.2.2.2.1, (r11.2.2.2.2.2.2.2.2.2.2.2.2.2.2.1, (r11.2.2.2.2.2.2.2.2.2.2.2.2.2.2.2.1, ()))))))))))))))))))))))))))))) (fun r14 =>
 .ite (!r14.1) (
 .ret (false, ())) (
 .opt ((tSegment_fn (a1, (r14.2.1, (0, (0, (2, (0, (0, ([], ([], (a19, (3325256705, ()))))))))))))) (fun r15 =>
 .opt ((hsHear_fn (r14.2.2.2.2.2.2.2.2.2.2.1, (r14.2.2.2.2.2.2.2.2.2.2.2.1, (r14.2.2.2.2.2.2.2.2.2.2.2.2.1, (r14.2.2.2.2.2.2.2.2.2.2.2.2.2.1, (r14.2.2.2.2.2.2.2.2.2.2.2.2.2.2.1, (r14.2.2.2.2.2.2.2.2.2.2.2.2.2.2.2.1, (r14.2.2.2.2.2.2.2.2.2.2.2.2.2.2.2.2.1, (r14.2.2.2.2.2.2.2.2.2.2.2.2.2.2.2.2.2.1, (r14.2.2.2.2.2.2.2.2.2.2.2.2.2.2.2.2.2.2.1, (r14.2.2.2.2.2.2.2.2.2.2.2.2.2.2.2.2.2.2.2.1, (r14.2.2.2.2.2.2.2.2.2.2.2.2.2.2.2.2.2.2.2.2.1, (r14.2.2.2.2.2.2.2.2.2.2.2.2.2.2.2.2.2.2.2.2.2.1, (r14.2.2.2.2.2.2.2.2.2.2.2.2.2.2.2.2.2.2.2.2.2.2.1, (r14.2.2.2.2.2.2.2.2.2.2.2.2.2.2.2.2.2.2.2.2.2.2.2.1, (r14.2.2.2.2.2.2.2.2.2.2.2.2.2.2.2.2.2.2.2.2.2.2.2.2.1, (r14.2.2.2.2.2.2.2.2.2.2.2.2.2.2.2.2.2.2.2.2.2.2.2.2.2.1, (false, (r15.1, (0, ()))))))))))))))))))))) (fun r16 =>
 .opt ((ipRead_fn (r16.2.2.2.2.2.2.2.2.2.2.2.2.2.2.2.2.1, ()))) (fun r17 =>
 .opt ((tcRead_fn (r17.2.2.2.2.2.2.2.2.2.2.1, (r17.2.2.2.2.2.2.2.1, (r17.2.2.2.2.2.2.2.2.1, ()))))) (fun r18 =>
 .opt (Tr.eval (α := ty27_) (
 .ite (r15.2.1) (
 .ite (decide (r16.2.2.2.2.2.2.2.2.2.2.2.2.2.2.2.2.2.2.1 = 0)) (
 .ite (decide (r17.2.2.2.2.2.2.2.2.2.2.2.1 = 0)) (
 .ret (decide (r18.2.2.2.2.2.2.2.2.2.1 = 0), (r18.1, (r18.2.1, (r18.2.2.1, (r18.2.2.2.1, (r18.2.2.2.2.1, (r18.2.2.2.2.2.1, (r18.2.2.2.2.2.2.1, (r18.2.2.2.2.2.2.2.1, (r18.2.2.2.2.2.2.2.2.1, (r16.1, (r16.2.1, (r16.2.2.1, (r16.2.2.2.1, (r16.2.2.2.2.1, (r16.2.2.2.2.2.1, (r16.2.2.2.2.2.2.1, (r16.2.2.2.2.2.2.2.1, (r16.2.2.2.2.2.2.2.2.1, (r16.2.2.2.2.2.2.2.2.2.1, (r16.2.2.2.2.2.2.2.2.2.2.1, (r16.2.2.2.2.2.2.2.2.2.2.2.1, (r16.2.2.2.2.2.2.2.2.2.2.2.2.1, (r16.2.2.2.2.2.2.2.2.2.2.2.2.2.1, (r16.2.2.2.2.2.2.2.2.2.2.2.2.2.2.1, (r16.2.2.2.2.2.2.2.2.2.2.2.2.2.2.2.1, ()))))))))))))))))))))))))))) (
 .ret (false, (r18.1, (r18.2.1, (r18.2.2.1, (r18.2.2.2.1, (r18.2.2.2.2.1, (r18.2.2.2.2.2.1, (r18.2.2.2.2.2.2.1, (r18.2.2.2.2.2.2.2.1, (r18.2.2.2.2.2.2.2.2.1, (r16.1, (r16.2.1, (r16.2.2.1, (r16.2.2.2.1, (r16.2.2.2.2.1, (r16.2.2.2.2.2.1, (r16.2.2.2.2.2.2.1, (r16.2.2.2.2.2.2.2.1, (r16.2.2.2.2.2.2.2.2.1, (r16.2.2.2.2.2.2.2.2.2.1, (r16.2.2.2.2.2.2.2.2.2.2.1, (r16.2.2.2.2.2.2.2.2.2.2.2.1, (r16.2.2.2.2.2.2.2.2.2.2.2.2.1, (r16.2.2.2.2.2.2.2.2.2.2.2.2.2.1, (r16.2.2.2.2.2.2.2.2.2.2.2.2.2.2.1, (r16.2.2.2.2.2.2.2.2.2.2.2.2.2.2.2.1, ())))))))))))))))))))))))))))) (
 .ret (false, (r18.1, (r18.2.1, (r18.2.2.1, (r18.2.2.2.1, (r18.2.2.2.2.1, (r18.2.2.2.2.2.1, (r18.2.2.2.2.2.2.1, (r18.2.2.2.2.2.2.2.1, (r18.2.2.2.2.2.2.2.2.1, (r16.1, (r16.2.1, (r16.2.2.1, (r16.2.2.2.1, (r16.2.2.2.2.1, (r16.2.2.2.2.2.1, (r16.2.2.2.2.2.2.1, (r16.2.2.2.2.2.2.2.1, (r16.2.2.2.2.2.2.2.2.1, (r16.2.2.2.2.2.2.2.2.2.1, (r16.2.2.2.2.2.2.2.2.2.2.1, (r16.2.2.2.2.2.2.2.2.2.2.2.1, (r16.2.2.2.2.2.2.2.2.2.2.2.2.1, (r16.2.2.2.2.2.2.2.2.2.2.2.2.2.1, (r16.2.2.2.2.2.2.2.2.2.2.2.2.2.2.1, (r16.2.2.2.2.2.2.2.2.2.2.2.2.2.2.2.1, ())))))))))))))))))))))))))))) (
 .ret (false, (r18.1, (r18.2.1, (r18.2.2.1, (r18.2.2.2.1, (r18.2.2.2.2.1, (r18.2.2.2.2.2.1, (r18.2.2.2.2.2.2.1, (r18.2.2.2.2.2.2.2.1, (r18.2.2.2.2.2.2.2.2.1, (r16.1, (r16.2.1, (r16.2.2.1, (r16.2.2.2.1, (r16.2.2.2.2.1, (r16.2.2.2.2.2.1, (r16.2.2.2.2.2.2.1, (r16.2.2.2.2.2.2.2.1, (r16.2.2.2.2.2.2.2.2.1, (r16.2.2.2.2.2.2.2.2.2.1, (r16.2.2.2.2.2.2.2.2.2.2.1, (r16.2.2.2.2.2.2.2.2.2.2.2.1, (r16.2.2.2.2.2.2.2.2.2.2.2.2.1, (r16.2.2.2.2.2.2.2.2.2.2.2.2.2.1, (r16.2.2.2.2.2.2.2.2.2.2.2.2.2.2.1, (r16.2.2.2.2.2.2.2.2.2.2.2.2.2.2.2.1, ()))))))))))))))))))))))))))))) (fun r19 =>
 .ite (r19.1) (
 .ret (false, ())) (
 .opt ((tSegment_fn (a1, (r14.2.1, (0, (0, (18, (0, (0, ([], ([], (a19, (3325256705, ()))))))))))))) (fun r20 =>
 .opt ((hsHear_fn (r19.2.2.2.2.2.2.2.2.2.2.1, (r19.2.2.2.2.2.2.2.2.2.2.2.1, (r19.2.2.2.2.2.2.2.2.2.2.2.2.1, (r19.2.2.2.2.2.2.2.2.2.2.2.2.2.1, (r19.2.2.2.2.2.2.2.2.2.2.2.2.2.2.1, (r19.2.2.2.2.2.2.2.2.2.2.2.2.2.2.2.1, (r19.2.2.2.2.2.2.2.2.2.2.2.2.2.2.2.2.1, (r19.2.2.2.2.2.2.2.2.2.2.2.2.2.2.2.2.2.1, (r19.2.2.2.2.2.2.2.2.2.2.2.2.2.2.2.2.2.2.1, (r19.2.2.2.2.2.2.2.2.2.2.2.2.2.2.2.2.2.2.2.1, (r19.2.2.2.2.2.2.2.2.2.2.2.2.2.2.2.2.2.2.2.2.1, (r19.2.2.2.2.2.2.2.2.2.2.2.2.2.2.2.2.2.2.2.2.2.1, (r19.2.2.2.2.2.2.2.2.2.2.2.2.2.2.2.2.2.2.2.2.2.2.1, (r19.2.2.2.2.2.2.2.2.2.2.2.2.2.2.2.2.2.2.2.2.2.2.2.1, (r19.2.2.2.2.2.2.2.2.2.2.2.2.2.2.2.2.2.2.2.2.2.2.2.2.1, (r19.2.2.2.2.2.2.2.2.2.2.2.2.2.2.2.2.2.2.2.2.2.2.2.2.2.1, (false, (r20.1, (0, ()))))))))))))))))))))) (fun r21 =>
 .opt ((ipRead_fn (r21.2.2.2.2.2.2.2.2.2.2.2.2.2.2.2.2.1, ()))) (fun r22 =>
 .opt ((tcRead_fn (r22.2.2.2.2.2.2.2.2.2.2.1, (r22.2.2.2.2.2.2.2.1, (r22.2.2.2.2.2.2.2.2.1, ()))))) (fun r23 =>
 .opt (Tr.eval (α := ty27_) (
 .ite (r20.2.1) (
 .ite (decide (r21.2.2.2.2.2.2.2.2.2.2.2.2.2.2.2.2.2.2.1 = 0)) (
 .ite (decide (r22.2.2.2.2.2.2.2.2.2.2.2.1 = 0)) (
 .ret (decide (r23.2.2.2.2.2.2.2.2.2.1 = 0), (r23.1, (r23.2.1, (r23.2.2.1, (r23.2.2.2.1, (r23.2.2.2.2.1, (r23.2.2.2.2.2.1, (r23.2.2.2.2.2.2.1, (r23.2.2.2.2.2.2.2.1, (r23.2.2.2.2.2.2.2.2.1, (r21.1, (r21.2.1, (r21.2.2.1, (r21.2.2.2.1, (r21.2.2.2.2.1, (r21.2.2.2.2.2.1, (r21.2.2.2.2.2.2.1, (r21.2.2.2.2.2.2.2.1, (r21.2.2.2.2.2.2.2.2.1, (r21.2.2.2.2.2.2.2.2.2.1, (r21.2.2.2.2.2.2.2.2.2.2.1, (r21.2.2.2.2.2.2.2.2.2.2.2.1, (r21.2.2.2.2.2.2.2.2.2.2.2.2.1, (r21.2.2.2.2.2.2.2.2.2.2.2.2.2.1, (r21.2.2.2.2.2.2.2.2.2.2.2.2.2.2.1, (r21.2.2.2.2.2.2.2.2.2.2.2.2.2.2.2.1, ()))))))))))))))))))))))))))) (
 .ret (false, (r23.1, (r23.2.1, (r23.2.2.1, (r23.2.2.2.1, (r23.2.2.2.2.1, (r23.2.2.2.2.2.1, (r23.2.2.2.2.2.2.1, (r23.2.2.2.2.2.2.2.1, (r23.2.2.2.2.2.2.2.2.1, (r21.1, (r21.2.1, (r21.2.2.1, (r21.2.2.2.1, (r21.2.2.2.2.1, (r21.2.2.2.2.2.1, (r21.2.2.2.2.2.2.1, (r21.2.2.2.2.2.2.2.1, (r21.2.2.2.2.2.2.2.2.1, (r21.2.2.2.2.2.2.2.2.2.1, (r21.2.2.2.2.2.2.2.2.2.2.1, (r21.2.2.2.2.2.2.2.2.2.2.2.1, (r21.2.2.2.2.2.2.2.2.2.2.2.2.1, (r21.2.2.2.2.2.2.2.2.2.2.2.2.2.1, (r21.2.2.2.2.2.2.2.2.2.2.2.2.2.2.1, (r21.2.2.2.2.2.2.2.2.2.2.2.2.2.2.2.1, ())))))))))))))))))))))))))))) (
 .ret (false, (r23.1, (r23.2.1, (r23.2.2.1, (r23.2.2.2.1, (r23.2.2.2.2.1, (r23.2.2.2.2.2.1, (r23.2.2.2.2.2.2.1, (r23.2.2.2.2.2.2.2.1, (r23.2.2.2.2.2.2.2.2.1, (r21.1, (r21.2.1, (r21.2.2.1, (r21.2.2.2.1, (r21.2.2.2.2.1, (r21.2.2.2.2.2.1, (r21.2.2.2.2.2.2.1, (r21.2.2.2.2.2.2.2.1, (r21.2.2.2.2.2.2.2.2.1, (r21.2.2.2.2.2.2.2.2.2.1, (r21.2.2.2.2.2.2.2.2.2.2.1, (r21.2.2.2.2.2.2.2.2.2.2.2.1, (r21.2.2.2.2.2.2.2.2.2.2.2.2.1, (r21.2.2.2.2.2.2.2.2.2.2.2.2.2.1, (r21.2.2.2.2.2.2.2.2.2.2.2.2.2.2.1, (r21.2.2.2.2.2.2.2.2.2.2.2.2.2.2.2.1, ())))))))))))))))))))))))))))) (
 .ret (false, (r23.1, (r23.2.1, (r23.2.2.1, (r23.2.2.2.1, (r23.2.2.2.2.1, (r23.2.2.2.2.2.1, (r23.2.2.2.2.2.2.1, (r23.2.2.2.2.2.2.2.1, (r23.2.2.2.2.2.2.2.2.1, (r21.1, (r21.2.1, (r21.2.2.1, (r21.2.2.2.1, (r21.2.2.2.2.1, (r21.2.2.2.2.2.1, (r21.2.2.2.2.2.2.1, (r21.2.2.2.2.2.2.2.1, (r21.2.2.2.2.2.2.2.2.1, (r21.2.2.2.2.2.2.2.2.2.1, (r21.2.2.2.2.2.2.2.2.2.2.1, (r21.2.2.2.2.2.2.2.2.2.2.2.1, (r21.2.2.2.2.2.2.2.2.2.2.2.2.1, (r21.2.2.2.2.2.2.2.2.2.2.2.2.2.1, (r21.2.2.2.2.2.2.2.2.2.2.2.2.2.2.1, (r21.2.2.2.2.2.2.2.2.2.2.2.2.2.2.2.1, ()))))))))))))))))))))))))))))) (fun r24 =>
 .ite (!r24.1) (
 .ret (false, ())) (
 .opt ((tSegment_fn (a0, (a1, (a2, (a3, (24, (a5, (a6, (a7, (a8, (a18, (a19, ()))))))))))))) (fun r25 =>
 .opt ((hsHear_fn (r24.2.2.2.2.2.2.2.2.2.2.1, (r24.2.2.2.2.2.2.2.2.2.2.2.1, (r24.2.2.2.2.2.2.2.2.2.2.2.2.1, (r24.2.2.2.2.2.2.2.2.2.2.2.2.2.1, (r24.2.2.2.2.2.2.2.2.2.2.2.2.2.2.1, (r24.2.2.2.2.2.2.2.2.2.2.2.2.2.2.2.1, (r24.2.2.2.2.2.2.2.2.2.2.2.2.2.2.2.2.1, (r24.2.2.2.2.2.2.2.2.2.2.2.2.2.2.2.2.2.1, (r24.2.2.2.2.2.2.2.2.2.2.2.2.2.2.2.2.2.2.1, (r24.2.2.2.2.2.2.2.2.2.2.2.2.2.2.2.2.2.2.2.1, (r24.2.2.2.2.2.2.2.2.2.2.2.2.2.2.2.2.2.2.2.2.1, (r24.2.2.2.2.2.2.2.2.2.2.2.2.2.2.2.2.2.2.2.2.2.1, (r24.2.2.2.2.2.2.2.2.2.2.2.2.2.2.2.2.2.2.2.2.2.2.1, (r24.2.2.2.2.2.2.2.2.2.2.2.2.2.2.2.2.2.2.2.2.2.2.2.1, (r24.2.2.2.2.2.2.2.2.2.2.2.2.2.2.2.2.2.2.2.2.2.2.2.2.1, (r24.2.2.2.2.2.2.2.2.2.2.2.2.2.2.2.2.2.2.2.2.2.2.2.2.2.1, (true, (r25.1, (0, ()))))))))))))))))))))) (fun r26 =>
 .opt ((ipRead_fn (r26.2.2.2.2.2.2.2.2.2.2.2.2.2.2.2.2.1, ()))) (fun r27 =>
 .opt ((tcRead_fn (r27.2.2.2.2.2.2.2.2.2.2.1, (r27.2.2.2.2.2.2.2.1, (r27.2.2.2.2.2.2.2.2.1, ()))))) (fun r28 =>
 .opt (Tr.eval (α := ty27_) (
 .ite (r25.2.1) (
 .ite (decide (r26.2.2.2.2.2.2.2.2.2.2.2.2.2.2.2.2.2.2.1 = 0)) (
 .ite (decide (r27.2.2.2.2.2.2.2.2.2.2.2.1 = 0)) (
 .ret (decide (r28.2.2.2.2.2.2.2.2.2.1 = 0), (r28.1, (r28.2.1, (r28.2.2.1, (r28.2.2.2.1, (r28.2.2.2.2.1, (r28.2.2.2.2.2.1, (r28.2.2.2.2.2.2.1, (r28.2.2.2.2.2.2.2.1, (r28.2.2.2.2.2.2.2.2.1, (r26.1, (r26.2.1, (r26.2.2.1, (r26.2.2.2.1, (r26.2.2.2.2.1, (r26.2.2.2.2.2.1, (r26.2.2.2.2.2.2.1, (r26.2.2.2.2.2.2.2.1, (r26.2.2.2.2.2.2.2.2.1, (r26.2.2.2.2.2.2.2.2.2.1, (r26.2.2.2.2.2.2.2.2.2.2.1, (r26.2.2.2.2.2.2.2.2.2.2.2.1, (r26.2.2.2.2.2.2.2.2.2.2.2.2.1, (r26.2.2.2.2.2.2.2.2.2.2.2.2.2.1, (r26.2.2.2.2.2.2.2.2.2.2.2.2.2.2.1, (r26.2.2.2.2.2.2.2.2.2.2.2.2.2.2.2.1, ()))))))))))))))))))))))))))) (
 .ret (false, (r28.1, (r28.2.1, (r28.2.2.1, (r28.2.2.2.1, (r28.2.2.2.2.1, (r28.2.2.2.2.2.1, (r28.2.2.2.2.2.2.1, (r28.2.2.2.2.2.2.2.1, (r28.2.2.2.2.2.2.2.2.1, (r26.1, (r26.2.1, (r26.2.2.1, (r26.2.2.2.1, (r26.2.2.2.2.1, (r26.2.2.2.2.2.1, (r26.2.2.2.2.2.2.1, (r26.2.2.2.2.2.2.2.1, (r26.2.2.2.2.2.2.2.2.1, (r26.2.2.2.2.2.2.2.2.2.1, (r26.2.2.2.2.2.2.2.2.2.2.1, (r26.2.2.2.2.2.2.2.2.2.2.2.1, (r26.2.2.2.2.2.2.2.2.2.2.2.2.1, (r26.2.2.2.2.2.2.2.2.2.2.2.2.2.1, (r26.2.2.2.2.2.2.2.2.2.2.2.2.2.2.1, (r26.2.2.2.2.2.2.2.2.2.2.2.2.2.2.2.1, ())))))))))))))))))))))))))))) (
 .ret (false, (r28.1, (r28.2.1, (r28.2.2.1, (r28.2.2.2.1, (r28.2.2.2.2.1, (r28.2.2.2.2.2.1, (r28.2.2.2.2.2.2.1, (r28.2.2.2.2.2.2.2.1, (r28.2.2.2.2.2.2.2.2.1, (r26.1, (r26.2.1, (r26.2.2.1, (r26.2.2.2.1, (r26.2.2.2.2.1, (r26.2.2.2.2.2.1, (r26.2.2.2.2.2.2.1, (r26.2.2.2.2.2.2.2.1, (r26.2.2.2.2.2.2.2.2.1, (r26.2.2.2.2.2.2.2.2.2.1, (r26.2.2.2.2.2.2.2.2.2.2.1, (r26.2.2.2.2.2.2.2.2.2.2.2.1, (r26.2.2.2.2.2.2.2.2.2.2.2.2.1, (r26.2.2.2.2.2.2.2.2.2.2.2.2.2.1, (r26.2.2.2.2.2.2.2.2.2.2.2.2.2.2.1, (r26.2.2.2.2.2.2.2.2.2.2.2.2.2.2.2.1, ())))))))))))))))))))))))))))) (
 .ret (false, (r28.1, (r28.2.1, (r28.2.2.1, (r28.2.2.2.1, (r28.2.2.2.2.1, (r28.2.2.2.2.2.1, (r28.2.2.2.2.2.2.1, (r28.2.2.2.2.2.2.2.1, (r28.2.2.2.2.2.2.2.2.1, (r26.1, (r26.2.1, (r26.2.2.1, (r26.2.2.2.1, (r26.2.2.2.2.1, (r26.2.2.2.2.2.1, (r26.2.2.2.2.2.2.1, (r26.2.2.2.2.2.2.2.1, (r26.2.2.2.2.2.2.2.2.1, (r26.2.2.2.2.2.2.2.2.2.1, (r26.2.2.2.2.2.2.2.2.2.2.1, (r26.2.2.2.2.2.2.2.2.2.2.2.1, (r26.2.2.2.2.2.2.2.2.2.2.2.2.1, (r26.2.2.2.2.2.2.2.2.2.2.2.2.2.1, (r26.2.2.2.2.2.2.2.2.2.2.2.2.2.2.1, (r26.2.2.2.2.2.2.2.2.2.2.2.2.2.2.2.1, ()))))))))))))))))))))))))))))) (fun r29 =>
 .ite (!r29.1) (
 .ret (false, ())) (
 .opt ((rSameSegment_fn (r29.2.1, (r29.2.2.1, (r29.2.2.2.1, (r29.2.2.2.2.1, (r29.2.2.2.2.2.1, (r29.2.2.2.2.2.2.1, (r29.2.2.2.2.2.2.2.1, (r29.2.2.2.2.2.2.2.2.1, (r29.2.2.2.2.2.2.2.2.2.1, (r14.2.1, (a1, (a2, (a3, (24, (a5, (a6, (a7, (a8, ())))))))))))))))))))) (fun r30 =>
 .ite (!r30.1) (
 .ret (false, ())) (
 .opt ((tSegment_fn (a1, (r14.2.1, (a11, (a12, (24, (a14, (a15, (a16, (a17, (a19, (3325256705, ()))))))))))))) (fun r31 =>
 .opt ((hsHear_fn (r29.2.2.2.2.2.2.2.2.2.2.1, (r29.2.2.2.2.2.2.2.2.2.2.2.1, (r29.2.2.2.2.2.2.2.2.2.2.2.2.1, (r29.2.2.2.2.2.2.2.2.2.2.2.2.2.1, (r29.2.2.2.2.2.2.2.2.2.2.2.2.2.2.1, (r29.2.2.2.2.2.2.2.2.2.2.2.2.2.2.2.1, (r29.2.2.2.2.2.2.2.2.2.2.2.2.2.2.2.2.1, (r29.2.2.2.2.2.2.2.2.2.2.2.2.2.2.2.2.2.1, (r29.2.2.2.2.2.2.2.2.2.2.2.2.2.2.2.2.2.2.1, (r29.2.2.2.2.2.2.2.2.2.2.2.2.2.2.2.2.2.2.2.1, (r29.2.2.2.2.2.2.2.2.2.2.2.2.2.2.2.2.2.2.2.2.1, (r29.2.2.2.2.2.2.2.2.2.2.2.2.2.2.2.2.2.2.2.2.2.1, (r29.2.2.2.2.2.2.2.2.2.2.2.2.2.2.2.2.2.2.2.2.2.2.1, (r29.2.2.2.2.2.2.2.2.2.2.2.2.2.2.2.2.2.2.2.2.2.2.2.1, (r29.2.2.2.2.2.2.2.2.2.2.2.2.2.2.2.2.2.2.2.2.2.2.2.2.1, (r29.2.2.2.2.2.2.2.2.2.2.2.2.2.2.2.2.2.2.2.2.2.2.2.2.2.1, (false, (r31.1, (0, ()))))))))))))))))))))) (fun r32 =>
 .opt ((ipRead_fn (r32.2.2.2.2.2.2.2.2.2.2.2.2.2.2.2.2.1, ()))) (fun r33 =>
 .opt ((tcRead_fn (r33.2.2.2.2.2.2.2.2.2.2.1, (r33.2.2.2.2.2.2.2.1, (r33.2.2.2.2.2.2.2.2.1, ()))))) (fun r34 =>
 .opt (Tr.eval (α := ty27_) (
 .ite (r31.2.1) (
 .ite (decide (r32.2.2.2.2.2.2.2.2.2.2.2.2.2.2.2.2.2.2.1 = 0)) (
 .ite (decide (r33.2.2.2.2.2.2.2.2.2.2.2.1 = 0)) (
 .ret (decide (r34.2.2.2.2.2.2.2.2.2.1 = 0), (r34.1, (r34.2.1, (r34.2.2.1, (r34.2.2.2.1, (r34.2.2.2.2.1, (r34.2.2.2.2.2.1, (r34.2.2.2.2.2.2.1, (r34.2.2.2.2.2.2.2.1, (r34.2.2.2.2.2.2.2.2.1, (r32.1, (r32.2.1, (r32.2.2.1, (r32.2.2.2.1, (r32.2.2.2.2.1, (r32.2.2.2.2.2.1, (r32.2.2.2.2.2.2.1, (r32.2.2.2.2.2.2.2.1, (r32.2.2.2.2.2.2.2.2.1, (r32.2.2.2.2.2.2.2.2.2.1, (r32.2.2.2.2.2.2.2.2.2.2.1, (r32.2.2.2.2.2.2.2.2.2.2.2.1, (r32.2.2.2.2.2.2.2.2.2.2.2.2.1, (r32.2.2.2.2.2.2.2.2.2.2.2.2.2.1, (r32.2.2.2.2.2.2.2.2.2.2.2.2.2.2.1, (r32.2.2.2.2.2.2.2.2.2.2.2.2.2.2.2.1, ()))))))))))))))))))))))))))) (
 .ret (false, (r34.1, (r34.2.1, (r34.2.2.1, (r34.2.2.2.1, (r34.2.2.2.2.1, (r34.2.2.2.2.2.1, (r34.2.2.2.2.2.2.1, (r34.2.2.2.2.2.2.2.1, (r34.2.2.2.2.2.2.2.2.1, (r32.1, (r32.2.1, (r32.2.2.1, (r32.2.2.2.1, (r32.2.2.2.2.1, (r32.2.2.2.2.2.1, (r32.2.2.2.2.2.2.1, (r32.2.2.2.2.2.2.2.1, (r32.2.2.2.2.2.2.2.2.1, (r32.2.2.2.2.2.2.2.2.2.1, (r32.2.2.2.2.2.2.2.2.2.2.1, (r32.2.2.2.2.2.2.2.2.2.2.2.1, (r32.2.2.2.2.2.2.2.2.2.2.2.2.1, (r32.2.2.2.2.2.2.2.2.2.2.2.2.2.1, (r32.2.2.2.2.2.2.2.2.2.2.2.2.2.2.1, (r32.2.2.2.2.2.2.2.2.2.2.2.2.2.2.2.1, ())))))))))))))))))))))))))))) (
 .ret (false, (r34.1, (r34.2.1, (r34.2.2.1, (r34.2.2.2.1, (r34.2.2.2.2.1, (r34.2.2.2.2.2.1, (r34.2.2.2.2.2.2.1, (r34.2.2.2.2.2.2.2.1, (r34.2.2.2.2.2.2.2.2.1, (r32.1, (r32.2.1, (r32.2.2.1, (r32.2.2.2.1, (r32.2.2.2.2.1, (r32.2.2.2.2.2.1, (r32.2.2.2.2.2.2.1, (r32.2.2.2.2.2.2.2.1, (r32.2.2.2.2.2.2.2.2.1, (r32.2.2.2.2.2.2.2.2.2.1, (r32.2.2.2.2.2.2.2.2.2.2.1, (r32.2.2.2.2.2.2.2.2.2.2.2.1, (r32.2.2.2.2.2.2.2.2.2.2.2.2.1, (r32.2.2.2.2.2.2.2.2.2.2.2.2.2.1, (r32.2.2.2.2.2.2.2.2.2.2.2.2.2.2.1, (r32.2.2.2.2.2.2.2.2.2.2.2.2.2.2.2.1, ())))))))))))))))))))))))))))) (
 .ret (false, (r34.1, (r34.2.1, (r34.2.2.1, (r34.2.2.2.1, (r34.2.2.2.2.1, (r34.2.2.2.2.2.1, (r34.2.2.2.2.2.2.1, (r34.2.2.2.2.2.2.2.1, (r34.2.2.2.2.2.2.2.2.1, (r32.1, (r32.2.1, (r32.2.2.1, (r32.2.2.2.1, (r32.2.2.2.2.1, (r32.2.2.2.2.2.1, (r32.2.2.2.2.2.2.1, (r32.2.2.2.2.2.2.2.1, (r32.2.2.2.2.2.2.2.2.1, (r32.2.2.2.2.2.2.2.2.2.1, (r32.2.2.2.2.2.2.2.2.2.2.1, (r32.2.2.2.2.2.2.2.2.2.2.2.1, (r32.2.2.2.2.2.2.2.2.2.2.2.2.1, (r32.2.2.2.2.2.2.2.2.2.2.2.2.2.1, (r32.2.2.2.2.2.2.2.2.2.2.2.2.2.2.1, (r32.2.2.2.2.2.2.2.2.2.2.2.2.2.2.2.1, ()))))))))))))))))))))))))))))) (fun r35 =>
 .ite (r35.1) (
 .opt ((rSameSegment_fn (r35.2.1, (r35.2.2.1, (r35.2.2.2.1, (r35.2.2.2.2.1, (r35.2.2.2.2.2.1, (r35.2.2.2.2.2.2.1, (r35.2.2.2.2.2.2.2.1, (r35.2.2.2.2.2.2.2.2.1, (r35.2.2.2.2.2.2.2.2.2.1, (a1, (a0, (a11, (a12, (24, (a14, (a15, (a16, (a17, ())))))))))))))))))))) (fun r36 =>
 .ret (r36.1, ()))) (
 .ret (false, ()))))))))))))))))))))))))))))))))))))))))))))))))))
noncomputable def gm69 : List (PF Go.Proofs.Tryz.prog) := gm68 ++ [FS.pf rSameSegment]
theorem kTopTalk_eq (x : ty26_) : fnTr Tryz.prog cod gm69 [(28, kTopTalk_L28_100006)] 30 6 kTopTalk_ap kTopTalk_rp x = kTopTalk_tree x := by kernel_rfl
def kTopTalk_fn (x : ty26_) : Option (Bool × Unit) := (kTopTalk_tree x).eval
def kTopTalk : FS Tryz.prog := ⟨6, kTopTalk_ap, kTopTalk_rp, kTopTalk_fn, fun x r h => fnTr_sound (cod := cod) (Γ := gm69) (Λs := [(28, kTopTalk_L28_100006)]) (n := 30) ((congrArg Tr.eval (kTopTalk_eq x)).trans h)⟩
end Go.Proofs.YthkhikdglmaiaaaGreatDoor.X
namespace Go.Proofs.YthkhikdglmaiaaaGreatDoor.X
open Go Go.RowKit Go.Proofs.YthkhikdglmaiaaaGreatDoor.Abs Go.Proofs.YthkhikdglmaiaaaGreatDoor.Bits
set_option linter.unusedVariables false
set_option linter.unnecessarySimpa false
set_option linter.unusedSimpArgs false
set_option maxRecDepth 100000
abbrev OUT : Int := 3325256705
theorem uOUT : U32 OUT := by unfold OUT; decide
theorem rOpt_self (l : List TOption) (hl : l.length <= 1048576) : rSameSegment_loop68_4 ((0 : Int), (l, (l, ((l.length : Int), ())))) = some (Sum.inr ()) := by
 have := loop_hit (tag := 680004) (f := fun x => (rSameSegment_step68_4 x).eval) (l := l) (fun i => ((i : Int), (l, (l, ((l.length : Int), ()))))) (fun _ => false)
  (fun q => match q with | some q => Sum.inl (false, ()) | none => Sum.inr ())
  (fun i x hx => by
   have hi := (List.getElem?_eq_some_iff.1 hx).1
   show (rSameSegment_step68_4 _).eval = _
   unfold rSameSegment_step68_4
   exact ev_t (by (first | (simp; done) | (simp; omega) | omega)) (ev_g (by simp) (ev_opt (show l[Int.toNat (i : Int)]? = some x by simpa using hx) (ev_g (by simp) (ev_opt (show l[Int.toNat (i : Int)]? = some x by simpa using hx) (ev_f (by simp) (ev_r (by rw [next_i64 i (by omega)]))))))))
  (by show (rSameSegment_step68_4 _).eval = _; exact ev_f (by simp) (ev_r rfl)) 18446744073709551616 (by omega)
 have h0 : hit (fun _ => false) l = none := hit_none.2 fun _ _ => rfl
 rw [h0] at this
 exact this
theorem rSame_self (g : TSegment) (hl : g.options.length <= 1048576) : rSameSegment_fn (g9 g (g9 g ())) = some (true, ()) :=
 ev_t (by simp) (ev_t (by simp) (ev_t (by simp) (ev_t (by simp) (ev_t (by simp) (ev_t (by simp) (ev_t (by simp) (ev_t (by simp) (ev_f (by simp) (ev_opt (rOpt_self g.options hl) (ev_r rfl))))))))))
theorem tLives_ok : tLives_fn () = some (true, ()) := by kernel_rfl
def hOpenT : Hs := ⟨3325256705, 1024, 2048, 100, 100000, 1000000, [], true, [], [], 0, 0, 0, 0, 0, []⟩
theorem openT_ok : tOpen_fn () = some ((3325256705 : Int), ((1024 : Int), ((2048 : Int), ((100 : Int), ((100000 : Int), ((1000000 : Int), (([] : List TRule), (true, ())))))))) := rfl
theorem openT_plan : PlanOk hOpenT := ⟨by unfold baseOk hOpenT; decide, by unfold baseOk hOpenT; decide, by unfold hOpenT; decide, by unfold hOpenT; decide, by unfold hOpenT; decide, by unfold hOpenT; rfl⟩
theorem stg_new : Stg (hNew hOpenT) 1000000 [] [] := by
 have kR := new_right openT_plan (by unfold U32 hOpenT; decide)
 exact ⟨⟨kR.1, kR.2, new_till _ (Int.le_refl 0)⟩, rfl, rfl, rfl, rfl, ⟨rfl, rfl, Int.le_refl _, fun m hm => by cases hm⟩, rfl, rfl⟩
def gS (p q fl : Int) : TSegment := ⟨p, q, 0, 0, fl, 0, 0, [], []⟩
theorem werr_gS {p q fl : Int} (hp : U16 p) (hq : U16 q) (hf : 0 <= fl /\ fl <= 255) : werr (gS p q fl) = 0 := werr_of hp hq ⟨Int.le_refl 0, by show (0 : Int) <= 65535; decide⟩ ⟨Int.le_refl 0, by show (0 : Int) <= 65535; decide⟩ hf rfl (by show 0 <= 40; decide) (by show 0 <= 65455; decide)
theorem werr_p {g : TSegment} (h : werr g = 0) {p : Int} (hp : U16 p) : werr (gp g p) = 0 /\ werr (gq g p) = 0 := by
 obtain ⟨h1, h2, h3, h4, h5, h6, h7, h8⟩ := werr_in h
 exact ⟨werr_of hp h2 h3 h4 h5 h6 h7 h8, werr_of h1 hp h3 h4 h5 h6 h7 h8⟩
structure Seg (g : TSegment) (f t : Int) (d : List UInt8) : Prop where
 ends : EndOk d
 flow : flow d = ⟨f, t, 6, g.from', g.to⟩
 data : (pk d).data = sb g f t
 flags : flagsOf d = g.flags
 six : (d.getD 9 0).toNat = 6
 fr : (pk d).from' = f
 to : (pk d).to = t
theorem seg_len {g : TSegment} {f t : Int} (hw : werr g = 0) (hd : g.data.length <= 2000) : (sgp g f t).length <= 2080 := by
 have h1 := pad_le _ (werr_small hw).1
 unfold sgp
 rw [ib_len]
 show 20 + ([] : List UInt8).length + (sb g f t).length <= 2080
 rw [sb_len]; simp; omega
theorem seg_hop {g : TSegment} {f t : Int} (hf : U32 f) (ht : U32 t) (hs : U32 g.seq) (ha : U32 g.ack) (hw : werr g = 0) {d : List UInt8} (h : Hop (sgp g f t) d) : Seg g f t d := by
 obtain ⟨h1, h2, h3, h4, h5, h6, h7, h8⟩ := werr_in hw
 obtain ⟨e1, e2, e3, e4, e5⟩ := sgp_end hf ht hs ha hw h1 h2
 have hfl : flow d = ⟨f, t, 6, g.from', g.to⟩ := h.flow.trans e2
 have hd : (pk d).data = sb g f t := by rw [h.pk]; exact e5
 have h6' : (d.getD 9 0).toNat = 6 := by
  have := (flow_ok h.ends).2.2.2.2.2
  exact this.1 (by rw [hfl])
 exact ⟨h.ends, hfl, hd, flags_sb hd h5, h6', congrArg Fl.a hfl, congrArg Fl.b hfl⟩
theorem at_in {h : Hs} {c : Int} {T : List TTalk} {M : List TMap} (k : Stg h c T M) {g : TSegment} {f : Int} (hf : U32 f) (hs : U32 g.seq) (ha : U32 g.ack) (hw : werr g = 0) (hd : g.data.length <= 2000) (hc : 2080 <= c) :
  ∃ h' out why t h0, hsHear_fn (h.t (false, (sgp g f OUT, ((0 : Int), ())))) = some (h'.t (out, (why, ((0 : Int), ())))) /\ Stg h0 (c - 2080) T M /\ Seg g f OUT t /\ Enters h0 ⟨f, OUT, 6, g.from', g.to⟩ t 0 h' out why /\ out.length <= Lim := by
 obtain ⟨h1, h2, h3, h4, h5, h6, h7, h8⟩ := werr_in hw
 have hl := seg_len (f := f) (t := OUT) hw hd
 obtain ⟨e1, e2, e3, e4, e5⟩ := sgp_end hf uOUT hs ha hw h1 h2
 obtain ⟨h', out, why, q1, q2, q3⟩ := hear_ok (ins := false) k.fine (by decide) (s := sgp g f OUT) (by unfold Lim; omega)
 obtain ⟨t, h0, p1, p2, p3⟩ := stg_in k e1 (by rw [e2]) (by omega) (by omega) q2
 rw [e2] at p3
 exact ⟨h', out, why, t, h0, q1, ⟨p2.fine, p2.out, p2.rules, p2.els, p2.nl, p2.room.mono (by omega), p2.trk, p2.maps⟩, seg_hop hf uOUT hs ha hw p1, p3, goes_len q2⟩
theorem at_out {h : Hs} {c : Int} {T : List TTalk} {M : List TMap} (k : Stg h c T M) {g : TSegment} {f t' : Int} (hf : U32 f) (ht : U32 t') (hs : U32 g.seq) (ha : U32 g.ack) (hw : werr g = 0) (hd : g.data.length <= 2000) (hc : 2080 <= c) :
  ∃ h' out why t h0, hsHear_fn (h.t (true, (sgp g f t', ((0 : Int), ())))) = some (h'.t (out, (why, ((0 : Int), ())))) /\ Stg h0 (c - 2080) T M /\ Seg g f t' t /\ Leaves h0 ⟨f, t', 6, g.from', g.to⟩ t 0 h' out why /\ out.length <= Lim := by
 obtain ⟨h1, h2, h3, h4, h5, h6, h7, h8⟩ := werr_in hw
 have hl := seg_len (f := f) (t := t') hw hd
 obtain ⟨e1, e2, e3, e4, e5⟩ := sgp_end hf ht hs ha hw h1 h2
 obtain ⟨h', out, why, q1, q2, q3⟩ := hear_ok (ins := true) k.fine (by decide) (s := sgp g f t') (by unfold Lim; omega)
 obtain ⟨t, h0, p1, p2, p3⟩ := stg_out k e1 (by omega) (by omega) q2
 rw [e2] at p3
 exact ⟨h', out, why, t, h0, q1, ⟨p2.fine, p2.out, p2.rules, p2.els, p2.nl, p2.room.mono (by omega), p2.trk, p2.maps⟩, seg_hop hf ht hs ha hw p1, p3, goes_len q2⟩
theorem none_ip : ∃ e : Int, e ≠ 0 /\ ipRead_fn (([] : List UInt8), ()) = some (p11 zp (e, ())) := by
 obtain ⟨e, h1, h2⟩ := ipRead_bad (s := []) (fun h => absurd h.len (by decide)) (by unfold Lim; simp)
 exact ⟨e, h1.1, h2⟩
theorem none_tc : ∃ e : Int, e ≠ 0 /\ tcRead_fn (([] : List UInt8), ((0 : Int), ((0 : Int), ()))) = some (z9 e) := by
 rcases tcRead_ex [] 0 0 (by decide) (by decide) (by unfold Lim; simp) with h | ⟨l, r, h1, h2, h3, _⟩
 . exact h
 . simp at h3; omega
theorem roadB_of {a b p q : Int} (hp : U16 p) (hq : U16 q) (hab : a ≠ b) : roadB ⟨a, b, p, q⟩ = true /\ (⟨a, b, p, q⟩ : Rd4) ≠ turn ⟨a, b, p, q⟩ := by
 have hne : (⟨a, b, p, q⟩ : Rd4) ≠ turn ⟨a, b, p, q⟩ := fun h => hab (by have := congrArg Rd4.a h; exact this)
 refine ⟨?_, hne⟩
 unfold roadB portB
 rw [decide_eq_true hp.1, decide_eq_true hp.2, decide_eq_true hq.1, decide_eq_true hq.2, decide_eq_false hne]
 rfl
set_option maxHeartbeats 8000000 in
theorem talk_law {a0 a1 a2 a3 a4 a5 a6 : Int} {o : List TOption} {d : List UInt8} {b0 b1 b2 b3 b4 b5 b6 : Int} {o2 : List TOption} {d2 : List UInt8} {f t : Int} (s2 : U32 a2) (s3 : U32 a3) (lo : o.length <= 1048576) (ld : d.length <= 140737488351232) (s12 : U32 b2) (s13 : U32 b3) (lo2 : o2.length <= 1048576) (ld2 : d2.length <= 140737488351232) (hf : U32 f) (ht : U32 t) :
   (kTopTalk_tree (a0, (a1, (a2, (a3, (a4, (a5, (a6, (o, (d, (b0, (b1, (b2, (b3, (b4, (b5, (b6, (o2, (d2, (f, (t, ()))))))))))))))))))))).eval = some (true, ()) := by
 have live : ∀ T : Tr (Bool × Unit), T = (.opt (β := (Bool × Unit)) ((tLives_fn ())) (fun r2 => .ret (r2.1, ()))) -> T.eval = some (true, ()) := by rintro T rfl; exact ev_opt tLives_ok (ev_r rfl)
 refine ev_opt openT_ok (ev_opt (new_ok openT_plan) (ev_opt tLives_ok (ev_f rfl (ev_f rfl ?_))))
 by_cases hft : f = t
 . exact ev_t (decide_eq_true hft) (live _ rfl)
 refine ev_f (decide_eq_false hft) ?_
 by_cases hlen : (2000 : Int) < IntKind.wrap IntKind.i64 ((d.length : Int) + (d2.length : Int))
 . exact ev_t (decide_eq_true hlen) (live _ rfl)
 refine ev_f (decide_eq_false hlen) ?_
 have hl2 : d.length <= 2000 /\ d2.length <= 2000 := by
   rw [wi _ (by omega)] at hlen; omega
 -- the two segments that are said
 generalize ega : (⟨a0, a1, a2, a3, 24, a5, a6, o, d⟩ : TSegment) = ga
 generalize egb : (⟨a1, a0, b2, b3, 24, b5, b6, o2, d2⟩ : TSegment) = gb
 have ha1 : U32 ga.seq := by subst ega; exact s2
 have aa : U32 ga.ack := by subst ega; exact s3
 have bs : U32 gb.seq := by subst egb; exact s12
 have ba : U32 gb.ack := by subst egb; exact s13
 have ad : ga.data.length <= 2000 := by subst ega; exact hl2.1
 have bd : gb.data.length <= 2000 := by subst egb; exact hl2.2
 by_cases wa : werr ga = 0
 case neg =>
   obtain ⟨z, _, hz⟩ := seg_no (g := ga) ha1 aa hf ht (by subst ega; exact lo) wa
   subst ega
   exact ev_opt hz (ev_t rfl (ev_r rfl))
 refine ev_opt (b := (sgp ga f t, (true, ()))) (by subst ega; exact seg_ok s2 s3 hf ht lo wa) (ev_f rfl ?_)
 by_cases wb : werr gb = 0
 case neg =>
   obtain ⟨z, _, hz⟩ := seg_no (g := gb) bs ba ht hf (by subst egb; exact lo2) wb
   subst egb
   exact ev_opt hz (ev_t rfl (ev_r rfl))
 refine ev_opt (b := (sgp gb t f, (true, ()))) (by subst egb; exact seg_ok s12 s13 ht hf lo2 wb) (ev_f rfl ?_)
 have hA0 : U16 a0 := by have := (werr_in wa).1; rw [<- ega] at this; exact this
 have hA1 : U16 a1 := by have := (werr_in wa).2.1; rw [<- ega] at this; exact this
 have z0 : U32 (0 : Int) := by decide
 obtain ⟨e0, he0, hip0⟩ := none_ip
 obtain ⟨c0, hc0, htc0⟩ := none_tc
 obtain ⟨hroad, hne⟩ := roadB_of (a := f) (b := t) hA0 hA1 hft
 generalize ew : (⟨f, t, a0, a1⟩ : Rd4) = w at hroad hne
 have hwt : decide (turn w = w) = false := decide_eq_false fun q => hne q.symm
 have hww : decide (w = w) = true := decide_eq_true rfl
 -- (1) from outside, to no one
 have w1 := werr_gS (p := a1) (q := 2048) (fl := 2) hA1 ⟨by decide, by decide⟩ ⟨by decide, by decide⟩
 obtain ⟨h1, out1, why1, t1, k1', e1, k1, sg1, E1, _⟩ := at_in stg_new ht (g := gS a1 2048 2) z0 z0 w1 (Nat.zero_le _) (by decide)
 obtain ⟨rfl, rfl⟩ := enter_none k1 E1
 refine ev_opt (b := (sgp (gS a1 2048 2) t OUT, (true, ()))) (seg_ok (g := gS a1 2048 2) z0 z0 ht uOUT (by show 0 <= 1048576; decide) w1) (ev_opt e1 (ev_opt hip0 (ev_opt htc0 (ev_opt (ev_t rfl (ev_t rfl (ev_f (decide_eq_false he0) (ev_r rfl)))) (ev_f rfl ?_)))))
 -- (2) from inside
 have w2 := werr_gS (p := a0) (q := a1) (fl := 2) hA0 hA1 ⟨by decide, by decide⟩
 obtain ⟨h2, out2, why2, t2, k2', e2, k2, sg2, L2, _⟩ := at_out k1 hf ht (g := gS a0 a1 2) z0 z0 w2 (Nat.zero_le _) (by omega)
 obtain ⟨port, hport, rfl, K2, _⟩ := leave_one k2 sg2.ends sg2.flow.symm L2 rfl hA0 hA1 (.inl rfl) (T' := [tk1 w 1]) (by
   have := hear_syn hroad
   rw [sg2.flags, <- ew]
   rw [<- ew] at this
   exact this)
 obtain ⟨P2, ip2, tc2⟩ := seen_from (a := OUT) (p := port) sg2.ends sg2.six sg2.fr sg2.to sg2.data hf ht uOUT z0 z0 w2 (werr_p w2 hport).1
 refine ev_opt (b := (sgp (gS a0 a1 2) f t, (true, ()))) (seg_ok (g := gS a0 a1 2) z0 z0 hf ht (by show 0 <= 1048576; decide) w2) (ev_opt e2 (ev_opt ip2 (ev_opt tc2 (ev_opt (ev_t rfl (ev_t rfl (ev_t rfl (ev_r rfl)))) (ev_f rfl ?_)))))
 -- (3) a SYN from the other side is refused
 have w3 := werr_gS (p := a1) (q := port) (fl := 2) hA1 hport ⟨by decide, by decide⟩
 obtain ⟨h3, out3, why3, t3, k3', e3, k3, sg3, E3, _⟩ := at_in K2 ht (g := gS a1 port 2) z0 z0 w3 (Nat.zero_le _) (by omega)
 obtain ⟨K3, o3⟩ := enter_one k3 (.inl rfl) sg3.flow.symm E3 rfl rfl (v := turn w) (by rw [<- ew]; rfl) (.inr rfl) (T' := [tk1 w 1]) (b := false) (by
   rw [sg3.flags]
   exact hear_one hroad (.inr rfl) hne (.inl rfl) (fl := 2) ⟨by decide, by decide⟩ rfl (b := false) (st' := 1) (by rw [hwt]; rfl))
 have o3 : out3 = [] := o3
 subst o3
 refine ev_opt (b := (sgp (gS a1 port 2) t OUT, (true, ()))) (seg_ok (g := gS a1 port 2) z0 z0 ht uOUT (by show 0 <= 1048576; decide) w3) (ev_opt e3 (ev_opt hip0 (ev_opt htc0 (ev_opt (ev_t rfl (ev_t rfl (ev_f (decide_eq_false he0) (ev_r rfl)))) (ev_f rfl ?_)))))
 -- (4) its answer passes
 have w4 := werr_gS (p := a1) (q := port) (fl := 18) hA1 hport ⟨by decide, by decide⟩
 obtain ⟨h4, out4, why4, t4, k4', e4, k4, sg4, E4, _⟩ := at_in K3 ht (g := gS a1 port 18) z0 z0 w4 (Nat.zero_le _) (by omega)
 obtain ⟨K4, o4⟩ := enter_one k4 (.inl rfl) sg4.flow.symm E4 rfl rfl (v := turn w) (by rw [<- ew]; rfl) (.inr rfl) (T' := [tk1 w 2]) (b := true) (by
   rw [sg4.flags]
   exact hear_one hroad (.inr rfl) hne (.inl rfl) (fl := 18) ⟨by decide, by decide⟩ rfl (b := true) (st' := 2) (by rw [hwt]; rfl))
 have o4 : out4 = swp t4 f a0 16 2 := o4
 subst o4
 obtain ⟨P4, ip4, tc4⟩ := seen_to (a := f) (p := a0) sg4.ends sg4.six sg4.fr sg4.to sg4.data ht uOUT hf z0 z0 w4 (werr_p w4 hA0).2
 refine ev_opt (b := (sgp (gS a1 port 18) t OUT, (true, ()))) (seg_ok (g := gS a1 port 18) z0 z0 ht uOUT (by show 0 <= 1048576; decide) w4) (ev_opt e4 (ev_opt ip4 (ev_opt tc4 (ev_opt (ev_t rfl (ev_t rfl (ev_t rfl (ev_r rfl)))) (ev_f rfl ?_)))))
 -- (5) what is said from inside
 have fa : ga.flags = 24 := by subst ega; rfl
 have pa : ga.from' = a0 /\ ga.to = a1 := by subst ega; exact ⟨rfl, rfl⟩
 obtain ⟨h5, out5, why5, t5, k5', e5, k5, sg5, L5, _⟩ := at_out K4 hf ht (g := ga) ha1 aa wa ad (by omega)
 have fl5 := sg5.flow
 rw [pa.1, pa.2] at L5 fl5
 obtain ⟨port5, hport5, rfl, K5, hp5⟩ := leave_one k5 sg5.ends fl5.symm L5 rfl hA0 hA1 (.inr ⟨port, rfl⟩) (T' := [tk1 w 3]) (by
   have := hear_one hroad (.inl rfl) hne (.inr (.inl rfl)) (fl := 24) ⟨by decide, by decide⟩ rfl (b := true) (st' := 3) (by rw [hww]; rfl)
   rw [sg5.flags, fa]
   rw [<- ew] at this ⊢
   exact this)
 obtain rfl := hp5 port rfl
 obtain ⟨P5, ip5, tc5⟩ := seen_from (a := OUT) (p := port5) sg5.ends sg5.six sg5.fr sg5.to sg5.data hf ht uOUT ha1 aa wa (werr_p wa hport5).1
 refine ev_opt (b := (sgp ga f t, (true, ()))) (by subst ega; exact seg_ok s2 s3 hf ht lo wa) (ev_opt e5 (ev_opt ip5 (ev_opt tc5 (ev_opt (ev_t rfl (ev_t rfl (ev_t rfl (ev_r rfl)))) (ev_f rfl ?_)))))
 refine ev_opt (b := (true, ())) (by subst ega; exact rSame_self (gp ⟨a0, a1, a2, a3, 24, a5, a6, o, d⟩ port5) lo) (ev_f rfl ?_)
 -- (6) what is said from outside
 have fb : gb.flags = 24 := by subst egb; rfl
 have pb : gb.from' = a1 /\ gb.to = a0 := by subst egb; exact ⟨rfl, rfl⟩
 have w6 := (werr_p wb hport5).2
 obtain ⟨h6, out6, why6, t6, k6', e6, k6, sg6, E6, _⟩ := at_in K5 ht (g := gq gb port5) bs ba w6 bd (by omega)
 have fl6 := sg6.flow
 have pq : (gq gb port5).from' = a1 /\ (gq gb port5).to = port5 := ⟨pb.1, rfl⟩
 rw [pq.1, pq.2] at E6 fl6
 obtain ⟨K6, o6⟩ := enter_one k6 (.inr (.inr rfl)) fl6.symm E6 rfl rfl (v := turn w) (by rw [<- ew]; rfl) (.inr rfl) (T' := [tk1 w 3]) (b := true) (by
   rw [sg6.flags, show (gq gb port5).flags = 24 from fb]
   exact hear_one hroad (.inr rfl) hne (.inr (.inr rfl)) (fl := 24) ⟨by decide, by decide⟩ rfl (b := true) (st' := 3) (by rw [hwt]; rfl))
 have o6 : out6 = swp t6 f a0 16 2 := o6
 subst o6
 obtain ⟨P6, ip6, tc6⟩ := seen_to (a := f) (p := a0) sg6.ends sg6.six sg6.fr sg6.to sg6.data ht uOUT hf bs ba w6 (werr_p w6 hA0).2
 refine ev_opt (b := (sgp (gq gb port5) t OUT, (true, ()))) (by subst egb; exact seg_ok (g := gq ⟨a1, a0, b2, b3, 24, b5, b6, o2, d2⟩ port5) s12 s13 ht uOUT lo2 w6) (ev_opt e6 (ev_opt ip6 (ev_opt tc6 (ev_opt (ev_t rfl (ev_t rfl (ev_t rfl (ev_r rfl)))) (ev_t rfl ?_)))))
 exact ev_opt (b := (true, ())) (by subst egb; exact rSame_self ⟨a1, a0, b2, b3, 24, b5, b6, o2, d2⟩ lo2) (ev_r rfl)
theorem kTopTalk_true {a0 a1 a2 a3 a4 a5 a6 : Int} {o : List TOption} {d : List UInt8} {b0 b1 b2 b3 b4 b5 b6 : Int} {o2 : List TOption} {d2 : List UInt8} {f t : Int} (x0 : -9223372036854775808 <= a0 /\ a0 <= 9223372036854775807) (x1 : -9223372036854775808 <= a1 /\ a1 <= 9223372036854775807) (x2 : 0 <= a2 /\ a2 <= 4294967295) (x3 : 0 <= a3 /\ a3 <= 4294967295) (x4 : -9223372036854775808 <= a4 /\ a4 <= 9223372036854775807) (x5 : -9223372036854775808 <= a5 /\ a5 <= 9223372036854775807) (x6 : -9223372036854775808 <= a6 /\ a6 <= 9223372036854775807) (x7 : BndD 6 (D.st 4 o)) (xu : o.length <= 1048576) (x8 : d.length <= 140737488351232) (y0 : -9223372036854775808 <= b0 /\ b0 <= 9223372036854775807) (y1 : -9223372036854775808 <= b1 /\ b1 <= 9223372036854775807) (y2 : 0 <= b2 /\ b2 <= 4294967295) (y3 : 0 <= b3 /\ b3 <= 4294967295) (y4 : -9223372036854775808 <= b4 /\ b4 <= 9223372036854775807) (y5 : -9223372036854775808 <= b5 /\ b5 <= 9223372036854775807) (y6 : -9223372036854775808 <= b6 /\ b6 <= 9223372036854775807) (y7 : BndD 6 (D.st 4 o2)) (yu : o2.length <= 1048576) (y8 : d2.length <= 140737488351232) (h2 : 0 <= f /\ f <= 4294967295) (h3 : 0 <= t /\ t <= 4294967295) :
 (kTopTalk_tree (a0, (a1, (a2, (a3, (a4, (a5, (a6, (o, (d, (b0, (b1, (b2, (b3, (b4, (b5, (b6, (o2, (d2, (f, (t, ()))))))))))))))))))))).eval = some (true, ()) := talk_law x2 x3 xu x8 y2 y3 yu y8 h2 h3
end Go.Proofs.YthkhikdglmaiaaaGreatDoor.X
namespace Go.Proofs.YthkhikdglmaiaaaGreatDoor.Read
open Go.ChangeShapes Go.WideShapes Go.ChangeAt Go.RowKit
open Go.Proofs.YthkhikdglmaiaaaGreatDoor.Rows (uptoBulk uptoBulkAll)
set_option linter.unusedVariables false
theorem bulk_pos {H : Type} (d : DataW H) : 1 <= uptoBulk d := by
 cases d with
 | lit l => cases l <;> simp [uptoBulk]
 | nil => simp [uptoBulk]
 | ptr d => simp [uptoBulk]
 | slice a b => simp [uptoBulk]
 | agg a => simp [uptoBulk]
 | iface t d => simp [uptoBulk]
 | map m => simp [uptoBulk]
 | held h => simp [uptoBulk]

theorem bulk_mem {H : Type} : ∀ {l : List (DataW H)} {d : DataW H}, d ∈ l -> uptoBulk d <= uptoBulkAll l
 | a :: r, d, hd => by
  simp only [uptoBulkAll]
  rcases List.mem_cons.1 hd with rfl | h
  . omega
  . have := bulk_mem h; omega

theorem bulk_len {H : Type} : ∀ {l : List (DataW H)}, l.length <= uptoBulkAll l
 | [] => by simp
 | a :: r => by
  have := bulk_len (l := r)
  have := bulk_pos a
  simp only [uptoBulkAll, List.length_cons]; omega

def RdU (B : Nat) (P : Program) (w : World) (t : TypeId) (cs : List Value) : Prop :=
 ∃ (H : Type) (enc : TypeId × Value -> H) (fuel : Nat) (x : DataW H × List MemPlace), DataW.trod enc P w 0 (fun _ => true) true fuel t cs = some x /\ (∀ n ∈ x.1.weights P t, n <= reachBytes) /\ uptoBulk x.1 <= B

section
variable {P : Program} {w : World} {t : TypeId} {cs : List Value} {B : Nat}

theorem RdU.rd (h : RdU B P w t cs) : Rd P w t cs := let ⟨H, enc, f, x, h1, h2, _⟩ := h; ⟨H, enc, f, x, h1, h2⟩

theorem RdU.of_trod {H : Type} {enc : TypeId × Value -> H} {v : Value} {d : DataW H} {ps : List MemPlace} (h : DataW.Trod enc P w 0 (fun _ => true) true t v d ps)
  (hz : ∀ n ∈ d.weights P t, n <= reachBytes) (hb : uptoBulk d <= B) : RdU B P w t v.cells.toList := by
 obtain ⟨fuel, hf⟩ := h
 exact ⟨H, enc, fuel, (d, ps), hf, hz, hb⟩

theorem RdU.string (ht : P.underlying t = some .string) (h : RdU B P w t cs) : ∃ s : ByteArray, cs = [.string s] /\ s.size < B := by
 obtain ⟨H, enc, fuel, x, hf, hz, hb⟩ := h
 obtain ⟨s, h1, h2, _⟩ := DataW.trod_string ht hf
 refine ⟨s, h1, ?_⟩
 subst h2
 have e : s.data.toList.length = s.size := by rw [Array.length_toList]; rfl
 simp only [uptoBulk] at hb
 omega

theorem RdU.struct {fs : Array Field} (ht : P.underlying t = some (.struct fs)) (h : RdU B P w t cs) :
   cs.length = P.cellsOf t /\ ∀ (i : Nat) (f : Field), fs[i]? = some f -> RdU B P w f.type ((cs.drop f.offset).take (P.cellsOf f.type)) := by
 obtain ⟨H, enc, fuel, x, hf, hz, hb⟩ := h
 obtain ⟨xs, n, _, rfl, hl, hlen, hfs⟩ := DataW.trod_struct ht hf
 refine ⟨hl, fun i f hi => ?_⟩
 have hi' : i < xs.length := by
   have := (Array.getElem?_eq_some_iff.1 hi).1
   omega
 refine ⟨H, enc, n, xs[i], by rw [hfs i f hi]; exact List.getElem?_eq_getElem hi', fun m hm => hz m ?_, ?_⟩
 . simp only [DataW.weights, ht]
   exact DataW.weights_mem_each (j := i) (t := f.type) (d := xs[i].1) (by simp [hi]) (by simp [hi']) m hm
 . have := bulk_mem (l := xs.map (·.1)) (List.mem_map.2 ⟨xs[i], List.getElem_mem _, rfl⟩)
   simp only [uptoBulk] at hb
   omega

theorem RdU.array {n : Nat} {e : TypeId} (ht : P.underlying t = some (.array n e)) (h : RdU B P w t cs) :
   cs.length = P.cellsOf t /\ ∀ i, i < n -> RdU B P w e ((cs.drop (i * P.cellsOf e)).take (P.cellsOf e)) := by
 obtain ⟨H, enc, fuel, x, hf, hz, hb⟩ := h
 obtain ⟨xs, m, _, rfl, hl, hlen, hfs⟩ := DataW.trod_array ht hf
 refine ⟨hl, fun i hi => ?_⟩
 refine ⟨H, enc, m, xs[i], by rw [hfs i hi]; exact List.getElem?_eq_getElem (by omega), fun q hq => hz q ?_, ?_⟩
 . simp only [DataW.weights, ht]
   exact weightsAll_mem (d := xs[i].1) (List.mem_map.2 ⟨xs[i], List.getElem_mem _, rfl⟩) q hq
 . have := bulk_mem (l := xs.map (·.1)) (List.mem_map.2 ⟨xs[i], List.getElem_mem _, rfl⟩)
   simp only [uptoBulk] at hb
   omega

theorem RdU.slice {e : TypeId} (ht : P.underlying t = some (.slice e)) (h : RdU B P w t cs) :
   ∃ (a : Option Addr) (len cap : Nat), cs = [.slice a len cap] /\ len <= cap /\ cap <= maxLen /\ cap * P.bytesOf e <= 140737488351232 /\ cap <= B /\ (a = none -> cap = 0) /\
   ∀ x, a = some x -> ∀ i, i < cap -> ∃ row, w.cells? 0 (x.add (i * P.cellsOf e)) (P.cellsOf e) = some row /\ RdU B P w e row := by
 obtain ⟨H, enc, fuel, x, hf, hz, hb⟩ := h
 rcases Go.Deep.open_slice ht hf with ⟨rfl, _⟩ | ⟨a, len, cap, m, n, D, Pl, rfl, _, hl, hm, hmm, rfl, hx⟩
 . exact ⟨none, 0, 0, rfl, Nat.le_refl _, Nat.zero_le _, by simp, Nat.zero_le _, fun _ => rfl, fun x hx => by cases hx⟩
 . have hmc : m = cap := by simpa using hmm
   subst hmc
   have e2 : reachBytes = 140737488351232 := by decide
   have hw : m * P.bytesOf e <= reachBytes := by
     refine hz _ ?_
     simp only [DataW.weights, ht, List.length_map, List.length_range]
     rw [show len + (m - len) = m by omega]
     exact List.mem_cons_self
   simp only [uptoBulk] at hb
   have b1 := bulk_len (l := (List.range len).map D)
   have b2 := bulk_len (l := (List.range (m - len)).map fun j => D (len + j))
   simp only [List.length_map, List.length_range] at b1 b2
   refine ⟨some a, len, m, rfl, hl, hm, by omega, by omega, (fun h => by cases h), fun x hxa i hi => ?_⟩
   cases hxa
   obtain ⟨row, h1, h2⟩ := hx i hi
   refine ⟨row, h1, H, enc, n, _, h2, fun q hq => hz q ?_, ?_⟩
   . simp only [DataW.weights, ht, List.mem_cons, List.mem_append]
     right
     by_cases hil : i < len
     . exact Or.inl (weightsAll_mem (d := D i) (List.mem_map.2 ⟨i, List.mem_range.2 hil, rfl⟩) q hq)
     . exact Or.inr (weightsAll_mem (d := D i) (List.mem_map.2 ⟨i - len, List.mem_range.2 (by omega), by rw [show len + (i - len) = i by omega]⟩) q hq)
   . by_cases hil : i < len
     . have := bulk_mem (l := (List.range len).map D) (d := D i) (List.mem_map.2 ⟨i, List.mem_range.2 hil, rfl⟩)
       show uptoBulk (D i) <= B
       omega
     . have := bulk_mem (l := (List.range (m - len)).map fun j => D (len + j)) (d := D i) (List.mem_map.2 ⟨i - len, List.mem_range.2 (by omega), by rw [show len + (i - len) = i by omega]⟩)
       show uptoBulk (D i) <= B
       omega
end
end Go.Proofs.YthkhikdglmaiaaaGreatDoor.Read
namespace Go.Proofs.YthkhikdglmaiaaaGreatDoor.Abs
open Go Go.RowKit
set_option linter.unusedVariables false
theorem len_uptoF {P : Program} {w : World} {U : Nat -> Prop} {B : Nat} {t e : TypeId} {fs : Array Field} {cs : List Value} {ds : List D} {k i : Nat} {f : Field} {xs : List (τ k)} (ht : P.underlying t = some (.struct fs)) (hi : fs[i]? = some f) (hu : P.underlying f.type = some (.slice e))
  (h : Read.RdU B P w t cs) (r : RepAll w U cs ds) (hk : ds[f.offset]? = some (D.st k xs)) : xs.length <= B := by
 obtain ⟨_, hf⟩ := h.struct ht
 obtain ⟨a, len, cap, e1, hl, _, _, hB, _⟩ := (hf i f hi).slice hu
 have hc : cs[f.offset]? = some (.slice a len cap) := by
  have := congrArg (·[0]?) e1
  simp only [List.getElem?_cons_zero] at this
  rw [List.getElem?_take] at this
  split at this
  . rw [List.getElem?_drop] at this; simpa using this
  . cases this
 have h0 : RepI w U (.slice a len cap) (D.st k xs) := RepAll.at r f.offset _ _ hc hk
 obtain ⟨a2, cap2, e2, _⟩ := h0.unst.drop
 injection e2 with _ e3 _
 simp at e3
 omega
end Go.Proofs.YthkhikdglmaiaaaGreatDoor.Abs
namespace Go.Proofs.YthkhikdglmaiaaaGreatDoor.TopTalk
open Go Go.RowKit Go.Proofs.YthkhikdglmaiaaaGreatDoor Go.Proofs.YthkhikdglmaiaaaGreatDoor.Abs
set_option linter.unusedVariables false
set_option maxRecDepth 100000
theorem walk (a0 : Array Value) (a1 : Array Value) (a2 : Int) (a3 : Int) (w : World) (h0 : Read.RdU 1048576 Tryz.prog w 78 a0.toList) (h1 : Read.RdU 1048576 Tryz.prog w 78 a1.toList) (h2 : 0 <= a2 /\ a2 <= 4294967295) (h3 : 0 <= a3 /\ a3 <= 4294967295) (hgl : ∀ e ∈ Abs.globs, ∃ x y, w.heap[e.1]? = some (.cells e.2 x y)) : Calls Tryz.prog 6 #[.agg a0, .agg a1, .int .u32 a2, .int .u32 a3] w fun e w' => e = .returned (.bool true) /\ Below w.heap.size w w' := by
 obtain ⟨x0, r0, b0⟩ := rd_typed (cod := X.cod) (ps := [.i .i64, .i .i64, .i .u32, .i .u32, .i .i64, .i .i64, .i .i64, .st 4, .s]) (by kernel_rfl) (by kernel_rfl) h0.rd
 obtain ⟨v0_0, v0_1, v0_2, v0_3, v0_4, v0_5, v0_6, v0_7, v0_8, ⟨⟩⟩ := x0
 replace b0 : ∀ d ∈ [D.i .i64 v0_0, D.i .i64 v0_1, D.i .u32 v0_2, D.i .u32 v0_3, D.i .i64 v0_4, D.i .i64 v0_5, D.i .i64 v0_6, D.st 4 v0_7, D.s v0_8], BndD 6 d := b0
 replace r0 : RepAll w (fun b => b < w.heap.size) _ [D.i .i64 v0_0, D.i .i64 v0_1, D.i .u32 v0_2, D.i .u32 v0_3, D.i .i64 v0_4, D.i .i64 v0_5, D.i .i64 v0_6, D.st 4 v0_7, D.s v0_8] := r0
 have b0_0 : -9223372036854775808 <= v0_0 /\ v0_0 <= 9223372036854775807 := b0 _ List.mem_cons_self
 have b0_1 : -9223372036854775808 <= v0_1 /\ v0_1 <= 9223372036854775807 := b0 _ (List.mem_cons_of_mem _ List.mem_cons_self)
 have b0_2 : 0 <= v0_2 /\ v0_2 <= 4294967295 := b0 _ (List.mem_cons_of_mem _ (List.mem_cons_of_mem _ List.mem_cons_self))
 have b0_3 : 0 <= v0_3 /\ v0_3 <= 4294967295 := b0 _ (List.mem_cons_of_mem _ (List.mem_cons_of_mem _ (List.mem_cons_of_mem _ List.mem_cons_self)))
 have b0_4 : -9223372036854775808 <= v0_4 /\ v0_4 <= 9223372036854775807 := b0 _ (List.mem_cons_of_mem _ (List.mem_cons_of_mem _ (List.mem_cons_of_mem _ (List.mem_cons_of_mem _ List.mem_cons_self))))
 have b0_5 : -9223372036854775808 <= v0_5 /\ v0_5 <= 9223372036854775807 := b0 _ (List.mem_cons_of_mem _ (List.mem_cons_of_mem _ (List.mem_cons_of_mem _ (List.mem_cons_of_mem _ (List.mem_cons_of_mem _ List.mem_cons_self)))))
 have b0_6 : -9223372036854775808 <= v0_6 /\ v0_6 <= 9223372036854775807 := b0 _ (List.mem_cons_of_mem _ (List.mem_cons_of_mem _ (List.mem_cons_of_mem _ (List.mem_cons_of_mem _ (List.mem_cons_of_mem _ (List.mem_cons_of_mem _ List.mem_cons_self))))))
 have b0_7 : BndD 6 (D.st 4 v0_7) := b0 _ (List.mem_cons_of_mem _ (List.mem_cons_of_mem _ (List.mem_cons_of_mem _ (List.mem_cons_of_mem _ (List.mem_cons_of_mem _ (List.mem_cons_of_mem _ (List.mem_cons_of_mem _ List.mem_cons_self)))))))
 have u0_7 : v0_7.length <= 1048576 := len_uptoF (i := 7) (e := 130) Tryz.underlying78 rfl (by kernel_rfl) h0 r0 rfl
 have b0_8 : v0_8.length <= 140737488351232 := b0 _ (List.mem_cons_of_mem _ (List.mem_cons_of_mem _ (List.mem_cons_of_mem _ (List.mem_cons_of_mem _ (List.mem_cons_of_mem _ (List.mem_cons_of_mem _ (List.mem_cons_of_mem _ (List.mem_cons_of_mem _ List.mem_cons_self))))))))
 obtain ⟨x1, r1, b1⟩ := rd_typed (cod := X.cod) (ps := [.i .i64, .i .i64, .i .u32, .i .u32, .i .i64, .i .i64, .i .i64, .st 4, .s]) (by kernel_rfl) (by kernel_rfl) h1.rd
 obtain ⟨v1_0, v1_1, v1_2, v1_3, v1_4, v1_5, v1_6, v1_7, v1_8, ⟨⟩⟩ := x1
 replace b1 : ∀ d ∈ [D.i .i64 v1_0, D.i .i64 v1_1, D.i .u32 v1_2, D.i .u32 v1_3, D.i .i64 v1_4, D.i .i64 v1_5, D.i .i64 v1_6, D.st 4 v1_7, D.s v1_8], BndD 6 d := b1
 replace r1 : RepAll w (fun b => b < w.heap.size) _ [D.i .i64 v1_0, D.i .i64 v1_1, D.i .u32 v1_2, D.i .u32 v1_3, D.i .i64 v1_4, D.i .i64 v1_5, D.i .i64 v1_6, D.st 4 v1_7, D.s v1_8] := r1
 have b1_0 : -9223372036854775808 <= v1_0 /\ v1_0 <= 9223372036854775807 := b1 _ List.mem_cons_self
 have b1_1 : -9223372036854775808 <= v1_1 /\ v1_1 <= 9223372036854775807 := b1 _ (List.mem_cons_of_mem _ List.mem_cons_self)
 have b1_2 : 0 <= v1_2 /\ v1_2 <= 4294967295 := b1 _ (List.mem_cons_of_mem _ (List.mem_cons_of_mem _ List.mem_cons_self))
 have b1_3 : 0 <= v1_3 /\ v1_3 <= 4294967295 := b1 _ (List.mem_cons_of_mem _ (List.mem_cons_of_mem _ (List.mem_cons_of_mem _ List.mem_cons_self)))
 have b1_4 : -9223372036854775808 <= v1_4 /\ v1_4 <= 9223372036854775807 := b1 _ (List.mem_cons_of_mem _ (List.mem_cons_of_mem _ (List.mem_cons_of_mem _ (List.mem_cons_of_mem _ List.mem_cons_self))))
 have b1_5 : -9223372036854775808 <= v1_5 /\ v1_5 <= 9223372036854775807 := b1 _ (List.mem_cons_of_mem _ (List.mem_cons_of_mem _ (List.mem_cons_of_mem _ (List.mem_cons_of_mem _ (List.mem_cons_of_mem _ List.mem_cons_self)))))
 have b1_6 : -9223372036854775808 <= v1_6 /\ v1_6 <= 9223372036854775807 := b1 _ (List.mem_cons_of_mem _ (List.mem_cons_of_mem _ (List.mem_cons_of_mem _ (List.mem_cons_of_mem _ (List.mem_cons_of_mem _ (List.mem_cons_of_mem _ List.mem_cons_self))))))
 have b1_7 : BndD 6 (D.st 4 v1_7) := b1 _ (List.mem_cons_of_mem _ (List.mem_cons_of_mem _ (List.mem_cons_of_mem _ (List.mem_cons_of_mem _ (List.mem_cons_of_mem _ (List.mem_cons_of_mem _ (List.mem_cons_of_mem _ List.mem_cons_self)))))))
 have u1_7 : v1_7.length <= 1048576 := len_uptoF (i := 7) (e := 130) Tryz.underlying78 rfl (by kernel_rfl) h1 r1 rfl
 have b1_8 : v1_8.length <= 140737488351232 := b1 _ (List.mem_cons_of_mem _ (List.mem_cons_of_mem _ (List.mem_cons_of_mem _ (List.mem_cons_of_mem _ (List.mem_cons_of_mem _ (List.mem_cons_of_mem _ (List.mem_cons_of_mem _ (List.mem_cons_of_mem _ List.mem_cons_self))))))))
 exact law_told X.kTopTalk rfl (x := (v0_0, (v0_1, (v0_2, (v0_3, (v0_4, (v0_5, (v0_6, (v0_7, (v0_8, (v1_0, (v1_1, (v1_2, (v1_3, (v1_4, (v1_5, (v1_6, (v1_7, (v1_8, (a2, (a3, ()))))))))))))))))))))) ⟨(true, ()), X.kTopTalk_true b0_0 b0_1 b0_2 b0_3 b0_4 b0_5 b0_6 b0_7 u0_7 b0_8 b1_0 b1_1 b1_2 b1_3 b1_4 b1_5 b1_6 b1_7 u1_7 b1_8 h2 h3, rfl, rfl⟩ (RepArgs.agg r0 (RepArgs.agg r1 (RepArgs.i (RepArgs.i RepArgs.nil)))) rfl hgl
end Go.Proofs.YthkhikdglmaiaaaGreatDoor.TopTalk
