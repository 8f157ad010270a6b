/- ip.Write, in plain terms; what it has written is read. Conditions: none. -/
import Derived.Test.YtkfpdgibaadmbaaDoorPIp
namespace Go.Proofs.YtkfpdgibaadmbaaDoor.X
open Go Go.RowKit Go.Proofs.YtkfpdgibaadmbaaDoor.Abs Go.Proofs.YtkfpdgibaadmbaaDoor.Bits
set_option linter.unusedVariables false
set_option linter.unnecessarySimpa false
set_option linter.unusedSimpArgs false
set_option maxRecDepth 100000

theorem ipWd_ok (x : Int) : ipWord_fn (x, ()) = some (wd x, ()) := by
  unfold ipWord_fn ipWord_tree
  simp only [wrap8u, fdiv8]
  exact ev_g rfl (ev_g (by (first | (simp; done) | (simp; omega) | omega)) (ev_g (by (first | (simp; done) | (simp; omega) | omega)) (ev_r rfl)))
theorem ipLg_ok (x : Int) : ipLong_fn (x, ()) = some (lg x, ()) := by
  have w8 : ∀ x : Int, UInt8.ofNat (Int.toNat (IntKind.wrap IntKind.u8 x)) = byteOf x := fun x => by rw [wrap8u]; rfl
  have e1 : Int.fdiv x ((2 : Int) ^ (24 : Nat)) = x / 65536 / 256 := by rw [fdiv_pos _ (by decide)]; omega
  unfold ipLong_fn ipLong_tree
  refine ev_g rfl (ev_g rfl (ev_g rfl (ev_g (decide_eq_true (wr8 _)) (ev_g (decide_eq_true (wr8 _)) (ev_g (decide_eq_true (wr8 _)) (ev_g (decide_eq_true (wr8 _)) (ev_r ?_)))))))
  rw [w8, w8, w8, w8, e1, fdiv16, fdiv8]; rfl
/-- A packet's bytes: the first ten; behind the check; the check; all. -/
def ifl (p : TPacket) : Int := p.start + (if p.whole then 16384 else 0) + (if p.more then 8192 else 0)
def iA (p : TPacket) : List UInt8 := [byteOf (64 + (20 + p.options.length) / 4), byteOf p.tos] ++ wd (20 + p.options.length + p.data.length) ++ wd p.id ++ wd (ifl p) ++ [byteOf p.life, byteOf p.proto]
def iB (p : TPacket) : List UInt8 := lg p.from' ++ lg p.to ++ p.options
def ick (p : TPacket) : Int := 65535 - (ear (ws (iA p ++ iB p)) : Int)
def ib (p : TPacket) : List UInt8 := iA p ++ wd (ick p) ++ iB p ++ p.data
theorem iA_len (p : TPacket) : (iA p).length = 10 := by simp [iA]
theorem iB_len (p : TPacket) : (iB p).length = 8 + p.options.length := by simp [iB]; omega
theorem ib_len (p : TPacket) : (ib p).length = 20 + p.options.length + p.data.length := by simp only [ib, List.length_append, iA_len, iB_len, wd_len]; omega
theorem or8192 (x : Int) (h : 0 ≤ x ∧ x ≤ 8191) : bits BinOp.or IntKind.i64 x (8192 : Int) = x + 8192 := by
  have := bits_or_nat .i64 x.toNat 8192 (by show _ < 2 ^ 64; omega) (by decide) (fun _ => ⟨by show _ < 2 ^ 63; omega, by decide⟩)
  rw [show ((x.toNat : Int)) = x by omega] at this
  rw [show ((8192 : Int)) = ((8192 : Nat) : Int) from rfl, this, Nat.or_comm]
  have h2 := Nat.two_pow_add_eq_or_of_lt (show x.toNat < 2 ^ 13 by omega) 1
  rw [show 2 ^ 13 * 1 = 8192 from rfl] at h2
  rw [← h2]; omega
theorem write_bad {p : TPacket} (h : ¬ RefOk p) : ∃ c : Int, c ≠ 0 ∧ ipWrite_fn (p11 p ()) = some ([], (c, ())) := by
  obtain ⟨c, hc, hc0⟩ := refused_fn p
  have : ¬ c = 0 := fun e => h (hc0.1 e)
  refine ⟨c, this, ?_⟩
  unfold ipWrite_fn ipWrite_tree
  exact ev_opt hc (ev_t (by simpa using this) (ev_r rfl))
set_option maxHeartbeats 4000000 in
theorem write_ok {p : TPacket} (h : RefOk p) : ipWrite_fn (p11 p ()) = some (ib p, ((0 : Int), ())) := by
  obtain ⟨c, hc, hc0⟩ := refused_fn p
  have := hc0.2 h
  subst this
  have hd := h.data
  have ho := h.opt
  have w8 : ∀ x : Int, UInt8.ofNat (Int.toNat (IntKind.wrap IntKind.u8 x)) = byteOf x := fun x => by rw [wrap8u]; rfl
  have n1 : IntKind.wrap IntKind.i64 ((20 : Int) + (p.options.length : Int)) = 20 + (p.options.length : Int) := wrap_mid _ (by omega)
  have n2 : IntKind.wrap IntKind.i64 (20 + (p.options.length : Int) + (p.data.length : Int)) = 20 + (p.options.length : Int) + (p.data.length : Int) := wrap_mid _ (by omega)
  have n3 : IntKind.wrap IntKind.i64 (Int.tdiv (20 + (p.options.length : Int)) 4) = (20 + (p.options.length : Int)) / 4 := by rw [Int.tdiv_eq_ediv_of_nonneg (by omega), wrap_mid _ (by omega)]
  have n4 : bits BinOp.or IntKind.i64 (64 : Int) ((20 + (p.options.length : Int)) / 4) = 64 + (20 + (p.options.length : Int)) / 4 := by
    have := bits_or_disjoint .i64 6 1 ((20 + (p.options.length : Int)) / 4) (by omega) (by omega) (by omega) (by show _ < (2 : Int) ^ 64; omega) (fun _ => by show _ < (2 : Int) ^ 63; omega)
    exact this
  have hof := of_fn (iA p ++ iB p) (by simp only [List.length_append, iA_len, iB_len]; unfold Lim; omega)
  have hear := ear_le (ws (iA p ++ iB p))
  have n5 : IntKind.wrap IntKind.i64 (ick p) = ick p := wrap_mid _ (by unfold ick; omega)
  have gl : ∀ {a b c : List UInt8} {n : Nat}, a.length + b.length ≤ 100000 → decide (List.length a + List.length b ≤ (9223372036854775807 : Nat)) = true := fun h => decide_eq_true (by omega)
  have tail : ∀ {k : List UInt8 × Unit → Tr (List UInt8 × (Int × Unit))}, (k (wd (ick p), ())).eval = some (ib p, ((0 : Int), ())) → (Tr.opt (ipWord_fn (IntKind.wrap IntKind.i64 (65535 - (ear (ws (iA p ++ iB p)) : Int)), ())) k).eval = some (ib p, ((0 : Int), ())) := fun {k} hk => by
    show (Tr.opt (ipWord_fn (IntKind.wrap IntKind.i64 (ick p), ())) k).eval = _
    rw [n5]; exact ev_opt (ipWd_ok _) hk
  unfold ipWrite_fn ipWrite_tree
  refine ev_opt hc (ev_f rfl ?_)
  simp only [n1, n2, n3, n4, w8]
  cases hw : p.whole with
  | true =>
    obtain ⟨hm, hs⟩ := h.one hw
    rw [hm, hs]
    have hfl : bits BinOp.or IntKind.i64 (0 : Int) (16384 : Int) = ifl p := by unfold ifl; rw [hw, hm, hs]; rfl
    rw [hfl]
    refine ev_t rfl (ev_f rfl (ev_g rfl (ev_g (decide_eq_true (wr8 _)) (ev_g (decide_eq_true (wr8 _)) (ev_opt (ipWd_ok _) (ev_g (by (first | (simp; done) | (simp; omega) | omega)) (ev_opt (ipWd_ok _) (ev_g (by (first | (simp; done) | (simp; omega) | omega)) (ev_opt (ipWd_ok _) (ev_g (by (first | (simp; done) | (simp; omega) | omega)) (ev_g (decide_eq_true (wr8 _)) (ev_g (decide_eq_true (wr8 _)) (ev_g (by (first | (simp; done) | (simp; omega) | omega)) (ev_opt (ipLg_ok _) (ev_opt (ipLg_ok _) (ev_g (by (first | (simp; done) | (simp; omega) | omega)) (ev_g (by (first | (simp; done) | (simp; omega) | omega)) (ev_g (by (first | (simp; done) | (simp; omega) | omega)) (ev_opt hof (tail (ev_g (by (first | (simp; done) | (simp; omega) | omega)) (ev_g (by (first | (simp; done) | (simp; omega) | omega)) (ev_g (by (first | (simp; done) | (simp; omega) | omega)) (ev_r rfl))))))))))))))))))))))))
  | false =>
    cases hm : p.more with
    | true =>
      have hfl : bits BinOp.or IntKind.i64 p.start (8192 : Int) = ifl p := by rw [or8192 _ h.start]; unfold ifl; rw [hw, hm]; simp
      rw [hfl]
      refine ev_f rfl (ev_t rfl (ev_g rfl (ev_g (decide_eq_true (wr8 _)) (ev_g (decide_eq_true (wr8 _)) (ev_opt (ipWd_ok _) (ev_g (by (first | (simp; done) | (simp; omega) | omega)) (ev_opt (ipWd_ok _) (ev_g (by (first | (simp; done) | (simp; omega) | omega)) (ev_opt (ipWd_ok _) (ev_g (by (first | (simp; done) | (simp; omega) | omega)) (ev_g (decide_eq_true (wr8 _)) (ev_g (decide_eq_true (wr8 _)) (ev_g (by (first | (simp; done) | (simp; omega) | omega)) (ev_opt (ipLg_ok _) (ev_opt (ipLg_ok _) (ev_g (by (first | (simp; done) | (simp; omega) | omega)) (ev_g (by (first | (simp; done) | (simp; omega) | omega)) (ev_g (by (first | (simp; done) | (simp; omega) | omega)) (ev_opt hof (tail (ev_g (by (first | (simp; done) | (simp; omega) | omega)) (ev_g (by (first | (simp; done) | (simp; omega) | omega)) (ev_g (by (first | (simp; done) | (simp; omega) | omega)) (ev_r rfl))))))))))))))))))))))))
    | false =>
      have hfl : p.start = ifl p := by unfold ifl; rw [hw, hm]; simp
      have hA : iA p = [byteOf (64 + (20 + p.options.length) / 4), byteOf p.tos] ++ wd (20 + p.options.length + p.data.length) ++ wd p.id ++ wd p.start ++ [byteOf p.life, byteOf p.proto] := by unfold iA; rw [← hfl]
      rw [hA] at hof
      refine ev_f rfl (ev_f rfl (ev_g rfl (ev_g (decide_eq_true (wr8 _)) (ev_g (decide_eq_true (wr8 _)) (ev_opt (ipWd_ok _) (ev_g (by (first | (simp; done) | (simp; omega) | omega)) (ev_opt (ipWd_ok _) (ev_g (by (first | (simp; done) | (simp; omega) | omega)) (ev_opt (ipWd_ok _) (ev_g (by (first | (simp; done) | (simp; omega) | omega)) (ev_g (decide_eq_true (wr8 _)) (ev_g (decide_eq_true (wr8 _)) (ev_g (by (first | (simp; done) | (simp; omega) | omega)) (ev_opt (ipLg_ok _) (ev_opt (ipLg_ok _) (ev_g (by (first | (simp; done) | (simp; omega) | omega)) (ev_g (by (first | (simp; done) | (simp; omega) | omega)) (ev_g (by (first | (simp; done) | (simp; omega) | omega)) (ev_opt hof ?_)))))))))))))))))))
      rw [← hA]
      refine tail (ev_g (decide_eq_true (by simp only [List.length_append, iA_len, wd_len]; omega)) (ev_g (decide_eq_true (by simp only [List.length_append, iA_len, wd_len, lg_len]; omega)) (ev_g (decide_eq_true (by simp only [List.length_append, iA_len, wd_len, lg_len]; omega)) (ev_r ?_))))
      unfold ib
      rw [hA]; rfl

/-! ### What was written is read -/
theorem ib_at (p : TPacket) : ib p = byteOf (64 + (20 + p.options.length) / 4) :: byteOf p.tos :: (wd (20 + p.options.length + p.data.length) ++ (wd p.id ++ (wd (ifl p) ++ (byteOf p.life :: byteOf p.proto :: (wd (ick p) ++ (lg p.from' ++ (lg p.to ++ (p.options ++ p.data)))))))) := by
  unfold ib iA iB; simp
theorem wAt_at (a b : List UInt8) (x : Int) (i : Nat) (h : a.length = i) : wAt (a ++ (wd x ++ b)) i = x % 65536 := by
  rw [wAt_app_right _ _ _ (by omega), show i - a.length = 0 by omega, wAt_wd]
theorem getD_at (a b : List UInt8) (x : UInt8) (i : Nat) (h : a.length = i) : (a ++ (x :: b)).getD i 0 = x := by
  rw [List.getD_eq_getElem?_getD, List.getElem?_append_right (by omega), show i - a.length = 0 by omega]; rfl
structure AdrOk (p : TPacket) : Prop where
  f : 0 ≤ p.from' ∧ p.from' ≤ 4294967295
  t : 0 ≤ p.to ∧ p.to ≤ 4294967295
set_option maxHeartbeats 2000000 in
theorem ib_read {p : TPacket} (h : RefOk p) (ha : AdrOk p) (z : List UInt8) : IpOk (ib p ++ z) ∧ pk (ib p ++ z) = p ∧ hn (ib p ++ z) = 20 + p.options.length ∧ alln (ib p ++ z) = 20 + p.options.length + p.data.length := by
  have hd := h.data; have ho := h.opt; have h4 := h.four; have hid := h.id; have hst := h.start; have hto := h.tos; have hli := h.life; have hpr := h.proto
  obtain ⟨hf, ht⟩ := ha
  have hear := ear_le (ws (iA p ++ iB p))
  have B : ib p ++ z = byteOf (64 + (20 + p.options.length) / 4) :: byteOf p.tos :: (wd (20 + p.options.length + p.data.length) ++ (wd p.id ++ (wd (ifl p) ++ (byteOf p.life :: byteOf p.proto :: (wd (ick p) ++ (lg p.from' ++ (lg p.to ++ (p.options ++ (p.data ++ z))))))))) := by
    rw [ib_at]; simp
  have hle : (ib p ++ z).length = 20 + p.options.length + p.data.length + z.length := by rw [List.length_append, ib_len]
  have b0 : (ib p ++ z).getD 0 0 = byteOf (64 + (20 + p.options.length) / 4) := by rw [B]; rfl
  have b1 : (ib p ++ z).getD 1 0 = byteOf p.tos := by rw [B]; rfl
  have b8 : (ib p ++ z).getD 8 0 = byteOf p.life := by rw [B]; rfl
  have b9 : (ib p ++ z).getD 9 0 = byteOf p.proto := by rw [B]; rfl
  have w2 : wAt (ib p ++ z) 2 = (20 + p.options.length + p.data.length : Int) := by
    have : wAt (ib p ++ z) 2 = (20 + p.options.length + p.data.length : Int) % 65536 := by rw [B]; exact wv_wd _
    omega
  have w4 : wAt (ib p ++ z) 4 = p.id := by
    have : wAt (ib p ++ z) 4 = p.id % 65536 := by rw [B]; exact wv_wd _
    omega
  have hfl : 0 ≤ ifl p ∧ ifl p < 32768 ∧ ifl p % 8192 = p.start ∧ (decide (ifl p / 16384 % 2 = 1)) = p.whole ∧ (decide (ifl p / 8192 % 2 = 1)) = p.more := by
    have hone := h.one
    unfold ifl
    cases hw : p.whole with
    | true =>
      obtain ⟨e1, e2⟩ := hone hw
      rw [e1, e2]; decide
    | false =>
      cases hm : p.more with
      | true => simp; omega
      | false => simp; omega
  obtain ⟨fl0, fl1, fl2, fl3, fl4⟩ := hfl
  have w6 : wAt (ib p ++ z) 6 = ifl p := by
    have : wAt (ib p ++ z) 6 = ifl p % 65536 := by rw [B]; exact wv_wd _
    omega
  have l12 : lAt (ib p ++ z) 12 = p.from' := by
    have e1 : wAt (ib p ++ z) 12 = p.from' / 65536 % 65536 := by rw [B]; exact wv_wd _
    have e2 : wAt (ib p ++ z) (12 + 2) = p.from' % 65536 := by rw [B]; exact wv_wd _
    unfold lAt; rw [e1, e2]; omega
  have l16 : lAt (ib p ++ z) 16 = p.to := by
    have e1 : wAt (ib p ++ z) 16 = p.to / 65536 % 65536 := by rw [B]; exact wv_wd _
    have e2 : wAt (ib p ++ z) (16 + 2) = p.to % 65536 := by rw [B]; exact wv_wd _
    unfold lAt; rw [e1, e2]; omega
  have n0 := byteOf_nat (64 + (20 + p.options.length) / 4)
  have n1 := byteOf_nat p.tos; have n8 := byteOf_nat p.life; have n9 := byteOf_nat p.proto
  have ehn : hn (ib p ++ z) = 20 + p.options.length := by unfold hn; rw [b0]; omega
  have eal : alln (ib p ++ z) = 20 + p.options.length + p.data.length := by unfold alln; rw [w2]; omega
  have tk : (ib p ++ z).take (20 + p.options.length) = iA p ++ wd (ick p) ++ iB p := by
    unfold ib
    rw [List.append_assoc, List.take_left' (by simp only [List.length_append, iA_len, iB_len, wd_len]; omega)]
  have ta : (ib p ++ z).take (20 + p.options.length + p.data.length) = ib p := List.take_left' (ib_len p)
  have dr : (ib p).drop (20 + p.options.length) = p.data := by
    unfold ib; exact List.drop_left' (by simp only [List.length_append, iA_len, iB_len, wd_len]; omega)
  have dro : (iA p ++ wd (ick p) ++ iB p).drop 20 = p.options := by
    unfold iB
    rw [← List.append_assoc]
    exact List.drop_left' (by simp [iA_len])
  have epk : pk (ib p ++ z) = p := by
    unfold pk
    rw [ehn, eal, tk, ta, dr, dro, l12, l16, b1, b8, b9, w4, w6, fl2, fl3, fl4, n1, n8, n9]
    rw [show p.tos % 256 = p.tos by omega, show p.life % 256 = p.life by omega, show p.proto % 256 = p.proto by omega]
  have h1 := ws_app (iA p) (iB p) (by rw [iA_len])
  have h2 := ws_app (iA p ++ wd (ick p)) (iB p) (by simp only [List.length_append, iA_len, wd_len])
  have h3 := ws_app (iA p) (wd (ick p)) (by rw [iA_len])
  have h5 := ws_wd (ick p)
  have e0 : ick p = 65535 - (ear (ws (iA p ++ iB p)) : Int) := rfl
  have h8 := ear_mod (ws (iA p ++ iB p))
  have hpos : 256 ≤ ws (iA p) := by
    have : ws (iA p) = (byteOf (64 + (20 + p.options.length) / 4)).toNat * 256 + (byteOf p.tos).toNat + ws (wd (20 + p.options.length + p.data.length) ++ wd p.id ++ wd (ifl p) ++ [byteOf p.life, byteOf p.proto]) := rfl
    omega
  have s0 : ws (iA p ++ wd (ick p) ++ iB p) ≠ 0 := by omega
  have s1 : ws (iA p ++ wd (ick p) ++ iB p) % 65535 = 0 := by
    clear B hle b0 b1 b8 b9 w2 w4 w6 l12 l16 n0 n1 n8 n9 tk ta dr dro epk
    omega
  exact ⟨⟨by omega, by omega, by omega, by rw [b0]; omega, by omega, by omega, by omega, by rw [epk]; exact h, by rw [ehn, tk]; exact s0, by rw [ehn, tk]; exact s1⟩, epk, ehn, eal⟩
end Go.Proofs.YtkfpdgibaadmbaaDoor.X
