/- The law SwapSame, in plain terms. Conditions: none. -/
import Derived.Test.YtkfpdgibaadmbaaPSwapL
import Derived.Test.YtkfpdgibaadmbaaPIpW
import Derived.Test.YtkfpdgibaadmbaaAbsQu
namespace Go.Proofs.Ytkfpdgibaadmbaa.X
open Go Go.RowKit Go.Proofs.Ytkfpdgibaadmbaa.Abs Go.Proofs.Ytkfpdgibaadmbaa.Bits
set_option linter.unusedVariables false
set_option linter.unnecessarySimpa false
set_option linter.unusedSimpArgs false
set_option maxRecDepth 100000

theorem setW_at (a b : List UInt8) (x y : Int) (i : Nat) (h : a.length = i) : setW (a ++ (wd x ++ b)) i y = a ++ (wd y ++ b) := by
  have := setW_app_right a (wd x ++ b) 0 y
  rw [Nat.add_zero, h] at this
  rw [this]; rfl
theorem wd_mod (x : Int) : wd (x % 65536) = wd x := by
  unfold wd byteOf
  rw [show x % 65536 / 256 % 256 = x / 256 % 256 by omega, show x % 65536 % 256 = x % 256 by omega]
theorem same_low {a b : Int} (ha : 0 ≤ a ∧ a ≤ 65534) (hb : 0 ≤ b ∧ b ≤ 65534) (h : (a - b) % 65535 = 0) : a = b := by omega
theorem same_up {a b : Int} (ha : 1 ≤ a ∧ a ≤ 65535) (hb : 1 ≤ b ∧ b ≤ 65535) (h : (a - b) % 65535 = 0) : a = b := by omega
/-- A packet that is made here. -/
def mkp (pr f t : Int) (d : List UInt8) : TPacket := ⟨0, 0, false, false, 0, 9, pr, f, t, [], d⟩
theorem mkp_ref {pr f t : Int} {d : List UInt8} (hp : 0 ≤ pr ∧ pr ≤ 255) (hd : d.length ≤ 65515) : RefOk (mkp pr f t d) :=
  ⟨(by show (0 : Int) ≤ 0 ∧ (0 : Int) ≤ 255; decide), (by show (0 : Int) ≤ 9 ∧ (9 : Int) ≤ 255; decide), hp, (by show (0 : Int) ≤ 0 ∧ (0 : Int) ≤ 65535; decide), (by show (0 : Int) ≤ 0 ∧ (0 : Int) ≤ 8191; decide), (by show (0 : Nat) ≤ 40; decide), rfl, (fun h => by have h' : false = true := h; cases h'), (by show 0 + d.length ≤ 65515; omega)⟩
theorem lin_mod {k k1 k2 F1 F2 A1 A2 W B1 B2 : Int} (m : (k - k1 - (F1 - A1) - (F2 - A2)) % 65535 = 0) (c : (k1 + W + B1) % 65535 = 0) (e : (k2 + W + B2) % 65535 = 0) (h : B1 - B2 = F1 + F2 - A1 - A2) : (k - k2) % 65535 = 0 := by
  have : k - k2 = (k - k1 - (F1 - A1) - (F2 - A2)) + (k1 + W + B1) - (k2 + W + B2) := by omega
  omega
theorem ick_low {p : TPacket} (hr : RefOk p) : 0 ≤ ick p ∧ ick p ≤ 65534 ∧ (ick p + ws (iA p) + ws (iB p)) % 65535 = 0 := by
  have h1 := ws_app (iA p) (iB p) (by rw [iA_len])
  have h2 := ear_le (ws (iA p ++ iB p)); have h3 := ear_mod (ws (iA p ++ iB p)); have h4 := ear_zero (ws (iA p ++ iB p))
  have ho := hr.opt
  have hpos : 1 ≤ ws (iA p) := by
    have e : ws (iA p) = (byteOf (64 + (20 + p.options.length) / 4)).toNat * 256 + (byteOf p.tos).toNat + ws (wd (20 + p.options.length + p.data.length) ++ wd p.id ++ wd (ifl p) ++ [byteOf p.life, byteOf p.proto]) := rfl
    have n0 := byteOf_nat (64 + (20 + p.options.length) / 4)
    omega
  unfold ick
  omega
theorem ws_iB (p : TPacket) (h : p.options = []) : (ws (iB p) : Int) = p.from' / 65536 % 65536 + p.from' % 65536 + (p.to / 65536 % 65536 + p.to % 65536) := by
  have h1 := ws_app (lg p.from') (lg p.to) (by simp)
  have e : iB p = lg p.from' ++ lg p.to := by unfold iB; rw [h, List.append_nil]
  have l1 : (ws (lg p.from') : Int) = p.from' / 65536 % 65536 + p.from' % 65536 := by unfold lg; rw [ws_wd_app, ws_wd]
  have l2 : (ws (lg p.to) : Int) = p.to / 65536 % 65536 + p.to % 65536 := by unfold lg; rw [ws_wd_app, ws_wd]
  rw [e]; omega
/-- A head's other sender. -/
theorem head_swap {pr f t a : Int} {d d' : List UInt8} (hpr : 0 ≤ pr ∧ pr ≤ 255) (hd : d.length ≤ 65515) (hdd : d'.length = d.length) (hf : U32 f) (ha : U32 a) :
    gNew (iA (mkp pr f t d) ++ wd (ick (mkp pr f t d)) ++ iB (mkp pr f t d)) a 12 = iA (mkp pr a t d') ++ wd (ick (mkp pr a t d')) ++ iB (mkp pr a t d') ∧
    wAt (iA (mkp pr f t d) ++ wd (ick (mkp pr f t d)) ++ iB (mkp pr f t d)) 12 = f / 65536 ∧ wAt (iA (mkp pr f t d) ++ wd (ick (mkp pr f t d)) ++ iB (mkp pr f t d)) 14 = f % 65536 := by
  have r1 := mkp_ref (f := f) (t := t) hpr hd
  have r2 := mkp_ref (pr := pr) (f := a) (t := t) (d := d') hpr (by omega)
  obtain ⟨c1, c2, c3⟩ := ick_low r1
  obtain ⟨e1, e2, e3⟩ := ick_low r2
  have eA : iA (mkp pr a t d') = iA (mkp pr f t d) := by unfold iA mkp ifl; simp only [hdd]
  rw [eA] at e3 ⊢
  have b1 := ws_iB (mkp pr f t d) rfl
  have b2 := ws_iB (mkp pr a t d') rfl
  have hB1 : iB (mkp pr f t d) = wd (f / 65536) ++ (wd f ++ lg t) := by unfold iB mkp lg; simp
  have hB2 : iB (mkp pr a t d') = wd (a / 65536) ++ (wd a ++ lg t) := by unfold iB mkp lg; simp
  have lA := iA_len (mkp pr f t d)
  generalize iA (mkp pr f t d) = A at *
  generalize hk1 : ick (mkp pr f t d) = k1 at *
  generalize hk2 : ick (mkp pr a t d') = k2 at *
  have eg : A ++ wd k1 ++ iB (mkp pr f t d) = A ++ (wd k1 ++ (wd (f / 65536) ++ (wd f ++ lg t))) := by rw [hB1, List.append_assoc]
  have q10 : wAt (A ++ wd k1 ++ iB (mkp pr f t d)) 10 = k1 := by
    rw [eg, wAt_k _ _ _ _ lA]; omega
  have q12 : wAt (A ++ wd k1 ++ iB (mkp pr f t d)) 12 = f / 65536 := by
    rw [eg, ← List.append_assoc, wAt_k _ _ _ _ (by simp [lA])]; unfold U32 at hf; omega
  have q14 : wAt (A ++ wd k1 ++ iB (mkp pr f t d)) 14 = f % 65536 := by
    rw [eg, ← List.append_assoc, ← List.append_assoc, wAt_k _ _ _ _ (by simp [lA])]
  refine ⟨?_, q12, q14⟩
  obtain ⟨k, uk, ek, mk, lk⟩ := gNew_eq (g := A ++ wd k1 ++ iB (mkp pr f t d)) (a := a) (i := 12) ha (.inl rfl) (by rw [eg]; simp [lA])
  rw [ek]
  rw [q10, q12, show (12 + 2 : Nat) = 14 from rfl, q14] at mk
  rw [q10] at lk
  have hk : k = k2 := by
    refine same_low ⟨uk.1, lk c2⟩ ⟨e1, e2⟩ ?_
    have bf : (mkp pr f t d).from' = f := rfl
    have bt : (mkp pr f t d).to = t := rfl
    have bf2 : (mkp pr a t d').from' = a := rfl
    have bt2 : (mkp pr a t d').to = t := rfl
    rw [bf, bt] at b1
    rw [bf2, bt2] at b2
    refine lin_mod mk c3 e3 ?_
    rw [b1, b2, show f / 65536 % 65536 = f / 65536 by unfold U32 at hf; omega, show a / 65536 % 65536 = a / 65536 by unfold U32 at ha; omega]
    generalize f / 65536 = F1; generalize f % 65536 = F2; generalize a / 65536 = A1; generalize a % 65536 = A2; generalize t / 65536 % 65536 = T1; generalize t % 65536 = T2
    omega
  rw [hk, eg]
  have s1 : setW (A ++ (wd k1 ++ (wd (f / 65536) ++ (wd f ++ lg t)))) 12 (a / 65536) = A ++ wd k1 ++ (wd (a / 65536) ++ (wd f ++ lg t)) := by
    rw [← List.append_assoc, setW_at _ _ _ _ _ (by simp [lA])]
  have s2 : setW (A ++ wd k1 ++ (wd (a / 65536) ++ (wd f ++ lg t))) (12 + 2) (a % 65536) = A ++ wd k1 ++ wd (a / 65536) ++ (wd a ++ lg t) := by
    rw [← List.append_assoc (A ++ wd k1), setW_at _ _ _ _ _ (by simp [lA]), wd_mod]
  have s3 : setW (A ++ wd k1 ++ wd (a / 65536) ++ (wd a ++ lg t)) 10 k2 = A ++ (wd k2 ++ (wd (a / 65536) ++ (wd a ++ lg t))) := by
    rw [show A ++ wd k1 ++ wd (a / 65536) ++ (wd a ++ lg t) = A ++ (wd k1 ++ (wd (a / 65536) ++ (wd a ++ lg t))) by simp, setW_at _ _ _ _ _ lA]
  rw [s1, s2, s3, hB2]
  simp
theorem made_end {pr f t : Int} {d : List UInt8} (hpr : pr = 6 ∨ pr = 17) (hf : U32 f) (ht : U32 t) (hd : d.length ≤ 65515) (h6 : pr = 6 → TcOk d f t) (h17 : pr = 17 → DgOk d f t) :
    EndOk (ib (mkp pr f t d)) ∧ pk (ib (mkp pr f t d)) = mkp pr f t d ∧ hn (ib (mkp pr f t d)) = 20 ∧ (ib (mkp pr f t d)).take 20 = iA (mkp pr f t d) ++ wd (ick (mkp pr f t d)) ++ iB (mkp pr f t d) ∧ ((ib (mkp pr f t d)).getD 9 0).toNat = pr.toNat ∧ (ib (mkp pr f t d)).length = 20 + d.length := by
  have hr := mkp_ref (pr := pr) (f := f) (t := t) (d := d) (by omega) hd
  obtain ⟨i1, i2, i3, i4⟩ := ib_read hr ⟨hf, ht⟩ []
  rw [List.append_nil] at i1 i2 i3 i4
  have hp : ((ib (mkp pr f t d)).getD 9 0).toNat = pr.toNat := by
    have e : (pk (ib (mkp pr f t d))).proto = pr := by rw [i2]; rfl
    have e2 : (pk (ib (mkp pr f t d))).proto = (((ib (mkp pr f t d)).getD 9 0).toNat : Int) := rfl
    omega
  refine ⟨⟨i1, by omega, by rw [i2]; exact ⟨rfl, rfl⟩, fun h => by rw [i2]; exact h6 (by omega), fun h => by rw [i2]; exact h17 (by omega)⟩, i2, i3, ?_, hp, ?_⟩
  · unfold ib
    exact List.take_left' (by simp only [List.length_append, iA_len, iB_len, wd_len]; rfl)
  · rw [ib_len]; show 20 + 0 + d.length = _; omega

/-! ### Segments -/
theorem tc_made {g : TSegment} {f t : Int} (hf : U32 f) (ht : U32 t) (hs : U32 g.seq) (ha : U32 g.ack) (hw : werr g = 0) : TcOk (sb g f t) f t ∧ (sb g f t).length ≤ 65515 := by
  have h8 := (werr_in hw).2.2.2.2.2.2.2
  have h7 := (werr_in hw).2.2.2.2.2.2.1
  have pl := pad_len (obs g.options)
  have hl := sb_len g f t
  have hle : (sb g f t).length ≤ 65515 := by omega
  refine ⟨?_, hle⟩
  refine Classical.byContradiction fun hn => ?_
  obtain ⟨e, he, hr⟩ := tc_bad hf ht (by unfold Lim; omega) hn
  rw [tcRead_sb g f t hf ht hs ha hw] at hr
  have := congrArg (fun o => o.map (fun x : (Int × (Int × (Int × (Int × (Int × (Int × (Int × ((List TOption) × ((List UInt8) × (Int × Unit)))))))))) => x.2.2.2.2.2.2.2.2.2.1)) hr
  simp only [Option.map_some, Option.some.injEq] at this
  exact he this.symm
def gp (g : TSegment) (p : Int) : TSegment := ⟨p, g.to, g.seq, g.ack, g.flags, g.window, g.urgent, g.options, g.data⟩
theorem seg_data {g : TSegment} {f t a p : Int} (hf : U32 f) (ha : U32 a) (hw : werr g = 0) (hw2 : werr (gp g p) = 0) (G : List UInt8) (hG : 20 ≤ G.length) (q12 : wAt G 12 = f / 65536) (q14 : wAt G 14 = f % 65536) :
    dNew false G (sb g f t) a p 12 0 16 = sb (gp g p) a t := by
  have hp : U16 p := (werr_in hw2).1
  have hgp := (werr_in hw).1
  have hl := sb_len g f t
  obtain ⟨k, uk, ek, _, mk⟩ := dNew_eq (udp := false) (g := G) (d := sb g f t) (a := a) (p := p) (i := 12) (off := 0) (c := 16) ha hp (.inl rfl) hG (by omega) (by omega)
  obtain ⟨m1, _, m3⟩ := mk (by rintro ⟨h, _⟩; cases h)
  have eB : sB (gp g p) = sB g := rfl
  have en : sn (gp g p) = sn g := rfl
  have A : ∀ (g : TSegment) (c n : Int), sA g n ++ wd c ++ sB g = wd g.from' ++ (wd g.to ++ lg g.seq ++ lg g.ack ++ [byteOf (n * 4), byteOf g.flags] ++ wd g.window ++ (wd c ++ sB g)) := fun g c n => by unfold sA; simp
  have w0 : wAt (sb g f t) 0 = g.from' := by
    unfold sb; rw [A]
    have := wAt_k [] (wd g.to ++ lg g.seq ++ lg g.ack ++ [byteOf (sn g * 4), byteOf g.flags] ++ wd g.window ++ (wd (sc g f t) ++ sB g)) g.from' 0 rfl
    rw [List.nil_append] at this; rw [this]; omega
  have ear1 := ear_le (ws (under f t 6 (sn g + g.data.length) ++ sA g (sn g) ++ sB g))
  have ear2 := ear_le (ws (under a t 6 (sn g + g.data.length) ++ sA (gp g p) (sn g) ++ sB g))
  have z1 := ear_zero (ws (under f t 6 (sn g + g.data.length) ++ sA g (sn g) ++ sB g))
  have z2 := ear_zero (ws (under a t 6 (sn g + g.data.length) ++ sA (gp g p) (sn g) ++ sB g))
  have md1 := ear_mod (ws (under f t 6 (sn g + g.data.length) ++ sA g (sn g) ++ sB g))
  have md2 := ear_mod (ws (under a t 6 (sn g + g.data.length) ++ sA (gp g p) (sn g) ++ sB g))
  have s1 : sc g f t = 65535 - (ear (ws (under f t 6 (sn g + g.data.length) ++ sA g (sn g) ++ sB g)) : Int) := rfl
  have s2 : sc (gp g p) a t = 65535 - (ear (ws (under a t 6 (sn g + g.data.length) ++ sA (gp g p) (sn g) ++ sB g)) : Int) := rfl
  have v1 := ws_under f t 6 (sn g + g.data.length) (sA g (sn g) ++ sB g)
  have v2 := ws_under a t 6 (sn g + g.data.length) (sA (gp g p) (sn g) ++ sB g)
  rw [← List.append_assoc] at v1 v2
  have p1 := uw6 f t (sn g + g.data.length); have p2 := uw6 a t (sn g + g.data.length)
  have x1 := ws_app (sA g (sn g)) (sB g) (by rw [sA_len]); have x2 := ws_app (sA (gp g p) (sn g)) (sB g) (by rw [sA_len])
  have y1 : (ws (sA g (sn g)) : Int) = g.from' % 65536 + ws (wd g.to ++ lg g.seq ++ lg g.ack ++ [byteOf (sn g * 4), byteOf g.flags] ++ wd g.window) := by
    rw [show sA g (sn g) = wd g.from' ++ (wd g.to ++ lg g.seq ++ lg g.ack ++ [byteOf (sn g * 4), byteOf g.flags] ++ wd g.window) by unfold sA; simp]; exact ws_wd_app _ _
  have y2 : (ws (sA (gp g p) (sn g)) : Int) = p % 65536 + ws (wd g.to ++ lg g.seq ++ lg g.ack ++ [byteOf (sn g * 4), byteOf g.flags] ++ wd g.window) := by
    rw [show sA (gp g p) (sn g) = wd p ++ (wd g.to ++ lg g.seq ++ lg g.ack ++ [byteOf (sn g * 4), byteOf g.flags] ++ wd g.window) by unfold sA gp; simp]; exact ws_wd_app _ _
  have uu := uw_from (w := f / 65536) (v := f % 65536) t a 6 (sn g + g.data.length) ha (by unfold U32 at hf; omega) (by omega)
  rw [show f / 65536 * 65536 + f % 65536 = f by omega] at uu
  have w16 : wAt (sb g f t) 16 = sc g f t := by
    unfold sb; rw [List.append_assoc, wAt_k _ _ _ _ (sA_len g (sn g)), s1]; omega
  have hk : k = sc (gp g p) a t := by
    rw [w16] at m1 m3
    rw [w0, q12, show (12 + 2 : Nat) = 14 from rfl, q14] at m1
    generalize ws (under f t 6 (sn g + g.data.length) ++ sA g (sn g) ++ sB g) = N1 at *
    generalize ws (under a t 6 (sn g + g.data.length) ++ sA (gp g p) (sn g) ++ sB g) = N2 at *
    have n1 : N1 ≠ 0 := by omega
    have n2 : N2 ≠ 0 := by omega
    have h2 : sc (gp g p) a t ≤ 65534 := by have := mt z2.1 n2; omega
    have h1 : sc g f t ≤ 65534 := by have := mt z1.1 n1; omega
    refine same_low ⟨uk.1, m3 rfl h1⟩ ⟨by omega, h2⟩ ?_
    rw [u16_mod hp] at y2
    rw [show g.from' % 65536 = g.from' by omega] at y1
    have e1 : (sc g f t + N1) % 65535 = 0 := by omega
    have e2 : (sc (gp g p) a t + N2) % 65535 = 0 := by omega
    have e3 : (N2 : Int) - N1 = (a / 65536 - f / 65536) + (a % 65536 - f % 65536) + (p - g.from') := by omega
    clear v1 v2 x1 x2 y1 y2 uu md1 md2 z1 z2 ear1 ear2 s1 s2 p1 p2 w16 w0 ek A
    omega
  rw [ek, hk]
  unfold sb
  rw [A g, A (gp g p)]
  have t1 : setW (wd g.from' ++ (wd g.to ++ lg g.seq ++ lg g.ack ++ [byteOf (sn g * 4), byteOf g.flags] ++ wd g.window ++ (wd (sc g f t) ++ sB g))) 0 p = wd p ++ (wd g.to ++ lg g.seq ++ lg g.ack ++ [byteOf (sn g * 4), byteOf g.flags] ++ wd g.window ++ (wd (sc g f t) ++ sB g)) := rfl
  rw [t1]
  have t2 : wd p ++ (wd g.to ++ lg g.seq ++ lg g.ack ++ [byteOf (sn g * 4), byteOf g.flags] ++ wd g.window ++ (wd (sc g f t) ++ sB g)) = (wd p ++ (wd g.to ++ lg g.seq ++ lg g.ack ++ [byteOf (sn g * 4), byteOf g.flags] ++ wd g.window)) ++ (wd (sc g f t) ++ sB g) := by simp
  rw [t2, setW_at _ _ _ _ _ (by simp)]
  show _ = wd p ++ (wd g.to ++ lg g.seq ++ lg g.ack ++ [byteOf (sn g * 4), byteOf g.flags] ++ wd g.window ++ (wd (sc (gp g p) a t) ++ sB g))
  simp
/-- What was written with one name, and got another one. -/
theorem seg_from {g : TSegment} {f t a p : Int} (hf : U32 f) (ht : U32 t) (ha : U32 a) (hs : U32 g.seq) (hk : U32 g.ack) (hw : werr g = 0) (hw2 : werr (gp g p) = 0) :
    swFrom_fn (ib (mkp 6 f t (sb g f t)), (a, (p, ()))) = some (ib (mkp 6 a t (sb (gp g p) a t)), ((0 : Int), ())) := by
  obtain ⟨h1, h2⟩ := tc_made hf ht hs hk hw
  obtain ⟨e1, e2, e3, e4, e5, e6⟩ := made_end (pr := 6) (.inl rfl) hf ht h2 (fun _ => h1) (fun h => by cases h)
  have hp : U16 p := (werr_in hw2).1
  have hl2 : (sb (gp g p) a t).length = (sb g f t).length := by rw [sb_len, sb_len]; rfl
  obtain ⟨q1, q2, q3⟩ := head_swap (pr := 6) (t := t) (d' := sb (gp g p) a t) (by decide) h2 hl2 hf ha
  rw [from_ok e1 (by rw [e6]; unfold Lim; omega) ha hp]
  have hc : cOf (ib (mkp 6 f t (sb g f t))) = 16 := by unfold cOf; rw [if_neg (by rw [e5]; decide)]
  have hu : udpB (ib (mkp 6 f t (sb g f t))) = false := by unfold udpB; rw [decide_eq_false (by rw [e5]; decide)]
  unfold swp
  rw [e2, e3, e4, hc, hu, q1]
  show some (_ ++ dNew false _ (sb g f t) a p 12 0 16, _) = _
  rw [seg_data hf ha hw hw2 _ (by simp [iA_len, iB_len]; omega) q2 q3]
  rfl

/-! ### Letters -/
theorem dg_made {x y : Int} {d : List UInt8} {f t : Int} (hx : U16 x) (hy : U16 y) (hd : d.length ≤ 65507) (hf : U32 f) (ht : U32 t) : DgOk (lb x y d (lc f t x y d)) f t := by
  obtain ⟨c1, c2, c3⟩ := lc_ok f t x y d ⟨hx.1, hx.2, hy.1, hy.2⟩ hd
  refine Classical.byContradiction fun hn => ?_
  have hl : (lb x y d (lc f t x y d)).length ≤ Lim := by rw [lb_len]; unfold Lim; omega
  obtain ⟨e, he, hr⟩ := dg_bad hf ht hl hn
  rw [dgRead_ok _ f t hl hf ht, rd_lb x y d _ f t ⟨hx.1, hx.2, hy.1, hy.2⟩ hd ⟨c1, c2⟩ c3] at hr
  have := congrArg (fun o => o.map (fun x : (Int × (Int × (List UInt8 × (Int × Unit)))) => x.2.2.2.1)) hr
  simp only [Option.map_some, Option.some.injEq] at this
  exact he this.symm
theorem let_data {x y : Int} {d : List UInt8} {f t a p : Int} (hx : U16 x) (hy : U16 y) (hp : U16 p) (hd : d.length ≤ 65507) (hf : U32 f) (ha : U32 a) (G : List UInt8) (hG : 20 ≤ G.length) (q12 : wAt G 12 = f / 65536) (q14 : wAt G 14 = f % 65536) :
    dNew true G (lb x y d (lc f t x y d)) a p 12 0 6 = lb p y d (lc a t p y d) := by
  obtain ⟨c1, c2, c3⟩ := lc_ok f t x y d ⟨hx.1, hx.2, hy.1, hy.2⟩ hd
  obtain ⟨f1, f2, f3⟩ := lc_ok a t p y d ⟨hp.1, hp.2, hy.1, hy.2⟩ hd
  have hl := lb_len x y d (lc f t x y d)
  obtain ⟨w0, w2, w4, w6⟩ := wAt_lb x y d (lc f t x y d)
  obtain ⟨k, uk, ek, _, mk⟩ := dNew_eq (udp := true) (g := G) (d := lb x y d (lc f t x y d)) (a := a) (p := p) (i := 12) (off := 0) (c := 6) ha hp (.inl rfl) hG (by omega) (by omega)
  obtain ⟨m1, m2, _⟩ := mk (by rintro ⟨_, h⟩; rw [w6] at h; omega)
  have k0 := m2 rfl
  have s1 := ws_lb x y d (lc f t x y d)
  have s2 := ws_lb p y d (lc a t p y d)
  have uu := uw_from (w := f / 65536) (v := f % 65536) t a 17 (8 + d.length) ha (by unfold U32 at hf; omega) (by omega)
  rw [show f / 65536 * 65536 + f % 65536 = f by omega] at uu
  have hk : k = lc a t p y d := by
    refine same_up ⟨by unfold U16 at uk; omega, uk.2⟩ ⟨f1, f2⟩ ?_
    rw [w0, w6, q12, show (12 + 2 : Nat) = 14 from rfl, q14] at m1
    rw [u16_mod hx, show lc f t x y d % 65536 = lc f t x y d by omega] at m1 s1
    rw [u16_mod hp, show lc a t p y d % 65536 = lc a t p y d by omega] at s2
    generalize lc f t x y d = L1 at *
    generalize lc a t p y d = L2 at *
    have e : (uw a t 17 (8 + d.length) + ws (lb p y d L2)) - (uw f t 17 (8 + d.length) + ws (lb x y d L1)) = (a / 65536 - f / 65536) + (a % 65536 - f % 65536) + (p - x) + (L2 - L1) := by omega
    generalize uw a t 17 (8 + d.length) + ws (lb p y d L2) = N2 at *
    generalize uw f t 17 (8 + d.length) + ws (lb x y d L1) = N1 at *
    clear s1 s2 uu ek w0 w2 w4 w6
    omega
  rw [ek, hk]
  have e1 : lb x y d (lc f t x y d) = wd x ++ (wd y ++ wd (8 + d.length) ++ (wd (lc f t x y d) ++ d)) := by unfold lb; simp
  rw [e1]
  have t1 : setW (wd x ++ (wd y ++ wd (8 + d.length) ++ (wd (lc f t x y d) ++ d))) 0 p = wd p ++ (wd y ++ wd (8 + d.length) ++ (wd (lc f t x y d) ++ d)) := rfl
  rw [t1, show wd p ++ (wd y ++ wd (8 + d.length) ++ (wd (lc f t x y d) ++ d)) = (wd p ++ (wd y ++ wd (8 + d.length))) ++ (wd (lc f t x y d) ++ d) by simp, setW_at _ _ _ _ _ (by simp)]
  unfold lb; simp
theorem let_from {x y : Int} {d : List UInt8} {f t a p : Int} (hx : U16 x) (hy : U16 y) (hp : U16 p) (hd : d.length ≤ 65507) (hf : U32 f) (ht : U32 t) (ha : U32 a) :
    swFrom_fn (ib (mkp 17 f t (lb x y d (lc f t x y d))), (a, (p, ()))) = some (ib (mkp 17 a t (lb p y d (lc a t p y d))), ((0 : Int), ())) := by
  have h1 := dg_made hx hy hd hf ht
  have h2 : (lb x y d (lc f t x y d)).length ≤ 65515 := by rw [lb_len]; omega
  obtain ⟨e1, e2, e3, e4, e5, e6⟩ := made_end (pr := 17) (.inr rfl) hf ht h2 (fun h => by cases h) (fun _ => h1)
  have hl2 : (lb p y d (lc a t p y d)).length = (lb x y d (lc f t x y d)).length := by rw [lb_len, lb_len]
  obtain ⟨q1, q2, q3⟩ := head_swap (pr := 17) (t := t) (d' := lb p y d (lc a t p y d)) (by decide) h2 hl2 hf ha
  rw [from_ok e1 (by rw [e6]; unfold Lim; omega) ha hp]
  have hc : cOf (ib (mkp 17 f t (lb x y d (lc f t x y d)))) = 6 := by unfold cOf; rw [if_pos (by rw [e5]; rfl)]
  have hu : udpB (ib (mkp 17 f t (lb x y d (lc f t x y d)))) = true := by unfold udpB; rw [decide_eq_true (by rw [e5]; rfl)]
  unfold swp
  rw [e2, e3, e4, hc, hu, q1]
  show some (_ ++ dNew true _ (lb x y d (lc f t x y d)) a p 12 0 6, _) = _
  rw [let_data hx hy hp hd hf ha _ (by simp [iA_len, iB_len]; omega) q2 q3]
  rfl

/-! ### The law -/
theorem segP_ok {g : TSegment} {f t : Int} (hf : U32 f) (ht : U32 t) (hs : U32 g.seq) (ha : U32 g.ack) (hl : g.options.length ≤ 1048576) :
    (werr g = 0 ∧ segmentPacket_fn (g9 g (f, (t, ()))) = some (ib (mkp 6 f t (sb g f t)), (true, ()))) ∨ ∃ x, segmentPacket_fn (g9 g (f, (t, ()))) = some (x, (false, ())) := by
  have hw := tcWrite_ok g f t hs ha hf ht hl
  by_cases h0 : werr g = 0
  · rw [decide_eq_true h0] at hw
    obtain ⟨_, h2⟩ := tc_made hf ht hs ha h0
    left
    exact ⟨h0, ev_opt hw (ev_opt (write_ok (mkp_ref (pr := 6) (f := f) (t := t) (by decide) h2)) (ev_t rfl (ev_r rfl)))⟩
  · rw [decide_eq_false h0] at hw
    right
    exact ⟨_, ev_opt hw (ev_opt (write_ok (mkp_ref (pr := 6) (f := f) (t := t) (d := []) (by decide) (by simp))) (ev_f (decide_eq_false h0) (ev_r rfl)))⟩
theorem letP_ok {x y : Int} {d : List UInt8} {f t : Int} (hf : U32 f) (ht : U32 t) :
    ((U16 x ∧ U16 y ∧ d.length ≤ 65507) ∧ letterPacket_fn (x, (y, (d, (f, (t, ()))))) = some (ib (mkp 17 f t (lb x y d (lc f t x y d))), (true, ()))) ∨ ∃ z, letterPacket_fn (x, (y, (d, (f, (t, ()))))) = some (z, (false, ())) := by
  by_cases h0 : 0 ≤ x ∧ x ≤ 65535 ∧ 0 ≤ y ∧ y ≤ 65535 ∧ d.length ≤ 65507
  · obtain ⟨h1, h2, h3, h4, h5⟩ := h0
    left
    exact ⟨⟨⟨h1, h2⟩, ⟨h3, h4⟩, h5⟩, ev_opt (dgWrite_ok x y d f t ⟨h1, h2, h3, h4⟩ h5 hf ht) (ev_opt (write_ok (mkp_ref (pr := 17) (f := f) (t := t) (by decide) (by rw [lb_len]; omega))) (ev_t rfl (ev_r rfl)))⟩
  · obtain ⟨e, hr, he⟩ := dgWrite_no x y d f t h0
    right
    exact ⟨_, ev_opt hr (ev_opt (write_ok (mkp_ref (pr := 17) (f := f) (t := t) (d := []) (by decide) (by simp))) (ev_f (decide_eq_false he) (ev_r rfl)))⟩
theorem same_law (x y : Int) (d : List UInt8) (g : TSegment) (f t a p : Int) (b : Bool) (hf : U32 f) (ht : U32 t) (ha : U32 a) (hs : U32 g.seq) (hk : U32 g.ack) (hl : g.options.length ≤ 1048576) :
    (swapSame_tree (x, (y, (d, (g9 g (f, (t, (a, (p, (b, ())))))))))).eval = some (true, ()) := by
  have r0 := segP_ok (g := g) hf ht hs hk hl
  have r1 := segP_ok (g := gp g p) ha ht hs hk hl
  obtain ⟨x0, b0, q0⟩ : ∃ x0 b0, segmentPacket_fn (g9 g (f, (t, ()))) = some (x0, (b0, ())) := by rcases r0 with ⟨_, h⟩ | ⟨_, h⟩ <;> exact ⟨_, _, h⟩
  obtain ⟨x1, b1, q1⟩ : ∃ x1 b1, segmentPacket_fn (g9 (gp g p) (a, (t, ()))) = some (x1, (b1, ())) := by rcases r1 with ⟨_, h⟩ | ⟨_, h⟩ <;> exact ⟨_, _, h⟩
  cases b with
  | true =>
    refine ev_opt q0 (ev_opt q1 (ev_t rfl ?_))
    rcases letP_ok (x := x) (y := y) (d := d) hf ht with ⟨⟨u1, u2, u3⟩, l1⟩ | ⟨z, l1⟩
    · rcases letP_ok (x := p) (y := y) (d := d) ha ht with ⟨⟨v1, _, _⟩, l2⟩ | ⟨z, l2⟩
      · exact ev_opt l1 (ev_opt l2 (ev_opt swLives_ok (ev_f rfl (ev_f rfl (ev_f rfl (ev_opt (let_from u1 u2 v1 u3 hf ht ha) (ev_opt (let_from v1 u2 u1 u3 ha ht hf) (ev_t rfl (ev_t rfl (ev_t (by simp) (ev_r (by simp))))))))))))
      · exact ev_opt l1 (ev_opt l2 (ev_opt swLives_ok (ev_f rfl (ev_f rfl (ev_t rfl (ev_opt swLives_ok (ev_r rfl)))))))
    · obtain ⟨x3, b3, q3⟩ : ∃ x3 b3, letterPacket_fn (p, (y, (d, (a, (t, ()))))) = some (x3, (b3, ())) := by rcases letP_ok (x := p) (y := y) (d := d) ha ht with ⟨_, h⟩ | ⟨_, h⟩ <;> exact ⟨_, _, h⟩
      exact ev_opt l1 (ev_opt q3 (ev_opt swLives_ok (ev_f rfl (ev_t rfl (ev_opt swLives_ok (ev_r rfl))))))
  | false =>
    rcases r0 with ⟨w0, h0⟩ | ⟨z, h0⟩
    · rcases r1 with ⟨w1, h1⟩ | ⟨z, h1⟩
      · have back := seg_from (g := gp g p) (f := a) (t := t) (a := f) (p := g.from') ha ht hf hs hk w1 w0
        exact ev_opt h0 (ev_opt h1 (ev_f rfl (ev_opt swLives_ok (ev_f rfl (ev_f rfl (ev_f rfl (ev_opt (seg_from hf ht ha hs hk w0 w1) (ev_opt back (ev_t rfl (ev_t rfl (ev_t (by simp) (ev_r (by show (decide (ib (mkp 6 f t (sb g f t)) = ib (mkp 6 f t (sb g f t))), ()) = _; simp)))))))))))))
      · exact ev_opt h0 (ev_opt h1 (ev_f rfl (ev_opt swLives_ok (ev_f rfl (ev_f rfl (ev_t rfl (ev_opt swLives_ok (ev_r rfl))))))))
    · exact ev_opt h0 (ev_opt q1 (ev_f rfl (ev_opt swLives_ok (ev_f rfl (ev_t rfl (ev_opt swLives_ok (ev_r rfl)))))))
abbrev J64 (x : Int) : Prop := -9223372036854775808 ≤ x ∧ x ≤ 9223372036854775807
theorem swapSame_true {x y : Int} {d : List UInt8} {a0 a1 a2 a3 a4 a5 a6 : Int} {o : List TOption} {e : List UInt8} {f t a p : Int} {b : Bool} (c0 : J64 x) (c1 : J64 y) (c2 : d.length ≤ 140737488351232) (b0 : J64 a0) (b1 : J64 a1) (b2 : 0 ≤ a2 ∧ a2 ≤ 4294967295) (b3 : 0 ≤ a3 ∧ a3 ≤ 4294967295) (b4 : J64 a4) (b5 : J64 a5) (b6 : J64 a6) (b7 : BndD 6 (D.st 4 o)) (u7 : o.length ≤ 1048576) (b8 : e.length ≤ 140737488351232)
    (h2 : 0 ≤ f ∧ f ≤ 4294967295) (h3 : 0 ≤ t ∧ t ≤ 4294967295) (h4 : 0 ≤ a ∧ a ≤ 4294967295) (h5 : J64 p) :
    (swapSame_tree (x, (y, (d, (a0, (a1, (a2, (a3, (a4, (a5, (a6, (o, (e, (f, (t, (a, (p, (b, ())))))))))))))))))).eval = some (true, ()) := same_law x y d ⟨a0, a1, a2, a3, a4, a5, a6, o, e⟩ f t a p b h2 h3 h4 b2 b3 u7
end Go.Proofs.Ytkfpdgibaadmbaa.X
