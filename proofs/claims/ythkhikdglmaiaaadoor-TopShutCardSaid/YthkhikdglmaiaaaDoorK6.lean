/- Texts towards the law TopShut, put together (part 6): an abstract walk and its proof, functions of the program as trees, and plain laws. Conditions: none. -/
import Derived.Test.YthkhikdglmaiaaaDoorK5
namespace Go.Proofs.YthkhikdglmaiaaaDoor.X
open Go Go.RowKit Go.Proofs.YthkhikdglmaiaaaDoor.Abs Go.Proofs.YthkhikdglmaiaaaDoor.Bits
set_option linter.unusedVariables false
set_option linter.unusedSimpArgs false
theorem m256 (x : Int) : decide (0 <= x % 256 /\ x % 256 < 256) = true := by simp; omega
theorem dgWord_ok (x : Int) : dgWord_fn (x, ()) = some (wd x, ()) := by
 simp only [dgWord_fn, dgWord_tree, Tr.eval, wrap8u, fdiv8, m256, cond_true, wd, byteOf]
theorem dgPort_ok (x : Int) : dgPort_fn (x, ()) = some (decide (0 <= x /\ x <= 65535), ()) := by
 simp only [dgPort_fn, dgPort_tree, Tr.eval]
 by_cases h : 0 <= x
 · simp [h]
 · simp [h]
abbrev U32 (x : Int) : Prop := 0 <= x /\ x <= 4294967295
theorem dgLong_ok (x : Int) (h : U32 x) : dgLong_fn (x, ()) = some (lg x, ()) := by
 have e1 : IntKind.i64.wrap (x / 65536) = x / 65536 := wrapI64 ⟨by unfold U32 at h; omega, by unfold U32 at h; omega⟩
 have e2 : IntKind.i64.wrap x = x := wrapI64 ⟨by unfold U32 at h; omega, by unfold U32 at h; omega⟩
 simp only [dgLong_fn, dgLong_tree, Tr.eval, fdiv16, e1, e2, cond_true, dgWord_ok, Option.bind_some, wd_len]
 rfl
theorem wAt_ok (l : List UInt8) (i : Nat) (h : i + 1 < l.length) (hl : l.length <= Lim) : dgWordAt_fn (l, ((i : Int), ())) = some (wAt l i, ()) := by
 have e1 : IntKind.i64.wrap ((i : Int) + 1) = ((i + 1 : Nat) : Int) := by
  rw [wrapI64 ⟨by unfold Lim at hl; omega, by unfold Lim at hl; omega⟩]; omega
 simp only [dgWordAt_fn, dgWordAt_tree, Tr.eval, e1, Int.toNat_natCast]
 rw [show decide (0 <= (i : Int) /\ (i : Int) < (l.length : Int)) = true by simp; omega, cond_true, cond_true, show decide (0 <= ((i + 1 : Nat) : Int) /\ ((i + 1 : Nat) : Int) < (l.length : Int)) = true by simp; omega, cond_true, or_i64]
 rfl
def under (f t p n : Int) : List UInt8 := lg f ++ lg t ++ wd p ++ wd n
@[simp] theorem under_len (f t p n : Int) : (under f t p n).length = 12 := rfl
theorem dgUnder_ok (f t p n : Int) (hf : U32 f) (ht : U32 t) (hp : 0 <= p /\ p <= 255) : dgUnder_fn (f, (t, (p, (n, ())))) = some (under f t p n, ()) := by
 have e1 : bits .and .i64 p 255 = p := by
  have := bits_and_mask .i64 8 p hp.1 (by show p < 2 ^ 64; omega) (by decide) (fun _ => by show p < 2 ^ 63; omega)
  rw [show ((255 : Int)) = 2 ^ 8 - 1 from rfl, this]; omega
 simp only [dgUnder_fn, dgUnder_tree, Tr.eval, dgLong_ok f hf, dgLong_ok t ht, e1, dgWord_ok, Option.bind_some, lg_len, wd_len, List.length_append, Nat.reduceAdd, Nat.reduceLeDiff, decide_true, cond_true]
 rfl
def uw (f t p n : Int) : Int := f / 65536 % 65536 + f % 65536 + (t / 65536 % 65536 + t % 65536) + p % 65536 + n % 65536
theorem ws_lg (x : Int) : (ws (lg x) : Int) = x / 65536 % 65536 + x % 65536 := by
 unfold lg; rw [ws_wd_app, ws_wd]
theorem ws_under (f t p n : Int) (k : List UInt8) : (ws (under f t p n ++ k) : Int) = uw f t p n + ws k := by
 have h1 := ws_app (under f t p n) k (by simp)
 have h2 := ws_app (lg f ++ lg t ++ wd p) (wd n) (by simp)
 have h3 := ws_app (lg f ++ lg t) (wd p) (by simp)
 have h4 := ws_app (lg f) (lg t) (by simp)
 have := ws_lg f; have := ws_lg t; have := ws_wd p; have := ws_wd n
 unfold under uw at *
 omega
def lb (a b : Int) (d : List UInt8) (c : Int) : List UInt8 := wd a ++ wd b ++ wd (8 + d.length) ++ wd c ++ d
@[simp] theorem lb_len (a b : Int) (d : List UInt8) (c : Int) : (lb a b d c).length = 8 + d.length := by simp [lb]; omega
theorem ws_lb (a b : Int) (d : List UInt8) (c : Int) : (ws (lb a b d c) : Int) = a % 65536 + b % 65536 + (8 + d.length) % 65536 + c % 65536 + ws d := by
 have h1 := ws_app (wd a ++ wd b ++ wd (8 + d.length) ++ wd c) d (by simp)
 have h2 := ws_app (wd a ++ wd b ++ wd (8 + d.length)) (wd c) (by simp)
 have h3 := ws_app (wd a ++ wd b) (wd (8 + d.length)) (by simp)
 have h4 := ws_app (wd a) (wd b) (by simp)
 have := ws_wd a; have := ws_wd b; have := ws_wd c; have := ws_wd (8 + d.length)
 unfold lb; omega
theorem wAt_lb (a b : Int) (d : List UInt8) (c : Int) : wAt (lb a b d c) 0 = a % 65536 /\ wAt (lb a b d c) 2 = b % 65536 /\ wAt (lb a b d c) 4 = (8 + (d.length : Int)) % 65536 /\ wAt (lb a b d c) 6 = c % 65536 :=
 ⟨wv_wd a, wv_wd b, wv_wd _, wv_wd c⟩

def lc (f t a b : Int) (d : List UInt8) : Int :=
 let c := 65535 - (ear (ws (under f t 17 (8 + d.length) ++ (wd a ++ wd b ++ wd (8 + d.length)) ++ d)) : Int)
 if c = 0 then 65535 else c
theorem lc_ok (f t a b : Int) (d : List UInt8) (hp : 0 <= a /\ a <= 65535 /\ 0 <= b /\ b <= 65535) (hd : d.length <= 65507) : 1 <= lc f t a b d /\ lc f t a b d <= 65535 /\ (uw f t 17 (8 + d.length) + ws (lb a b d (lc f t a b d))) % 65535 = 0 := by
 have h0 := ws_lb a b d (lc f t a b d)
 have h1 := ws_under f t 17 (8 + d.length) ((wd a ++ wd b ++ wd (8 + d.length)) ++ d)
 have h2 := ws_app (wd a ++ wd b ++ wd (8 + d.length)) d (by simp)
 have h3 := ws_app (wd a ++ wd b) (wd (8 + d.length)) (by simp)
 have h4 := ws_app (wd a) (wd b) (by simp)
 have := ws_wd a; have := ws_wd b; have := ws_wd (8 + d.length)
 have hb : 1 <= lc f t a b d /\ lc f t a b d <= 65535 /\ (lc f t a b d + (ws (under f t 17 (8 + d.length) ++ (wd a ++ wd b ++ wd (8 + d.length)) ++ d) : Int)) % 65535 = 0 := by
  unfold lc
  generalize ws (under f t 17 (8 + d.length) ++ (wd a ++ wd b ++ wd (8 + d.length)) ++ d) = n
  have h5 := ear_le n; have h6 := ear_mod n
  simp only
  split <;> omega
 rw [List.append_assoc] at hb
 generalize ws (under f t 17 (8 + d.length) ++ ((wd a ++ wd b ++ wd (8 + d.length)) ++ d)) = n at *
 refine ⟨hb.1, hb.2.1, ?_⟩
 omega

theorem dgWrite_ok (a b : Int) (d : List UInt8) (f t : Int) (hp : 0 <= a /\ a <= 65535 /\ 0 <= b /\ b <= 65535) (hd : d.length <= 65507) (hf : U32 f) (ht : U32 t) :
   dgWrite_fn (a, (b, (d, (f, (t, ()))))) = some (lb a b d (lc f t a b d), (0, ())) := by
 have e1 : IntKind.i64.wrap ((8 : Int) + (d.length : Int)) = 8 + d.length := wrapI64 ⟨by omega, by omega⟩
 have hs : sumOf_fn (under f t 17 (8 + d.length) ++ (wd a ++ wd b ++ wd (8 + d.length)) ++ d, ()) = some (65535 - (ear (ws (under f t 17 (8 + d.length) ++ (wd a ++ wd b ++ wd (8 + d.length)) ++ d)) : Int), ()) := of_fn _ (by simp; unfold Lim; omega)
 refine ev_opt (dgPort_ok a) (ev_f (by simp <;> omega) (ev_opt (dgPort_ok b) (ev_f (by simp <;> omega) (ev_f (by simp <;> omega) (ev_opt (dgWord_ok a) (ev_opt (dgWord_ok b) (ev_g (by simp) ?_)))))))
 rw [e1]
 refine ev_opt (dgWord_ok _) (ev_g (by simp) (ev_opt (dgUnder_ok f t 17 _ hf ht (by decide)) (ev_g (by simp) (ev_g (by simp <;> omega) (ev_opt hs ?_)))))
 have hl := ear_le (ws (under f t 17 (8 + d.length) ++ (wd a ++ wd b ++ wd (8 + d.length)) ++ d))
 refine ev_ite (fun h => ?_) (fun h => ?_)
 · have h : 65535 - (ear (ws (under f t 17 (8 + d.length) ++ (wd a ++ wd b ++ wd (8 + d.length)) ++ d)) : Int) = 0 := by simpa using h
   refine ev_opt (dgWord_ok _) (ev_g (by simp) (ev_g (by simp <;> omega) (ev_r ?_)))
   unfold lb lc
   simp only [h, if_true]
 · have h : ¬ 65535 - (ear (ws (under f t 17 (8 + d.length) ++ (wd a ++ wd b ++ wd (8 + d.length)) ++ d)) : Int) = 0 := by simpa using h
   refine ev_opt (dgWord_ok _) (ev_g (by simp) (ev_g (by simp <;> omega) (ev_r ?_)))
   have e2 : IntKind.i64.wrap (65535 - (ear (ws (under f t 17 (8 + d.length) ++ (wd a ++ wd b ++ wd (8 + d.length)) ++ d)) : Int)) = 65535 - (ear (ws (under f t 17 (8 + d.length) ++ (wd a ++ wd b ++ wd (8 + d.length)) ++ d)) : Int) := wrapI64 ⟨by omega, by omega⟩
   unfold lb lc
   simp only [h, if_false, e2]
theorem dgWrite_no (a b : Int) (d : List UInt8) (f t : Int) (hp : ¬ (0 <= a /\ a <= 65535 /\ 0 <= b /\ b <= 65535 /\ d.length <= 65507)) :
   ∃ e, dgWrite_fn (a, (b, (d, (f, (t, ()))))) = some ([], (e, ())) /\ e ≠ 0 := by
 by_cases ha : 0 <= a /\ a <= 65535
 · by_cases hb : 0 <= b /\ b <= 65535
   · exact ⟨2, ev_opt (dgPort_ok a) (ev_f (by simp <;> omega) (ev_opt (dgPort_ok b) (ev_f (by simp <;> omega) (ev_t (by simp <;> omega) rfl)))), by decide⟩
   · exact ⟨1, ev_opt (dgPort_ok a) (ev_f (by simp <;> omega) (ev_opt (dgPort_ok b) (ev_t (by simp <;> omega) rfl))), by decide⟩
 · exact ⟨1, ev_opt (dgPort_ok a) (ev_t (by simp <;> omega) rfl), by decide⟩

def rd (s : List UInt8) (f t : Int) : Int × Int × List UInt8 × Int :=
 if s.length < 8 then (0, 0, [], 3) else
 if (s.length : Int) < wAt s 4 then (0, 0, [], 3) else
 if wAt s 4 < 8 then (0, 0, [], 4) else
 if 65515 < wAt s 4 then (0, 0, [], 4) else
 if wAt s 6 ≠ 0 /\ ¬ (ws (under f t 17 (wAt s 4) ++ s.take (wAt s 4).toNat) ≠ 0 /\ ws (under f t 17 (wAt s 4) ++ s.take (wAt s 4).toNat) % 65535 = 0) then (0, 0, [], 5) else
 (wAt s 0, wAt s 2, (s.take (wAt s 4).toNat).drop 8, 0)
theorem dgRead_ok (s : List UInt8) (f t : Int) (hs : s.length <= Lim) (hf : U32 f) (ht : U32 t) : dgRead_fn (s, (f, (t, ()))) = some ((rd s f t).1, ((rd s f t).2.1, ((rd s f t).2.2.1, ((rd s f t).2.2.2, ())))) := by
 unfold rd
 by_cases h8 : s.length < 8
 · rw [if_pos h8]; exact ev_t (by simp <;> omega) rfl
 rw [if_neg h8]
 have w4 := wAt_ok s 4 (by omega) hs
 have b4 := wAt_bound s 4
 refine ev_f (by simp <;> omega) (ev_opt w4 ?_)
 by_cases h1 : (s.length : Int) < wAt s 4
 · rw [if_pos h1]; exact ev_t (by simpa using h1) rfl
 rw [if_neg h1]
 refine ev_f (by simpa using h1) ?_
 by_cases h2 : wAt s 4 < 8
 · rw [if_pos h2]; exact ev_t (by simpa using h2) rfl
 rw [if_neg h2]
 refine ev_f (by simpa using h2) ?_
 by_cases h3 : 65515 < wAt s 4
 · rw [if_pos h3]; exact ev_t (by simpa using h3) rfl
 rw [if_neg h3]
 refine ev_f (by simpa using h3) (ev_opt (wAt_ok s 6 (by omega) hs) ?_)
 have hlt : (s.take (wAt s 4).toNat).length <= 65515 := by rw [List.length_take]; omega
 by_cases h6 : wAt s 6 = 0
 · rw [if_neg (by simp [h6])]
   refine ev_f (by simp [h6]) (ev_opt (wAt_ok s 0 (by omega) hs) (ev_opt (wAt_ok s 2 (by omega) hs) (ev_g (by simp <;> omega) rfl)))
 · refine ev_t (by simp [h6]) (ev_opt (dgUnder_ok f t 17 _ hf ht (by decide)) (ev_g (by simp <;> omega) (ev_g (by simp <;> omega) ?_)))
   have hr := right_fn (under f t 17 (wAt s 4) ++ s.take (wAt s 4).toNat) (by simp; unfold Lim; omega)
   rw [<- List.drop_zero (l := s.take (wAt s 4).toNat)] at hr
   refine ev_opt hr ?_
   rw [List.drop_zero]
   by_cases hx : ws (under f t 17 (wAt s 4) ++ s.take (wAt s 4).toNat) ≠ 0 /\ ws (under f t 17 (wAt s 4) ++ s.take (wAt s 4).toNat) % 65535 = 0
   · rw [if_neg (fun h => h.2 hx)]
     exact ev_f (by simpa using hx) (ev_opt (wAt_ok s 0 (by omega) hs) (ev_opt (wAt_ok s 2 (by omega) hs) (ev_g (by simp <;> omega) rfl)))
   · rw [if_pos ⟨h6, hx⟩]
     exact ev_t (by rw [decide_eq_false hx]; rfl) rfl

theorem rd_lb (a b : Int) (d : List UInt8) (c f t : Int) (hp : 0 <= a /\ a <= 65535 /\ 0 <= b /\ b <= 65535) (hd : d.length <= 65507) (hc : 1 <= c /\ c <= 65535) (hr : (uw f t 17 (8 + d.length) + ws (lb a b d c)) % 65535 = 0) :
  rd (lb a b d c) f t = (a, b, d, 0) := by
 obtain ⟨w0, w2, w4, w6⟩ := wAt_lb a b d c
 have e4 : wAt (lb a b d c) 4 = 8 + d.length := by rw [w4]; omega
 have hl := lb_len a b d c
 have ht : (lb a b d c).take (8 + (d.length : Int)).toNat = lb a b d c := by
  rw [show (8 + (d.length : Int)).toNat = (lb a b d c).length by rw [hl]; omega, List.take_length]
 have hu := ws_under f t 17 (8 + d.length) (lb a b d c)
 have hw := ws_lb a b d c
 have hu0 : 0 <= uw f t 17 (8 + d.length) := by unfold uw; omega
 unfold rd
 rw [e4, w6, w0, w2, hl, ht]
 rw [if_neg (by omega), if_neg (by omega), if_neg (by omega), if_neg (by omega), if_neg (by omega)]
 have e1 : a % 65536 = a := by omega
 have e2 : b % 65536 = b := by omega
 rw [e1, e2]
 rfl
set_option linter.unnecessarySimpa false
set_option maxRecDepth 100000
theorem tcAt_ok (l : List UInt8) (i : Nat) (h : i + 1 < l.length) (hl : l.length <= Lim) : tcWordAt_fn (l, ((i : Int), ())) = some (wAt l i, ()) := by
 have e1 : IntKind.i64.wrap ((i : Int) + 1) = ((i + 1 : Nat) : Int) := by
  rw [wrapI64 ⟨by unfold Lim at hl; omega, by unfold Lim at hl; omega⟩]; omega
 simp only [tcWordAt_fn, tcWordAt_tree, Tr.eval, e1, Int.toNat_natCast]
 rw [show decide (0 <= (i : Int) /\ (i : Int) < (l.length : Int)) = true by simp; omega, cond_true, cond_true, show decide (0 <= ((i + 1 : Nat) : Int) /\ ((i + 1 : Nat) : Int) < (l.length : Int)) = true by simp; omega, cond_true, or_i64]
 rfl
theorem tcLongAt_ok (l : List UInt8) (i : Nat) (h : i + 3 < l.length) (hl : l.length <= Lim) : tcLongAt_fn (l, ((i : Int), ())) = some (lAt l i, ()) := by
 have e1 : IntKind.i64.wrap ((i : Int) + 2) = ((i + 2 : Nat) : Int) := by
  rw [wrapI64 ⟨by unfold Lim at hl; omega, by unfold Lim at hl; omega⟩]; omega
 have b1 := wAt_bound l i; have b2 := wAt_bound l (i + 2)
 refine ev_opt (tcAt_ok l i (by omega) hl) (ev_g rfl ?_)
 rw [e1]
 refine ev_opt (tcAt_ok l (i + 2) (by omega) hl) (ev_r ?_)
 have f1 : IntKind.u32.wrap (wAt l i) = wAt l i := by rw [wrap32u]; omega
 have f2 : IntKind.u32.wrap (wAt l (i + 2)) = wAt l (i + 2) := by rw [wrap32u]; omega
 have f3 : IntKind.u32.wrap (wAt l i * 2 ^ 16) = wAt l i * 2 ^ 16 := by rw [wrap32u]; omega
 simp only [f1, f2, f3]
 rw [bits_or_disjoint .u32 16 (wAt l i) (wAt l (i + 2)) (by omega) (by omega) (by omega) (by show _ < (2 : Int) ^ 32; omega) (fun h => by cases h)]
 unfold lAt; rfl

def ob (o : TOption) : List UInt8 := if 1 < o.kind then byteOf o.kind :: byteOf (o.data.length + 2) :: o.data else [byteOf o.kind]
def obs (l : List TOption) : List UInt8 := l.flatMap ob
def pad (o : List UInt8) : List UInt8 := o ++ List.replicate ((4 - o.length % 4) % 4) 0
theorem tmN (n k : Nat) : Int.tmod (n : Int) (k : Int) = ((n % k : Nat) : Int) := by
 rw [Int.tmod_eq_emod_of_nonneg (by omega)]; rfl
def sA (g : TSegment) (n : Int) : List UInt8 := wd g.from' ++ wd g.to ++ lg g.seq ++ lg g.ack ++ [byteOf (n * 4), byteOf g.flags] ++ wd g.window
def sB (g : TSegment) : List UInt8 := wd g.urgent ++ pad (obs g.options) ++ g.data
def sn (g : TSegment) : Int := 20 + ((pad (obs g.options)).length : Int)
def sc (g : TSegment) (f t : Int) : Int := 65535 - (ear (ws (under f t 6 (sn g + g.data.length) ++ sA g (sn g) ++ sB g)) : Int)
def sb (g : TSegment) (f t : Int) : List UInt8 := sA g (sn g) ++ wd (sc g f t) ++ sB g
def g9 (g : TSegment) {R : Type} (r : R) : (Int × (Int × (Int × (Int × (Int × (Int × (Int × ((List TOption) × ((List UInt8) × R))))))))) :=
 (g.from', (g.to, (g.seq, (g.ack, (g.flags, (g.window, (g.urgent, (g.options, (g.data, r)))))))))
def okR (o : TOption) : Prop := 1 <= o.kind /\ o.kind <= 255 /\ o.data.length <= 253 /\ (o.kind = 1 -> o.data = [])
theorem byte_i64 (b : UInt8) : IntKind.wrap IntKind.i64 (b.toNat : Int) = b.toNat := by have := u8n b; exact wrapI64 ⟨by omega, by omega⟩
theorem take_self (l : List UInt8) : List.take (Int.toNat (l.length : Int)) l = l := by rw [Int.toNat_natCast, List.take_length]
theorem parse_one (b : UInt8) (r : List UInt8) (acc : List TOption) (hb : b.toNat = 1) (hl : acc.length + r.length <= 1000) :
  (tcParse_step51_2 (b :: r, (acc, ()))).eval = some (.inl (r, (acc ++ [TOption.mk 1 []], ()))) := by
 unfold tcParse_step51_2
 have e : List.getD (b :: r) 0 0 = b := rfl
 refine ev_t (by simp) (ev_g (by (first | (simp; done) | (simp; omega) | omega)) (ev_t (by rw [e, hb]; rfl) (ev_g (by (first | (simp; done) | (simp; omega) | omega)) (ev_t (by rw [e, hb]; rfl) (ev_g (by (first | (simp; done) | (simp; omega) | omega)) (ev_g (by (first | (simp; done) | (simp; omega) | omega)) (ev_g (by simp) (ev_r ?_))))))))
 rw [take_self]; rfl
theorem parse_more (b c : UInt8) (d r : List UInt8) (acc : List TOption) (hb : 2 <= b.toNat) (hc : c.toNat = d.length + 2) (hl : acc.length + r.length + d.length <= 1000) :
  (tcParse_step51_2 (b :: c :: (d ++ r), (acc, ()))).eval = some (.inl (r, (acc ++ [TOption.mk b.toNat d], ()))) := by
 unfold tcParse_step51_2
 have e : List.getD (b :: c :: (d ++ r)) 0 0 = b := rfl
 have e1 : List.getD (b :: c :: (d ++ r)) 1 0 = c := rfl
 have h1 := u8n b; have h2 := u8n c
 have hlen : (b :: c :: (d ++ r)).length = d.length + r.length + 2 := by simp
 have t1 : List.take (Int.toNat (c.toNat : Int)) (b :: c :: (d ++ r)) = b :: c :: d := by
  rw [Int.toNat_natCast, hc]; simp
 have t2 : List.drop (Int.toNat (c.toNat : Int)) (b :: c :: (d ++ r)) = r := by
  rw [Int.toNat_natCast, hc]; simp
 simp only [e, e1, byte_i64, hlen]
 refine ev_t (by simp) (ev_g (by (first | (simp; done) | (simp; omega) | omega)) (ev_t (by (first | (simp; done) | (simp; omega) | omega)) (ev_g (by (first | (simp; done) | (simp; omega) | omega)) (ev_f (by (first | (simp; done) | (simp; omega) | omega)) (ev_f (by (first | (simp; done) | (simp; omega) | omega)) (ev_g (by (first | (simp; done) | (simp; omega) | omega)) (ev_f (by (first | (simp; done) | (simp; omega) | omega)) (ev_g (by (first | (simp; done) | (simp; omega) | omega)) (ev_f (by (first | (simp; done) | (simp; omega) | omega)) (ev_g (by (first | (simp; done) | (simp; omega) | omega)) (ev_g (by (first | (simp; done) | (simp; omega) | omega)) (ev_g (by (first | (simp; done) | (simp; omega) | omega)) (ev_g (by (first | (simp; done) | (simp; omega) | omega)) (ev_g (by (first | (simp; done) | (simp; omega) | omega)) (ev_g (by simp) (ev_r ?_))))))))))))))))
 rw [t1, show List.take (Int.toNat ((d.length + r.length + 2 : Nat) : Int)) (b :: c :: (d ++ r)) = b :: c :: (d ++ r) by rw [Int.toNat_natCast, <- hlen, List.take_length], t2]
 rfl
theorem parse_stop (s : List UInt8) (acc : List TOption) (h : s = [] \/ (s.getD 0 0).toNat = 0) : (tcParse_step51_2 (s, (acc, ()))).eval = some (.inr (.inr (s, (acc, ())))) := by
 unfold tcParse_step51_2
 match s, h with
 | [], _ => exact ev_f rfl (ev_g (by simp) (ev_r rfl))
 | b :: r, h =>
  have h : b.toNat = 0 := by
   rcases h with h | h
   · cases h
   · exact h
  have e : List.getD (b :: r) 0 0 = b := rfl
  exact ev_t (by simp) (ev_g (by (first | (simp; done) | (simp; omega) | omega)) (ev_f (by rw [e, h]; rfl) (ev_g (by simp) (ev_r rfl))))
abbrev pLoop := fun (n : Nat) (x : (List UInt8) × ((List TOption) × Unit)) => loopO 510002 (fun x => (tcParse_step51_2 x).eval) n x
theorem obs_cons (o : TOption) (l : List TOption) : obs (o :: l) = ob o ++ obs l := rfl
theorem parse_ex : ∀ (k : Nat) (s : List UInt8) (acc : List TOption) (n : Nat), s.length <= k -> acc.length + s.length <= 1000 -> k < n ->
  pLoop n (s, (acc, ())) = some (.inl (false, ())) \/ ∃ l rest, s = obs l ++ rest /\ (∀ o ∈ l, okR o) /\ pLoop n (s, (acc, ())) = some (.inr (rest, (acc ++ l, ())))
 | k, s, acc, n, hk, ha, hn => by
  obtain ⟨n, rfl⟩ : ∃ m, n = m + 1 := ⟨n - 1, by omega⟩
  by_cases h0 : s = [] \/ (s.getD 0 0).toNat = 0
  · right; exact ⟨[], s, rfl, by simp, by rw [List.append_nil]; exact loopO_out (parse_stop s acc h0)⟩
  match s, h0 with
  | [], h0 => exact absurd (.inl rfl) h0
  | b :: r, h0 =>
  have hb : b.toNat ≠ 0 := fun e => h0 (.inr e)
  have h1 := u8n b
  simp only [List.length_cons] at hk ha
  obtain ⟨k, rfl⟩ : ∃ m, k = m + 1 := ⟨k - 1, by omega⟩
  by_cases hb1 : b.toNat = 1
  · have st := parse_one b r acc hb1 (by omega)
    have hob : ob (TOption.mk 1 []) = [b] := by
      unfold ob; rw [if_neg (by decide)]
      congr 1; apply UInt8.toNat_inj.1; rw [hb1]; rfl
    rcases parse_ex k r (acc ++ [TOption.mk 1 []]) n (by omega) (by (first | (simp; done) | (simp; omega) | omega)) (by omega) with e | ⟨l, rest, e1, e2, e3⟩
    · left; show loopO _ _ _ _ = _; rw [loopO_in st]; exact e
    · right
      refine ⟨TOption.mk 1 [] :: l, rest, by rw [obs_cons, hob, e1]; rfl, fun o ho => ?_, ?_⟩
      · rcases List.mem_cons.1 ho with rfl | ho
        · exact ⟨by decide, by decide, by decide, fun _ => rfl⟩
        · exact e2 o ho
      · show loopO _ _ _ _ = _; rw [loopO_in st]
        rw [show acc ++ TOption.mk 1 [] :: l = acc ++ [TOption.mk 1 []] ++ l by simp]; exact e3
  have e : List.getD (b :: r) 0 0 = b := rfl
  match r, hk, ha with
  | [], hk, ha =>
    left; refine loopO_out ?_
    unfold tcParse_step51_2
    exact ev_t (by simp) (ev_g (by simp) (ev_t (by rw [e]; (first | (simp; done) | (simp; omega) | omega)) (ev_g (by simp) (ev_f (by rw [e]; (first | (simp; done) | (simp; omega) | omega)) (ev_t (by simp) (ev_r rfl))))))
  | c :: r, hk, ha =>
  have h2 := u8n c
  have e1 : List.getD (b :: c :: r) 1 0 = c := rfl
  have e0 : List.getD (b :: c :: r) 0 0 = b := rfl
  simp only [List.length_cons] at hk ha
  have hlen : ((b :: c :: r).length : Int) = r.length + 2 := by simp; omega
  by_cases hc : c.toNat < 2
  · left; refine loopO_out ?_
    unfold tcParse_step51_2
    exact ev_t (by simp) (ev_g (by rw [hlen]; (first | (simp; done) | (simp; omega) | omega)) (ev_t (by rw [e0]; (first | (simp; done) | (simp; omega) | omega)) (ev_g (by rw [hlen]; (first | (simp; done) | (simp; omega) | omega)) (ev_f (by rw [e0]; (first | (simp; done) | (simp; omega) | omega)) (ev_f (by rw [hlen]; (first | (simp; done) | (simp; omega) | omega)) (ev_g (by rw [hlen]; (first | (simp; done) | (simp; omega) | omega)) (ev_t (by rw [e1]; (first | (simp; done) | (simp; omega) | omega)) (ev_r rfl))))))))
  by_cases hc2 : r.length + 2 < c.toNat
  · left; refine loopO_out ?_
    unfold tcParse_step51_2
    exact ev_t (by simp) (ev_g (by rw [hlen]; (first | (simp; done) | (simp; omega) | omega)) (ev_t (by rw [e0]; (first | (simp; done) | (simp; omega) | omega)) (ev_g (by rw [hlen]; (first | (simp; done) | (simp; omega) | omega)) (ev_f (by rw [e0]; (first | (simp; done) | (simp; omega) | omega)) (ev_f (by rw [hlen]; (first | (simp; done) | (simp; omega) | omega)) (ev_g (by rw [hlen]; (first | (simp; done) | (simp; omega) | omega)) (ev_f (by rw [e1]; (first | (simp; done) | (simp; omega) | omega)) (ev_g (by rw [hlen]; (first | (simp; done) | (simp; omega) | omega)) (ev_t (by rw [e1, byte_i64, hlen]; (first | (simp; done) | (simp; omega) | omega)) (ev_r rfl))))))))))
  have hr : r = r.take (c.toNat - 2) ++ r.drop (c.toNat - 2) := (List.take_append_drop _ _).symm
  have hd : (r.take (c.toNat - 2)).length = c.toNat - 2 := by rw [List.length_take]; omega
  have hq : (r.drop (c.toNat - 2)).length = r.length - (c.toNat - 2) := by rw [List.length_drop]
  have st := parse_more b c (r.take (c.toNat - 2)) (r.drop (c.toNat - 2)) acc (by omega) (by omega) (by omega)
  rw [<- hr] at st
  have hob : ob (TOption.mk b.toNat (r.take (c.toNat - 2))) = b :: c :: r.take (c.toNat - 2) := by
    unfold ob; rw [if_pos (by show (1 : Int) < (b.toNat : Int); omega)]
    show byteOf (b.toNat : Int) :: byteOf (((r.take (c.toNat - 2)).length : Int) + 2) :: _ = _
    rw [byteOf_self, hd, show (((c.toNat - 2 : Nat) : Int) + 2) = (c.toNat : Int) by omega, byteOf_self]
  rcases parse_ex k (r.drop (c.toNat - 2)) (acc ++ [TOption.mk b.toNat (r.take (c.toNat - 2))]) n (by omega) (by (first | (simp; done) | (simp; omega) | omega)) (by omega) with e | ⟨l, rest, e1, e2, e3⟩
  · left; show loopO _ _ _ _ = _; rw [loopO_in st]; exact e
  · right
    refine ⟨TOption.mk b.toNat (r.take (c.toNat - 2)) :: l, rest, ?_, fun o ho => ?_, ?_⟩
    · rw [obs_cons, hob]
      show b :: c :: r = b :: c :: r.take (c.toNat - 2) ++ obs l ++ rest
      rw [List.append_assoc, <- e1]
      simp
    · rcases List.mem_cons.1 ho with rfl | ho
      · refine ⟨by show (1 : Int) <= (b.toNat : Int); omega, by show (b.toNat : Int) <= 255; omega, by show (r.take _).length <= 253; omega, fun e => ?_⟩
        have : (b.toNat : Int) = 1 := e
        omega
      · exact e2 o ho
    · show loopO _ _ _ _ = _; rw [loopO_in st]
      rw [show acc ++ TOption.mk b.toNat (r.take (c.toNat - 2)) :: l = acc ++ [TOption.mk b.toNat (r.take (c.toNat - 2))] ++ l by simp]; exact e3
theorem zeros_loop (s : List UInt8) (acc : List TOption) (hs : s.length <= 1000) :
   loopO 510010 (fun x => (tcParse_step51_10 x).eval) 18446744073709551616 (((0 : Nat) : Int), (s, ((s.length : Int), (acc, ())))) = some (match hit (fun b : UInt8 => decide (b.toNat ≠ 0)) s with | some _ => Sum.inl (false, ()) | none => Sum.inr (acc, ())) := by
 refine loop_hit (T := UInt8) (l := s) (fun i => (((i : Nat) : Int), (s, ((s.length : Int), (acc, ()))))) (fun b : UInt8 => decide (b.toNat ≠ 0)) (fun q => match q with | some _ => Sum.inl (false, ()) | none => Sum.inr (acc, ())) (fun i x hx => ?_) ?_ 18446744073709551616 (by omega)
 · have hi := (List.getElem?_eq_some_iff.1 hx).1
   have e : List.getD s (Int.toNat (i : Int)) 0 = x := by rw [Int.toNat_natCast, List.getD_eq_getElem?_getD, hx]; rfl
   show (tcParse_step51_10 _).eval = _
   unfold tcParse_step51_10
   rcases Bool.eq_false_or_eq_true (decide (x.toNat ≠ 0)) with h | h
   · rw [h]
     have h : x.toNat ≠ 0 := by simpa using h
     exact ev_t (by (first | (simp; done) | (simp; omega) | omega)) (ev_g (by (first | (simp; done) | (simp; omega) | omega)) (ev_t (by rw [e]; (first | (simp; done) | (simp; omega) | omega)) (ev_r rfl)))
   · rw [h]
     have h : x.toNat = 0 := by simpa using h
     refine ev_t (by (first | (simp; done) | (simp; omega) | omega)) (ev_g (by (first | (simp; done) | (simp; omega) | omega)) (ev_f (by rw [e]; (first | (simp; done) | (simp; omega) | omega)) (ev_g (by simp) (ev_r ?_))))
     rw [next_i64 i (by omega)]
 · show (tcParse_step51_10 _).eval = _
   unfold tcParse_step51_10
   exact ev_f (by simp) (ev_g (by simp) (ev_r rfl))
theorem tcParse_ex (s : List UInt8) (hs : s.length <= 1000) : tcParse_fn (s, ()) = some ([], (false, ())) \/ ∃ l rest, s = obs l ++ rest /\ (∀ o ∈ l, okR o) /\ tcParse_fn (s, ()) = some (l, (true, ())) := by
 rcases parse_ex s.length s [] 18446744073709551616 (by omega) (by simpa using hs) (by omega) with e | ⟨l, rest, e1, e2, e3⟩
 · left; exact ev_g rfl (ev_opt e rfl)
 · have hr : rest.length <= 1000 := by have := congrArg List.length e1; simp at this; omega
   have z := zeros_loop rest l hr
   rw [List.nil_append] at e3
   cases hh : hit (fun b : UInt8 => decide (b.toNat ≠ 0)) rest with
   | some q =>
    rw [hh] at z
    left; exact ev_g rfl (ev_opt e3 (ev_g (by simp) (ev_opt z rfl)))
   | none =>
    rw [hh] at z
    right; exact ⟨l, rest, e1, e2, ev_g rfl (ev_opt e3 (ev_g (by simp) (ev_opt z rfl)))⟩
theorem tcN (b : UInt8) : IntKind.wrap IntKind.i64 (IntKind.wrap IntKind.i64 (Int.tdiv (IntKind.wrap IntKind.i64 (b.toNat : Int)) (16 : Int)) * (4 : Int)) = ((b.toNat / 16 * 4 : Nat) : Int) := by
 have := u8n b
 have e : Int.tdiv (b.toNat : Int) 16 = ((b.toNat / 16 : Nat) : Int) := by rw [Int.tdiv_eq_ediv_of_nonneg (by omega)]; omega
 have w1 : IntKind.wrap IntKind.i64 ((b.toNat / 16 : Nat) : Int) = ((b.toNat / 16 : Nat) : Int) := wrapI64 ⟨by omega, by omega⟩
 have w2 : IntKind.wrap IntKind.i64 (((b.toNat / 16 : Nat) : Int) * 4) = ((b.toNat / 16 : Nat) : Int) * 4 := wrapI64 ⟨by omega, by omega⟩
 rw [byte_i64, e, w1, w2]; omega
theorem tm16 (n : Nat) : Int.tmod (n : Int) (16 : Int) = ((n % 16 : Nat) : Int) := tmN n 16
def tn (s : List UInt8) : Nat := (s.getD 12 0).toNat / 16 * 4
def z9 (e : Int) : (Int × (Int × (Int × (Int × (Int × (Int × (Int × ((List TOption) × ((List UInt8) × (Int × Unit)))))))))) := g9 ⟨0, 0, 0, 0, 0, 0, 0, [], []⟩ (e, ())
abbrev sumR (s : List UInt8) (f t : Int) : Prop := ws (under f t 6 s.length ++ s) ≠ 0 /\ ws (under f t 6 s.length ++ s) % 65535 = 0
def gOf (s : List UInt8) (l : List TOption) : TSegment := ⟨wAt s 0, wAt s 2, lAt s 4, lAt s 8, ((s.getD 13 0).toNat : Int), wAt s 14, wAt s 18, l, s.drop (tn s)⟩
theorem tcRead_go (s : List UInt8) (f t : Int) (hf : U32 f) (ht : U32 t) (h20 : 20 <= s.length) (h1 : tn s <= s.length) (h2 : 20 <= tn s) (h3 : (s.getD 12 0).toNat % 16 = 0) (h4 : s.length - tn s <= 65455) (l : List TOption)
  (hp : tcParse_fn (List.drop 20 (List.take (tn s) s), ()) = some (l, (true, ()))) :
  (sumR s f t -> tcRead_fn (s, (f, (t, ()))) = some (g9 (gOf s l) (0, ()))) /\ (¬ sumR s f t -> tcRead_fn (s, (f, (t, ()))) = some (z9 5)) := by
 have hb := u8n (s.getD 12 0)
 have hn : tn s <= 60 := by unfold tn; omega
 have hsl : s.length <= 65515 := by omega
 have hlim : s.length <= Lim := by unfold Lim; omega
 have hr := right_fn (under f t 6 s.length ++ s) (by simp only [List.length_append, under_len]; unfold Lim; omega)
 have hsub : IntKind.wrap IntKind.i64 ((s.length : Int) - (tn s : Int)) = ((s.length - tn s : Nat) : Int) := by rw [wrapI64 ⟨by omega, by omega⟩]; omega
 have htm : Int.tmod ((s.getD 12 0).toNat : Int) 16 = 0 := by
  have := tmN (s.getD 12 0).toNat 16
  rw [h3] at this; exact this
 have go : tcRead_fn (s, (f, (t, ()))) = (if sumR s f t then some (g9 (gOf s l) (0, ())) else some (z9 5)) := by
  unfold tcRead_fn tcRead_tree
  simp only [tcN]
  refine ev_f (by (first | (simp; done) | (simp; omega) | omega)) (ev_g (by (first | (simp; done) | (simp; omega) | omega)) (ev_g rfl (ev_f (show decide ((s.length : Int) < (tn s : Int)) = false by (first | (simp; done) | (simp; omega) | omega)) (ev_f (show decide ((tn s : Int) < 20) = false by (first | (simp; done) | (simp; omega) | omega)) (ev_g (by (first | (simp; done) | (simp; omega) | omega)) (ev_g rfl (ev_f (by rw [htm]; rfl) (ev_f (show decide ((65455 : Int) < IntKind.wrap IntKind.i64 ((s.length : Int) - (tn s : Int))) = false by rw [hsub]; (first | (simp; done) | (simp; omega) | omega)) (ev_g (show decide ((0 : Int) <= 20 /\ (20 : Int) <= (tn s : Int) /\ (tn s : Int) <= (s.length : Int)) = true by (first | (simp; done) | (simp; omega) | omega)) (ev_opt hp (ev_f rfl (ev_opt (dgUnder_ok f t 6 _ hf ht (by decide)) (ev_g (decide_eq_true (by simp only [under_len]; omega)) (ev_opt hr ?_))))))))))))))
  by_cases hs : sumR s f t
  · rw [if_pos hs]
    have hd : decide (ws (under f t 6 s.length ++ s) ≠ 0 /\ ws (under f t 6 s.length ++ s) % 65535 = 0) = true := decide_eq_true hs
    refine ev_f (by simp only [hd]; rfl) (ev_opt (tcAt_ok s 0 (by omega) hlim) (ev_opt (tcAt_ok s 2 (by omega) hlim) (ev_opt (tcLongAt_ok s 4 (by omega) hlim) (ev_opt (tcLongAt_ok s 8 (by omega) hlim) (ev_g (by (first | (simp; done) | (simp; omega) | omega)) (ev_opt (tcAt_ok s 14 (by omega) hlim) (ev_opt (tcAt_ok s 18 (by omega) hlim) (ev_g (show decide ((0 : Int) <= (tn s : Int) /\ (tn s : Int) <= (s.length : Int) /\ (s.length : Int) <= (s.length : Int)) = true by (first | (simp; done) | (simp; omega) | omega)) (ev_r ?_)))))))))
    rw [byte_i64, take_self, Int.toNat_natCast]
    rfl
  · rw [if_neg hs]
    have hd : decide (ws (under f t 6 s.length ++ s) ≠ 0 /\ ws (under f t 6 s.length ++ s) % 65535 = 0) = false := decide_eq_false hs
    exact ev_t (by simp only [hd]; rfl) (ev_r rfl)
 exact ⟨fun h => by rw [go, if_pos h], fun h => by rw [go, if_neg h]⟩
theorem tcRead_ex (s : List UInt8) (f t : Int) (hf : U32 f) (ht : U32 t) (hl : s.length <= Lim) : (∃ e, e ≠ 0 /\ tcRead_fn (s, (f, (t, ()))) = some (z9 e)) \/
   ∃ l rest, 20 <= tn s /\ tn s <= 60 /\ tn s <= s.length /\ s.length - tn s <= 65455 /\ List.drop 20 (List.take (tn s) s) = obs l ++ rest /\ (∀ o ∈ l, okR o) /\ sumR s f t /\ tcRead_fn (s, (f, (t, ()))) = some (g9 (gOf s l) (0, ())) /\ (s.getD 12 0).toNat % 16 = 0 /\ tcParse_fn (List.drop 20 (List.take (tn s) s), ()) = some (l, (true, ())) := by
 have hb := u8n (s.getD 12 0)
 have hn : tn s <= 60 := by unfold tn; omega
 have htm := tmN (s.getD 12 0).toNat 16
 by_cases h20 : s.length < 20
 · left; exact ⟨3, by decide, ev_t (by (first | (simp; done) | (simp; omega) | omega)) (ev_r rfl)⟩
 by_cases h1 : s.length < tn s
 · left; refine ⟨3, by decide, ?_⟩
   unfold tcRead_fn tcRead_tree
   simp only [tcN]
   exact ev_f (by (first | (simp; done) | (simp; omega) | omega)) (ev_g (by (first | (simp; done) | (simp; omega) | omega)) (ev_g rfl (ev_t (show decide ((s.length : Int) < (tn s : Int)) = true by (first | (simp; done) | (simp; omega) | omega)) (ev_r rfl))))
 by_cases h2 : tn s < 20
 · left; refine ⟨4, by decide, ?_⟩
   unfold tcRead_fn tcRead_tree
   simp only [tcN]
   exact ev_f (by (first | (simp; done) | (simp; omega) | omega)) (ev_g (by (first | (simp; done) | (simp; omega) | omega)) (ev_g rfl (ev_f (show decide ((s.length : Int) < (tn s : Int)) = false by (first | (simp; done) | (simp; omega) | omega)) (ev_t (show decide ((tn s : Int) < 20) = true by (first | (simp; done) | (simp; omega) | omega)) (ev_r rfl)))))
 by_cases h3 : (s.getD 12 0).toNat % 16 = 0
 case neg =>
   left; refine ⟨4, by decide, ?_⟩
   unfold tcRead_fn tcRead_tree
   simp only [tcN]
   exact ev_f (by (first | (simp; done) | (simp; omega) | omega)) (ev_g (by (first | (simp; done) | (simp; omega) | omega)) (ev_g rfl (ev_f (show decide ((s.length : Int) < (tn s : Int)) = false by (first | (simp; done) | (simp; omega) | omega)) (ev_f (show decide ((tn s : Int) < 20) = false by (first | (simp; done) | (simp; omega) | omega)) (ev_g (by (first | (simp; done) | (simp; omega) | omega)) (ev_g rfl (ev_t (by rw [tm16, decide_eq_false (by omega)]; rfl) (ev_r rfl))))))))
 have htm : Int.tmod ((s.getD 12 0).toNat : Int) 16 = 0 := by rw [h3] at htm; exact htm
 have hsub : IntKind.wrap IntKind.i64 ((s.length : Int) - (tn s : Int)) = ((s.length - tn s : Nat) : Int) := by unfold Lim at hl; rw [wrapI64 ⟨by omega, by omega⟩]; omega
 by_cases h4 : 65455 < s.length - tn s
 · left; refine ⟨2, by decide, ?_⟩
   unfold tcRead_fn tcRead_tree
   simp only [tcN]
   exact ev_f (by (first | (simp; done) | (simp; omega) | omega)) (ev_g (by (first | (simp; done) | (simp; omega) | omega)) (ev_g rfl (ev_f (show decide ((s.length : Int) < (tn s : Int)) = false by (first | (simp; done) | (simp; omega) | omega)) (ev_f (show decide ((tn s : Int) < 20) = false by (first | (simp; done) | (simp; omega) | omega)) (ev_g (by (first | (simp; done) | (simp; omega) | omega)) (ev_g rfl (ev_f (by rw [htm]; rfl) (ev_t (show decide ((65455 : Int) < IntKind.wrap IntKind.i64 ((s.length : Int) - (tn s : Int))) = true by rw [hsub]; (first | (simp; done) | (simp; omega) | omega)) (ev_r rfl)))))))))
 rcases tcParse_ex (List.drop 20 (List.take (tn s) s)) (by simp <;> omega) with hp | ⟨l, rest, e1, e2, hp⟩
 · left; refine ⟨4, by decide, ?_⟩
   unfold tcRead_fn tcRead_tree
   simp only [tcN]
   exact ev_f (by (first | (simp; done) | (simp; omega) | omega)) (ev_g (by (first | (simp; done) | (simp; omega) | omega)) (ev_g rfl (ev_f (show decide ((s.length : Int) < (tn s : Int)) = false by (first | (simp; done) | (simp; omega) | omega)) (ev_f (show decide ((tn s : Int) < 20) = false by (first | (simp; done) | (simp; omega) | omega)) (ev_g (by (first | (simp; done) | (simp; omega) | omega)) (ev_g rfl (ev_f (by rw [htm]; rfl) (ev_f (show decide ((65455 : Int) < IntKind.wrap IntKind.i64 ((s.length : Int) - (tn s : Int))) = false by rw [hsub]; (first | (simp; done) | (simp; omega) | omega)) (ev_g (show decide ((0 : Int) <= 20 /\ (20 : Int) <= (tn s : Int) /\ (tn s : Int) <= (s.length : Int)) = true by (first | (simp; done) | (simp; omega) | omega)) (ev_opt hp (ev_t rfl (ev_r rfl))))))))))))
 · have h := tcRead_go s f t hf ht (by omega) (by omega) (by omega) h3 (by omega) l hp
   by_cases hs : sumR s f t
   · right; exact ⟨l, rest, by omega, by omega, by omega, by omega, e1, e2, hs, h.1 hs, h3, hp⟩
   · left; exact ⟨5, by decide, h.2 hs⟩
def setW (l : List UInt8) (i : Nat) (x : Int) : List UInt8 := (l.set i (byteOf (x / 256))).set (i + 1) (byteOf x)
@[simp] theorem setW_len (l : List UInt8) (i : Nat) (x : Int) : (setW l i x).length = l.length := by simp [setW]
theorem getD_set (l : List UInt8) (i j : Nat) (b : UInt8) (h : i < l.length) : (l.set i b).getD j 0 = if i = j then b else l.getD j 0 := by
 rw [List.getD_eq_getElem?_getD, List.getElem?_set]
 split
 · first | rfl | (rw [if_pos h]; rfl)
 · rw [List.getD_eq_getElem?_getD]
theorem getD_setW (l : List UInt8) (i j : Nat) (x : Int) (h : i + 1 < l.length) : (setW l i x).getD j 0 = if i + 1 = j then byteOf x else if i = j then byteOf (x / 256) else l.getD j 0 := by
 unfold setW
 rw [getD_set _ _ _ _ (by simpa using h), getD_set _ _ _ _ (by omega)]
theorem getD_setW_ne (l : List UInt8) (i j : Nat) (x : Int) (h : i + 1 < l.length) (h1 : j ≠ i) (h2 : j ≠ i + 1) : (setW l i x).getD j 0 = l.getD j 0 := by
 rw [getD_setW l i j x h, if_neg (by omega), if_neg (by omega)]
theorem wAt_setW (l : List UInt8) (i : Nat) (x : Int) (h : i + 1 < l.length) : wAt (setW l i x) i = x % 65536 := by
 unfold wAt
 rw [getD_setW l i i x h, getD_setW l i (i + 1) x h, if_neg (by omega), if_pos rfl, if_pos rfl]
 exact wv_wd x
theorem wAt_setW_ne (l : List UInt8) (i j : Nat) (x : Int) (h : i + 1 < l.length) (h1 : j + 1 < i \/ i + 1 < j) : wAt (setW l i x) j = wAt l j := by
 unfold wAt
 rw [getD_setW_ne l i j x h (by omega) (by omega), getD_setW_ne l i (j + 1) x h (by omega) (by omega)]
theorem ws_setW (l : List UInt8) (i : Nat) (x : Int) (h : i + 1 < l.length) (he : i % 2 = 0) : (ws (setW l i x) : Int) = ws l - wAt l i + x % 65536 := by
 have h1 := ws_set l i (byteOf (x / 256)) (by omega)
 have h2 := ws_set (l.set i (byteOf (x / 256))) (i + 1) (byteOf x) (by simpa using h)
 have h3 := wv_wd x
 have h4 := getD_set l i (i + 1) (byteOf (x / 256)) (by omega)
 rw [if_neg (by omega)] at h4
 rw [h4] at h2
 rw [if_pos he] at h1
 rw [if_neg (by omega)] at h2
 unfold setW wAt wv at *
 omega
theorem setW_app_left (g d : List UInt8) (i : Nat) (x : Int) (h : i + 1 < g.length) : setW (g ++ d) i x = setW g i x ++ d := by
 unfold setW
 rw [List.set_append_left _ _ (by omega), List.set_append_left _ _ (by simpa using h)]
theorem setW_app_right (g d : List UInt8) (i : Nat) (x : Int) : setW (g ++ d) (g.length + i) x = g ++ setW d i x := by
 unfold setW
 rw [List.set_append_right _ _ (by omega), List.set_append_right _ _ (by omega), show g.length + i - g.length = i by omega, show g.length + i + 1 - g.length = i + 1 by omega]
theorem setW_comm (l : List UInt8) (i j : Nat) (x y : Int) (h : i + 1 < j \/ j + 1 < i) : setW (setW l i x) j y = setW (setW l j y) i x := by
 unfold setW
 rw [List.set_comm _ _ (i := i + 1) (j := j) (by omega), List.set_comm _ _ (i := i) (j := j) (by omega), List.set_comm _ _ (i := i + 1) (j := j + 1) (by omega), List.set_comm _ _ (i := i) (j := j + 1) (by omega)]
theorem setW_setW (l : List UInt8) (i : Nat) (x y : Int) : setW (setW l i x) i y = setW l i y := by
 unfold setW
 rw [List.set_comm _ _ (i := i + 1) (j := i) (by omega), List.set_set, List.set_set]
theorem setW_id (l : List UInt8) (i : Nat) (h : i + 1 < l.length) : setW l i (wAt l i) = l := by
 have e := wd_wv (l.getD i 0) (l.getD (i + 1) 0)
 have e1 : byteOf (wAt l i / 256) = l.getD i 0 := by unfold wd at e; exact (List.cons.inj e).1
 have e2 : byteOf (wAt l i) = l.getD (i + 1) 0 := by unfold wd at e; exact (List.cons.inj (List.cons.inj e).2).1
 unfold setW
 rw [e1, e2]
 apply List.ext_getElem?
 intro j
 rw [List.getElem?_set, List.getElem?_set]
 split
 · rename_i hj; subst hj
   rw [if_pos (by simpa using h), List.getD_eq_getElem?_getD, List.getElem?_eq_getElem (by omega)]; rfl
 · split
   · rename_i hj; subst hj
     rw [if_pos (by omega), List.getD_eq_getElem?_getD, List.getElem?_eq_getElem (by omega)]; rfl
   · rfl
theorem take_setW (l : List UInt8) (i n : Nat) (x : Int) : (setW l i x).take n = if i + 1 < n then setW (l.take n) i x else if i < n then ((l.take n).set i (byteOf (x / 256))) else l.take n := by
 unfold setW
 rw [List.take_set, List.take_set]
 split
 · rfl
 · split
   · rw [List.set_eq_of_length_le (i := i + 1) (by simp <;> omega)]
   · rw [List.set_eq_of_length_le (i := i + 1) (by simp <;> omega), List.set_eq_of_length_le (i := i) (by simp <;> omega)]
theorem take_setW_in (l : List UInt8) (i n : Nat) (x : Int) (h : i + 1 < n) : (setW l i x).take n = setW (l.take n) i x := by rw [take_setW, if_pos h]
theorem drop_setW_out (l : List UInt8) (i n : Nat) (x : Int) (h : i + 1 < n) : (setW l i x).drop n = l.drop n := by
 unfold setW
 rw [List.drop_set, List.drop_set, if_pos (by omega), if_pos (by omega)]
theorem wAt_take (l : List UInt8) (i n : Nat) (h : i + 1 < n) : wAt (l.take n) i = wAt l i := by
 unfold wAt
 simp only [List.getD_eq_getElem?_getD, List.getElem?_take]
 rw [if_pos (by omega), if_pos h]
theorem wAt_drop (l : List UInt8) (i n : Nat) : wAt (l.drop n) i = wAt l (n + i) := by
 unfold wAt
 simp only [List.getD_eq_getElem?_getD, List.getElem?_drop, Nat.add_assoc]
theorem getD_take (l : List UInt8) (i n : Nat) (h : i < n) : (l.take n).getD i 0 = l.getD i 0 := by
 simp only [List.getD_eq_getElem?_getD, List.getElem?_take]
 rw [if_pos h]

theorem swWord_ok (l : List UInt8) (i : Nat) (h : i + 1 < l.length) (hi : i <= 1000000) : swWord_fn (l, ((i : Int), ())) = some (wAt l i, ()) := by
 have e1 : IntKind.i64.wrap ((i : Int) + 1) = ((i + 1 : Nat) : Int) := by rw [wrap_mid _ (by omega)]; omega
 have g0 : l[i]? = some (l.getD i 0) := by rw [List.getD_eq_getElem?_getD, List.getElem?_eq_getElem (by omega)]; rfl
 have g1 : l[i + 1]? = some (l.getD (i + 1) 0) := by rw [List.getD_eq_getElem?_getD, List.getElem?_eq_getElem (by omega)]; rfl
 unfold swWord_fn swWord_tree
 simp only [e1, Int.toNat_natCast]
 refine ev_g (by simp) (ev_opt g0 (ev_g rfl (ev_g (by (first | (simp; done) | (simp; omega) | omega)) (ev_opt g1 (ev_r ?_)))))
 rw [or_u16]; rfl
theorem swPut_ok (n i : Nat) (x : Int) (l : List UInt8) (h : i + 1 < n) (hn : n <= l.length) (hi : i <= 1000000) : swPut_fn (n, ((i : Int), (x, (l, ())))) = some (setW l i x, ()) := by
 have e1 : IntKind.i64.wrap ((i : Int) + 1) = ((i + 1 : Nat) : Int) := by rw [wrap_mid _ (by omega)]; omega
 have w8 : ∀ x : Int, UInt8.ofNat (Int.toNat (IntKind.wrap IntKind.u8 x)) = byteOf x := fun x => by rw [wrap8u]; rfl
 unfold swPut_fn swPut_tree
 simp only [e1, Int.toNat_natCast, Nat.zero_add, fdiv8, w8]
 exact ev_g rfl (ev_g (by (first | (simp; done) | (simp; omega) | omega)) (ev_opt (List.getElem?_eq_getElem (by omega)) (ev_g (decide_eq_true (wr8 _)) (ev_g (by (first | (simp; done) | (simp; omega) | omega)) (ev_opt (List.getElem?_eq_getElem (by simp <;> omega)) (ev_g (decide_eq_true (wr8 _)) (ev_r rfl)))))))
def fixI (c o n : Int) : Int := 65535 - (ear ((65535 - c) + (65535 - o) + n).toNat : Int)
abbrev U16 (x : Int) : Prop := 0 <= x /\ x <= 65535
theorem fixI_ok {c o n : Int} (hc : U16 c) (ho : U16 o) (hn : U16 n) : sumFix_fn (c, (o, (n, ()))) = some (fixI c o n, ()) := by
 have h := fix_fn c.toNat o.toNat n.toNat (by unfold U16 at hc; omega) (by unfold U16 at ho; omega) (by unfold U16 at hn; omega)
 unfold U16 at hc ho hn
 rw [show ((c.toNat : Int)) = c by omega, show ((o.toNat : Int)) = o by omega, show ((n.toNat : Int)) = n by omega] at h
 rw [h]
 unfold fixI
 rw [show ((65535 - c) + (65535 - o) + n).toNat = 65535 - c.toNat + (65535 - o.toNat) + n.toNat by omega]
theorem fixI_u16 (c o n : Int) : U16 (fixI c o n) := by have := ear_le ((65535 - c) + (65535 - o) + n).toNat; unfold fixI U16; omega
theorem fixI_mod {c o n : Int} (hc : U16 c) (ho : U16 o) (hn : U16 n) : (fixI c o n + n - c - o) % 65535 = 0 := by
 have := ear_mod ((65535 - c) + (65535 - o) + n).toNat
 unfold U16 at hc ho hn; unfold fixI; omega
theorem fixI_low {c o n : Int} (hc : U16 c) (ho : U16 o) (hn : U16 n) (h : c <= 65534) : fixI c o n <= 65534 := by
 have := ear_zero ((65535 - c) + (65535 - o) + n).toNat
 unfold U16 at hc ho hn; unfold fixI; omega

def chk (o x : Int) (l : List UInt8) (c : Nat) : List UInt8 := setW l c (fixI (wAt l c) o x)
theorem chk_len (o x : Int) (l : List UInt8) (c : Nat) : (chk o x l c).length = l.length := by simp [chk]
theorem change_loop (n : Nat) (o x : Int) (ho : U16 o) (hx : U16 x) (CS : List Nat) (hcs : ∀ c ∈ CS, c + 1 < n /\ c <= 1000000) (hCS : CS.length <= 1000) : ∀ (r : List Nat) (k m : Nat) (l : List UInt8), CS.drop k = r -> k <= CS.length -> n <= l.length -> r.length < m ->
  loopO 1060003 (fun x => (swChange_step106_3 x).eval) m ((k : Int), (x, (o, (n, (CS.map (fun c : Nat => (c : Int)), ((CS.length : Int), (l, ()))))))) = some (r.foldl (chk o x) l, ())
 | [], k, m, l, hk, hle, hn, hm => by
  obtain ⟨m, rfl⟩ : ∃ q, m = q + 1 := ⟨m - 1, by simp at hm; omega⟩
  have : k = CS.length := by have := congrArg List.length hk; simp at this; omega
  subst this
  refine loopO_out ?_
  unfold swChange_step106_3
  exact ev_f (by simp) (ev_r rfl)
 | c :: r, k, m, l, hk, hle, hn, hm => by
  obtain ⟨m, rfl⟩ : ∃ q, m = q + 1 := ⟨m - 1, by simp at hm; omega⟩
  have hx0 : CS[k]? = some c := by have := congrArg (·[0]?) hk; simpa using this
  have hk2 : CS.drop (k + 1) = r := by rw [<- List.drop_drop, hk]; rfl
  have hlt := (List.getElem?_eq_some_iff.1 hx0).1
  obtain ⟨hc1, hc2⟩ := hcs c (List.mem_of_getElem? hx0)
  have hw : wAt (l.take n) c = wAt l c := wAt_take l c n hc1
  have st : (swChange_step106_3 ((k : Int), (x, (o, (n, (CS.map (fun c : Nat => (c : Int)), ((CS.length : Int), (l, ())))))))).eval = some (.inl (((k + 1 : Nat) : Int), (x, (o, (n, (CS.map (fun c : Nat => (c : Int)), ((CS.length : Int), (chk o x l c, ())))))))) := by
   unfold swChange_step106_3
   refine ev_t (by (first | (simp; done) | (simp; omega) | omega)) (ev_g (by simp) (ev_opt (b := (c : Int)) (by rw [Int.toNat_natCast, List.getElem?_map, hx0]; rfl) (ev_opt (swWord_ok (l.take n) c (by simp <;> omega) hc2) ?_)))
   rw [hw]
   refine ev_opt (fixI_ok (wAt_bound l c) ho hx) (ev_opt (swPut_ok n c _ l hc1 hn hc2) (ev_r ?_))
   rw [next_i64 k (by omega)]; rfl
  rw [loopO_in st, change_loop n o x ho hx CS hcs hCS r (k + 1) m (chk o x l c) hk2 (by omega) (by rw [chk_len]; exact hn) (by simp at hm; omega)]
  rfl
theorem change_ok (n i : Nat) (x : Int) (hx : U16 x) (CS : List Nat) (hcs : ∀ c ∈ CS, c + 1 < n /\ c <= 1000000) (hCS : CS.length <= 1000) (l : List UInt8) (hi : i + 1 < n) (hi2 : i <= 1000000) (hn : n <= l.length) :
  swChange_fn (n, ((i : Int), (x, (CS.map (fun c : Nat => (c : Int)), (l, ()))))) = some (CS.foldl (chk (wAt l i) x) (setW l i x), ()) := by
 have hw : wAt (l.take n) i = wAt l i := wAt_take l i n hi
 have hl := change_loop n (wAt l i) x (wAt_bound l i) hx CS hcs hCS CS 0 18446744073709551616 (setW l i x) rfl (by omega) (by simpa using hn) (by omega)
 unfold swChange_fn swChange_tree
 refine ev_opt (swWord_ok (l.take n) i (by simp <;> omega) hi2) (ev_opt (swPut_ok n i x l hi hn hi2) ?_)
 rw [hw, List.length_map]
 exact ev_opt (show swChange_loop106_3 _ = _ from hl) (ev_r rfl)
structure TcOk (d : List UInt8) (f t : Int) : Prop where
 n20 : 20 <= tn d
 nle : tn d <= d.length
 most : d.length - tn d <= 65455
 low : (d.getD 12 0).toNat % 16 = 0
 opts : ∃ l, tcParse_fn (List.drop 20 (List.take (tn d) d), ()) = some (l, (true, ()))
 sum : sumR d f t
theorem tc_ok {d : List UInt8} {f t : Int} (hf : U32 f) (ht : U32 t) (h : TcOk d f t) : ∃ l, tcRead_fn (d, (f, (t, ()))) = some (g9 (gOf d l) (0, ())) := by
 obtain ⟨h1, h2, h3, h4, ⟨l, hp⟩, h6⟩ := h
 exact ⟨l, (tcRead_go d f t hf ht (by omega) h2 h1 h4 h3 l hp).1 h6⟩
theorem tc_bad {d : List UInt8} {f t : Int} (hf : U32 f) (ht : U32 t) (hl : d.length <= Lim) (h : ¬ TcOk d f t) : ∃ e, e ≠ 0 /\ tcRead_fn (d, (f, (t, ()))) = some (z9 e) := by
 rcases tcRead_ex d f t hf ht hl with h1 | ⟨l, rest, h1, h2, h3, h4, h5, h6, h7, h8, h9, h10⟩
 · exact h1
 · exact absurd ⟨h1, h3, h4, h9, ⟨l, h10⟩, h7⟩ h
structure DgOk (d : List UInt8) (f t : Int) : Prop where
 n8 : 8 <= wAt d 4
 nle : wAt d 4 <= d.length
 most : wAt d 4 <= 65515
 sum : wAt d 6 ≠ 0 -> ws (under f t 17 (wAt d 4) ++ d.take (wAt d 4).toNat) ≠ 0 /\ ws (under f t 17 (wAt d 4) ++ d.take (wAt d 4).toNat) % 65535 = 0
theorem dg_ok {d : List UInt8} {f t : Int} (hf : U32 f) (ht : U32 t) (hl : d.length <= Lim) (h : DgOk d f t) : dgRead_fn (d, (f, (t, ()))) = some (wAt d 0, (wAt d 2, ((d.take (wAt d 4).toNat).drop 8, (0, ())))) := by
 obtain ⟨h1, h2, h3, h4⟩ := h
 have e : rd d f t = (wAt d 0, wAt d 2, (d.take (wAt d 4).toNat).drop 8, 0) := by
  unfold rd
  rw [if_neg (by omega), if_neg (by omega), if_neg (by omega), if_neg (by omega), if_neg (fun h => h.2 (h4 h.1))]
 rw [dgRead_ok d f t hl hf ht, e]
theorem dg_bad {d : List UInt8} {f t : Int} (hf : U32 f) (ht : U32 t) (hl : d.length <= Lim) (h : ¬ DgOk d f t) : ∃ e : Int, e ≠ 0 /\ dgRead_fn (d, (f, (t, ()))) = some (0, (0, ([], (e, ())))) := by
 rw [dgRead_ok d f t hl hf ht]
 unfold rd
 have b4 := wAt_bound d 4
 by_cases h0 : d.length < 8
 · rw [if_pos h0]; exact ⟨3, by decide, rfl⟩
 rw [if_neg h0]
 by_cases h1 : (d.length : Int) < wAt d 4
 · rw [if_pos h1]; exact ⟨3, by decide, rfl⟩
 rw [if_neg h1]
 by_cases h2 : wAt d 4 < 8
 · rw [if_pos h2]; exact ⟨4, by decide, rfl⟩
 rw [if_neg h2]
 by_cases h3 : 65515 < wAt d 4
 · rw [if_pos h3]; exact ⟨4, by decide, rfl⟩
 rw [if_neg h3]
 split
 · exact ⟨5, by decide, rfl⟩
 · rename_i hn
   refine absurd ⟨by omega, by omega, by omega, fun h6 => ?_⟩ h
   exact Classical.byContradiction fun hx => hn ⟨h6, hx⟩

structure EndOk (s : List UInt8) : Prop where
 ip : IpOk s
 proto : (s.getD 9 0).toNat = 6 \/ (s.getD 9 0).toNat = 17
 whole : (pk s).more = false /\ (pk s).start = 0
 tcp : (s.getD 9 0).toNat = 6 -> TcOk (pk s).data (pk s).from' (pk s).to
 udp : (s.getD 9 0).toNat = 17 -> DgOk (pk s).data (pk s).from' (pk s).to
theorem pk_u32 (s : List UInt8) : U32 (pk s).from' /\ U32 (pk s).to := ⟨lAt_bound s 12, lAt_bound s 16⟩
theorem ends_ok {s : List UInt8} (h : EndOk s) (hl : s.length <= Lim) : swEnds_fn (s, ()) = some ((pk s).from', ((pk s).to, (((s.getD 9 0).toNat : Int), (wAt (pk s).data 0, (wAt (pk s).data 2, ((0 : Int), ())))))) := by
 obtain ⟨h1, h2, ⟨h3, h3'⟩, h4, h5⟩ := h
 obtain ⟨u1, u2⟩ := pk_u32 s
 have hd : (pk s).data.length <= Lim := by show ((s.take (alln s)).drop (hn s)).length <= _; simp; omega
 refine ev_opt (ipRead_ok h1 hl) (ev_f rfl ?_)
 rcases h2 with h2 | h2
 · obtain ⟨l, ht⟩ := tc_ok u1 u2 (h4 h2)
   have e : (pk s).proto = 6 := by show ((s.getD 9 0).toNat : Int) = 6; omega
   have e' : ((s.getD 9 0).toNat : Int) = 6 := by omega
   refine ev_f (show (!decide ((pk s).proto = 6)) = false by rw [e]; rfl) (ev_f h3 (ev_f (show (!decide ((pk s).start = 0)) = false by rw [h3']; rfl) (ev_t (show decide ((pk s).proto = 6) = true by rw [e]; rfl) (ev_opt ht (ev_f rfl (ev_r rfl))))))
 · have ht := dg_ok u1 u2 hd (h5 h2)
   have e : (pk s).proto = 17 := by show ((s.getD 9 0).toNat : Int) = 17; omega
   refine ev_t (show (!decide ((pk s).proto = 6)) = true by rw [e]; rfl) (ev_f (show (!decide ((pk s).proto = 17)) = false by rw [e]; rfl) (ev_f h3 (ev_f (show (!decide ((pk s).start = 0)) = false by rw [h3']; rfl) (ev_f (show decide ((pk s).proto = 6) = false by rw [e]; rfl) (ev_opt ht (ev_f rfl (ev_r rfl)))))))
theorem ends_bad {s : List UInt8} (h : ¬ EndOk s) (hl : s.length <= Lim) : ∃ e : Int, e ≠ 0 /\ swEnds_fn (s, ()) = some ((0 : Int), ((0 : Int), ((0 : Int), ((0 : Int), ((0 : Int), (e, ())))))) := by
 obtain ⟨u1, u2⟩ := pk_u32 s
 have hd : (pk s).data.length <= Lim := by show ((s.take (alln s)).drop (hn s)).length <= _; simp; omega
 by_cases h1 : IpOk s
 case neg =>
   obtain ⟨e, ⟨he, _⟩, hr⟩ := ipRead_bad h1 hl
   exact ⟨e, he, ev_opt hr (ev_t (show (!decide (e = 0)) = true by rw [decide_eq_false he]; rfl) (ev_r rfl))⟩
 have hr := ipRead_ok h1 hl
 by_cases hm : (pk s).more = true
 · by_cases e6 : (pk s).proto = 6
   · exact ⟨9, by decide, ev_opt hr (ev_f rfl (ev_f (show (!decide ((pk s).proto = 6)) = false by rw [e6]; rfl) (ev_t hm (ev_r rfl))))⟩
   by_cases e17 : (pk s).proto = 17
   · exact ⟨9, by decide, ev_opt hr (ev_f rfl (ev_t (show (!decide ((pk s).proto = 6)) = true by rw [decide_eq_false e6]; rfl) (ev_f (show (!decide ((pk s).proto = 17)) = false by rw [e17]; rfl) (ev_t hm (ev_r rfl)))))⟩
   · exact ⟨7, by decide, ev_opt hr (ev_f rfl (ev_t (show (!decide ((pk s).proto = 6)) = true by rw [decide_eq_false e6]; rfl) (ev_t (show (!decide ((pk s).proto = 17)) = true by rw [decide_eq_false e17]; rfl) (ev_r rfl))))⟩
 have hm : (pk s).more = false := by cases hx : (pk s).more with | true => exact absurd hx hm | false => rfl
 by_cases hs : (pk s).start = 0
 case neg =>
   have hs' : (!decide ((pk s).start = 0)) = true := by rw [decide_eq_false hs]; rfl
   by_cases e6 : (pk s).proto = 6
   · exact ⟨9, by decide, ev_opt hr (ev_f rfl (ev_f (show (!decide ((pk s).proto = 6)) = false by rw [e6]; rfl) (ev_f hm (ev_t hs' (ev_r rfl)))))⟩
   by_cases e17 : (pk s).proto = 17
   · exact ⟨9, by decide, ev_opt hr (ev_f rfl (ev_t (show (!decide ((pk s).proto = 6)) = true by rw [decide_eq_false e6]; rfl) (ev_f (show (!decide ((pk s).proto = 17)) = false by rw [e17]; rfl) (ev_f hm (ev_t hs' (ev_r rfl))))))⟩
   · exact ⟨7, by decide, ev_opt hr (ev_f rfl (ev_t (show (!decide ((pk s).proto = 6)) = true by rw [decide_eq_false e6]; rfl) (ev_t (show (!decide ((pk s).proto = 17)) = true by rw [decide_eq_false e17]; rfl) (ev_r rfl))))⟩
 have hs' : (!decide ((pk s).start = 0)) = false := by rw [hs]; rfl
 by_cases e6 : (pk s).proto = 6
 · have e9 : (s.getD 9 0).toNat = 6 := by have : ((s.getD 9 0).toNat : Int) = 6 := e6; omega
   have hn : ¬ TcOk (pk s).data (pk s).from' (pk s).to := fun hx => h ⟨h1, .inl e9, ⟨hm, hs⟩, fun _ => hx, fun e => by omega⟩
   obtain ⟨e, he, ht⟩ := tc_bad u1 u2 hd hn
   exact ⟨e, he, ev_opt hr (ev_f rfl (ev_f (show (!decide ((pk s).proto = 6)) = false by rw [e6]; rfl) (ev_f hm (ev_f hs' (ev_t (show decide ((pk s).proto = 6) = true by rw [e6]; rfl) (ev_opt ht (ev_t (show (!decide (e = 0)) = true by rw [decide_eq_false he]; rfl) (ev_r rfl))))))))⟩
 by_cases e17 : (pk s).proto = 17
 · have e9 : (s.getD 9 0).toNat = 17 := by have : ((s.getD 9 0).toNat : Int) = 17 := e17; omega
   have hn : ¬ DgOk (pk s).data (pk s).from' (pk s).to := fun hx => h ⟨h1, .inr e9, ⟨hm, hs⟩, fun e => by omega, fun _ => hx⟩
   obtain ⟨e, he, ht⟩ := dg_bad u1 u2 hd hn
   exact ⟨e, he, ev_opt hr (ev_f rfl (ev_t (show (!decide ((pk s).proto = 6)) = true by rw [decide_eq_false e6]; rfl) (ev_f (show (!decide ((pk s).proto = 17)) = false by rw [e17]; rfl) (ev_f hm (ev_f hs' (ev_f (show decide ((pk s).proto = 6) = false by rw [decide_eq_false e6]) (ev_opt ht (ev_t (show (!decide (e = 0)) = true by rw [decide_eq_false he]; rfl) (ev_r rfl)))))))))⟩
 · exact ⟨7, by decide, ev_opt hr (ev_f rfl (ev_t (show (!decide ((pk s).proto = 6)) = true by rw [decide_eq_false e6]; rfl) (ev_t (show (!decide ((pk s).proto = 17)) = true by rw [decide_eq_false e17]; rfl) (ev_r rfl))))⟩
def gch (g : List UInt8) (i : Nat) (x : Int) : List UInt8 := chk (wAt g i) x (setW g i x) 10
theorem gch_len (g : List UInt8) (i : Nat) (x : Int) : (gch g i x).length = g.length := by simp [gch, chk_len]
theorem chk_left (o x : Int) (g d : List UInt8) (c : Nat) (h : c + 1 < g.length) : chk o x (g ++ d) c = chk o x g c ++ d := by
 unfold chk
 rw [wAt_app_left _ _ _ h, setW_app_left _ _ _ _ h]
theorem chk_right (o x : Int) (g d : List UInt8) (c : Nat) : chk o x (g ++ d) (g.length + c) = g ++ chk o x d c := by
 unfold chk
 rw [setW_app_right, wAt_app_right _ _ _ (by omega), show g.length + c - g.length = c by omega]
section
variable {g d z : List UInt8} {i c off : Nat} {x : Int}
theorem ch_two (hx : U16 x) (hi : i + 1 < g.length) (h10 : 11 < g.length) (hc : c + 1 < d.length) (hs : g.length + d.length <= 100000) :
  swChange_fn (g.length + d.length, ((i : Int), (x, ([(10 : Int), ((g.length + c : Nat) : Int)], (g ++ (d ++ z), ()))))) = some (gch g i x ++ (chk (wAt g i) x d c ++ z), ()) := by
 have h := change_ok (g.length + d.length) i x hx [10, g.length + c] (by intro q hq; simp at hq; omega) (by simp) (g ++ (d ++ z)) (by omega) (by omega) (by (first | (simp; done) | (simp; omega) | omega))
 refine (show _ = _ from h).trans ?_
 rw [wAt_app_left _ _ _ hi, setW_app_left _ _ _ _ hi]
 simp only [List.foldl_cons, List.foldl_nil]
 rw [chk_left _ _ _ _ _ (by simp <;> omega)]
 have e : g.length + c = (chk (wAt g i) x (setW g i x) 10).length + c := by simp [chk_len]
 rw [e, chk_right, chk_left _ _ _ _ _ (by omega)]
 rfl
theorem ch_one (n : Nat) (hn : n = g.length + d.length) (hx : U16 x) (hi : i + 1 < g.length) (h10 : 11 < g.length) (hs : g.length + d.length <= 100000) :
  swChange_fn (n, ((i : Int), (x, ([(10 : Int)], (g ++ (d ++ z), ()))))) = some (gch g i x ++ (d ++ z), ()) := by
 subst hn
 have h := change_ok (g.length + d.length) i x hx [10] (by intro q hq; simp at hq; omega) (by simp) (g ++ (d ++ z)) (by omega) (by omega) (by (first | (simp; done) | (simp; omega) | omega))
 refine (show _ = _ from h).trans ?_
 rw [wAt_app_left _ _ _ hi, setW_app_left _ _ _ _ hi]
 simp only [List.foldl_cons, List.foldl_nil]
 rw [chk_left _ _ _ _ _ (by simp <;> omega)]
 rfl
theorem ch_port (hx : U16 x) (ho : off + 1 < d.length) (hc : c + 1 < d.length) (hs : g.length + d.length <= 100000) :
  swChange_fn (g.length + d.length, (((g.length + off : Nat) : Int), (x, ([((g.length + c : Nat) : Int)], (g ++ (d ++ z), ()))))) = some (g ++ (chk (wAt d off) x (setW d off x) c ++ z), ()) := by
 have h := change_ok (g.length + d.length) (g.length + off) x hx [g.length + c] (by intro q hq; simp at hq; omega) (by simp) (g ++ (d ++ z)) (by omega) (by omega) (by (first | (simp; done) | (simp; omega) | omega))
 refine (show _ = _ from h).trans ?_
 rw [wAt_app_right _ _ _ (by omega), setW_app_right, setW_app_left _ _ _ _ ho, show g.length + off - g.length = off by omega, wAt_app_left _ _ _ ho]
 simp only [List.foldl_cons, List.foldl_nil]
 rw [chk_right, chk_left _ _ _ _ _ (by simp <;> omega)]
theorem ch_last (hx : U16 x) (ho : off + 1 < d.length) (hs : g.length + d.length <= 100000) :
  swChange_fn (g.length + d.length, (((g.length + off : Nat) : Int), (x, ([], (g ++ (d ++ z), ()))))) = some (g ++ (setW d off x ++ z), ()) := by
 have h := change_ok (g.length + d.length) (g.length + off) x hx [] (by intro q hq; simp at hq) (by simp) (g ++ (d ++ z)) (by omega) (by omega) (by (first | (simp; done) | (simp; omega) | omega))
 refine (show _ = _ from h).trans ?_
 rw [setW_app_right, setW_app_left _ _ _ _ ho]
 rfl
end

def dNew (udp : Bool) (g d : List UInt8) (a p : Int) (i off c : Nat) : List UInt8 :=
 if udp = true /\ wAt d c = 0 then setW d off p else
 let d2 := chk (wAt (gch g i (a / 65536)) (i + 2)) (a % 65536) (chk (wAt g i) (a / 65536) d c) c
 let d3 := chk (wAt d2 off) p (setW d2 off p) c
 if udp = true /\ wAt d3 c = 0 then setW d3 c 65535 else d3
def gNew (g : List UInt8) (a : Int) (i : Nat) : List UInt8 := gch (gch g i (a / 65536)) (i + 2) (a % 65536)
theorem gNew_len (g : List UInt8) (a : Int) (i : Nat) : (gNew g a i).length = g.length := by simp [gNew, gch_len]
theorem dNew_len (udp : Bool) (g d : List UInt8) (a p : Int) (i off c : Nat) : (dNew udp g d a p i off c).length = d.length := by
 unfold dNew
 simp only
 split
 · simp
 · split <;> simp [chk_len]
def udpB (s : List UInt8) : Bool := decide ((s.getD 9 0).toNat = 17)
def cOf (s : List UInt8) : Nat := if (s.getD 9 0).toNat = 17 then 6 else 16
def swp (s : List UInt8) (a p : Int) (i off : Nat) : List UInt8 := gNew (s.take (hn s)) a i ++ dNew (udpB s) (s.take (hn s)) (pk s).data a p i off (cOf s)

theorem end_len {s : List UInt8} (h : EndOk s) : (pk s).data.length = alln s - hn s /\ (s.take (hn s)).length = hn s /\ cOf s + 1 < (pk s).data.length /\ 4 <= (pk s).data.length /\ hn s + (pk s).data.length = alln s /\ alln s <= 65535 /\ 20 <= hn s := by
 have h1 := h.ip.hall; have h2 := h.ip.all; have h3 := h.ip.head; have h4 := h.ip.h20
 have b2 := wAt_bound s 2
 have e : (pk s).data.length = alln s - hn s := by show ((s.take (alln s)).drop (hn s)).length = _; simp; omega
 have hc : cOf s + 1 < (pk s).data.length /\ 4 <= (pk s).data.length := by
  unfold cOf
  rcases h.proto with hp | hp
  · have := h.tcp hp
    have := this.n20; have := (h.tcp hp).nle
    rw [if_neg (by omega)]; omega
  · have := h.udp hp
    have := this.n8; have := (h.udp hp).nle
    rw [if_pos hp]; omega
 exact ⟨e, by rw [List.length_take]; omega, hc.1, hc.2, by omega, by unfold alln; omega, h4⟩
theorem u16w (x : Int) : IntKind.wrap IntKind.u16 x = x % 65536 := wrap16u x
theorem swapped_ok {s : List UInt8} (h : EndOk s) (hl : s.length <= Lim) {a p : Int} {i off : Nat} (ha : U32 a) (hp : U16 p) (hi : i = 12 \/ i = 16) (ho : off = 0 \/ off = 2) :
   swSwapped_fn (s, (a, (p, ((i : Int), ((off : Int), ()))))) = some (swp s a p i off, ((0 : Int), ())) := by
 obtain ⟨l1, l2, l3, l4, l5, l6, l7⟩ := end_len h
 have h1 := h.ip.hall; have h2 := h.ip.all; have h3 := h.ip.head
 have b2 := wAt_bound s 2
 have hA : Int.toNat (wAt s 2) = alln s := rfl
 have hs0 : s = s.take (hn s) ++ ((pk s).data ++ s.drop (alln s)) := by
   show s = s.take (hn s) ++ ((s.take (alln s)).drop (hn s) ++ s.drop (alln s))
   have e1 : s.take (hn s) = (s.take (alln s)).take (hn s) := by rw [List.take_take, Nat.min_eq_left h1]
   rw [<- List.append_assoc, e1, List.take_append_drop, List.take_append_drop]
 have g0 : s[0]? = some (s.getD 0 0) := by rw [List.getD_eq_getElem?_getD, List.getElem?_eq_getElem (by omega)]; rfl
 have hck : wAt (s.take (alln s)) (hn s + cOf s) = wAt (pk s).data (cOf s) := by
   show _ = wAt ((s.take (alln s)).drop (hn s)) (cOf s)
   rw [wAt_drop]
 have hpl : (pk s).proto = ((s.getD 9 0).toNat : Int) := rfl
 have w1 : IntKind.wrap IntKind.u16 (Int.fdiv a ((2 : Int) ^ (16 : Nat))) = a / 65536 := by rw [fdiv16, u16w]; unfold U32 at ha; omega
 have w2 : IntKind.wrap IntKind.u16 a = a % 65536 := u16w a
 have w3 : IntKind.wrap IntKind.u16 p = p := by rw [u16w]; unfold U16 at hp; omega
 have w4 : IntKind.wrap IntKind.i64 ((i : Int) + 2) = ((i + 2 : Nat) : Int) := by rw [wrap_mid _ (by omega)]; omega
 have w5 : IntKind.wrap IntKind.i64 ((hn s : Int) + (off : Int)) = ((hn s + off : Nat) : Int) := by rw [wrap_mid _ (by omega)]; omega
 have u1 : U16 (a / 65536) := by unfold U32 at ha; unfold U16; omega
 have u2 : U16 (a % 65536) := by unfold U16; omega
 have hnb : ((s.getD 0 0).toNat % 16 * 4 : Nat) = hn s := rfl
 unfold swSwapped_fn swSwapped_tree
 refine ev_opt (ends_ok h hl) (ev_f rfl (ev_f (show decide (p < 0) = false by unfold U16 at hp; (first | (simp; done) | (simp; omega) | omega)) (ev_f (show decide ((65535 : Int) < p) = false by unfold U16 at hp; (first | (simp; done) | (simp; omega) | omega)) (ev_g (by unfold Lim at hl; (first | (simp; done) | (simp; omega) | omega)) (ev_opt (swWord_ok s 2 (by have := h.ip.len; omega) (by omega)) (ev_g (by show decide ((0 : Int) <= wAt s 2 /\ wAt s 2 <= (s.length : Int)) = true; unfold alln at h2; (first | (simp; done) | (simp; omega) | omega)) (ev_g (show decide ((0 : Int) <= 0 /\ (0 : Int) < ((alln s : Nat) : Int)) = true by (first | (simp; done) | (simp; omega) | omega)) (ev_opt g0 ?_))))))))
 simp only [hA, hnN, hnb, w1, w2, w3, w4, w5]
 generalize hg : s.take (hn s) = g at *
 generalize hd : (pk s).data = d at *
 generalize hz : s.drop (alln s) = z at *
 have fin : ∀ (q r : List UInt8), q.length = g.length -> r.length = d.length -> List.take (alln s) (q ++ (r ++ z)) = q ++ r := fun q r hq hr => by
   rw [<- List.append_assoc, List.take_left' (by simp <;> omega)]
 have hgd : g.length + d.length = alln s := by omega
 rcases h.proto with hp9 | hp9
 · -- a segment
   have hc : cOf s = 16 := by unfold cOf; rw [if_neg (by omega)]
   have hu : udpB s = false := by unfold udpB; rw [decide_eq_false (by omega)]
   rw [hc] at l3
   have w6 : IntKind.wrap IntKind.i64 ((hn s : Int) + 16) = ((g.length + 16 : Nat) : Int) := by rw [wrap_mid _ (by omega)]; omega
   have n17 : decide (((s.getD 9 0).toNat : Int) = 17) = false := decide_eq_false (by omega)
   have e1 := ch_two (g := g) (d := d) (z := z) (i := i) (c := 16) u1 (by omega) (by omega) (by omega) (by omega)
   have e2 := ch_two (g := gch g i (a / 65536)) (d := chk (wAt g i) (a / 65536) d 16) (z := z) (i := i + 2) (c := 16) u2 (by rw [gch_len]; omega) (by rw [gch_len]; omega) (by rw [chk_len]; omega) (by rw [gch_len, chk_len]; omega)
   have e3 := ch_port (g := gNew g a i) (d := chk (wAt (gch g i (a / 65536)) (i + 2)) (a % 65536) (chk (wAt g i) (a / 65536) d 16) 16) (z := z) (off := off) (c := 16) (x := p) hp (by rw [chk_len, chk_len]; omega) (by rw [chk_len, chk_len]; omega) (by rw [gNew_len, chk_len, chk_len]; omega)
   rw [gch_len, chk_len] at e2
   rw [gNew_len, chk_len, chk_len] at e3
   rw [hgd] at e1 e2 e3
   simp only [w6]
   rw [<- hs0] at e1
   have l2' : hn s = g.length := by omega
   simp only [l2']
   refine ev_f n17 (ev_f n17 (ev_g rfl (ev_opt e1 (ev_opt e2 (ev_g rfl (ev_opt e3 (ev_f n17 (ev_r ?_))))))))
   show (List.take (alln s) _, _) = _
   rw [fin _ _ (gNew_len g a i) (by simp [chk_len])]
   unfold swp dNew
   rw [hg, hd, hu, hc]
   rfl
 · have hc : cOf s = 6 := by unfold cOf; rw [if_pos hp9]
   have hu : udpB s = true := by unfold udpB; rw [decide_eq_true hp9]
   rw [hc] at l3 hck
   have w6 : IntKind.wrap IntKind.i64 ((hn s : Int) + 6) = ((g.length + 6 : Nat) : Int) := by rw [wrap_mid _ (by omega)]; omega
   have n17 : decide (((s.getD 9 0).toNat : Int) = 17) = true := decide_eq_true (by omega)
   have l2' : hn s = g.length := by omega
   have hw := swWord_ok (s.take (alln s)) (g.length + 6) (by rw [List.length_take]; omega) (by omega)
   rw [<- l2', hck] at hw
   simp only [w6]
   rw [<- l2']
   refine ev_t n17 (ev_t n17 (ev_opt hw ?_))
   rw [l2'] at *
   by_cases h0 : wAt d 6 = 0
   · have e1 := ch_one (g := g) (d := d) (z := z) (i := i) (alln s) hgd.symm u1 (by omega) (by omega) (by omega)
     have e2 := ch_one (g := gch g i (a / 65536)) (d := d) (z := z) (i := i + 2) (alln s) (by rw [gch_len]; exact hgd.symm) u2 (by rw [gch_len]; omega) (by rw [gch_len]; omega) (by rw [gch_len]; omega)
     have e3 := ch_last (g := gNew g a i) (d := d) (z := z) (off := off) (x := p) hp (by omega) (by rw [gNew_len]; omega)
     rw [gNew_len, hgd] at e3
     rw [<- hs0] at e1
     refine ev_t (show decide (wAt d 6 = 0) = true from decide_eq_true h0) (ev_g rfl (ev_g rfl (ev_opt e1 (ev_opt e2 (ev_g rfl (ev_opt e3 (ev_t n17 (ev_f (show (!decide (wAt d 6 = 0)) = false by rw [decide_eq_true h0]; rfl) (ev_r ?_)))))))))
     show (List.take (alln s) _, _) = _
     rw [fin _ _ (gNew_len g a i) (by simp)]
     unfold swp dNew
     rw [hg, hd, hu, hc, if_pos ⟨rfl, h0⟩]
   · have e1 := ch_two (g := g) (d := d) (z := z) (i := i) (c := 6) u1 (by omega) (by omega) (by omega) (by omega)
     have e2 := ch_two (g := gch g i (a / 65536)) (d := chk (wAt g i) (a / 65536) d 6) (z := z) (i := i + 2) (c := 6) u2 (by rw [gch_len]; omega) (by rw [gch_len]; omega) (by rw [chk_len]; omega) (by rw [gch_len, chk_len]; omega)
     have e3 := ch_port (g := gNew g a i) (d := chk (wAt (gch g i (a / 65536)) (i + 2)) (a % 65536) (chk (wAt g i) (a / 65536) d 6) 6) (z := z) (off := off) (c := 6) (x := p) hp (by rw [chk_len, chk_len]; omega) (by rw [chk_len, chk_len]; omega) (by rw [gNew_len, chk_len, chk_len]; omega)
     rw [gch_len, chk_len] at e2
     rw [gNew_len, chk_len, chk_len] at e3
     rw [hgd] at e1 e2 e3
     rw [<- hs0] at e1
     refine ev_f (show decide (wAt d 6 = 0) = false from decide_eq_false h0) (ev_g rfl (ev_opt e1 (ev_opt e2 (ev_g rfl (ev_opt e3 (ev_t n17 (ev_t (show (!decide (wAt d 6 = 0)) = true by rw [decide_eq_false h0]; rfl) ?_)))))))
     have hdn : dNew true g d a p i off 6 = (let d2 := chk (wAt (gch g i (a / 65536)) (i + 2)) (a % 65536) (chk (wAt g i) (a / 65536) d 6) 6
        let d3 := chk (wAt d2 off) p (setW d2 off p) 6
        if (true = true) /\ wAt d3 6 = 0 then setW d3 6 65535 else d3) := by unfold dNew; rw [if_neg (fun h => h0 h.2)]
     generalize hd3 : chk (wAt (chk (wAt (gch g i (a / 65536)) (i + 2)) (a % 65536) (chk (wAt g i) (a / 65536) d 6) 6) off) p (setW (chk (wAt (gch g i (a / 65536)) (i + 2)) (a % 65536) (chk (wAt g i) (a / 65536) d 6) 6) off p) 6 = d3 at *
     have ld3 : d3.length = d.length := by rw [<- hd3]; simp [chk_len]
     simp only [hd3] at hdn
     have hw3 : swWord_fn (List.take (alln s) (gNew g a i ++ (d3 ++ z)), (((g.length + 6 : Nat) : Int), ())) = some (wAt d3 6, ()) := by
       rw [fin _ _ (gNew_len g a i) ld3, swWord_ok _ _ (by simp [gNew_len]; omega) (by omega), wAt_app_right _ _ _ (by rw [gNew_len]; omega), gNew_len, show g.length + 6 - g.length = 6 by omega]
     refine ev_opt hw3 ?_
     by_cases h3 : wAt d3 6 = 0
     · have hput := swPut_ok (alln s) (g.length + 6) 65535 (gNew g a i ++ (d3 ++ z)) (by omega) (by simp [gNew_len]; omega) (by omega)
       refine ev_t (show decide (wAt d3 6 = 0) = true from decide_eq_true h3) (ev_opt hput (ev_r ?_))
       show (List.take (alln s) _, _) = _
       have e : g.length + 6 = (gNew g a i).length + 6 := by rw [gNew_len]
       rw [e, setW_app_right, setW_app_left _ _ _ _ (by omega), fin _ _ (gNew_len g a i) (by simp [ld3])]
       unfold swp
       rw [hg, hd, hu, hc, hdn, if_pos ⟨trivial, h3⟩]
     · refine ev_f (show decide (wAt d3 6 = 0) = false from decide_eq_false h3) (ev_r ?_)
       show (List.take (alln s) _, _) = _
       rw [fin _ _ (gNew_len g a i) ld3]
       unfold swp
       rw [hg, hd, hu, hc, hdn, if_neg (fun h => h3 h.2)]
end Go.Proofs.YthkhikdglmaiaaaDoor.X
