/- dgram: what its functions compute, in plain terms. Conditions: none. -/
import Derived.Test.YtjehhmeaigkbnaaPSum
namespace Go.Proofs.Ytjehhmeaigkbnaa.X
open Go Go.RowKit Go.Proofs.Ytjehhmeaigkbnaa.Abs Go.Proofs.Ytjehhmeaigkbnaa.Bits
set_option linter.unusedVariables false
set_option linter.unusedSimpArgs false

theorem m256 (x : Int) : decide (0 ≤ x % 256 ∧ x % 256 < 256) = true := by simp; omega
theorem dgWord_ok (x : Int) : dgWord_fn (x, ()) = some (wd x, ()) := by
  simp only [dgWord_fn, dgWord_tree, Tr.eval, wrap8u, fdiv8, m256, cond_true, wd, byteOf]
theorem dgPort_ok (x : Int) : dgPort_fn (x, ()) = some (decide (0 ≤ x ∧ x ≤ 65535), ()) := by
  simp only [dgPort_fn, dgPort_tree, Tr.eval]
  by_cases h : 0 ≤ x
  · simp [h]
  · simp [h]
abbrev U32 (x : Int) : Prop := 0 ≤ x ∧ x ≤ 4294967295
theorem dgLong_ok (x : Int) (h : U32 x) : dgLong_fn (x, ()) = some (lg x, ()) := by
  have e1 : IntKind.i64.wrap (x / 65536) = x / 65536 := wrapI64 ⟨by unfold U32 at h; omega, by unfold U32 at h; omega⟩
  have e2 : IntKind.i64.wrap x = x := wrapI64 ⟨by unfold U32 at h; omega, by unfold U32 at h; omega⟩
  simp only [dgLong_fn, dgLong_tree, Tr.eval, fdiv16, e1, e2, cond_true, dgWord_ok, Option.bind_some, wd_len]
  rfl
theorem wAt_ok (l : List UInt8) (i : Nat) (h : i + 1 < l.length) (hl : l.length ≤ Lim) : dgWordAt_fn (l, ((i : Int), ())) = some (wAt l i, ()) := by
  have e1 : IntKind.i64.wrap ((i : Int) + 1) = ((i + 1 : Nat) : Int) := by
    rw [wrapI64 ⟨by unfold Lim at hl; omega, by unfold Lim at hl; omega⟩]; omega
  simp only [dgWordAt_fn, dgWordAt_tree, Tr.eval, e1, Int.toNat_natCast]
  rw [show decide (0 ≤ (i : Int) ∧ (i : Int) < (l.length : Int)) = true by simp; omega, cond_true, cond_true, show decide (0 ≤ ((i + 1 : Nat) : Int) ∧ ((i + 1 : Nat) : Int) < (l.length : Int)) = true by simp; omega, cond_true, or_i64]
  rfl
/-- The text ahead, that the sum is of. -/
def under (f t p n : Int) : List UInt8 := lg f ++ lg t ++ wd p ++ wd n
@[simp] theorem under_len (f t p n : Int) : (under f t p n).length = 12 := rfl
theorem dgUnder_ok (f t p n : Int) (hf : U32 f) (ht : U32 t) (hp : 0 ≤ p ∧ p ≤ 255) : dgUnder_fn (f, (t, (p, (n, ())))) = some (under f t p n, ()) := by
  have e1 : bits .and .i64 p 255 = p := by
    have := bits_and_mask .i64 8 p hp.1 (by show p < 2 ^ 64; omega) (by decide) (fun _ => by show p < 2 ^ 63; omega)
    rw [show ((255 : Int)) = 2 ^ 8 - 1 from rfl, this]; omega
  simp only [dgUnder_fn, dgUnder_tree, Tr.eval, dgLong_ok f hf, dgLong_ok t ht, e1, dgWord_ok, Option.bind_some, lg_len, wd_len, List.length_append, Nat.reduceAdd, Nat.reduceLeDiff, decide_true, cond_true]
  rfl
/-- What it sums up to. -/
def uw (f t p n : Int) : Int := f / 65536 % 65536 + f % 65536 + (t / 65536 % 65536 + t % 65536) + p % 65536 + n % 65536
theorem ws_lg (x : Int) : (ws (lg x) : Int) = x / 65536 % 65536 + x % 65536 := by
  unfold lg; rw [ws_wd_app, ws_wd]
theorem ws_under (f t p n : Int) (k : List UInt8) : (ws (under f t p n ++ k) : Int) = uw f t p n + ws k := by
  have h1 := ws_app (under f t p n) k (by simp)
  have h2 := ws_app (lg f ++ lg t ++ wd p) (wd n) (by simp)
  have h3 := ws_app (lg f ++ lg t) (wd p) (by simp)
  have h4 := ws_app (lg f) (lg t) (by simp)
  have := ws_lg f; have := ws_lg t; have := ws_wd p; have := ws_wd n
  unfold under uw at *
  omega
theorem uw_swap (f t p n : Int) : uw f t p n = uw t f p n := by unfold uw; omega

/-- A letter's bytes. -/
def lb (a b : Int) (d : List UInt8) (c : Int) : List UInt8 := wd a ++ wd b ++ wd (8 + d.length) ++ wd c ++ d
@[simp] theorem lb_len (a b : Int) (d : List UInt8) (c : Int) : (lb a b d c).length = 8 + d.length := by simp [lb]; omega
theorem ws_lb (a b : Int) (d : List UInt8) (c : Int) : (ws (lb a b d c) : Int) = a % 65536 + b % 65536 + (8 + d.length) % 65536 + c % 65536 + ws d := by
  have h1 := ws_app (wd a ++ wd b ++ wd (8 + d.length) ++ wd c) d (by simp)
  have h2 := ws_app (wd a ++ wd b ++ wd (8 + d.length)) (wd c) (by simp)
  have h3 := ws_app (wd a ++ wd b) (wd (8 + d.length)) (by simp)
  have h4 := ws_app (wd a) (wd b) (by simp)
  have := ws_wd a; have := ws_wd b; have := ws_wd c; have := ws_wd (8 + d.length)
  unfold lb; omega
theorem wAt_lb (a b : Int) (d : List UInt8) (c : Int) : wAt (lb a b d c) 0 = a % 65536 ∧ wAt (lb a b d c) 2 = b % 65536 ∧ wAt (lb a b d c) 4 = (8 + (d.length : Int)) % 65536 ∧ wAt (lb a b d c) 6 = c % 65536 :=
  ⟨wv_wd a, wv_wd b, wv_wd _, wv_wd c⟩

/-- The check of a letter. -/
def lc (f t a b : Int) (d : List UInt8) : Int :=
  let c := 65535 - (ear (ws (under f t 17 (8 + d.length) ++ (wd a ++ wd b ++ wd (8 + d.length)) ++ d)) : Int)
  if c = 0 then 65535 else c
theorem lc_ok (f t a b : Int) (d : List UInt8) (hp : 0 ≤ a ∧ a ≤ 65535 ∧ 0 ≤ b ∧ b ≤ 65535) (hd : d.length ≤ 65507) : 1 ≤ lc f t a b d ∧ lc f t a b d ≤ 65535 ∧ (uw f t 17 (8 + d.length) + ws (lb a b d (lc f t a b d))) % 65535 = 0 := by
  have h0 := ws_lb a b d (lc f t a b d)
  have h1 := ws_under f t 17 (8 + d.length) ((wd a ++ wd b ++ wd (8 + d.length)) ++ d)
  have h2 := ws_app (wd a ++ wd b ++ wd (8 + d.length)) d (by simp)
  have h3 := ws_app (wd a ++ wd b) (wd (8 + d.length)) (by simp)
  have h4 := ws_app (wd a) (wd b) (by simp)
  have := ws_wd a; have := ws_wd b; have := ws_wd (8 + d.length)
  have hb : 1 ≤ lc f t a b d ∧ lc f t a b d ≤ 65535 ∧ (lc f t a b d + (ws (under f t 17 (8 + d.length) ++ (wd a ++ wd b ++ wd (8 + d.length)) ++ d) : Int)) % 65535 = 0 := by
    unfold lc
    generalize ws (under f t 17 (8 + d.length) ++ (wd a ++ wd b ++ wd (8 + d.length)) ++ d) = n
    have h5 := ear_le n; have h6 := ear_mod n
    simp only
    split <;> omega
  rw [List.append_assoc] at hb
  generalize ws (under f t 17 (8 + d.length) ++ ((wd a ++ wd b ++ wd (8 + d.length)) ++ d)) = n at *
  refine ⟨hb.1, hb.2.1, ?_⟩
  omega

theorem dgWrite_ok (a b : Int) (d : List UInt8) (f t : Int) (hp : 0 ≤ a ∧ a ≤ 65535 ∧ 0 ≤ b ∧ b ≤ 65535) (hd : d.length ≤ 65507) (hf : U32 f) (ht : U32 t) :
    dgWrite_fn (a, (b, (d, (f, (t, ()))))) = some (lb a b d (lc f t a b d), (0, ())) := by
  have e1 : IntKind.i64.wrap ((8 : Int) + (d.length : Int)) = 8 + d.length := wrapI64 ⟨by omega, by omega⟩
  have hs : sumOf_fn (under f t 17 (8 + d.length) ++ (wd a ++ wd b ++ wd (8 + d.length)) ++ d, ()) = some (65535 - (ear (ws (under f t 17 (8 + d.length) ++ (wd a ++ wd b ++ wd (8 + d.length)) ++ d)) : Int), ()) := of_fn _ (by simp; unfold Lim; omega)
  refine ev_opt (dgPort_ok a) (ev_f (by simp; omega) (ev_opt (dgPort_ok b) (ev_f (by simp; omega) (ev_f (by simp; omega) (ev_opt (dgWord_ok a) (ev_opt (dgWord_ok b) (ev_g (by simp) ?_)))))))
  rw [e1]
  refine ev_opt (dgWord_ok _) (ev_g (by simp) (ev_opt (dgUnder_ok f t 17 _ hf ht (by decide)) (ev_g (by simp) (ev_g (by simp; omega) (ev_opt hs ?_)))))
  have hl := ear_le (ws (under f t 17 (8 + d.length) ++ (wd a ++ wd b ++ wd (8 + d.length)) ++ d))
  refine ev_ite (fun h => ?_) (fun h => ?_)
  · have h : 65535 - (ear (ws (under f t 17 (8 + d.length) ++ (wd a ++ wd b ++ wd (8 + d.length)) ++ d)) : Int) = 0 := by simpa using h
    refine ev_opt (dgWord_ok _) (ev_g (by simp) (ev_g (by simp; omega) (ev_r ?_)))
    unfold lb lc
    simp only [h, if_true]
  · have h : ¬ 65535 - (ear (ws (under f t 17 (8 + d.length) ++ (wd a ++ wd b ++ wd (8 + d.length)) ++ d)) : Int) = 0 := by simpa using h
    refine ev_opt (dgWord_ok _) (ev_g (by simp) (ev_g (by simp; omega) (ev_r ?_)))
    have e2 : IntKind.i64.wrap (65535 - (ear (ws (under f t 17 (8 + d.length) ++ (wd a ++ wd b ++ wd (8 + d.length)) ++ d)) : Int)) = 65535 - (ear (ws (under f t 17 (8 + d.length) ++ (wd a ++ wd b ++ wd (8 + d.length)) ++ d)) : Int) := wrapI64 ⟨by omega, by omega⟩
    unfold lb lc
    simp only [h, if_false, e2]
theorem dgWrite_no (a b : Int) (d : List UInt8) (f t : Int) (hp : ¬ (0 ≤ a ∧ a ≤ 65535 ∧ 0 ≤ b ∧ b ≤ 65535 ∧ d.length ≤ 65507)) :
    ∃ e, dgWrite_fn (a, (b, (d, (f, (t, ()))))) = some ([], (e, ())) ∧ e ≠ 0 := by
  by_cases ha : 0 ≤ a ∧ a ≤ 65535
  · by_cases hb : 0 ≤ b ∧ b ≤ 65535
    · exact ⟨2, ev_opt (dgPort_ok a) (ev_f (by simp; omega) (ev_opt (dgPort_ok b) (ev_f (by simp; omega) (ev_t (by simp; omega) rfl)))), by decide⟩
    · exact ⟨1, ev_opt (dgPort_ok a) (ev_f (by simp; omega) (ev_opt (dgPort_ok b) (ev_t (by simp; omega) rfl))), by decide⟩
  · exact ⟨1, ev_opt (dgPort_ok a) (ev_t (by simp; omega) rfl), by decide⟩

/-- What a letter is read as. -/
def rd (s : List UInt8) (f t : Int) : Int × Int × List UInt8 × Int :=
  if s.length < 8 then (0, 0, [], 3) else
  if (s.length : Int) < wAt s 4 then (0, 0, [], 3) else
  if wAt s 4 < 8 then (0, 0, [], 4) else
  if 65515 < wAt s 4 then (0, 0, [], 4) else
  if wAt s 6 ≠ 0 ∧ ¬ (ws (under f t 17 (wAt s 4) ++ s.take (wAt s 4).toNat) ≠ 0 ∧ ws (under f t 17 (wAt s 4) ++ s.take (wAt s 4).toNat) % 65535 = 0) then (0, 0, [], 5) else
  (wAt s 0, wAt s 2, (s.take (wAt s 4).toNat).drop 8, 0)
theorem dgRead_ok (s : List UInt8) (f t : Int) (hs : s.length ≤ Lim) (hf : U32 f) (ht : U32 t) : dgRead_fn (s, (f, (t, ()))) = some ((rd s f t).1, ((rd s f t).2.1, ((rd s f t).2.2.1, ((rd s f t).2.2.2, ())))) := by
  unfold rd
  by_cases h8 : s.length < 8
  · rw [if_pos h8]; exact ev_t (by simp; omega) rfl
  rw [if_neg h8]
  have w4 := wAt_ok s 4 (by omega) hs
  have b4 := wAt_bound s 4
  refine ev_f (by simp; omega) (ev_opt w4 ?_)
  by_cases h1 : (s.length : Int) < wAt s 4
  · rw [if_pos h1]; exact ev_t (by simpa using h1) rfl
  rw [if_neg h1]
  refine ev_f (by simpa using h1) ?_
  by_cases h2 : wAt s 4 < 8
  · rw [if_pos h2]; exact ev_t (by simpa using h2) rfl
  rw [if_neg h2]
  refine ev_f (by simpa using h2) ?_
  by_cases h3 : 65515 < wAt s 4
  · rw [if_pos h3]; exact ev_t (by simpa using h3) rfl
  rw [if_neg h3]
  refine ev_f (by simpa using h3) (ev_opt (wAt_ok s 6 (by omega) hs) ?_)
  have hlt : (s.take (wAt s 4).toNat).length ≤ 65515 := by rw [List.length_take]; omega
  by_cases h6 : wAt s 6 = 0
  · rw [if_neg (by simp [h6])]
    refine ev_f (by simp [h6]) (ev_opt (wAt_ok s 0 (by omega) hs) (ev_opt (wAt_ok s 2 (by omega) hs) (ev_g (by simp; omega) rfl)))
  · refine ev_t (by simp [h6]) (ev_opt (dgUnder_ok f t 17 _ hf ht (by decide)) (ev_g (by simp; omega) (ev_g (by simp; omega) ?_)))
    have hr := right_fn (under f t 17 (wAt s 4) ++ s.take (wAt s 4).toNat) (by simp; unfold Lim; omega)
    rw [← List.drop_zero (l := s.take (wAt s 4).toNat)] at hr
    refine ev_opt hr ?_
    rw [List.drop_zero]
    by_cases hx : ws (under f t 17 (wAt s 4) ++ s.take (wAt s 4).toNat) ≠ 0 ∧ ws (under f t 17 (wAt s 4) ++ s.take (wAt s 4).toNat) % 65535 = 0
    · rw [if_neg (fun h => h.2 hx)]
      exact ev_f (by simpa using hx) (ev_opt (wAt_ok s 0 (by omega) hs) (ev_opt (wAt_ok s 2 (by omega) hs) (ev_g (by simp; omega) rfl)))
    · rw [if_pos ⟨h6, hx⟩]
      exact ev_t (by rw [decide_eq_false hx]; rfl) rfl

/-- A letter with its check is read as it is. -/
theorem rd_lb (a b : Int) (d : List UInt8) (c f t : Int) (hp : 0 ≤ a ∧ a ≤ 65535 ∧ 0 ≤ b ∧ b ≤ 65535) (hd : d.length ≤ 65507) (hc : 1 ≤ c ∧ c ≤ 65535) (hr : (uw f t 17 (8 + d.length) + ws (lb a b d c)) % 65535 = 0) :
    rd (lb a b d c) f t = (a, b, d, 0) := by
  obtain ⟨w0, w2, w4, w6⟩ := wAt_lb a b d c
  have e4 : wAt (lb a b d c) 4 = 8 + d.length := by rw [w4]; omega
  have hl := lb_len a b d c
  have ht : (lb a b d c).take (8 + (d.length : Int)).toNat = lb a b d c := by
    rw [show (8 + (d.length : Int)).toNat = (lb a b d c).length by rw [hl]; omega, List.take_length]
  have hu := ws_under f t 17 (8 + d.length) (lb a b d c)
  have hw := ws_lb a b d c
  have hu0 : 0 ≤ uw f t 17 (8 + d.length) := by unfold uw; omega
  unfold rd
  rw [e4, w6, w0, w2, hl, ht]
  rw [if_neg (by omega), if_neg (by omega), if_neg (by omega), if_neg (by omega), if_neg (by omega)]
  have e1 : a % 65536 = a := by omega
  have e2 : b % 65536 = b := by omega
  rw [e1, e2]
  rfl
end Go.Proofs.Ytjehhmeaigkbnaa.X
