/- tcp.Write, in plain terms. Conditions: none. -/
import Derived.Test.YtjehhmeaigkbnaaPTcp
namespace Go.Proofs.Ytjehhmeaigkbnaa.X
open Go Go.RowKit Go.Proofs.Ytjehhmeaigkbnaa.Abs Go.Proofs.Ytjehhmeaigkbnaa.Bits
set_option linter.unusedVariables false
set_option linter.unnecessarySimpa false
set_option linter.unusedSimpArgs false
set_option maxRecDepth 100000

/-- Bytes that are filled up to words of four. -/
def pad (o : List UInt8) : List UInt8 := o ++ List.replicate ((4 - o.length % 4) % 4) 0
theorem pad_len (o : List UInt8) : (pad o).length = o.length + (4 - o.length % 4) % 4 := by simp [pad]
theorem tmN (n k : Nat) : Int.tmod (n : Int) (k : Int) = ((n % k : Nat) : Int) := by
  rw [Int.tmod_eq_emod_of_nonneg (by omega)]; rfl
theorem pad_loop (f t a b c d e h i : Int) (j : List TOption) (k : List UInt8) : ∀ (m : Nat) (o : List UInt8) (n : Nat), (o.length + m) % 4 = 0 → m < 4 → m < n → o.length ≤ 1000 →
    loopO 320008 (fun x => (tcWrite_step32_8 x).eval) n (o, (t, (f, (a, (b, (c, (d, (e, (h, (i, (j, (k, ())))))))))))) = some (t, (f, (o ++ List.replicate m 0, (a, (b, (c, (d, (e, (h, (i, (j, (k, ()))))))))))))
  | 0, o, n, h1, h2, h3, h4 => by
    obtain ⟨n, rfl⟩ : ∃ m, n = m + 1 := ⟨n - 1, by omega⟩
    refine loopO_out ?_
    unfold tcWrite_step32_8
    have := tmN o.length 4
    exact ev_g rfl (ev_f (by simp at this ⊢; omega) (ev_r (by simp)))
  | m + 1, o, n, h1, h2, h3, h4 => by
    obtain ⟨n, rfl⟩ : ∃ m, n = m + 1 := ⟨n - 1, by omega⟩
    have st : (tcWrite_step32_8 (o, (t, (f, (a, (b, (c, (d, (e, (h, (i, (j, (k, ()))))))))))))).eval = some (.inl (o ++ [0], (t, (f, (a, (b, (c, (d, (e, (h, (i, (j, (k, ()))))))))))))) := by
      unfold tcWrite_step32_8
      have := tmN o.length 4
      exact ev_g rfl (ev_t (by simp at this ⊢; omega) (ev_g (by simp; omega) (ev_r rfl)))
    rw [loopO_in st, pad_loop f t a b c d e h i j k m (o ++ [0]) n (by simp; omega) (by omega) (by omega) (by simp; omega)]
    rw [List.append_assoc, List.singleton_append, ← List.replicate_succ]

/-- A segment's bytes ahead of its check. -/
def sA (g : TSegment) (n : Int) : List UInt8 := wd g.from' ++ wd g.to ++ lg g.seq ++ lg g.ack ++ [byteOf (n * 4), byteOf g.flags] ++ wd g.window
/-- Those behind it. -/
def sB (g : TSegment) : List UInt8 := wd g.urgent ++ pad (obs g.options) ++ g.data
def sn (g : TSegment) : Int := 20 + ((pad (obs g.options)).length : Int)
def sc (g : TSegment) (f t : Int) : Int := 65535 - (ear (ws (under f t 6 (sn g + g.data.length) ++ sA g (sn g) ++ sB g)) : Int)
def sb (g : TSegment) (f t : Int) : List UInt8 := sA g (sn g) ++ wd (sc g f t) ++ sB g
def g9 (g : TSegment) {R : Type} (r : R) : (Int × (Int × (Int × (Int × (Int × (Int × (Int × ((List TOption) × ((List UInt8) × R))))))))) :=
  (g.from', (g.to, (g.seq, (g.ack, (g.flags, (g.window, (g.urgent, (g.options, (g.data, r)))))))))
/-- What stops a segment from being written. -/
def werr (g : TSegment) : Int :=
  match [g.from', g.to, g.window, g.urgent].all (fun n => !bad16 n) with
  | false => 1
  | true => match decide (g.flags < 0) || decide (255 < g.flags) with
    | true => 1
    | false => match g.options.all okO with
      | false => 4
      | true => match decide ((40 : Int) < ((obs g.options).length : Int)) || decide ((65455 : Int) < (g.data.length : Int)) with
        | true => 2
        | false => 0
theorem sA_len (g : TSegment) (n : Int) : (sA g n).length = 16 := by simp [sA]
theorem sB_len (g : TSegment) : (sB g).length = 2 + (pad (obs g.options)).length + g.data.length := by simp [sB]; omega
theorem sb_len (g : TSegment) (f t : Int) : (sb g f t).length = 20 + (pad (obs g.options)).length + g.data.length := by simp [sb, sA_len, sB_len]; omega
theorem tcWrite_ok (g : TSegment) (f t : Int) (hs : U32 g.seq) (ha : U32 g.ack) (hf : U32 f) (ht : U32 t) (hl : g.options.length ≤ 1048576) :
    tcWrite_fn (g9 g (f, (t, ()))) = some (match decide (werr g = 0) with | true => (sb g f t, (0, ())) | false => ([], (werr g, ()))) := by
  have h1 := tcWords_ok [g.from', g.to, g.window, g.urgent] (by simp)
  refine ev_opt h1 ?_
  rcases (Bool.eq_false_or_eq_true ([g.from', g.to, g.window, g.urgent].all (fun n => !bad16 n))).symm with c1 | c1
  · rw [show werr g = 1 by unfold werr; rw [c1]]; exact ev_t (by simp only [c1]; rfl) (ev_r rfl)
  refine ev_f (by simp only [c1]; rfl) ?_
  rcases Bool.eq_false_or_eq_true (decide (g.flags < 0)) with c2 | c2
  · rw [show werr g = 1 by unfold werr; rw [c1, c2]; rfl]; exact ev_t c2 (ev_r rfl)
  refine ev_f c2 ?_
  rcases Bool.eq_false_or_eq_true (decide (255 < g.flags)) with c3 | c3
  · rw [show werr g = 1 by unfold werr; rw [c1, c2, c3]; rfl]; exact ev_t c3 (ev_r rfl)
  refine ev_f c3 ?_
  have h2 := tcOptions_ok g.options hl
  rcases (Bool.eq_false_or_eq_true (g.options.all okO)).symm with c4 | c4
  · rw [c4] at h2; rw [show werr g = 4 by unfold werr; rw [c1, c2, c3, c4]; rfl]; exact ev_opt h2 (ev_t rfl (ev_r rfl))
  rw [c4] at h2
  refine ev_opt h2 (ev_f rfl ?_)
  rcases Bool.eq_false_or_eq_true (decide ((40 : Int) < ((obs g.options).length : Int))) with c5 | c5
  · rw [show werr g = 2 by unfold werr; rw [c1, c2, c3, c4, c5]; rfl]; exact ev_t c5 (ev_r rfl)
  refine ev_f c5 ?_
  rcases Bool.eq_false_or_eq_true (decide ((65455 : Int) < (g.data.length : Int))) with c6 | c6
  · rw [show werr g = 2 by unfold werr; rw [c1, c2, c3, c4, c5, c6]; rfl]; exact ev_t c6 (ev_r rfl)
  refine ev_f c6 ?_
  rw [show werr g = 0 by unfold werr; rw [c1, c2, c3, c4, c5, c6]; rfl]
  have d5 : (obs g.options).length ≤ 40 := by simp at c5; omega
  have d6 : g.data.length ≤ 65455 := by simp at c6; omega
  have hp := pad_loop f t g.from' g.to g.seq g.ack g.flags g.window g.urgent g.options g.data ((4 - (obs g.options).length % 4) % 4) (obs g.options) 18446744073709551616 (by omega) (by omega) (by omega) (by omega)
  have pl := pad_len (obs g.options)
  have pl40 : (pad (obs g.options)).length ≤ 43 := by omega
  clear pl
  have hp' := hp; clear hp
  refine ev_opt (b := (t, (f, (pad (obs g.options), (g.from', (g.to, (g.seq, (g.ack, (g.flags, (g.window, (g.urgent, (g.options, (g.data, ()))))))))))))) hp' ?_
  have w1 : IntKind.wrap IntKind.i64 ((20 : Int) + ((pad (obs g.options)).length : Int)) = sn g := wrapI64 ⟨by omega, by omega⟩
  have hsn : 20 ≤ sn g ∧ sn g ≤ 63 := by unfold sn; omega
  have w2 : IntKind.wrap IntKind.i64 (sn g * 4) = sn g * 4 := wrapI64 ⟨by omega, by omega⟩
  have w3 : IntKind.wrap IntKind.i64 (sn g + (g.data.length : Int)) = sn g + (g.data.length : Int) := wrapI64 ⟨by omega, by omega⟩
  have w8 : ∀ x : Int, UInt8.ofNat (Int.toNat (IntKind.wrap IntKind.u8 x)) = byteOf x := fun x => by rw [wrap8u]; rfl
  simp only [w1, w2, w3, w8, w8g]
  refine ev_opt (tcWord_ok _) (ev_opt (tcWord_ok _) (ev_g (by simp) (ev_opt (tcLong_ok _ hs) (ev_g (by simp) (ev_opt (tcLong_ok _ ha) (ev_g (by simp) (ev_g rfl (ev_g rfl (ev_g (by simp) (ev_opt (tcWord_ok _) (ev_g (by simp) (ev_opt (tcWord_ok _) (ev_g (decide_eq_true (by simp only [List.length_append, wd_len]; omega)) (ev_g (decide_eq_true (by simp only [List.length_append, wd_len]; omega)) (ev_opt (dgUnder_ok f t 6 _ hf ht (by decide)) (ev_g (by simp) (ev_g (by simp; omega) ?_)))))))))))))))))
  have hof := of_fn (under f t 6 (sn g + g.data.length) ++ sA g (sn g) ++ sB g) (by simp [sA_len, sB_len]; unfold Lim; omega)
  have hear := ear_le (ws (under f t 6 (sn g + g.data.length) ++ sA g (sn g) ++ sB g))
  have w4 : IntKind.wrap IntKind.i64 (sc g f t) = sc g f t := wrapI64 ⟨by unfold sc; omega, by unfold sc; omega⟩
  refine ev_opt hof ?_
  show (Tr.opt (tcWord_fn (IntKind.wrap IntKind.i64 (sc g f t), ())) _).eval = _
  rw [w4]
  exact ev_opt (tcWord_ok _) (ev_g (by simp) (ev_g (by simp; omega) (ev_r rfl)))

theorem werr_in {g : TSegment} (h : werr g = 0) : (0 ≤ g.from' ∧ g.from' ≤ 65535) ∧ (0 ≤ g.to ∧ g.to ≤ 65535) ∧ (0 ≤ g.window ∧ g.window ≤ 65535) ∧ (0 ≤ g.urgent ∧ g.urgent ≤ 65535) ∧ (0 ≤ g.flags ∧ g.flags ≤ 255) ∧ g.options.all okO = true ∧ (obs g.options).length ≤ 40 ∧ g.data.length ≤ 65455 := by
  unfold werr at h
  split at h
  · cases h
  rename_i c1
  split at h
  · cases h
  rename_i c2
  split at h
  · cases h
  rename_i c3
  split at h
  · cases h
  rename_i c4
  simp [bad16] at c1 c2 c4
  refine ⟨by omega, by omega, by omega, by omega, by omega, c3, by omega, by omega⟩
theorem werr_of {g : TSegment} (h1 : 0 ≤ g.from' ∧ g.from' ≤ 65535) (h2 : 0 ≤ g.to ∧ g.to ≤ 65535) (h3 : 0 ≤ g.window ∧ g.window ≤ 65535) (h4 : 0 ≤ g.urgent ∧ g.urgent ≤ 65535) (h5 : 0 ≤ g.flags ∧ g.flags ≤ 255) (h6 : g.options.all okO = true) (h7 : (obs g.options).length ≤ 40) (h8 : g.data.length ≤ 65455) : werr g = 0 := by
  unfold werr
  rw [show [g.from', g.to, g.window, g.urgent].all (fun n => !bad16 n) = true by simp [bad16]; omega, show (decide (g.flags < 0) || decide (255 < g.flags)) = false by simp; omega, h6, show (decide ((40 : Int) < ((obs g.options).length : Int)) || decide ((65455 : Int) < (g.data.length : Int))) = false by simp; omega]
theorem lg_even (x : Int) : ws (lg x) = ws (lg x) := rfl
/-- The sum of all that stands in a segment, and ahead. -/
theorem ws_sb (g : TSegment) (f t : Int) : (ws (under f t 6 (sn g + g.data.length) ++ sb g f t)) ≠ 0 ∧ (ws (under f t 6 (sn g + g.data.length) ++ sb g f t)) % 65535 = 0 := by
  have e0 : sc g f t = 65535 - (ear (ws (under f t 6 (sn g + g.data.length) ++ sA g (sn g) ++ sB g)) : Int) := rfl
  have h1 := ws_under f t 6 (sn g + g.data.length) (sb g f t)
  have h2 := ws_under f t 6 (sn g + g.data.length) (sA g (sn g) ++ sB g)
  have h3 := ws_app (sA g (sn g)) (sB g) (by rw [sA_len])
  have h4 := ws_app (sA g (sn g) ++ wd (sc g f t)) (sB g) (by simp [sA_len])
  have h5 := ws_app (sA g (sn g)) (wd (sc g f t)) (by rw [sA_len])
  have h6 := ws_wd (sc g f t)
  have hu : 6 ≤ uw f t 6 (sn g + g.data.length) := by unfold uw; omega
  rw [List.append_assoc] at e0
  have h7 : ws (sb g f t) = ws (sA g (sn g)) + ws (wd (sc g f t)) + ws (sB g) := by unfold sb; omega
  generalize ws (under f t 6 (sn g + g.data.length) ++ sb g f t) = x at h1 ⊢
  generalize ws (under f t 6 (sn g + g.data.length) ++ (sA g (sn g) ++ sB g)) = y at e0 h2
  have h8 := ear_le y; have h9 := ear_mod y
  omega
end Go.Proofs.Ytjehhmeaigkbnaa.X
