/- tcp.Read, in plain terms: whole. Conditions: none. -/
import Derived.Test.YtjehhmeaigkbnaaPTcpR
namespace Go.Proofs.Ytjehhmeaigkbnaa.X
open Go Go.RowKit Go.Proofs.Ytjehhmeaigkbnaa.Abs Go.Proofs.Ytjehhmeaigkbnaa.Bits
set_option linter.unusedVariables false
set_option linter.unnecessarySimpa false
set_option linter.unusedSimpArgs false
set_option maxRecDepth 100000

theorem tcN (b : UInt8) : IntKind.wrap IntKind.i64 (IntKind.wrap IntKind.i64 (Int.tdiv (IntKind.wrap IntKind.i64 (b.toNat : Int)) (16 : Int)) * (4 : Int)) = ((b.toNat / 16 * 4 : Nat) : Int) := by
  have := u8n b
  have e : Int.tdiv (b.toNat : Int) 16 = ((b.toNat / 16 : Nat) : Int) := by rw [Int.tdiv_eq_ediv_of_nonneg (by omega)]; omega
  have w1 : IntKind.wrap IntKind.i64 ((b.toNat / 16 : Nat) : Int) = ((b.toNat / 16 : Nat) : Int) := wrapI64 ⟨by omega, by omega⟩
  have w2 : IntKind.wrap IntKind.i64 (((b.toNat / 16 : Nat) : Int) * 4) = ((b.toNat / 16 : Nat) : Int) * 4 := wrapI64 ⟨by omega, by omega⟩
  rw [byte_i64, e, w1, w2]; omega
theorem tm16 (n : Nat) : Int.tmod (n : Int) (16 : Int) = ((n % 16 : Nat) : Int) := tmN n 16
/-- How long the head is. -/
def tn (s : List UInt8) : Nat := (s.getD 12 0).toNat / 16 * 4
def z9 (e : Int) : (Int × (Int × (Int × (Int × (Int × (Int × (Int × ((List TOption) × ((List UInt8) × (Int × Unit)))))))))) := g9 ⟨0, 0, 0, 0, 0, 0, 0, [], []⟩ (e, ())
/-- Is the sum right? -/
abbrev sumR (s : List UInt8) (f t : Int) : Prop := ws (under f t 6 s.length ++ s) ≠ 0 ∧ ws (under f t 6 s.length ++ s) % 65535 = 0
def gOf (s : List UInt8) (l : List TOption) : TSegment := ⟨wAt s 0, wAt s 2, lAt s 4, lAt s 8, ((s.getD 13 0).toNat : Int), wAt s 14, wAt s 18, l, s.drop (tn s)⟩
theorem tcRead_go (s : List UInt8) (f t : Int) (hf : U32 f) (ht : U32 t) (h20 : 20 ≤ s.length) (h1 : tn s ≤ s.length) (h2 : 20 ≤ tn s) (h3 : (s.getD 12 0).toNat % 16 = 0) (h4 : s.length - tn s ≤ 65455) (l : List TOption)
    (hp : tcParse_fn (List.drop 20 (List.take (tn s) s), ()) = some (l, (true, ()))) :
    (sumR s f t → tcRead_fn (s, (f, (t, ()))) = some (g9 (gOf s l) (0, ()))) ∧ (¬ sumR s f t → tcRead_fn (s, (f, (t, ()))) = some (z9 5)) := by
  have hb := u8n (s.getD 12 0)
  have hn : tn s ≤ 60 := by unfold tn; omega
  have hsl : s.length ≤ 65515 := by omega
  have hlim : s.length ≤ Lim := by unfold Lim; omega
  have hr := right_fn (under f t 6 s.length ++ s) (by simp only [List.length_append, under_len]; unfold Lim; omega)
  have hsub : IntKind.wrap IntKind.i64 ((s.length : Int) - (tn s : Int)) = ((s.length - tn s : Nat) : Int) := by rw [wrapI64 ⟨by omega, by omega⟩]; omega
  have htm : Int.tmod ((s.getD 12 0).toNat : Int) 16 = 0 := by
    have := tmN (s.getD 12 0).toNat 16
    rw [h3] at this; exact this
  have go : tcRead_fn (s, (f, (t, ()))) = (if sumR s f t then some (g9 (gOf s l) (0, ())) else some (z9 5)) := by
    unfold tcRead_fn tcRead_tree
    simp only [tcN]
    refine ev_f (by (first | (simp; done) | (simp; omega) | omega)) (ev_g (by (first | (simp; done) | (simp; omega) | omega)) (ev_g rfl (ev_f (show decide ((s.length : Int) < (tn s : Int)) = false by (first | (simp; done) | (simp; omega) | omega)) (ev_f (show decide ((tn s : Int) < 20) = false by (first | (simp; done) | (simp; omega) | omega)) (ev_g (by (first | (simp; done) | (simp; omega) | omega)) (ev_g rfl (ev_f (by rw [htm]; rfl) (ev_f (show decide ((65455 : Int) < IntKind.wrap IntKind.i64 ((s.length : Int) - (tn s : Int))) = false by rw [hsub]; (first | (simp; done) | (simp; omega) | omega)) (ev_g (show decide ((0 : Int) ≤ 20 ∧ (20 : Int) ≤ (tn s : Int) ∧ (tn s : Int) ≤ (s.length : Int)) = true by (first | (simp; done) | (simp; omega) | omega)) (ev_opt hp (ev_f rfl (ev_opt (dgUnder_ok f t 6 _ hf ht (by decide)) (ev_g (decide_eq_true (by simp only [under_len]; omega)) (ev_opt hr ?_))))))))))))))
    by_cases hs : sumR s f t
    · rw [if_pos hs]
      have hd : decide (ws (under f t 6 s.length ++ s) ≠ 0 ∧ ws (under f t 6 s.length ++ s) % 65535 = 0) = true := decide_eq_true hs
      refine ev_f (by simp only [hd]; rfl) (ev_opt (tcAt_ok s 0 (by omega) hlim) (ev_opt (tcAt_ok s 2 (by omega) hlim) (ev_opt (tcLongAt_ok s 4 (by omega) hlim) (ev_opt (tcLongAt_ok s 8 (by omega) hlim) (ev_g (by (first | (simp; done) | (simp; omega) | omega)) (ev_opt (tcAt_ok s 14 (by omega) hlim) (ev_opt (tcAt_ok s 18 (by omega) hlim) (ev_g (show decide ((0 : Int) ≤ (tn s : Int) ∧ (tn s : Int) ≤ (s.length : Int) ∧ (s.length : Int) ≤ (s.length : Int)) = true by (first | (simp; done) | (simp; omega) | omega)) (ev_r ?_)))))))))
      rw [byte_i64, take_self, Int.toNat_natCast]
      rfl
    · rw [if_neg hs]
      have hd : decide (ws (under f t 6 s.length ++ s) ≠ 0 ∧ ws (under f t 6 s.length ++ s) % 65535 = 0) = false := decide_eq_false hs
      exact ev_t (by simp only [hd]; rfl) (ev_r rfl)
  exact ⟨fun h => by rw [go, if_pos h], fun h => by rw [go, if_neg h]⟩
theorem tcRead_ex (s : List UInt8) (f t : Int) (hf : U32 f) (ht : U32 t) (hl : s.length ≤ Lim) : (∃ e, e ≠ 0 ∧ tcRead_fn (s, (f, (t, ()))) = some (z9 e)) ∨
    ∃ l rest, 20 ≤ tn s ∧ tn s ≤ 60 ∧ tn s ≤ s.length ∧ s.length - tn s ≤ 65455 ∧ List.drop 20 (List.take (tn s) s) = obs l ++ rest ∧ (∀ o ∈ l, okR o) ∧ sumR s f t ∧ tcRead_fn (s, (f, (t, ()))) = some (g9 (gOf s l) (0, ())) ∧ (s.getD 12 0).toNat % 16 = 0 ∧ tcParse_fn (List.drop 20 (List.take (tn s) s), ()) = some (l, (true, ())) := by
  have hb := u8n (s.getD 12 0)
  have hn : tn s ≤ 60 := by unfold tn; omega
  have htm := tmN (s.getD 12 0).toNat 16
  by_cases h20 : s.length < 20
  · left; exact ⟨3, by decide, ev_t (by (first | (simp; done) | (simp; omega) | omega)) (ev_r rfl)⟩
  by_cases h1 : s.length < tn s
  · left; refine ⟨3, by decide, ?_⟩
    unfold tcRead_fn tcRead_tree
    simp only [tcN]
    exact ev_f (by (first | (simp; done) | (simp; omega) | omega)) (ev_g (by (first | (simp; done) | (simp; omega) | omega)) (ev_g rfl (ev_t (show decide ((s.length : Int) < (tn s : Int)) = true by (first | (simp; done) | (simp; omega) | omega)) (ev_r rfl))))
  by_cases h2 : tn s < 20
  · left; refine ⟨4, by decide, ?_⟩
    unfold tcRead_fn tcRead_tree
    simp only [tcN]
    exact ev_f (by (first | (simp; done) | (simp; omega) | omega)) (ev_g (by (first | (simp; done) | (simp; omega) | omega)) (ev_g rfl (ev_f (show decide ((s.length : Int) < (tn s : Int)) = false by (first | (simp; done) | (simp; omega) | omega)) (ev_t (show decide ((tn s : Int) < 20) = true by (first | (simp; done) | (simp; omega) | omega)) (ev_r rfl)))))
  by_cases h3 : (s.getD 12 0).toNat % 16 = 0
  case neg =>
    left; refine ⟨4, by decide, ?_⟩
    unfold tcRead_fn tcRead_tree
    simp only [tcN]
    exact ev_f (by (first | (simp; done) | (simp; omega) | omega)) (ev_g (by (first | (simp; done) | (simp; omega) | omega)) (ev_g rfl (ev_f (show decide ((s.length : Int) < (tn s : Int)) = false by (first | (simp; done) | (simp; omega) | omega)) (ev_f (show decide ((tn s : Int) < 20) = false by (first | (simp; done) | (simp; omega) | omega)) (ev_g (by (first | (simp; done) | (simp; omega) | omega)) (ev_g rfl (ev_t (by rw [tm16, decide_eq_false (by omega)]; rfl) (ev_r rfl))))))))
  have htm : Int.tmod ((s.getD 12 0).toNat : Int) 16 = 0 := by rw [h3] at htm; exact htm
  have hsub : IntKind.wrap IntKind.i64 ((s.length : Int) - (tn s : Int)) = ((s.length - tn s : Nat) : Int) := by unfold Lim at hl; rw [wrapI64 ⟨by omega, by omega⟩]; omega
  by_cases h4 : 65455 < s.length - tn s
  · left; refine ⟨2, by decide, ?_⟩
    unfold tcRead_fn tcRead_tree
    simp only [tcN]
    exact ev_f (by (first | (simp; done) | (simp; omega) | omega)) (ev_g (by (first | (simp; done) | (simp; omega) | omega)) (ev_g rfl (ev_f (show decide ((s.length : Int) < (tn s : Int)) = false by (first | (simp; done) | (simp; omega) | omega)) (ev_f (show decide ((tn s : Int) < 20) = false by (first | (simp; done) | (simp; omega) | omega)) (ev_g (by (first | (simp; done) | (simp; omega) | omega)) (ev_g rfl (ev_f (by rw [htm]; rfl) (ev_t (show decide ((65455 : Int) < IntKind.wrap IntKind.i64 ((s.length : Int) - (tn s : Int))) = true by rw [hsub]; (first | (simp; done) | (simp; omega) | omega)) (ev_r rfl)))))))))
  rcases tcParse_ex (List.drop 20 (List.take (tn s) s)) (by simp; omega) with hp | ⟨l, rest, e1, e2, hp⟩
  · left; refine ⟨4, by decide, ?_⟩
    unfold tcRead_fn tcRead_tree
    simp only [tcN]
    exact ev_f (by (first | (simp; done) | (simp; omega) | omega)) (ev_g (by (first | (simp; done) | (simp; omega) | omega)) (ev_g rfl (ev_f (show decide ((s.length : Int) < (tn s : Int)) = false by (first | (simp; done) | (simp; omega) | omega)) (ev_f (show decide ((tn s : Int) < 20) = false by (first | (simp; done) | (simp; omega) | omega)) (ev_g (by (first | (simp; done) | (simp; omega) | omega)) (ev_g rfl (ev_f (by rw [htm]; rfl) (ev_f (show decide ((65455 : Int) < IntKind.wrap IntKind.i64 ((s.length : Int) - (tn s : Int))) = false by rw [hsub]; (first | (simp; done) | (simp; omega) | omega)) (ev_g (show decide ((0 : Int) ≤ 20 ∧ (20 : Int) ≤ (tn s : Int) ∧ (tn s : Int) ≤ (s.length : Int)) = true by (first | (simp; done) | (simp; omega) | omega)) (ev_opt hp (ev_t rfl (ev_r rfl))))))))))))
  · have h := tcRead_go s f t hf ht (by omega) (by omega) (by omega) h3 (by omega) l hp
    by_cases hs : sumR s f t
    · right; exact ⟨l, rest, by omega, by omega, by omega, by omega, e1, e2, hs, h.1 hs, h3, hp⟩
    · left; exact ⟨5, by decide, h.2 hs⟩
/-- What was written is read. -/
theorem wAt_k (a b : List UInt8) (x : Int) (i : Nat) (h : a.length = i) : wAt (a ++ (wd x ++ b)) i = x % 65536 := by
  rw [wAt_app_right _ _ _ (by omega), show i - a.length = 0 by omega, wAt_wd]
theorem lAt_k (a b : List UInt8) (x : Int) (i : Nat) (h : a.length = i) (hx : U32 x) : lAt (a ++ (lg x ++ b)) i = x := by
  unfold lAt
  have h1 := wAt_k a (wd x ++ b) (x / 65536) i h
  have h2 := wAt_k (a ++ wd (x / 65536)) b x (i + 2) (by simp [h])
  rw [show a ++ (lg x ++ b) = a ++ (wd (x / 65536) ++ (wd x ++ b)) by simp [lg], h1]
  rw [show a ++ (wd (x / 65536) ++ (wd x ++ b)) = a ++ wd (x / 65536) ++ (wd x ++ b) by simp, h2]
  unfold U32 at hx; omega
theorem getD_k (a b : List UInt8) (x : UInt8) (i : Nat) (h : a.length = i) : (a ++ (x :: b)).getD i 0 = x := by
  rw [List.getD_eq_getElem?_getD, List.getElem?_append_right (by omega), show i - a.length = 0 by omega]; rfl
theorem tcRead_sb (g : TSegment) (f t : Int) (hf : U32 f) (ht : U32 t) (hs : U32 g.seq) (ha : U32 g.ack) (hw : werr g = 0) : tcRead_fn (sb g f t, (f, (t, ()))) = some (g9 g (0, ())) := by
  obtain ⟨h1, h2, h3, h4, h5, h6, h7, h8⟩ := werr_in hw
  have pl := pad_len (obs g.options)
  have hlen := sb_len g f t
  have p4 : (pad (obs g.options)).length % 4 = 0 := by omega
  have p40 : (pad (obs g.options)).length ≤ 40 := by omega
  have hsn : sn g = 20 + ((pad (obs g.options)).length : Int) := rfl
  have A : sb g f t = wd g.from' ++ (wd g.to ++ (lg g.seq ++ (lg g.ack ++ (byteOf (sn g * 4) :: byteOf g.flags :: (wd g.window ++ (wd (sc g f t) ++ (wd g.urgent ++ (pad (obs g.options) ++ g.data)))))))) := by
    unfold sb sA sB; simp
  have b12 : (sb g f t).getD 12 0 = byteOf (sn g * 4) := by
    have := getD_k (wd g.from' ++ wd g.to ++ lg g.seq ++ lg g.ack) (byteOf g.flags :: (wd g.window ++ (wd (sc g f t) ++ (wd g.urgent ++ (pad (obs g.options) ++ g.data))))) (byteOf (sn g * 4)) 12 rfl
    rw [A]; simpa using this
  have b13 : (sb g f t).getD 13 0 = byteOf g.flags := by
    have := getD_k (wd g.from' ++ wd g.to ++ lg g.seq ++ lg g.ack ++ [byteOf (sn g * 4)]) (wd g.window ++ (wd (sc g f t) ++ (wd g.urgent ++ (pad (obs g.options) ++ g.data)))) (byteOf g.flags) 13 rfl
    rw [A]; simpa using this
  have bn := byteOf_nat (sn g * 4)
  have bf := byteOf_nat g.flags
  have etn : tn (sb g f t) = 20 + (pad (obs g.options)).length := by unfold tn; rw [b12]; omega
  have htake : List.drop 20 (List.take (tn (sb g f t)) (sb g f t)) = pad (obs g.options) := by
    rw [etn, A]
    have e : wd g.from' ++ (wd g.to ++ (lg g.seq ++ (lg g.ack ++ (byteOf (sn g * 4) :: byteOf g.flags :: (wd g.window ++ (wd (sc g f t) ++ (wd g.urgent ++ (pad (obs g.options) ++ g.data)))))))) =
        (wd g.from' ++ wd g.to ++ lg g.seq ++ lg g.ack ++ [byteOf (sn g * 4), byteOf g.flags] ++ wd g.window ++ wd (sc g f t) ++ wd g.urgent) ++ (pad (obs g.options) ++ g.data) := by simp
    rw [e, List.take_append, List.drop_append]
    simp
  have hdrop : (sb g f t).drop (tn (sb g f t)) = g.data := by
    rw [etn, A]
    have e : wd g.from' ++ (wd g.to ++ (lg g.seq ++ (lg g.ack ++ (byteOf (sn g * 4) :: byteOf g.flags :: (wd g.window ++ (wd (sc g f t) ++ (wd g.urgent ++ (pad (obs g.options) ++ g.data)))))))) =
        (wd g.from' ++ wd g.to ++ lg g.seq ++ lg g.ack ++ [byteOf (sn g * 4), byteOf g.flags] ++ wd g.window ++ wd (sc g f t) ++ wd g.urgent ++ pad (obs g.options)) ++ g.data := by simp
    rw [e, List.drop_left' (by simp; omega)]
  have hol : g.options.length ≤ 40 := by
    have : ∀ l : List TOption, l.length ≤ (obs l).length := by
      intro l
      induction l with
      | nil => simp
      | cons o l ih => rw [obs_cons]; have : 1 ≤ (ob o).length := by unfold ob; split <;> simp
                       simp; omega
    have := this g.options; omega
  have hp := tcParse_rt g.options ((4 - (obs g.options).length % 4) % 4) (fun o ho => okO_R (List.all_eq_true.1 h6 o ho)) (by omega) (by simp; omega)
  have hp' : tcParse_fn (List.drop 20 (List.take (tn (sb g f t)) (sb g f t)), ()) = some (g.options, (true, ())) := by rw [htake]; exact hp
  have hsum : sumR (sb g f t) f t := by
    have := ws_sb g f t
    unfold sumR
    rw [hlen, show ((20 + (pad (obs g.options)).length + g.data.length : Nat) : Int) = sn g + g.data.length by rw [hsn]; omega]
    exact this
  have := (tcRead_go (sb g f t) f t hf ht (by omega) (by omega) (by omega) (by rw [b12]; omega) (by omega) g.options hp').1 hsum
  rw [this]
  have w0 : wAt (sb g f t) 0 = g.from' := by
    rw [A]; have := wAt_k [] (wd g.to ++ (lg g.seq ++ (lg g.ack ++ (byteOf (sn g * 4) :: byteOf g.flags :: (wd g.window ++ (wd (sc g f t) ++ (wd g.urgent ++ (pad (obs g.options) ++ g.data)))))))) g.from' 0 rfl
    rw [List.nil_append] at this; rw [this]; omega
  have w2 : wAt (sb g f t) 2 = g.to := by
    rw [A]; have := wAt_k (wd g.from') (lg g.seq ++ (lg g.ack ++ (byteOf (sn g * 4) :: byteOf g.flags :: (wd g.window ++ (wd (sc g f t) ++ (wd g.urgent ++ (pad (obs g.options) ++ g.data))))))) g.to 2 rfl
    rw [this]; omega
  have w4 : lAt (sb g f t) 4 = g.seq := by
    rw [A]; have := lAt_k (wd g.from' ++ wd g.to) (lg g.ack ++ (byteOf (sn g * 4) :: byteOf g.flags :: (wd g.window ++ (wd (sc g f t) ++ (wd g.urgent ++ (pad (obs g.options) ++ g.data)))))) g.seq 4 rfl hs
    simpa using this
  have w8 : lAt (sb g f t) 8 = g.ack := by
    rw [A]; have := lAt_k (wd g.from' ++ wd g.to ++ lg g.seq) (byteOf (sn g * 4) :: byteOf g.flags :: (wd g.window ++ (wd (sc g f t) ++ (wd g.urgent ++ (pad (obs g.options) ++ g.data))))) g.ack 8 rfl ha
    simpa using this
  have w14 : wAt (sb g f t) 14 = g.window := by
    rw [A]; have := wAt_k (wd g.from' ++ wd g.to ++ lg g.seq ++ lg g.ack ++ [byteOf (sn g * 4), byteOf g.flags]) (wd (sc g f t) ++ (wd g.urgent ++ (pad (obs g.options) ++ g.data))) g.window 14 rfl
    rw [show g.window % 65536 = g.window by omega] at this
    simpa using this
  have w18 : wAt (sb g f t) 18 = g.urgent := by
    rw [A]; have := wAt_k (wd g.from' ++ wd g.to ++ lg g.seq ++ lg g.ack ++ [byteOf (sn g * 4), byteOf g.flags] ++ wd g.window ++ wd (sc g f t)) (pad (obs g.options) ++ g.data) g.urgent 18 rfl
    rw [show g.urgent % 65536 = g.urgent by omega] at this
    simpa using this
  unfold gOf
  rw [w0, w2, w4, w8, w14, w18, hdrop, b13, bf, show g.flags % 256 = g.flags by omega]
end Go.Proofs.Ytjehhmeaigkbnaa.X
