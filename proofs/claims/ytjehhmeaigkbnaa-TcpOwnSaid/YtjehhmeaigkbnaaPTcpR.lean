/- tcp.Read, in plain terms. Conditions: none. -/
import Derived.Test.YtjehhmeaigkbnaaPTcpW
namespace Go.Proofs.Ytjehhmeaigkbnaa.X
open Go Go.RowKit Go.Proofs.Ytjehhmeaigkbnaa.Abs Go.Proofs.Ytjehhmeaigkbnaa.Bits
set_option linter.unusedVariables false
set_option linter.unnecessarySimpa false
set_option linter.unusedSimpArgs false
set_option maxRecDepth 100000

/-- An option as it may be read. -/
def okR (o : TOption) : Prop := 1 ≤ o.kind ∧ o.kind ≤ 255 ∧ o.data.length ≤ 253 ∧ (o.kind = 1 → o.data = [])
theorem okO_R {o : TOption} (h : okO o = true) : okR o := by
  unfold okO at h; simp at h
  refine ⟨by omega, by omega, by omega, fun e => ?_⟩
  rcases h.2.2.2 with h2 | h2
  · exact absurd e h2
  · exact h2
theorem okR_O {o : TOption} (h : okR o) (hl : (ob o).length ≤ 40) : okO o = true := by
  obtain ⟨h1, h2, h3, h4⟩ := h
  have hd : o.data.length ≤ 38 := by
    unfold ob at hl
    split at hl
    · simp at hl; omega
    · rw [h4 (by omega)]; decide
  unfold okO
  have e4 : (!(decide (o.kind = 1) && !decide (o.data = []))) = true := by
    by_cases e : o.kind = 1
    · simp [h4 e]
    · simp [e]
  rw [e4]
  simp; omega
theorem byte_i64 (b : UInt8) : IntKind.wrap IntKind.i64 (b.toNat : Int) = b.toNat := by have := u8n b; exact wrapI64 ⟨by omega, by omega⟩
theorem take_self (l : List UInt8) : List.take (Int.toNat (l.length : Int)) l = l := by rw [Int.toNat_natCast, List.take_length]
/-- The beginning of a text, if it is one. -/
theorem parse_one (b : UInt8) (r : List UInt8) (acc : List TOption) (hb : b.toNat = 1) (hl : acc.length + r.length ≤ 1000) :
    (tcParse_step56_2 (b :: r, (acc, ()))).eval = some (.inl (r, (acc ++ [TOption.mk 1 []], ()))) := by
  unfold tcParse_step56_2
  have e : List.getD (b :: r) 0 0 = b := rfl
  refine ev_t (by simp) (ev_g (by (first | (simp; done) | (simp; omega) | omega)) (ev_t (by rw [e, hb]; rfl) (ev_g (by (first | (simp; done) | (simp; omega) | omega)) (ev_t (by rw [e, hb]; rfl) (ev_g (by (first | (simp; done) | (simp; omega) | omega)) (ev_g (by (first | (simp; done) | (simp; omega) | omega)) (ev_g (by simp) (ev_r ?_))))))))
  rw [take_self]; rfl
theorem parse_more (b c : UInt8) (d r : List UInt8) (acc : List TOption) (hb : 2 ≤ b.toNat) (hc : c.toNat = d.length + 2) (hl : acc.length + r.length + d.length ≤ 1000) :
    (tcParse_step56_2 (b :: c :: (d ++ r), (acc, ()))).eval = some (.inl (r, (acc ++ [TOption.mk b.toNat d], ()))) := by
  unfold tcParse_step56_2
  have e : List.getD (b :: c :: (d ++ r)) 0 0 = b := rfl
  have e1 : List.getD (b :: c :: (d ++ r)) 1 0 = c := rfl
  have h1 := u8n b; have h2 := u8n c
  have hlen : (b :: c :: (d ++ r)).length = d.length + r.length + 2 := by simp
  have t1 : List.take (Int.toNat (c.toNat : Int)) (b :: c :: (d ++ r)) = b :: c :: d := by
    rw [Int.toNat_natCast, hc]; simp
  have t2 : List.drop (Int.toNat (c.toNat : Int)) (b :: c :: (d ++ r)) = r := by
    rw [Int.toNat_natCast, hc]; simp
  simp only [e, e1, byte_i64, hlen]
  refine ev_t (by simp) (ev_g (by (first | (simp; done) | (simp; omega) | omega)) (ev_t (by (first | (simp; done) | (simp; omega) | omega)) (ev_g (by (first | (simp; done) | (simp; omega) | omega)) (ev_f (by (first | (simp; done) | (simp; omega) | omega)) (ev_f (by (first | (simp; done) | (simp; omega) | omega)) (ev_g (by (first | (simp; done) | (simp; omega) | omega)) (ev_f (by (first | (simp; done) | (simp; omega) | omega)) (ev_g (by (first | (simp; done) | (simp; omega) | omega)) (ev_f (by (first | (simp; done) | (simp; omega) | omega)) (ev_g (by (first | (simp; done) | (simp; omega) | omega)) (ev_g (by (first | (simp; done) | (simp; omega) | omega)) (ev_g (by (first | (simp; done) | (simp; omega) | omega)) (ev_g (by (first | (simp; done) | (simp; omega) | omega)) (ev_g (by (first | (simp; done) | (simp; omega) | omega)) (ev_g (by simp) (ev_r ?_))))))))))))))))
  rw [t1, show List.take (Int.toNat ((d.length + r.length + 2 : Nat) : Int)) (b :: c :: (d ++ r)) = b :: c :: (d ++ r) by rw [Int.toNat_natCast, ← hlen, List.take_length], t2]
  rfl
theorem parse_stop (s : List UInt8) (acc : List TOption) (h : s = [] ∨ (s.getD 0 0).toNat = 0) : (tcParse_step56_2 (s, (acc, ()))).eval = some (.inr (.inr (s, (acc, ())))) := by
  unfold tcParse_step56_2
  match s, h with
  | [], _ => exact ev_f rfl (ev_g (by simp) (ev_r rfl))
  | b :: r, h =>
    have h : b.toNat = 0 := by
      rcases h with h | h
      · cases h
      · exact h
    have e : List.getD (b :: r) 0 0 = b := rfl
    exact ev_t (by simp) (ev_g (by (first | (simp; done) | (simp; omega) | omega)) (ev_f (by rw [e, h]; rfl) (ev_g (by simp) (ev_r rfl))))
abbrev pLoop := fun (n : Nat) (x : (List UInt8) × ((List TOption) × Unit)) => loopO 560002 (fun x => (tcParse_step56_2 x).eval) n x
theorem obs_cons (o : TOption) (l : List TOption) : obs (o :: l) = ob o ++ obs l := rfl
theorem parse_ex : ∀ (k : Nat) (s : List UInt8) (acc : List TOption) (n : Nat), s.length ≤ k → acc.length + s.length ≤ 1000 → k < n →
    pLoop n (s, (acc, ())) = some (.inl (false, ())) ∨ ∃ l rest, s = obs l ++ rest ∧ (∀ o ∈ l, okR o) ∧ pLoop n (s, (acc, ())) = some (.inr (rest, (acc ++ l, ())))
  | k, s, acc, n, hk, ha, hn => by
    obtain ⟨n, rfl⟩ : ∃ m, n = m + 1 := ⟨n - 1, by omega⟩
    by_cases h0 : s = [] ∨ (s.getD 0 0).toNat = 0
    · right; exact ⟨[], s, rfl, by simp, by rw [List.append_nil]; exact loopO_out (parse_stop s acc h0)⟩
    match s, h0 with
    | [], h0 => exact absurd (.inl rfl) h0
    | b :: r, h0 =>
    have hb : b.toNat ≠ 0 := fun e => h0 (.inr e)
    have h1 := u8n b
    simp only [List.length_cons] at hk ha
    obtain ⟨k, rfl⟩ : ∃ m, k = m + 1 := ⟨k - 1, by omega⟩
    by_cases hb1 : b.toNat = 1
    · have st := parse_one b r acc hb1 (by omega)
      have hob : ob (TOption.mk 1 []) = [b] := by
        unfold ob; rw [if_neg (by decide)]
        congr 1; apply UInt8.toNat_inj.1; rw [hb1]; rfl
      rcases parse_ex k r (acc ++ [TOption.mk 1 []]) n (by omega) (by (first | (simp; done) | (simp; omega) | omega)) (by omega) with e | ⟨l, rest, e1, e2, e3⟩
      · left; show loopO _ _ _ _ = _; rw [loopO_in st]; exact e
      · right
        refine ⟨TOption.mk 1 [] :: l, rest, by rw [obs_cons, hob, e1]; rfl, fun o ho => ?_, ?_⟩
        · rcases List.mem_cons.1 ho with rfl | ho
          · exact ⟨by decide, by decide, by decide, fun _ => rfl⟩
          · exact e2 o ho
        · show loopO _ _ _ _ = _; rw [loopO_in st]
          rw [show acc ++ TOption.mk 1 [] :: l = acc ++ [TOption.mk 1 []] ++ l by simp]; exact e3
    have e : List.getD (b :: r) 0 0 = b := rfl
    match r, hk, ha with
    | [], hk, ha =>
      left; refine loopO_out ?_
      unfold tcParse_step56_2
      exact ev_t (by simp) (ev_g (by simp) (ev_t (by rw [e]; (first | (simp; done) | (simp; omega) | omega)) (ev_g (by simp) (ev_f (by rw [e]; (first | (simp; done) | (simp; omega) | omega)) (ev_t (by simp) (ev_r rfl))))))
    | c :: r, hk, ha =>
    have h2 := u8n c
    have e1 : List.getD (b :: c :: r) 1 0 = c := rfl
    have e0 : List.getD (b :: c :: r) 0 0 = b := rfl
    simp only [List.length_cons] at hk ha
    have hlen : ((b :: c :: r).length : Int) = r.length + 2 := by simp; omega
    by_cases hc : c.toNat < 2
    · left; refine loopO_out ?_
      unfold tcParse_step56_2
      exact ev_t (by simp) (ev_g (by rw [hlen]; (first | (simp; done) | (simp; omega) | omega)) (ev_t (by rw [e0]; (first | (simp; done) | (simp; omega) | omega)) (ev_g (by rw [hlen]; (first | (simp; done) | (simp; omega) | omega)) (ev_f (by rw [e0]; (first | (simp; done) | (simp; omega) | omega)) (ev_f (by rw [hlen]; (first | (simp; done) | (simp; omega) | omega)) (ev_g (by rw [hlen]; (first | (simp; done) | (simp; omega) | omega)) (ev_t (by rw [e1]; (first | (simp; done) | (simp; omega) | omega)) (ev_r rfl))))))))
    by_cases hc2 : r.length + 2 < c.toNat
    · left; refine loopO_out ?_
      unfold tcParse_step56_2
      exact ev_t (by simp) (ev_g (by rw [hlen]; (first | (simp; done) | (simp; omega) | omega)) (ev_t (by rw [e0]; (first | (simp; done) | (simp; omega) | omega)) (ev_g (by rw [hlen]; (first | (simp; done) | (simp; omega) | omega)) (ev_f (by rw [e0]; (first | (simp; done) | (simp; omega) | omega)) (ev_f (by rw [hlen]; (first | (simp; done) | (simp; omega) | omega)) (ev_g (by rw [hlen]; (first | (simp; done) | (simp; omega) | omega)) (ev_f (by rw [e1]; (first | (simp; done) | (simp; omega) | omega)) (ev_g (by rw [hlen]; (first | (simp; done) | (simp; omega) | omega)) (ev_t (by rw [e1, byte_i64, hlen]; (first | (simp; done) | (simp; omega) | omega)) (ev_r rfl))))))))))
    have hr : r = r.take (c.toNat - 2) ++ r.drop (c.toNat - 2) := (List.take_append_drop _ _).symm
    have hd : (r.take (c.toNat - 2)).length = c.toNat - 2 := by rw [List.length_take]; omega
    have hq : (r.drop (c.toNat - 2)).length = r.length - (c.toNat - 2) := by rw [List.length_drop]
    have st := parse_more b c (r.take (c.toNat - 2)) (r.drop (c.toNat - 2)) acc (by omega) (by omega) (by omega)
    rw [← hr] at st
    have hob : ob (TOption.mk b.toNat (r.take (c.toNat - 2))) = b :: c :: r.take (c.toNat - 2) := by
      unfold ob; rw [if_pos (by show (1 : Int) < (b.toNat : Int); omega)]
      show byteOf (b.toNat : Int) :: byteOf (((r.take (c.toNat - 2)).length : Int) + 2) :: _ = _
      rw [byteOf_self, hd, show (((c.toNat - 2 : Nat) : Int) + 2) = (c.toNat : Int) by omega, byteOf_self]
    rcases parse_ex k (r.drop (c.toNat - 2)) (acc ++ [TOption.mk b.toNat (r.take (c.toNat - 2))]) n (by omega) (by (first | (simp; done) | (simp; omega) | omega)) (by omega) with e | ⟨l, rest, e1, e2, e3⟩
    · left; show loopO _ _ _ _ = _; rw [loopO_in st]; exact e
    · right
      refine ⟨TOption.mk b.toNat (r.take (c.toNat - 2)) :: l, rest, ?_, fun o ho => ?_, ?_⟩
      · rw [obs_cons, hob]
        show b :: c :: r = b :: c :: r.take (c.toNat - 2) ++ obs l ++ rest
        rw [List.append_assoc, ← e1]
        simp
      · rcases List.mem_cons.1 ho with rfl | ho
        · refine ⟨by show (1 : Int) ≤ (b.toNat : Int); omega, by show (b.toNat : Int) ≤ 255; omega, by show (r.take _).length ≤ 253; omega, fun e => ?_⟩
          have : (b.toNat : Int) = 1 := e
          omega
        · exact e2 o ho
      · show loopO _ _ _ _ = _; rw [loopO_in st]
        rw [show acc ++ TOption.mk b.toNat (r.take (c.toNat - 2)) :: l = acc ++ [TOption.mk b.toNat (r.take (c.toNat - 2))] ++ l by simp]; exact e3
theorem parse_rt : ∀ (l : List TOption) (rest : List UInt8) (acc : List TOption) (n : Nat), (∀ o ∈ l, okR o) → (rest = [] ∨ (rest.getD 0 0).toNat = 0) → acc.length + (obs l ++ rest).length ≤ 1000 → l.length < n →
    pLoop n (obs l ++ rest, (acc, ())) = some (.inr (rest, (acc ++ l, ())))
  | [], rest, acc, n, h, hr, ha, hn => by
    obtain ⟨n, rfl⟩ : ∃ m, n = m + 1 := ⟨n - 1, by simp at hn; omega⟩
    rw [List.append_nil]
    exact loopO_out (parse_stop _ acc hr)
  | o :: l, rest, acc, n, h, hr, ha, hn => by
    obtain ⟨n, rfl⟩ : ∃ m, n = m + 1 := ⟨n - 1, by simp at hn; omega⟩
    obtain ⟨h1, h2, h3, h4⟩ := h o (by simp)
    rw [obs_cons, List.append_assoc] at ha ⊢
    simp only [List.length_append] at ha
    show loopO _ _ _ _ = _
    have hn' : l.length < n := by simp at hn; omega
    by_cases h5 : 1 < o.kind
    · have hob : ob o = byteOf o.kind :: byteOf (o.data.length + 2) :: o.data := by unfold ob; rw [if_pos h5]
      have n1 := byteOf_nat o.kind
      have n2 := byteOf_nat ((o.data.length : Int) + 2)
      rw [hob] at ha ⊢
      simp only [List.length_cons] at ha
      have st := parse_more (byteOf o.kind) (byteOf (o.data.length + 2)) o.data (obs l ++ rest) acc (by omega) (by omega) (by (first | (simp; done) | (simp; omega) | omega))
      have e : ((byteOf o.kind).toNat : Int) = o.kind := by omega
      rw [e] at st
      show loopO _ _ _ (byteOf o.kind :: byteOf (o.data.length + 2) :: (o.data ++ (obs l ++ rest)), _) = _
      rw [loopO_in st]
      have := parse_rt l rest (acc ++ [TOption.mk o.kind o.data]) n (fun o ho => h o (by simp [ho])) hr (by (first | (simp; done) | (simp; omega) | omega)) hn'
      rw [show acc ++ o :: l = acc ++ [TOption.mk o.kind o.data] ++ l by simp]
      exact this
    · have ek : o.kind = 1 := by omega
      have hob : ob o = [byteOf o.kind] := by unfold ob; rw [if_neg h5]
      have n1 := byteOf_nat o.kind
      rw [hob] at ha ⊢
      simp only [List.length_singleton] at ha
      have st := parse_one (byteOf o.kind) (obs l ++ rest) acc (by omega) (by (first | (simp; done) | (simp; omega) | omega))
      show loopO _ _ _ (byteOf o.kind :: (obs l ++ rest), _) = _
      rw [loopO_in st]
      have := parse_rt l rest (acc ++ [TOption.mk 1 []]) n (fun o ho => h o (by simp [ho])) hr (by (first | (simp; done) | (simp; omega) | omega)) hn'
      have eo : o = TOption.mk 1 [] := by
        obtain ⟨k, d⟩ := o
        have hd := h4 ek
        simp only at ek hd; rw [ek, hd]
      rw [show acc ++ o :: l = acc ++ [TOption.mk 1 []] ++ l by rw [eo]; simp]
      exact this

/-- Nothing but zeros. -/
theorem zeros_loop (s : List UInt8) (acc : List TOption) (hs : s.length ≤ 1000) :
    loopO 560010 (fun x => (tcParse_step56_10 x).eval) 18446744073709551616 (((0 : Nat) : Int), (s, ((s.length : Int), (acc, ())))) = some (match hit (fun b : UInt8 => decide (b.toNat ≠ 0)) s with | some _ => Sum.inl (false, ()) | none => Sum.inr (acc, ())) := by
  refine loop_hit (T := UInt8) (l := s) (fun i => (((i : Nat) : Int), (s, ((s.length : Int), (acc, ()))))) (fun b : UInt8 => decide (b.toNat ≠ 0)) (fun q => match q with | some _ => Sum.inl (false, ()) | none => Sum.inr (acc, ())) (fun i x hx => ?_) ?_ 18446744073709551616 (by omega)
  · have hi := (List.getElem?_eq_some_iff.1 hx).1
    have e : List.getD s (Int.toNat (i : Int)) 0 = x := by rw [Int.toNat_natCast, List.getD_eq_getElem?_getD, hx]; rfl
    show (tcParse_step56_10 _).eval = _
    unfold tcParse_step56_10
    rcases Bool.eq_false_or_eq_true (decide (x.toNat ≠ 0)) with h | h
    · rw [h]
      have h : x.toNat ≠ 0 := by simpa using h
      exact ev_t (by (first | (simp; done) | (simp; omega) | omega)) (ev_g (by (first | (simp; done) | (simp; omega) | omega)) (ev_t (by rw [e]; (first | (simp; done) | (simp; omega) | omega)) (ev_r rfl)))
    · rw [h]
      have h : x.toNat = 0 := by simpa using h
      refine ev_t (by (first | (simp; done) | (simp; omega) | omega)) (ev_g (by (first | (simp; done) | (simp; omega) | omega)) (ev_f (by rw [e]; (first | (simp; done) | (simp; omega) | omega)) (ev_g (by simp) (ev_r ?_))))
      rw [next_i64 i (by omega)]
  · show (tcParse_step56_10 _).eval = _
    unfold tcParse_step56_10
    exact ev_f (by simp) (ev_g (by simp) (ev_r rfl))
theorem tcParse_ex (s : List UInt8) (hs : s.length ≤ 1000) : tcParse_fn (s, ()) = some ([], (false, ())) ∨ ∃ l rest, s = obs l ++ rest ∧ (∀ o ∈ l, okR o) ∧ tcParse_fn (s, ()) = some (l, (true, ())) := by
  rcases parse_ex s.length s [] 18446744073709551616 (by omega) (by simpa using hs) (by omega) with e | ⟨l, rest, e1, e2, e3⟩
  · left; exact ev_g rfl (ev_opt e rfl)
  · have hr : rest.length ≤ 1000 := by have := congrArg List.length e1; simp at this; omega
    have z := zeros_loop rest l hr
    rw [List.nil_append] at e3
    cases hh : hit (fun b : UInt8 => decide (b.toNat ≠ 0)) rest with
    | some q =>
      rw [hh] at z
      left; exact ev_g rfl (ev_opt e3 (ev_g (by simp) (ev_opt z rfl)))
    | none =>
      rw [hh] at z
      right; exact ⟨l, rest, e1, e2, ev_g rfl (ev_opt e3 (ev_g (by simp) (ev_opt z rfl)))⟩
theorem tcParse_rt (l : List TOption) (m : Nat) (h : ∀ o ∈ l, okR o) (hl : l.length ≤ 1000) (hs : (obs l ++ List.replicate m 0).length ≤ 1000) : tcParse_fn (obs l ++ List.replicate m 0, ()) = some (l, (true, ())) := by
  have e3 := parse_rt l (List.replicate m 0) [] 18446744073709551616 h (by cases m with | zero => exact .inl rfl | succ m => exact .inr rfl) (by simpa using hs) (by omega)
  have z := zeros_loop (List.replicate m 0) l (by simp at hs ⊢; omega)
  have hh : hit (fun b : UInt8 => decide (b.toNat ≠ 0)) (List.replicate m 0) = none := hit_none.2 fun x hx => by rw [(List.mem_replicate.1 hx).2]; rfl
  rw [hh] at z
  rw [List.nil_append] at e3
  exact ev_g rfl (ev_opt e3 (ev_g (by simp) (ev_opt z rfl)))
end Go.Proofs.Ytjehhmeaigkbnaa.X
