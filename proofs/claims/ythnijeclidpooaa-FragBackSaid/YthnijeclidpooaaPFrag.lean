/- frag and ip: what Write and Split tell, in plain terms. Conditions: none. -/
import Derived.Test.YthnijeclidpooaaGFrag
import Derived.Test.YthnijeclidpooaaPSum
import Derived.Test.YthnijeclidpooaaPList
import Derived.Test.YthnijeclidpooaaAbsQ
import Derived.KernelRfl
namespace Go.Proofs.Ythnijeclidpooaa.X
open Go Go.RowKit Go.Proofs.Ythnijeclidpooaa.Abs Go.Proofs.Ythnijeclidpooaa.Bits
set_option linter.unusedVariables false
set_option linter.unnecessarySimpa false
set_option linter.unusedSimpArgs false
set_option maxRecDepth 100000

/-! ### Of what a tree comes to, something holds -/
theorem q_g {α : Type} {Q : Option α → Prop} {c : Bool} {t : Tr α} (h : c = true) (h2 : Q t.eval) : Q (Tr.grd c t).eval := by rw [ev_g h rfl]; exact h2
theorem q_t {α : Type} {Q : Option α → Prop} {c : Bool} {t e : Tr α} (h : c = true) (h2 : Q t.eval) : Q (Tr.ite c t e).eval := by rw [ev_t h rfl]; exact h2
theorem q_f {α : Type} {Q : Option α → Prop} {c : Bool} {t e : Tr α} (h : c = false) (h2 : Q e.eval) : Q (Tr.ite c t e).eval := by rw [ev_f h rfl]; exact h2
theorem q_opt {α β : Type} {Q : Option α → Prop} {o : Option β} {k : β → Tr α} {b : β} (h : o = some b) (h2 : Q (k b).eval) : Q (Tr.opt o k).eval := by rw [ev_opt h rfl]; exact h2

theorem wrap_mid (x : Int) (h : -4611686018427387904 ≤ x ∧ x ≤ 4611686018427387904) : IntKind.wrap IntKind.i64 x = x := by
  simp [IntKind.wrap, IntKind.bits, IntKind.signed]
  split <;> omega
def bytB (x : Int) : Bool := decide ((0 : Int) ≤ x) && decide (x ≤ (255 : Int))
theorem byt_fn (x : Int) : ipByt_fn (x, ()) = some (bytB x, ()) := by
  simp only [ipByt_fn, ipByt_tree, bytB, Tr.eval, cond_and]
theorem ipword_fn (x : Int) : ipWord_fn (x, ()) = some (wd x, ()) := by
  unfold ipWord_fn ipWord_tree
  simp only [wrap8u, fdiv8]
  exact ev_g rfl (ev_g (by simp; omega) (ev_g (by simp; omega) (ev_r rfl)))
theorem wr8 (x : Int) : (0 : Int) ≤ IntKind.wrap IntKind.u8 x ∧ IntKind.wrap IntKind.u8 x < 256 := by rw [wrap8u]; omega
def lgf (x : Int) : List UInt8 := [UInt8.ofNat (Int.toNat (IntKind.wrap IntKind.u8 (Int.fdiv x ((2 : Int) ^ (24 : Nat))))), UInt8.ofNat (Int.toNat (IntKind.wrap IntKind.u8 (Int.fdiv x ((2 : Int) ^ (16 : Nat))))), UInt8.ofNat (Int.toNat (IntKind.wrap IntKind.u8 (Int.fdiv x ((2 : Int) ^ (8 : Nat))))), UInt8.ofNat (Int.toNat (IntKind.wrap IntKind.u8 x))]
theorem long_fn (x : Int) : ipLong_fn (x, ()) = some (lgf x, ()) := by
  unfold ipLong_fn ipLong_tree
  exact ev_g rfl (ev_g rfl (ev_g rfl (ev_g (decide_eq_true (wr8 _)) (ev_g (decide_eq_true (wr8 _)) (ev_g (decide_eq_true (wr8 _)) (ev_g (decide_eq_true (wr8 _)) (ev_r rfl)))))))
theorem lgf_len (x : Int) : (lgf x).length = 4 := rfl
theorem wd_len2 (x : Int) : (wd x).length = 2 := rfl
/-- A packet that can be written. -/
structure RefOk (p : TPacket) : Prop where
  tos : 0 ≤ p.tos ∧ p.tos ≤ 255
  life : 0 ≤ p.life ∧ p.life ≤ 255
  proto : 0 ≤ p.proto ∧ p.proto ≤ 255
  id : 0 ≤ p.id ∧ p.id ≤ 65535
  start : 0 ≤ p.start ∧ p.start ≤ 8191
  opt : p.options.length ≤ 40
  four : p.options.length % 4 = 0
  one : p.whole = true → p.more = false ∧ p.start = 0
  data : p.options.length + p.data.length ≤ 65515
theorem refused_fn (p : TPacket) : ∃ c : Int, ipRefused_fn (p.tos, (p.id, (p.whole, (p.more, (p.start, (p.life, (p.proto, (p.from', (p.to, (p.options, (p.data, ()))))))))))) = some (c, ()) ∧ (c = 0 ↔ RefOk p) := by
  unfold ipRefused_fn ipRefused_tree
  have no : ∀ {c : Int}, c ≠ 0 → ¬ RefOk p → (c = 0 ↔ RefOk p) := fun h1 h2 => ⟨fun h => absurd h h1, fun h => absurd h h2⟩
  by_cases h1 : 0 ≤ p.tos ∧ p.tos ≤ 255
  case neg => exact ⟨1, ev_opt (byt_fn _) (ev_t (by simp [bytB]; omega) (ev_r rfl)), no (by decide) fun h => h1 h.tos⟩
  by_cases h2 : 0 ≤ p.life ∧ p.life ≤ 255
  case neg => exact ⟨1, ev_opt (byt_fn _) (ev_f (by simp [bytB]; omega) (ev_opt (byt_fn _) (ev_t (by simp [bytB]; omega) (ev_r rfl)))), no (by decide) fun h => h2 h.life⟩
  by_cases h3 : 0 ≤ p.proto ∧ p.proto ≤ 255
  case neg => exact ⟨1, ev_opt (byt_fn _) (ev_f (by simp [bytB]; omega) (ev_opt (byt_fn _) (ev_f (by simp [bytB]; omega) (ev_opt (byt_fn _) (ev_t (by simp [bytB]; omega) (ev_r rfl)))))), no (by decide) fun h => h3 h.proto⟩
  have pre : ∀ {T : Tr (Int × Unit)} {r : Option (Int × Unit)}, T.eval = r → (Tr.opt (ipByt_fn (p.tos, ())) fun r0 => .ite (!r0.1) (.ret ((1 : Int), ())) (.opt (ipByt_fn (p.life, ())) fun r1 => .ite (!r1.1) (.ret ((1 : Int), ())) (.opt (ipByt_fn (p.proto, ())) fun r2 => .ite (!r2.1) (.ret ((1 : Int), ())) T))).eval = r := fun h =>
    ev_opt (byt_fn _) (ev_f (by simp [bytB]; omega) (ev_opt (byt_fn _) (ev_f (by simp [bytB]; omega) (ev_opt (byt_fn _) (ev_f (by simp [bytB]; omega) h)))))
  by_cases h4 : p.id < 0
  · exact ⟨1, pre (ev_t (by simpa using h4) (ev_r rfl)), no (by decide) fun h => by have := h.id; omega⟩
  by_cases h5 : 65535 < p.id
  · exact ⟨1, pre (ev_f (by simpa using h4) (ev_t (by simpa using h5) (ev_r rfl))), no (by decide) fun h => by have := h.id; omega⟩
  by_cases h6 : p.start < 0
  · exact ⟨1, pre (ev_f (by simpa using h4) (ev_f (by simpa using h5) (ev_t (by simpa using h6) (ev_r rfl)))), no (by decide) fun h => by have := h.start; omega⟩
  by_cases h7 : 8191 < p.start
  · exact ⟨1, pre (ev_f (by simpa using h4) (ev_f (by simpa using h5) (ev_f (by simpa using h6) (ev_t (by simpa using h7) (ev_r rfl))))), no (by decide) fun h => by have := h.start; omega⟩
  by_cases h8 : 40 < p.options.length
  · exact ⟨1, pre (ev_f (by simpa using h4) (ev_f (by simpa using h5) (ev_f (by simpa using h6) (ev_f (by simpa using h7) (ev_t (by simp; omega) (ev_r rfl)))))), no (by decide) fun h => by have := h.opt; omega⟩
  have hm : Int.tmod (p.options.length : Int) 4 = ((p.options.length % 4 : Nat) : Int) := by rw [Int.tmod_eq_emod_of_nonneg (by omega)]; omega
  have hw : IntKind.wrap IntKind.i64 ((65515 : Int) - (p.options.length : Int)) = 65515 - (p.options.length : Int) := wrap_mid _ (by omega)
  by_cases h9 : p.options.length % 4 = 0
  case neg => exact ⟨1, pre (ev_f (by simpa using h4) (ev_f (by simpa using h5) (ev_f (by simpa using h6) (ev_f (by simpa using h7) (ev_f (by simp; omega) (ev_g rfl (ev_t (by rw [hm]; simp; omega) (ev_r rfl)))))))), no (by decide) fun h => h9 h.four⟩
  have pre2 : ∀ {T : Tr (Int × Unit)} {r : Option (Int × Unit)}, T.eval = r → _ = r := fun {T} {r} h => pre (T := .ite (decide (p.id < (0 : Int))) (.ret ((1 : Int), ())) (.ite (decide ((65535 : Int) < p.id)) (.ret ((1 : Int), ())) (.ite (decide (p.start < (0 : Int))) (.ret ((1 : Int), ())) (.ite (decide ((8191 : Int) < p.start)) (.ret ((1 : Int), ())) (.ite (decide ((40 : Int) < (p.options.length : Int))) (.ret ((1 : Int), ())) (.grd true (.ite (!decide (Int.tmod (p.options.length : Int) (4 : Int) = (0 : Int))) (.ret ((1 : Int), ())) T)))))))
    (ev_f (by simpa using h4) (ev_f (by simpa using h5) (ev_f (by simpa using h6) (ev_f (by simpa using h7) (ev_f (by simp; omega) (ev_g rfl (ev_f (by rw [hm, h9]; rfl) h)))))))
  have tail : ∀ {T : Tr (Int × Unit)}, T = .ite (decide (IntKind.wrap IntKind.i64 ((65515 : Int) - (p.options.length : Int)) < (p.data.length : Int))) (.ret ((2 : Int), ())) (.ret ((0 : Int), ())) → (p.whole = true → p.more = false ∧ p.start = 0) → ∃ c : Int, T.eval = some (c, ()) ∧ (c = 0 ↔ RefOk p) := by
    rintro T rfl hone
    by_cases h10 : p.options.length + p.data.length ≤ 65515
    · exact ⟨0, ev_f (by rw [hw]; simp; omega) (ev_r rfl), ⟨fun _ => ⟨h1, h2, h3, by omega, by omega, by omega, h9, hone, h10⟩, fun _ => rfl⟩⟩
    · exact ⟨2, ev_t (by rw [hw]; simp; omega) (ev_r rfl), no (by decide) fun h => h10 h.data⟩
  cases hwh : p.whole with
  | false =>
    obtain ⟨c, hc, hc0⟩ := tail rfl (fun h => by rw [hwh] at h; cases h)
    exact ⟨c, pre2 (ev_f rfl hc), hc0⟩
  | true =>
    cases hmo : p.more with
    | true => exact ⟨4, pre2 (ev_t rfl (ev_t rfl (ev_r rfl))), no (by decide) fun h => by have := (h.one hwh).1; rw [hmo] at this; cases this⟩
    | false =>
      by_cases hst : p.start = 0
      · obtain ⟨c, hc, hc0⟩ := tail rfl (fun _ => ⟨hmo, hst⟩)
        exact ⟨c, pre2 (ev_t rfl (ev_f rfl (ev_f (by simpa using hst) hc))), hc0⟩
      · exact ⟨4, pre2 (ev_t rfl (ev_f rfl (ev_t (by simpa using hst) (ev_r rfl)))), no (by decide) fun h => hst (h.one hwh).2⟩

abbrev wArg (p : TPacket) := (p.tos, (p.id, (p.whole, (p.more, (p.start, (p.life, (p.proto, (p.from', (p.to, (p.options, (p.data, ())))))))))))
theorem write_bad {p : TPacket} (h : ¬ RefOk p) : ∃ c : Int, c ≠ 0 ∧ ipWrite_fn (wArg p) = some ([], (c, ())) := by
  obtain ⟨c, hc, hc0⟩ := refused_fn p
  have : ¬ c = 0 := fun e => h (hc0.1 e)
  refine ⟨c, this, ?_⟩
  unfold ipWrite_fn ipWrite_tree
  exact ev_opt hc (ev_t (by simpa using this) (ev_r rfl))
set_option maxHeartbeats 4000000 in
theorem write_ok {p : TPacket} (h : RefOk p) : ∃ s : List UInt8, ipWrite_fn (wArg p) = some (s, (0, ())) ∧ s.length = 20 + p.options.length + p.data.length := by
  obtain ⟨c, hc, hc0⟩ := refused_fn p
  have := hc0.2 h
  subst this
  have hd := h.data
  have ho := h.opt
  unfold ipWrite_fn
  show (fun r => ∃ s : List UInt8, r = some (s, ((0 : Int), ())) ∧ s.length = 20 + p.options.length + p.data.length) (ipWrite_tree (wArg p)).eval
  generalize hQ : (fun r : Option (List UInt8 × (Int × Unit)) => ∃ s : List UInt8, r = some (s, ((0 : Int), ())) ∧ s.length = 20 + p.options.length + p.data.length) = Q
  have hfin : ∀ s : List UInt8, s.length = 20 + p.options.length + p.data.length → Q (some (s, ((0 : Int), ()))) := fun s hs => by subst hQ; exact ⟨s, rfl, hs⟩
  unfold ipWrite_tree
  refine q_opt hc (q_f rfl ?_)
  cases hw : p.whole with
  | true =>
    refine q_t rfl ?_
    have := (h.one hw).1
    rw [this]
    refine q_f rfl ?_
    (repeat' first | (refine q_g rfl ?_) | (refine q_g (decide_eq_true (wr8 _)) ?_) | (refine q_opt (ipword_fn _) ?_) | (refine q_opt (long_fn _) ?_) | (refine q_opt (of_fn _ ?_) ?_; focus (simp only [List.length_append, List.length_cons, List.length_nil, wd_len2, lgf_len]; unfold Lim; omega)) | (refine q_g (decide_eq_true ?_) ?_; focus (simp only [List.length_append, List.length_cons, List.length_nil, wd_len2, lgf_len]; omega)) | (refine hfin _ ?_; focus (simp only [List.length_append, List.length_cons, List.length_nil, wd_len2, lgf_len]; omega)))
  | false =>
    refine q_f rfl ?_
    cases hm : p.more with
    | true => refine q_t rfl ?_; (repeat' first | (refine q_g rfl ?_) | (refine q_g (decide_eq_true (wr8 _)) ?_) | (refine q_opt (ipword_fn _) ?_) | (refine q_opt (long_fn _) ?_) | (refine q_opt (of_fn _ ?_) ?_; focus (simp only [List.length_append, List.length_cons, List.length_nil, wd_len2, lgf_len]; unfold Lim; omega)) | (refine q_g (decide_eq_true ?_) ?_; focus (simp only [List.length_append, List.length_cons, List.length_nil, wd_len2, lgf_len]; omega)) | (refine hfin _ ?_; focus (simp only [List.length_append, List.length_cons, List.length_nil, wd_len2, lgf_len]; omega)))
    | false => refine q_f rfl ?_; (repeat' first | (refine q_g rfl ?_) | (refine q_g (decide_eq_true (wr8 _)) ?_) | (refine q_opt (ipword_fn _) ?_) | (refine q_opt (long_fn _) ?_) | (refine q_opt (of_fn _ ?_) ?_; focus (simp only [List.length_append, List.length_cons, List.length_nil, wd_len2, lgf_len]; unfold Lim; omega)) | (refine q_g (decide_eq_true ?_) ?_; focus (simp only [List.length_append, List.length_cons, List.length_nil, wd_len2, lgf_len]; omega)) | (refine hfin _ ?_; focus (simp only [List.length_append, List.length_cons, List.length_nil, wd_len2, lgf_len]; omega)))
end Go.Proofs.Ythnijeclidpooaa.X
