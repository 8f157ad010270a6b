/- ip.Read, in plain terms. Conditions: none. -/
import Derived.Test.YtkfpdgibaadmbaaDoorGIp
import Derived.Test.YtkfpdgibaadmbaaDoorPSum
import Derived.Test.YtkfpdgibaadmbaaDoorPList
import Derived.Test.YtkfpdgibaadmbaaDoorAbsQ
import Derived.KernelRfl
namespace Go.Proofs.YtkfpdgibaadmbaaDoor.X
open Go Go.RowKit Go.Proofs.YtkfpdgibaadmbaaDoor.Abs Go.Proofs.YtkfpdgibaadmbaaDoor.Bits
set_option linter.unusedVariables false
set_option linter.unnecessarySimpa false
set_option linter.unusedSimpArgs false
set_option maxRecDepth 100000

/-! ### Of what a tree comes to, something holds -/
theorem q_g {α : Type} {Q : Option α → Prop} {c : Bool} {t : Tr α} (h : c = true) (h2 : Q t.eval) : Q (Tr.grd c t).eval := by rw [ev_g h rfl]; exact h2
theorem q_t {α : Type} {Q : Option α → Prop} {c : Bool} {t e : Tr α} (h : c = true) (h2 : Q t.eval) : Q (Tr.ite c t e).eval := by rw [ev_t h rfl]; exact h2
theorem q_f {α : Type} {Q : Option α → Prop} {c : Bool} {t e : Tr α} (h : c = false) (h2 : Q e.eval) : Q (Tr.ite c t e).eval := by rw [ev_f h rfl]; exact h2
theorem q_opt {α β : Type} {Q : Option α → Prop} {o : Option β} {k : β → Tr α} {b : β} (h : o = some b) (h2 : Q (k b).eval) : Q (Tr.opt o k).eval := by rw [ev_opt h rfl]; exact h2
theorem wrap_mid (x : Int) (h : -4611686018427387904 ≤ x ∧ x ≤ 4611686018427387904) : IntKind.wrap IntKind.i64 x = x := by
  simp [IntKind.wrap, IntKind.bits, IntKind.signed]
  split <;> omega
def bytB (x : Int) : Bool := decide ((0 : Int) ≤ x) && decide (x ≤ (255 : Int))
theorem byt_fn (x : Int) : ipByt_fn (x, ()) = some (bytB x, ()) := by
  simp only [ipByt_fn, ipByt_tree, bytB, Tr.eval, cond_and]
theorem wr8 (x : Int) : (0 : Int) ≤ IntKind.wrap IntKind.u8 x ∧ IntKind.wrap IntKind.u8 x < 256 := by rw [wrap8u]; omega
/-- A packet that can be written. -/
structure RefOk (p : TPacket) : Prop where
  tos : 0 ≤ p.tos ∧ p.tos ≤ 255
  life : 0 ≤ p.life ∧ p.life ≤ 255
  proto : 0 ≤ p.proto ∧ p.proto ≤ 255
  id : 0 ≤ p.id ∧ p.id ≤ 65535
  start : 0 ≤ p.start ∧ p.start ≤ 8191
  opt : p.options.length ≤ 40
  four : p.options.length % 4 = 0
  one : p.whole = true → p.more = false ∧ p.start = 0
  data : p.options.length + p.data.length ≤ 65515
theorem refused_fn (p : TPacket) : ∃ c : Int, ipRefused_fn (p.tos, (p.id, (p.whole, (p.more, (p.start, (p.life, (p.proto, (p.from', (p.to, (p.options, (p.data, ()))))))))))) = some (c, ()) ∧ (c = 0 ↔ RefOk p) := by
  unfold ipRefused_fn ipRefused_tree
  have no : ∀ {c : Int}, c ≠ 0 → ¬ RefOk p → (c = 0 ↔ RefOk p) := fun h1 h2 => ⟨fun h => absurd h h1, fun h => absurd h h2⟩
  by_cases h1 : 0 ≤ p.tos ∧ p.tos ≤ 255
  case neg => exact ⟨1, ev_opt (byt_fn _) (ev_t (by simp [bytB]; omega) (ev_r rfl)), no (by decide) fun h => h1 h.tos⟩
  by_cases h2 : 0 ≤ p.life ∧ p.life ≤ 255
  case neg => exact ⟨1, ev_opt (byt_fn _) (ev_f (by simp [bytB]; omega) (ev_opt (byt_fn _) (ev_t (by simp [bytB]; omega) (ev_r rfl)))), no (by decide) fun h => h2 h.life⟩
  by_cases h3 : 0 ≤ p.proto ∧ p.proto ≤ 255
  case neg => exact ⟨1, ev_opt (byt_fn _) (ev_f (by simp [bytB]; omega) (ev_opt (byt_fn _) (ev_f (by simp [bytB]; omega) (ev_opt (byt_fn _) (ev_t (by simp [bytB]; omega) (ev_r rfl)))))), no (by decide) fun h => h3 h.proto⟩
  have pre : ∀ {T : Tr (Int × Unit)} {r : Option (Int × Unit)}, T.eval = r → (Tr.opt (ipByt_fn (p.tos, ())) fun r0 => .ite (!r0.1) (.ret ((1 : Int), ())) (.opt (ipByt_fn (p.life, ())) fun r1 => .ite (!r1.1) (.ret ((1 : Int), ())) (.opt (ipByt_fn (p.proto, ())) fun r2 => .ite (!r2.1) (.ret ((1 : Int), ())) T))).eval = r := fun h =>
    ev_opt (byt_fn _) (ev_f (by simp [bytB]; omega) (ev_opt (byt_fn _) (ev_f (by simp [bytB]; omega) (ev_opt (byt_fn _) (ev_f (by simp [bytB]; omega) h)))))
  by_cases h4 : p.id < 0
  · exact ⟨1, pre (ev_t (by simpa using h4) (ev_r rfl)), no (by decide) fun h => by have := h.id; omega⟩
  by_cases h5 : 65535 < p.id
  · exact ⟨1, pre (ev_f (by simpa using h4) (ev_t (by simpa using h5) (ev_r rfl))), no (by decide) fun h => by have := h.id; omega⟩
  by_cases h6 : p.start < 0
  · exact ⟨1, pre (ev_f (by simpa using h4) (ev_f (by simpa using h5) (ev_t (by simpa using h6) (ev_r rfl)))), no (by decide) fun h => by have := h.start; omega⟩
  by_cases h7 : 8191 < p.start
  · exact ⟨1, pre (ev_f (by simpa using h4) (ev_f (by simpa using h5) (ev_f (by simpa using h6) (ev_t (by simpa using h7) (ev_r rfl))))), no (by decide) fun h => by have := h.start; omega⟩
  by_cases h8 : 40 < p.options.length
  · exact ⟨1, pre (ev_f (by simpa using h4) (ev_f (by simpa using h5) (ev_f (by simpa using h6) (ev_f (by simpa using h7) (ev_t (by simp; omega) (ev_r rfl)))))), no (by decide) fun h => by have := h.opt; omega⟩
  have hm : Int.tmod (p.options.length : Int) 4 = ((p.options.length % 4 : Nat) : Int) := by rw [Int.tmod_eq_emod_of_nonneg (by omega)]; omega
  have hw : IntKind.wrap IntKind.i64 ((65515 : Int) - (p.options.length : Int)) = 65515 - (p.options.length : Int) := wrap_mid _ (by omega)
  by_cases h9 : p.options.length % 4 = 0
  case neg => exact ⟨1, pre (ev_f (by simpa using h4) (ev_f (by simpa using h5) (ev_f (by simpa using h6) (ev_f (by simpa using h7) (ev_f (by simp; omega) (ev_g rfl (ev_t (by rw [hm]; simp; omega) (ev_r rfl)))))))), no (by decide) fun h => h9 h.four⟩
  have pre2 : ∀ {T : Tr (Int × Unit)} {r : Option (Int × Unit)}, T.eval = r → _ = r := fun {T} {r} h => pre (T := .ite (decide (p.id < (0 : Int))) (.ret ((1 : Int), ())) (.ite (decide ((65535 : Int) < p.id)) (.ret ((1 : Int), ())) (.ite (decide (p.start < (0 : Int))) (.ret ((1 : Int), ())) (.ite (decide ((8191 : Int) < p.start)) (.ret ((1 : Int), ())) (.ite (decide ((40 : Int) < (p.options.length : Int))) (.ret ((1 : Int), ())) (.grd true (.ite (!decide (Int.tmod (p.options.length : Int) (4 : Int) = (0 : Int))) (.ret ((1 : Int), ())) T)))))))
    (ev_f (by simpa using h4) (ev_f (by simpa using h5) (ev_f (by simpa using h6) (ev_f (by simpa using h7) (ev_f (by simp; omega) (ev_g rfl (ev_f (by rw [hm, h9]; rfl) h)))))))
  have tail : ∀ {T : Tr (Int × Unit)}, T = .ite (decide (IntKind.wrap IntKind.i64 ((65515 : Int) - (p.options.length : Int)) < (p.data.length : Int))) (.ret ((2 : Int), ())) (.ret ((0 : Int), ())) → (p.whole = true → p.more = false ∧ p.start = 0) → ∃ c : Int, T.eval = some (c, ()) ∧ (c = 0 ↔ RefOk p) := by
    rintro T rfl hone
    by_cases h10 : p.options.length + p.data.length ≤ 65515
    · exact ⟨0, ev_f (by rw [hw]; simp; omega) (ev_r rfl), ⟨fun _ => ⟨h1, h2, h3, by omega, by omega, by omega, h9, hone, h10⟩, fun _ => rfl⟩⟩
    · exact ⟨2, ev_t (by rw [hw]; simp; omega) (ev_r rfl), no (by decide) fun h => h10 h.data⟩
  cases hwh : p.whole with
  | false =>
    obtain ⟨c, hc, hc0⟩ := tail rfl (fun h => by rw [hwh] at h; cases h)
    exact ⟨c, pre2 (ev_f rfl hc), hc0⟩
  | true =>
    cases hmo : p.more with
    | true => exact ⟨4, pre2 (ev_t rfl (ev_t rfl (ev_r rfl))), no (by decide) fun h => by have := (h.one hwh).1; rw [hmo] at this; cases this⟩
    | false =>
      by_cases hst : p.start = 0
      · obtain ⟨c, hc, hc0⟩ := tail rfl (fun _ => ⟨hmo, hst⟩)
        exact ⟨c, pre2 (ev_t rfl (ev_f rfl (ev_f (by simpa using hst) hc))), hc0⟩
      · exact ⟨4, pre2 (ev_t rfl (ev_f rfl (ev_t (by simpa using hst) (ev_r rfl)))), no (by decide) fun h => hst (h.one hwh).2⟩
/-! ### ip.Read -/
theorem ipAt_ok (l : List UInt8) (i : Nat) (h : i + 1 < l.length) (hl : l.length ≤ Lim) : ipWordAt_fn (l, ((i : Int), ())) = some (wAt l i, ()) := by
  have e1 : IntKind.i64.wrap ((i : Int) + 1) = ((i + 1 : Nat) : Int) := by
    rw [wrap_mid _ (by unfold Lim at hl; omega)]; omega
  simp only [ipWordAt_fn, ipWordAt_tree, Tr.eval, e1, Int.toNat_natCast]
  rw [show decide (0 ≤ (i : Int) ∧ (i : Int) < (l.length : Int)) = true by simp; omega, cond_true, cond_true, show decide (0 ≤ ((i + 1 : Nat) : Int) ∧ ((i + 1 : Nat) : Int) < (l.length : Int)) = true by simp; omega, cond_true, or_i64]
  rfl
theorem ipLongAt_ok (l : List UInt8) (i : Nat) (h : i + 3 < l.length) (hl : l.length ≤ Lim) : ipLongAt_fn (l, ((i : Int), ())) = some (lAt l i, ()) := by
  have e1 : IntKind.i64.wrap ((i : Int) + 2) = ((i + 2 : Nat) : Int) := by
    rw [wrap_mid _ (by unfold Lim at hl; omega)]; omega
  have b1 := wAt_bound l i; have b2 := wAt_bound l (i + 2)
  refine ev_opt (ipAt_ok l i (by omega) hl) (ev_g rfl ?_)
  rw [e1]
  refine ev_opt (ipAt_ok l (i + 2) (by omega) hl) (ev_r ?_)
  have f1 : IntKind.u32.wrap (wAt l i) = wAt l i := by rw [wrap32u]; omega
  have f2 : IntKind.u32.wrap (wAt l (i + 2)) = wAt l (i + 2) := by rw [wrap32u]; omega
  have f3 : IntKind.u32.wrap (wAt l i * 2 ^ 16) = wAt l i * 2 ^ 16 := by rw [wrap32u]; omega
  simp only [f1, f2, f3]
  rw [bits_or_disjoint .u32 16 (wAt l i) (wAt l (i + 2)) (by omega) (by omega) (by omega) (by show _ < (2 : Int) ^ 32; omega) (fun h => by cases h)]
  unfold lAt; rfl
/-- How long the head is, and all. -/
def hn (s : List UInt8) : Nat := (s.getD 0 0).toNat % 16 * 4
def alln (s : List UInt8) : Nat := (wAt s 2).toNat
def pk (s : List UInt8) : TPacket := ⟨((s.getD 1 0).toNat : Int), wAt s 4, decide (wAt s 6 / 16384 % 2 = 1), decide (wAt s 6 / 8192 % 2 = 1), wAt s 6 % 8192, ((s.getD 8 0).toNat : Int), ((s.getD 9 0).toNat : Int), lAt s 12, lAt s 16, (s.take (hn s)).drop 20, (s.take (alln s)).drop (hn s)⟩
structure IpOk (s : List UInt8) : Prop where
  len : 20 ≤ s.length
  head : hn s ≤ s.length
  all : alln s ≤ s.length
  ver : (s.getD 0 0).toNat / 16 = 4
  h20 : 20 ≤ hn s
  hall : hn s ≤ alln s
  flag : wAt s 6 < 32768
  ref : RefOk (pk s)
  sum0 : ws (s.take (hn s)) ≠ 0
  sum : ws (s.take (hn s)) % 65535 = 0
theorem hnN (b : UInt8) : IntKind.wrap IntKind.i64 (IntKind.wrap IntKind.i64 (bits BinOp.and IntKind.u8 (b.toNat : Int) (15 : Int)) * (4 : Int)) = ((b.toNat % 16 * 4 : Nat) : Int) := by
  have := u8n b
  have h := bits_and_mask .u8 4 (b.toNat : Int) (by omega) (by show (b.toNat : Int) < 2 ^ 8; omega) (by decide) (fun h => by cases h)
  have w1 : IntKind.wrap IntKind.i64 ((b.toNat % 16 : Nat) : Int) = ((b.toNat % 16 : Nat) : Int) := wrap_mid _ (by omega)
  have w2 : IntKind.wrap IntKind.i64 (((b.toNat % 16 : Nat) : Int) * 4) = ((b.toNat % 16 : Nat) : Int) * 4 := wrap_mid _ (by omega)
  rw [show ((15 : Int)) = 2 ^ 4 - 1 from rfl, h, show (b.toNat : Int) % 2 ^ 4 = ((b.toNat % 16 : Nat) : Int) by omega, w1, w2]
  omega
theorem fd4 (b : UInt8) : Int.fdiv (b.toNat : Int) ((2 : Int) ^ (4 : Nat)) = ((b.toNat / 16 : Nat) : Int) := by rw [fdiv_pos _ (by decide)]; omega
theorem fd15 (x : Int) : Int.fdiv x ((2 : Int) ^ (15 : Nat)) = x / 32768 := fdiv_pos _ (by decide)
theorem bit1 (x : Int) (h : 0 ≤ x ∧ x ≤ 65535) : bits BinOp.and IntKind.i64 x (1 : Int) = x % 2 := by
  have := bits_and_mask .i64 1 x h.1 (by show x < 2 ^ 64; omega) (by decide) (fun _ => by show x < 2 ^ 63; omega)
  rw [show ((1 : Int)) = 2 ^ 1 - 1 from rfl, this]; rfl
theorem bit13 (x : Int) (h : 0 ≤ x ∧ x ≤ 65535) : bits BinOp.and IntKind.i64 x (8191 : Int) = x % 8192 := by
  have := bits_and_mask .i64 13 x h.1 (by show x < 2 ^ 64; omega) (by decide) (fun _ => by show x < 2 ^ 63; omega)
  rw [show ((8191 : Int)) = 2 ^ 13 - 1 from rfl, this]; rfl
def p11 (p : TPacket) {R : Type} (r : R) := (p.tos, (p.id, (p.whole, (p.more, (p.start, (p.life, (p.proto, (p.from', (p.to, (p.options, (p.data, r)))))))))))
def zp : TPacket := ⟨0, 0, false, false, 0, 0, 0, 0, 0, [], []⟩
theorem byt64 (b : UInt8) : IntKind.wrap IntKind.i64 (b.toNat : Int) = b.toNat := by have := u8n b; exact wrap_mid _ (by omega)
theorem ipRead_ok {s : List UInt8} (h : IpOk s) (hl : s.length ≤ Lim) : ipRead_fn (s, ()) = some (p11 (pk s) ((0 : Int), ())) := by
  obtain ⟨h1, h2, h3, h4, h5, h6, h7, h8, h9, h10⟩ := h
  have b2 := wAt_bound s 2; have b6 := wAt_bound s 6
  have ha : (alln s : Int) = wAt s 2 := by unfold alln; omega
  obtain ⟨c, hc, hc0⟩ := refused_fn (pk s)
  have hcz := hc0.2 h8
  subst hcz
  have hh : hn s ≤ 60 := by have := u8n (s.getD 0 0); unfold hn; omega
  have hr := right_fn (s.take (hn s)) (by rw [List.length_take]; unfold Lim; omega)
  unfold ipRead_fn ipRead_tree
  simp only [hnN, fd4, fd15]
  refine ev_f (by (first | (simp; done) | (simp; omega) | omega)) (ev_g (by (first | (simp; done) | (simp; omega) | omega)) (ev_opt (ipAt_ok s 2 (by omega) hl) (ev_f (show decide ((s.length : Int) < (hn s : Int)) = false by (first | (simp; done) | (simp; omega) | omega)) (ev_f (show decide ((s.length : Int) < wAt s 2) = false by (first | (simp; done) | (simp; omega) | omega)) (ev_opt (ipAt_ok s 6 (by omega) hl) (ev_g (by (first | (simp; done) | (simp; omega) | omega)) (ev_g rfl (ev_f (by rw [h4]; rfl) (ev_f (show decide ((hn s : Int) < 20) = false by (first | (simp; done) | (simp; omega) | omega)) (ev_f (show decide (wAt s 2 < (hn s : Int)) = false by (first | (simp; done) | (simp; omega) | omega)) (ev_g rfl (ev_f (by (first | (simp; done) | (simp; omega) | omega)) (ev_g (by (first | (simp; done) | (simp; omega) | omega)) (ev_opt (ipAt_ok s 4 (by omega) hl) (ev_g rfl (ev_g rfl (ev_g (by (first | (simp; done) | (simp; omega) | omega)) (ev_g (by (first | (simp; done) | (simp; omega) | omega)) (ev_opt (ipLongAt_ok s 12 (by omega) hl) (ev_opt (ipLongAt_ok s 16 (by omega) hl) (ev_g (show decide ((0 : Int) ≤ 20 ∧ (20 : Int) ≤ (hn s : Int) ∧ (hn s : Int) ≤ (s.length : Int)) = true by (first | (simp; done) | (simp; omega) | omega)) (ev_g (show decide ((0 : Int) ≤ (hn s : Int) ∧ (hn s : Int) ≤ wAt s 2 ∧ wAt s 2 ≤ (s.length : Int)) = true by (first | (simp; done) | (simp; omega) | omega)) ?_))))))))))))))))))))))
  rw [fdiv_pos (wAt s 6) (by decide), fdiv_pos (wAt s 6) (by decide), bit1 _ ⟨by omega, by omega⟩, bit1 _ ⟨by omega, by omega⟩, bit13 _ b6, byt64, byt64, byt64]
  refine ev_opt (show _ = some ((0 : Int), ()) from hc) (ev_f rfl (ev_g (show decide ((0 : Int) ≤ 0 ∧ (0 : Int) ≤ (hn s : Int) ∧ (hn s : Int) ≤ (s.length : Int)) = true by (first | (simp; done) | (simp; omega) | omega)) (ev_opt (b := (true, ())) ?_ (ev_f rfl (ev_r ?_)))))
  · show sumRight_fn (List.drop 0 (List.take (Int.toNat (hn s : Int)) s), ()) = _
    rw [Int.toNat_natCast, List.drop_zero, hr, decide_eq_true ⟨h9, h10⟩]
  · rfl
theorem ipRead_bad {s : List UInt8} (h : ¬ IpOk s) (hl : s.length ≤ Lim) : ∃ e : Int, (e ≠ 0 ∧ (e = 3 ∨ e = 4 ∨ e = 5)) ∧ ipRead_fn (s, ()) = some (p11 zp (e, ())) := by
  have b2 := wAt_bound s 2; have b6 := wAt_bound s 6
  have ha : (alln s : Int) = wAt s 2 := by unfold alln; omega
  have hh : hn s ≤ 60 := by have := u8n (s.getD 0 0); unfold hn; omega
  unfold ipRead_fn ipRead_tree
  simp only [hnN, fd4, fd15]
  by_cases h1 : s.length < 20
  · exact ⟨3, by decide, ev_t (by (first | (simp; done) | (simp; omega) | omega)) (ev_r rfl)⟩
  by_cases h2 : s.length < hn s
  · exact ⟨3, by decide, ev_f (by (first | (simp; done) | (simp; omega) | omega)) (ev_g (by (first | (simp; done) | (simp; omega) | omega)) (ev_opt (ipAt_ok s 2 (by omega) hl) (ev_t (show decide ((s.length : Int) < (hn s : Int)) = true by (first | (simp; done) | (simp; omega) | omega)) (ev_r rfl))))⟩
  by_cases h3 : (s.length : Int) < wAt s 2
  · exact ⟨3, by decide, ev_f (by (first | (simp; done) | (simp; omega) | omega)) (ev_g (by (first | (simp; done) | (simp; omega) | omega)) (ev_opt (ipAt_ok s 2 (by omega) hl) (ev_f (show decide ((s.length : Int) < (hn s : Int)) = false by (first | (simp; done) | (simp; omega) | omega)) (ev_t (by (first | (simp; done) | (simp; omega) | omega)) (ev_r rfl)))))⟩
  by_cases h4 : (s.getD 0 0).toNat / 16 = 4
  case neg => exact ⟨4, by decide, ev_f (by (first | (simp; done) | (simp; omega) | omega)) (ev_g (by (first | (simp; done) | (simp; omega) | omega)) (ev_opt (ipAt_ok s 2 (by omega) hl) (ev_f (show decide ((s.length : Int) < (hn s : Int)) = false by (first | (simp; done) | (simp; omega) | omega)) (ev_f (by (first | (simp; done) | (simp; omega) | omega)) (ev_opt (ipAt_ok s 6 (by omega) hl) (ev_g (by (first | (simp; done) | (simp; omega) | omega)) (ev_g rfl (ev_t (by rw [decide_eq_false (by omega)]; rfl) (ev_r rfl)))))))))⟩
  by_cases h5 : hn s < 20
  · exact ⟨4, by decide, ev_f (by (first | (simp; done) | (simp; omega) | omega)) (ev_g (by (first | (simp; done) | (simp; omega) | omega)) (ev_opt (ipAt_ok s 2 (by omega) hl) (ev_f (show decide ((s.length : Int) < (hn s : Int)) = false by (first | (simp; done) | (simp; omega) | omega)) (ev_f (by (first | (simp; done) | (simp; omega) | omega)) (ev_opt (ipAt_ok s 6 (by omega) hl) (ev_g (by (first | (simp; done) | (simp; omega) | omega)) (ev_g rfl (ev_f (by rw [h4]; rfl) (ev_t (show decide ((hn s : Int) < 20) = true by (first | (simp; done) | (simp; omega) | omega)) (ev_r rfl))))))))))⟩
  by_cases h6 : wAt s 2 < (hn s : Int)
  · exact ⟨4, by decide, ev_f (by (first | (simp; done) | (simp; omega) | omega)) (ev_g (by (first | (simp; done) | (simp; omega) | omega)) (ev_opt (ipAt_ok s 2 (by omega) hl) (ev_f (show decide ((s.length : Int) < (hn s : Int)) = false by (first | (simp; done) | (simp; omega) | omega)) (ev_f (by (first | (simp; done) | (simp; omega) | omega)) (ev_opt (ipAt_ok s 6 (by omega) hl) (ev_g (by (first | (simp; done) | (simp; omega) | omega)) (ev_g rfl (ev_f (by rw [h4]; rfl) (ev_f (show decide ((hn s : Int) < 20) = false by (first | (simp; done) | (simp; omega) | omega)) (ev_t (show decide (wAt s 2 < (hn s : Int)) = true by (first | (simp; done) | (simp; omega) | omega)) (ev_r rfl)))))))))))⟩
  by_cases h7 : wAt s 6 < 32768
  case neg => exact ⟨4, by decide, ev_f (by (first | (simp; done) | (simp; omega) | omega)) (ev_g (by (first | (simp; done) | (simp; omega) | omega)) (ev_opt (ipAt_ok s 2 (by omega) hl) (ev_f (show decide ((s.length : Int) < (hn s : Int)) = false by (first | (simp; done) | (simp; omega) | omega)) (ev_f (by (first | (simp; done) | (simp; omega) | omega)) (ev_opt (ipAt_ok s 6 (by omega) hl) (ev_g (by (first | (simp; done) | (simp; omega) | omega)) (ev_g rfl (ev_f (by rw [h4]; rfl) (ev_f (show decide ((hn s : Int) < 20) = false by (first | (simp; done) | (simp; omega) | omega)) (ev_f (show decide (wAt s 2 < (hn s : Int)) = false by (first | (simp; done) | (simp; omega) | omega)) (ev_g rfl (ev_t (by (first | (simp; done) | (simp; omega) | omega)) (ev_r rfl)))))))))))))⟩
  obtain ⟨c, hc, hc0⟩ := refused_fn (pk s)
  by_cases h8 : RefOk (pk s)
  case neg =>
    have hcz : ¬ c = 0 := fun e => h8 (hc0.1 e)
    refine ⟨4, by decide, ?_⟩
    refine ev_f (by (first | (simp; done) | (simp; omega) | omega)) (ev_g (by (first | (simp; done) | (simp; omega) | omega)) (ev_opt (ipAt_ok s 2 (by omega) hl) (ev_f (show decide ((s.length : Int) < (hn s : Int)) = false by (first | (simp; done) | (simp; omega) | omega)) (ev_f (show decide ((s.length : Int) < wAt s 2) = false by (first | (simp; done) | (simp; omega) | omega)) (ev_opt (ipAt_ok s 6 (by omega) hl) (ev_g (by (first | (simp; done) | (simp; omega) | omega)) (ev_g rfl (ev_f (by rw [h4]; rfl) (ev_f (show decide ((hn s : Int) < 20) = false by (first | (simp; done) | (simp; omega) | omega)) (ev_f (show decide (wAt s 2 < (hn s : Int)) = false by (first | (simp; done) | (simp; omega) | omega)) (ev_g rfl (ev_f (by (first | (simp; done) | (simp; omega) | omega)) (ev_g (by (first | (simp; done) | (simp; omega) | omega)) (ev_opt (ipAt_ok s 4 (by omega) hl) (ev_g rfl (ev_g rfl (ev_g (by (first | (simp; done) | (simp; omega) | omega)) (ev_g (by (first | (simp; done) | (simp; omega) | omega)) (ev_opt (ipLongAt_ok s 12 (by omega) hl) (ev_opt (ipLongAt_ok s 16 (by omega) hl) (ev_g (show decide ((0 : Int) ≤ 20 ∧ (20 : Int) ≤ (hn s : Int) ∧ (hn s : Int) ≤ (s.length : Int)) = true by (first | (simp; done) | (simp; omega) | omega)) (ev_g (show decide ((0 : Int) ≤ (hn s : Int) ∧ (hn s : Int) ≤ wAt s 2 ∧ wAt s 2 ≤ (s.length : Int)) = true by (first | (simp; done) | (simp; omega) | omega)) ?_))))))))))))))))))))))
    rw [fdiv_pos (wAt s 6) (by decide), fdiv_pos (wAt s 6) (by decide), bit1 _ ⟨by omega, by omega⟩, bit1 _ ⟨by omega, by omega⟩, bit13 _ b6, byt64, byt64, byt64]
    exact ev_opt (show _ = some (c, ()) from hc) (ev_t (by rw [decide_eq_false hcz]; rfl) (ev_r rfl))
  have hcz := hc0.2 h8
  subst hcz
  refine ⟨5, by decide, ?_⟩
  have hr := right_fn (s.take (hn s)) (by rw [List.length_take]; unfold Lim; omega)
  have h9 : ¬ (ws (s.take (hn s)) ≠ 0 ∧ ws (s.take (hn s)) % 65535 = 0) := fun e => h ⟨by omega, by omega, by omega, h4, by omega, by omega, h7, h8, e.1, e.2⟩
  refine ev_f (by (first | (simp; done) | (simp; omega) | omega)) (ev_g (by (first | (simp; done) | (simp; omega) | omega)) (ev_opt (ipAt_ok s 2 (by omega) hl) (ev_f (show decide ((s.length : Int) < (hn s : Int)) = false by (first | (simp; done) | (simp; omega) | omega)) (ev_f (show decide ((s.length : Int) < wAt s 2) = false by (first | (simp; done) | (simp; omega) | omega)) (ev_opt (ipAt_ok s 6 (by omega) hl) (ev_g (by (first | (simp; done) | (simp; omega) | omega)) (ev_g rfl (ev_f (by rw [h4]; rfl) (ev_f (show decide ((hn s : Int) < 20) = false by (first | (simp; done) | (simp; omega) | omega)) (ev_f (show decide (wAt s 2 < (hn s : Int)) = false by (first | (simp; done) | (simp; omega) | omega)) (ev_g rfl (ev_f (by (first | (simp; done) | (simp; omega) | omega)) (ev_g (by (first | (simp; done) | (simp; omega) | omega)) (ev_opt (ipAt_ok s 4 (by omega) hl) (ev_g rfl (ev_g rfl (ev_g (by (first | (simp; done) | (simp; omega) | omega)) (ev_g (by (first | (simp; done) | (simp; omega) | omega)) (ev_opt (ipLongAt_ok s 12 (by omega) hl) (ev_opt (ipLongAt_ok s 16 (by omega) hl) (ev_g (show decide ((0 : Int) ≤ 20 ∧ (20 : Int) ≤ (hn s : Int) ∧ (hn s : Int) ≤ (s.length : Int)) = true by (first | (simp; done) | (simp; omega) | omega)) (ev_g (show decide ((0 : Int) ≤ (hn s : Int) ∧ (hn s : Int) ≤ wAt s 2 ∧ wAt s 2 ≤ (s.length : Int)) = true by (first | (simp; done) | (simp; omega) | omega)) ?_))))))))))))))))))))))
  rw [fdiv_pos (wAt s 6) (by decide), fdiv_pos (wAt s 6) (by decide), bit1 _ ⟨by omega, by omega⟩, bit1 _ ⟨by omega, by omega⟩, bit13 _ b6, byt64, byt64, byt64]
  refine ev_opt (show _ = some ((0 : Int), ()) from hc) (ev_f rfl (ev_g (show decide ((0 : Int) ≤ 0 ∧ (0 : Int) ≤ (hn s : Int) ∧ (hn s : Int) ≤ (s.length : Int)) = true by (first | (simp; done) | (simp; omega) | omega)) (ev_opt (b := (false, ())) ?_ (ev_t rfl (ev_r rfl)))))
  show sumRight_fn (List.drop 0 (List.take (Int.toNat (hn s : Int)) s), ()) = _
  rw [Int.toNat_natCast, List.drop_zero, hr, decide_eq_false h9]
end Go.Proofs.YtkfpdgibaadmbaaDoor.X
