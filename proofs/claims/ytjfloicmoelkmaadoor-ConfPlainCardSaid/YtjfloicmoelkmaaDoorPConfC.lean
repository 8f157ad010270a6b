/- conf: what the readers of words come to. Conditions: none. -/
import Derived.Test.YtjfloicmoelkmaaDoorPConfB
import Derived.Test.YtjfloicmoelkmaaDoorGLine
import Derived.KernelRfl
namespace Go.Proofs.YtjfloicmoelkmaaDoor.X
open Go Go.RowKit Go.Proofs.YtjfloicmoelkmaaDoor.Abs Go.Proofs.YtjfloicmoelkmaaDoor.Bits
set_option linter.unusedVariables false
set_option linter.unnecessarySimpa false
set_option linter.unusedSimpArgs false
set_option maxRecDepth 100000
/-- Words that are left; was one not what it had to be? -/
abbrev RS := List Tx × Bool
def wPass : Tx := [112, 97, 115, 115]
def wDrop : Tx := [100, 114, 111, 112]
def nxt (st : RS) : Tx × RS := match st.1 with
  | [] => ([], ([], true))
  | x :: t => (x, (t, st.2))
def vN (s : Tx) : Int := IntKind.wrap IntKind.i64 (parseN 64 s)
def vB (s : Tx) : Bool := !parseOk 64 s || (decide (10 < s.length) || !decide (Lib.decDigits (parseN 64 s).toNat = s))
def value (s : Tx) (st : RS) : Int × RS := (vN s, (st.1, st.2 || vB s))
def number (st : RS) : Int × RS := value (nxt st).1 (nxt st).2
def pair (c : UInt8) (st : RS) : Tx × (Tx × RS) := ((Lib.cut (nxt st).1 [c]).1, ((Lib.cut (nxt st).1 [c]).2.1, ((nxt st).2.1, (nxt st).2.2 || !(Lib.cut (nxt st).1 [c]).2.2)))
def aV (s : Tx) : Int := match ipParse_fn (s, ()) with | some (a, _) => a | none => 0
def aB (s : Tx) : Bool := match ipParse_fn (s, ()) with | some (_, (e, _)) => !decide (e = 0) | none => true
def addr (s : Tx) (st : RS) : Int × RS := (aV s, (st.1, st.2 || aB s))
def net (st : RS) : Int × (Int × RS) := ((addr (pair 47 st).1 (pair 47 st).2.2).1, value (pair 47 st).2.1 (addr (pair 47 st).1 (pair 47 st).2.2).2)
def bnds (st : RS) : Int × (Int × RS) := ((value (pair 45 st).1 (pair 45 st).2.2).1, value (pair 45 st).2.1 (value (pair 45 st).1 (pair 45 st).2.2).2)
def verd (s : Tx) (st : RS) : Bool × RS := (decide (s = wPass), (st.1, st.2 || (!decide (s = wPass) && !decide (s = wDrop))))
/-- A state as the code has it. -/
def enc' (xs : List Tx) (st : RS) : Nat × (Nat × (Bool × (List Tx × Unit))) := (xs.length - st.1.length, (st.1.length, (st.2, (xs, ()))))
structure Wok (xs : List Tx) (st : RS) : Prop where
  suf : ∃ p, xs = p ++ st.1
  few : xs.length ≤ 20001
  small : ∀ x ∈ xs, x.length ≤ 20000
theorem Wok.of {xs : List Tx} {st : RS} (h : Wok xs st) {r : List Tx} (hr : ∃ p, st.1 = p ++ r) (b : Bool) : Wok xs (r, b) := by
  obtain ⟨p, hp⟩ := h.suf; obtain ⟨q, hq⟩ := hr
  exact ⟨⟨p ++ q, by rw [hp, hq, List.append_assoc]⟩, h.few, h.small⟩
theorem nxt_wok {xs : List Tx} {st : RS} (h : Wok xs st) : Wok xs (nxt st).2 ∧ (nxt st).1.length ≤ 20000 := by
  obtain ⟨r, b⟩ := st
  cases r with
  | nil => exact ⟨h.of ⟨[], rfl⟩ true, Nat.zero_le _⟩
  | cons x t =>
    refine ⟨h.of ⟨[x], rfl⟩ b, ?_⟩
    obtain ⟨p, hp⟩ := h.suf
    exact h.small x (by rw [hp]; simp)
theorem wNext_ok {xs : List Tx} {st : RS} (h : Wok xs st) : wNext_fn (enc' xs st) = some ((nxt st).1, enc' xs (nxt st).2) := by
  obtain ⟨r, b⟩ := st
  obtain ⟨p, hp⟩ := h.suf
  have hf := h.few
  cases r with
  | nil => exact ev_t rfl (ev_r rfl)
  | cons x t =>
    have hp : xs = p ++ x :: t := hp
    have hl : xs.length = p.length + (t.length + 1) := by rw [hp]; simp
    refine ev_f (decide_eq_false (by show ¬ ((t.length + 1 : Nat) : Int) = 0; omega)) (ev_g (decide_eq_true (by show (0 : Int) ≤ 0 ∧ (0 : Int) < ((t.length + 1 : Nat) : Int); omega)) (ev_opt (b := x) ?_ (ev_g (decide_eq_true (by show (0 : Int) ≤ 1 ∧ (1 : Int) ≤ ((t.length + 1 : Nat) : Int) ∧ ((t.length + 1 : Nat) : Int) ≤ ((t.length + 1 : Nat) : Int); omega)) (ev_r ?_))))
    · show xs[xs.length - (t.length + 1) + 0]? = some x
      rw [show xs.length - (t.length + 1) + 0 = p.length by omega, hp]
      simp
    · show (x, (xs.length - (t.length + 1) + 1, (Int.toNat (((t.length + 1 : Nat) : Int) - 1), (b, (xs, ()))))) = (x, (xs.length - t.length, (t.length, (b, (xs, ())))))
      rw [show xs.length - (t.length + 1) + 1 = xs.length - t.length by omega, show Int.toNat (((t.length + 1 : Nat) : Int) - 1) = t.length by omega]
theorem wValue_ok {xs : List Tx} {st : RS} (s : Tx) (hs : s.length ≤ 20000) : wValue_fn (s, enc' xs st) = some ((value s st).1, enc' xs (value s st).2) := by
  obtain ⟨r, b⟩ := st
  have hr := parseN_rng s
  show (wValue_tree (s, (xs.length - r.length, (r.length, (b, (xs, ())))))).eval = some (vN s, (xs.length - r.length, (r.length, (b || vB s, (xs, ())))))
  unfold vN vB
  refine ev_g (by simp; omega) (ev_ite (fun h => ?_) (fun h => ?_))
  · refine ev_ite (fun hb => ev_r (by rw [hb]; rfl)) (fun hb => ev_f rfl (ev_ite (fun h10 => ev_r ?_) (fun h10 => ev_g (by simp; omega) (ev_r ?_))))
    · rw [hb, h, show decide (10 < s.length) = true from decide_eq_true (by have := of_decide_eq_true h10; omega)]; rfl
    · rw [hb, h, show decide (10 < s.length) = false from decide_eq_false (by have := of_decide_eq_false h10; omega)]; rfl
  · refine ev_ite (fun hb => ev_r (by rw [hb]; rfl)) (fun hb => ev_t rfl (ev_r ?_))
    rw [hb, h]; rfl
theorem wNumber_ok {xs : List Tx} {st : RS} (h : Wok xs st) : wNumber_fn (enc' xs st) = some ((number st).1, enc' xs (number st).2) ∧ Wok xs (number st).2 := by
  obtain ⟨h1, h2⟩ := nxt_wok h
  exact ⟨ev_opt (wNext_ok h) (ev_opt (wValue_ok (nxt st).1 h2) (ev_r rfl)), h1.of ⟨[], rfl⟩ _⟩
theorem wPair_ok {xs : List Tx} {st : RS} (h : Wok xs st) (c : UInt8) : wPair_fn ([c], enc' xs st) = some ((pair c st).1, ((pair c st).2.1, enc' xs (pair c st).2.2)) ∧ Wok xs (pair c st).2.2 ∧ (pair c st).1.length ≤ 20000 ∧ (pair c st).2.1.length ≤ 20000 := by
  obtain ⟨h1, h2⟩ := nxt_wok h
  obtain ⟨c1, c2⟩ := cut_len c (nxt st).1
  refine ⟨ev_opt (wNext_ok h) (ev_g (by simp; omega) (ev_ite (fun hb => ev_r ?_) (fun hb => ev_r ?_))), h1.of ⟨[], rfl⟩ _, Nat.le_trans c1 h2, Nat.le_trans c2 h2⟩
  · have hb : (nxt st).2.2 = true := hb
    show _ = ((Lib.cut (nxt st).1 [c]).1, ((Lib.cut (nxt st).1 [c]).2.1, (_, (_, ((nxt st).2.2 || !(Lib.cut (nxt st).1 [c]).2.2, (xs, ()))))))
    rw [hb]; rfl
  · have hb : (nxt st).2.2 = false := hb
    show _ = ((Lib.cut (nxt st).1 [c]).1, ((Lib.cut (nxt st).1 [c]).2.1, (_, (_, ((nxt st).2.2 || !(Lib.cut (nxt st).1 [c]).2.2, (xs, ()))))))
    rw [hb]; rfl
theorem aV_u32 (s : Tx) (hs : s.length ≤ 20000) : U32 (aV s) := by
  obtain ⟨a, e, h, ha⟩ := parse_ex s hs
  unfold aV; rw [h]; exact ha
theorem wAddr_ok {xs : List Tx} {st : RS} (s : Tx) (hs : s.length ≤ 20000) : wAddr_fn (s, enc' xs st) = some ((addr s st).1, enc' xs (addr s st).2) := by
  obtain ⟨r, b⟩ := st
  obtain ⟨a, e, h, ha⟩ := parse_ex s hs
  show (wAddr_tree (s, (xs.length - r.length, (r.length, (b, (xs, ())))))).eval = some (aV s, (xs.length - r.length, (r.length, (b || aB s, (xs, ())))))
  have e1 : aV s = a := by unfold aV; rw [h]
  have e2 : aB s = !decide (e = 0) := by unfold aB; rw [h]
  rw [e1, e2]
  exact ev_opt h (ev_ite (fun hb => ev_r (by rw [hb]; rfl)) (fun hb => ev_r (by rw [hb]; rfl)))
theorem wNet_ok {xs : List Tx} {st : RS} (h : Wok xs st) : wNet_fn (enc' xs st) = some ((net st).1, ((net st).2.1, enc' xs (net st).2.2)) ∧ Wok xs (net st).2.2 := by
  obtain ⟨h1, h2, h3, h4⟩ := wPair_ok h 47
  exact ⟨ev_opt h1 (ev_opt (wAddr_ok _ h3) (ev_opt (wValue_ok _ h4) (ev_r rfl))), h2.of ⟨[], rfl⟩ _⟩
theorem wBounds_ok {xs : List Tx} {st : RS} (h : Wok xs st) : wBounds_fn (enc' xs st) = some ((bnds st).1, ((bnds st).2.1, enc' xs (bnds st).2.2)) ∧ Wok xs (bnds st).2.2 := by
  obtain ⟨h1, h2, h3, h4⟩ := wPair_ok h 45
  exact ⟨ev_opt h1 (ev_opt (wValue_ok _ h3) (ev_opt (wValue_ok _ h4) (ev_r rfl))), h2.of ⟨[], rfl⟩ _⟩
theorem wVerdict_ok {xs : List Tx} {st : RS} (s : Tx) : wVerdict_fn (s, enc' xs st) = some ((verd s st).1, enc' xs (verd s st).2) := by
  obtain ⟨r, b⟩ := st
  show (wVerdict_tree (s, (xs.length - r.length, (r.length, (b, (xs, ())))))).eval = some (decide (s = wPass), (xs.length - r.length, (r.length, (b || (!decide (s = wPass) && !decide (s = wDrop)), (xs, ())))))
  refine ev_ite (fun hb => ev_r (by rw [hb]; rfl)) (fun hb => ev_ite (fun hp => ev_r ?_) (fun hp => ev_r ?_))
  · have hp : (!decide (s = wPass)) = true := hp
    rw [hb, hp]; rfl
  · have hp : (!decide (s = wPass)) = false := hp
    rw [hb, hp]; rfl
end Go.Proofs.YtjfloicmoelkmaaDoor.X
