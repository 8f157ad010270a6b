/- nat: what its functions compute, in plain terms. Conditions: none. -/
import Derived.Test.YtcdcdmfecglemaaDoorLNat
import Derived.Test.YtcdcdmfecglemaaDoorPPortsA
import Derived.Test.YtcdcdmfecglemaaDoorPList
import Derived.Test.YtcdcdmfecglemaaDoorAbsQ
import Derived.KernelRfl
namespace Go.Proofs.YtcdcdmfecglemaaDoor.X
open Go Go.RowKit Go.Proofs.YtcdcdmfecglemaaDoor.Abs Go.Proofs.YtcdcdmfecglemaaDoor.Bits
set_option linter.unusedVariables false
set_option linter.unusedSimpArgs false

theorem wi (x : Int) (h : -9223372036854775808 ≤ x ∧ x ≤ 9223372036854775807) : IntKind.wrap IntKind.i64 x = x := by
  simp only [IntKind.wrap, IntKind.bits, IntKind.signed]
  simp
  omega
/-! ### Keys -/
def kb (p a q : Int) (x : TMap) : Bool := decide (x.proto = p) && (decide (x.addr = a) && decide (x.port = q))
theorem kb_iff {p a q : Int} {x : TMap} : kb p a q x = true ↔ x.proto = p ∧ x.addr = a ∧ x.port = q := by simp [kb]
def same (x y : TMap) : Prop := x.proto = y.proto ∧ x.addr = y.addr ∧ x.port = y.port
abbrev Big : Nat := 8796093022208
theorem within_fn (life lb lt sb st : Int) (l : List TMap) (p a q : Int) (hl : l.length < Big) :
    natWithin_fn (life, (lb, (lt, (sb, (st, (l, (p, (a, (q, ()))))))))) = some ((match hit (kb p a q) l with | some r => (r.1 : Int) | none => -1), ()) := by
  unfold Big at hl
  have := loop_hit (tag := 260002) (f := fun x => (natWithin_step26_2 x).eval) (l := l) (fun i => ((i : Int), (l, ((l.length : Int), (p, (a, (q, ())))))))
      (kb p a q) (fun r => match r with | some r => Sum.inl ((r.1 : Int), (p, (a, (q, ())))) | none => Sum.inr (p, (a, (q, ()))))
      (fun i x hx => by
        have hi := (List.getElem?_eq_some_iff.1 hx).1
        have e1 : IntKind.wrap IntKind.i64 ((i : Int) + (1 : Int)) = ((i + 1 : Nat) : Int) := wi _ (by omega)
        show (natWithin_step26_2 _).eval = _
        unfold natWithin_step26_2
        refine ev_t (by simp; omega) (ev_g (by simp) (ev_opt (show l[Int.toNat (i : Int)]? = some x by simpa using hx) ?_))
        unfold kb
        cases h1 : decide (x.proto = p) with
        | false => exact ev_f rfl (ev_f rfl (ev_r (by rw [e1])))
        | true =>
          refine ev_t rfl ?_
          cases h2 : decide (x.addr = a) with
          | false => exact ev_f rfl (ev_f rfl (ev_r (by rw [e1])))
          | true =>
            refine ev_t rfl ?_
            cases h3 : decide (x.port = q) with
            | false => exact ev_f rfl (ev_r (by rw [e1]))
            | true => exact ev_t rfl (ev_r rfl))
      (by show (natWithin_step26_2 _).eval = _; exact ev_f (by simp) (ev_r rfl)) 18446744073709551616 (by omega)
  refine ev_opt (show natWithin_loop26_2 ((0 : Int), (l, ((l.length : Int), (p, (a, (q, ())))))) = _ from this) ?_
  cases hit (kb p a q) l <;> rfl

/-! ### Bits that outs take -/
def bitAt (b : Int) (t : Nat) (o : Int) : Option Nat := if 0 ≤ o - b ∧ o - b ≤ 63 ∧ t.testBit (o - b).toNat = true then some (t ^^^ 2 ^ (o - b).toNat) else none
def rem (b : Int) : Nat → List Int → Option Nat
  | t, [] => some t
  | t, o :: r => (bitAt b t o).bind fun t' => rem b t' r
def Cov (b : Int) (t : Nat) (os : List Int) : Prop := os.Nodup ∧ ∀ o, o ∈ os ↔ ∃ k : Nat, k < 64 ∧ t.testBit k = true ∧ o = b + (k : Int)
theorem bits_lt (x i : Nat) (hx : x < 2 ^ 64) (hi : 64 ≤ i) : x.testBit i = false := Nat.testBit_lt_two_pow (Nat.lt_of_lt_of_le hx (Nat.pow_le_pow_right (by decide) hi))
theorem bitAt_some {b : Int} {t : Nat} {o : Int} {t' : Nat} (h : bitAt b t o = some t') : ∃ k : Nat, k < 64 ∧ o = b + (k : Int) ∧ t.testBit k = true ∧ t' = t ^^^ 2 ^ k := by
  unfold bitAt at h
  split at h
  · rename_i hc
    cases h
    exact ⟨(o - b).toNat, by omega, by omega, hc.2.2, rfl⟩
  · cases h
theorem bitAt_at {b : Int} {t k : Nat} (hk : k < 64) (hb : t.testBit k = true) : bitAt b t (b + (k : Int)) = some (t ^^^ 2 ^ k) := by
  unfold bitAt
  have e : b + (k : Int) - b = (k : Int) := by omega
  rw [e, Int.toNat_natCast, if_pos ⟨by omega, by omega, hb⟩]
theorem cov_tail {b : Int} {t k : Nat} {os : List Int} (hk : k < 64) (hb : t.testBit k = true) : Cov b t ((b + (k : Int)) :: os) ↔ Cov b (t ^^^ 2 ^ k) os := by
  constructor
  · rintro ⟨h1, h2⟩
    obtain ⟨hn, h1⟩ := List.nodup_cons.1 h1
    refine ⟨h1, fun o => ⟨fun ho => ?_, ?_⟩⟩
    · obtain ⟨j, j1, j2, rfl⟩ := (h2 o).1 (List.mem_cons_of_mem _ ho)
      refine ⟨j, j1, ?_, rfl⟩
      have hjk : ¬ k = j := fun e => by subst e; exact hn ho
      rw [xor_bit, j2, decide_eq_false hjk]; rfl
    · rintro ⟨j, j1, j2, rfl⟩
      rw [xor_bit] at j2
      by_cases hjk : k = j
      · subst hjk; rw [hb, decide_eq_true rfl] at j2; cases j2
      · rw [decide_eq_false hjk, Bool.xor_false] at j2
        rcases List.mem_cons.1 ((h2 _).2 ⟨j, j1, j2, rfl⟩) with e | e
        · exact absurd (show k = j by omega) hjk
        · exact e
  · rintro ⟨h1, h2⟩
    refine ⟨List.nodup_cons.2 ⟨fun hm => ?_, h1⟩, fun o => ⟨fun ho => ?_, ?_⟩⟩
    · obtain ⟨j, j1, j2, j3⟩ := (h2 _).1 hm
      have : j = k := by omega
      subst this
      rw [xor_bit, hb, decide_eq_true rfl] at j2; cases j2
    · rcases List.mem_cons.1 ho with rfl | ho
      · exact ⟨k, hk, hb, rfl⟩
      · obtain ⟨j, j1, j2, rfl⟩ := (h2 o).1 ho
        rw [xor_bit] at j2
        by_cases hjk : k = j
        · subst hjk; exact ⟨k, j1, hb, rfl⟩
        · rw [decide_eq_false hjk, Bool.xor_false] at j2; exact ⟨j, j1, j2, rfl⟩
    · rintro ⟨j, j1, j2, rfl⟩
      by_cases hjk : k = j
      · subst hjk; exact List.mem_cons_self
      · exact List.mem_cons_of_mem _ ((h2 _).2 ⟨j, j1, by rw [xor_bit, j2, decide_eq_false hjk]; rfl, rfl⟩)
theorem cov_nil {b : Int} {t : Nat} (ht : t < 2 ^ 64) : Cov b t [] ↔ t = 0 := by
  constructor
  · rintro ⟨_, h⟩
    apply Nat.eq_of_testBit_eq
    intro i
    rw [Nat.zero_testBit]
    by_cases hi : i < 64
    · cases hb : t.testBit i with
      | false => rfl
      | true => have := (h (b + (i : Int))).2 ⟨i, hi, hb, rfl⟩; cases this
    · exact bits_lt t i ht (by omega)
  · rintro rfl
    refine ⟨List.nodup_nil, fun o => ⟨(fun h => by cases h), ?_⟩⟩
    rintro ⟨k, _, h, _⟩
    rw [Nat.zero_testBit] at h; cases h
theorem rem_cov (b : Int) : ∀ (os : List Int) (t : Nat), t < 2 ^ 64 → (rem b t os = some 0 ↔ Cov b t os)
  | [], t, ht => by rw [cov_nil ht]; simp [rem]
  | o :: r, t, ht => by
    unfold rem
    cases hb : bitAt b t o with
    | none =>
      constructor
      · intro h; cases h
      · intro h
        obtain ⟨k, k1, k2, rfl⟩ := (h.2 o).1 List.mem_cons_self
        rw [bitAt_at k1 k2] at hb; cases hb
    | some t' =>
      obtain ⟨k, k1, rfl, k2, rfl⟩ := bitAt_some hb
      rw [cov_tail k1 k2]
      exact rem_cov b r _ (xor_lt t k ht k1)
theorem rem_lt (b : Int) : ∀ (os : List Int) (t t' : Nat), t < 2 ^ 64 → rem b t os = some t' → t' < 2 ^ 64
  | [], t, t', ht, h => by cases h; exact ht
  | o :: r, t, t', ht, h => by
    unfold rem at h
    cases hb : bitAt b t o with
    | none => rw [hb] at h; cases h
    | some u =>
      rw [hb] at h
      obtain ⟨k, k1, _, _, rfl⟩ := bitAt_some hb
      exact rem_lt b r _ _ (xor_lt t k ht k1) h
theorem end_bit (b : Int) (t : Nat) (o : Int) (hb : baseOk b) (ht : t < 2 ^ 64) : (∃ t' : Nat, bitAt b t o = some t' ∧ t' < 2 ^ 64 ∧ portsEnd_fn (b, ((t : Int), (o, ()))) = some (b, ((t' : Int), ((0 : Int), ())))) ∨ (bitAt b t o = none ∧ ∃ e : Int, e ≠ 0 ∧ portsEnd_fn (b, ((t : Int), (o, ()))) = some ((0 : Int), ((0 : Int), (e, ())))) := by
  cases h : bitAt b t o with
  | some t' =>
    obtain ⟨k, k1, rfl, k2, rfl⟩ := bitAt_some h
    exact .inl ⟨_, rfl, xor_lt t k ht k1, end_ok b t k hb ht k1 k2⟩
  | none =>
    refine .inr ⟨rfl, end_no b t o ht ?_⟩
    rintro ⟨_, k, k1, k2, rfl⟩
    rw [bitAt_at k1 k2] at h; cases h

/-! ### Check -/
def outs (p : Int) (l : List TMap) : List Int := (l.filter fun m => decide (m.proto = p)).map (·.out)
def okm (m : TMap) : Prop := (m.proto = 17 ∨ m.proto = 6) ∧ 0 ≤ m.port ∧ m.port ≤ 65535 ∧ 0 ≤ m.at' ∧ m.at' ≤ 1099511627776
instance (m : TMap) : Decidable (okm m) := by unfold okm; exact inferInstance
/-- What the check's loop comes to. -/
def ck (lb sb : Int) (l : List TMap) : List TMap → Nat → Int → Nat → Nat → Option (Nat × Nat)
  | [], _, _, L, S => some (L, S)
  | m :: r, i, t, L, S =>
    if okm m ∧ t ≤ m.at' ∧ (hit (kb m.proto m.addr m.port) l).map (·.1) = some i then
      if m.proto = 17 then (bitAt lb L m.out).bind fun L' => ck lb sb l r (i + 1) m.at' L' S else (bitAt sb S m.out).bind fun S' => ck lb sb l r (i + 1) m.at' L S'
    else none
theorem outs_cons (p : Int) (m : TMap) (r : List TMap) : outs p (m :: r) = if m.proto = p then m.out :: outs p r else outs p r := by
  unfold outs
  by_cases h : m.proto = p
  · rw [if_pos h, List.filter_cons_of_pos (by simpa using h)]; rfl
  · rw [if_neg h, List.filter_cons_of_neg (by simpa using h)]
theorem outs_app (p : Int) (a b : List TMap) : outs p (a ++ b) = outs p a ++ outs p b := by simp [outs]
theorem hit_first {p a q : Int} (pre : List TMap) (m : TMap) (r : List TMap) (hm : kb p a q m = true) : (hit (kb p a q) (pre ++ m :: r)).map (·.1) = some pre.length ↔ ∀ x ∈ pre, kb p a q x = false := by
  constructor
  · intro h x hx
    cases hb : kb p a q x with
    | false => rfl
    | true =>
      exfalso
      cases hh : hit (kb p a q) pre with
      | none => have := hit_none.1 hh x hx; rw [hb] at this; cases this
      | some z =>
        have hlt := hit_lt (i := z.1) (x := z.2) hh
        rw [hit_app, hh] at h
        simp at h
        omega
  · intro h
    rw [hit_app, hit_none.2 h]
    simp [hit, hm]
theorem kb_same (x y : TMap) : kb x.proto x.addr x.port y = true ↔ same y x := kb_iff
theorem same_symm {x y : TMap} (h : same x y) : same y x := ⟨h.1.symm, h.2.1.symm, h.2.2.symm⟩
theorem ck_iff (lb sb : Int) (l : List TMap) : ∀ (r pre : List TMap) (t : Int) (L S : Nat), l = pre ++ r → 0 ≤ t → L < 2 ^ 64 → S < 2 ^ 64 →
    (ck lb sb l r pre.length t L S = some (0, 0) ↔ (∀ m ∈ r, okm m ∧ t ≤ m.at') ∧ r.Pairwise (fun x y => x.at' ≤ y.at') ∧ r.Pairwise (fun x y => ¬ same x y) ∧ (∀ x ∈ pre, ∀ m ∈ r, ¬ same x m) ∧ Cov lb L (outs 17 r) ∧ Cov sb S (outs 6 r))
  | [], pre, t, L, S, hl, ht, hL, hS => by
    have e : ∀ p : Int, outs p [] = [] := fun _ => rfl
    rw [e, e, cov_nil hL, cov_nil hS]
    simp [ck]
  | m :: r, pre, t, L, S, hl, ht, hL, hS => by
    have hl2 : l = (pre ++ [m]) ++ r := by rw [hl]; simp
    have hlen : (pre ++ [m]).length = pre.length + 1 := by simp
    have hfirst : (hit (kb m.proto m.addr m.port) l).map (·.1) = some pre.length ↔ ∀ x ∈ pre, ¬ same x m := by
      rw [hl, hit_first pre m r ((kb_same m m).2 ⟨rfl, rfl, rfl⟩)]
      refine forall_congr' fun x => forall_congr' fun hx => ?_
      rw [← kb_same m x]; simp
    unfold ck
    by_cases hc : okm m ∧ t ≤ m.at' ∧ (hit (kb m.proto m.addr m.port) l).map (·.1) = some pre.length
    case neg =>
      rw [if_neg hc]
      constructor
      · intro h; cases h
      · rintro ⟨h1, h2, h3, h4, h5, h6⟩
        exact absurd ⟨(h1 m List.mem_cons_self).1, (h1 m List.mem_cons_self).2, hfirst.2 fun x hx => h4 x hx m List.mem_cons_self⟩ hc
    rw [if_pos hc]
    obtain ⟨c1, c2, c3⟩ := hc
    have c3 := hfirst.1 c3
    have main : ∀ (L' S' : Nat), L' < 2 ^ 64 → S' < 2 ^ 64 → (Cov lb L' (outs 17 r) ∧ Cov sb S' (outs 6 r) ↔ Cov lb L (outs 17 (m :: r)) ∧ Cov sb S (outs 6 (m :: r))) →
        (ck lb sb l r (pre.length + 1) m.at' L' S' = some (0, 0) ↔ (∀ x ∈ m :: r, okm x ∧ t ≤ x.at') ∧ (m :: r).Pairwise (fun x y => x.at' ≤ y.at') ∧ (m :: r).Pairwise (fun x y => ¬ same x y) ∧ (∀ x ∈ pre, ∀ y ∈ m :: r, ¬ same x y) ∧ Cov lb L (outs 17 (m :: r)) ∧ Cov sb S (outs 6 (m :: r))) := by
      intro L' S' hL' hS' hcov
      have ih := ck_iff lb sb l r (pre ++ [m]) m.at' L' S' hl2 (by omega) hL' hS'
      rw [hlen] at ih
      rw [ih, ← hcov]
      constructor
      · rintro ⟨h1, h2, h3, h4, h5⟩
        refine ⟨fun x hx => ?_, List.pairwise_cons.2 ⟨fun x hx => (h1 x hx).2, h2⟩, List.pairwise_cons.2 ⟨fun x hx => h4 m (by simp) x hx, h3⟩, fun x hx y hy => ?_, h5⟩
        · rcases List.mem_cons.1 hx with rfl | hx
          · exact ⟨c1, c2⟩
          · have := h1 x hx; exact ⟨this.1, by omega⟩
        · rcases List.mem_cons.1 hy with rfl | hy
          · exact c3 x hx
          · exact h4 x (List.mem_append_left _ hx) y hy
      · rintro ⟨h1, h2, h3, h4, h5⟩
        obtain ⟨h2a, h2⟩ := List.pairwise_cons.1 h2
        obtain ⟨h3a, h3⟩ := List.pairwise_cons.1 h3
        refine ⟨fun x hx => ⟨(h1 x (List.mem_cons_of_mem _ hx)).1, h2a x hx⟩, h2, h3, fun x hx y hy => ?_, h5⟩
        rcases List.mem_append.1 hx with hx | hx
        · exact h4 x hx y (List.mem_cons_of_mem _ hy)
        · rw [List.mem_singleton] at hx; subst hx; exact h3a y hy
    by_cases hp : m.proto = 17
    · rw [if_pos hp]
      have e1 : outs 17 (m :: r) = m.out :: outs 17 r := by rw [outs_cons, if_pos hp]
      have e2 : outs 6 (m :: r) = outs 6 r := by rw [outs_cons, if_neg (by omega)]
      cases hb : bitAt lb L m.out with
      | none =>
        constructor
        · intro h; cases h
        · rintro ⟨_, _, _, _, h, _⟩
          rw [e1] at h
          obtain ⟨k, k1, k2, k3⟩ := (h.2 m.out).1 List.mem_cons_self
          rw [k3, bitAt_at k1 k2] at hb; cases hb
      | some L' =>
        obtain ⟨k, k1, k2, k3, rfl⟩ := bitAt_some hb
        refine main _ S (xor_lt L k hL k1) hS ?_
        rw [e1, e2, k2, cov_tail k1 k3]
    · rw [if_neg hp]
      have hp6 : m.proto = 6 := by have := c1.1; omega
      have e1 : outs 6 (m :: r) = m.out :: outs 6 r := by rw [outs_cons, if_pos hp6]
      have e2 : outs 17 (m :: r) = outs 17 r := by rw [outs_cons, if_neg hp]
      cases hb : bitAt sb S m.out with
      | none =>
        constructor
        · intro h; cases h
        · rintro ⟨_, _, _, _, _, h⟩
          rw [e1] at h
          obtain ⟨k, k1, k2, k3⟩ := (h.2 m.out).1 List.mem_cons_self
          rw [k3, bitAt_at k1 k2] at hb; cases hb
      | some S' =>
        obtain ⟨k, k1, k2, k3, rfl⟩ := bitAt_some hb
        refine main L _ hL (xor_lt S k hS k1) ?_
        rw [e1, e2, k2, cov_tail k1 k3]
/-- A right one. -/
structure NatOk (life lb : Int) (L : Nat) (sb : Int) (S : Nat) (l : List TMap) : Prop where
  life : 1 ≤ life ∧ life ≤ 1000000
  bl : baseOk lb
  bs : baseOk sb
  ltL : L < 2 ^ 64
  ltS : S < 2 ^ 64
  ok : ∀ m ∈ l, okm m
  sorted : l.Pairwise (fun x y => x.at' ≤ y.at')
  keys : l.Pairwise (fun x y => ¬ same x y)
  covL : Cov lb L (outs 17 l)
  covS : Cov sb S (outs 6 l)
theorem check_loop (life lb : Int) (L : Nat) (sb : Int) (S : Nat) (l : List TMap) (hb : baseOk lb) (hs : baseOk sb) (hL : L < 2 ^ 64) (hS : S < 2 ^ 64) (hl : l.length < Big) :
    natCheck_loop9_9 ((0 : Int), ((0 : Int), (l, ((l.length : Int), (life, (lb, ((L : Int), (sb, ((S : Int), (l, (life, (lb, ((L : Int), (sb, ((S : Int), (l, ())))))))))))))))) =
      some (match ck lb sb l l 0 0 L S with | none => .inl ((4 : Int), ()) | some (L', S') => .inr (life, (lb, ((L' : Int), (sb, ((S' : Int), (l, ()))))))) := by
  unfold Big at hl
  have key : ∀ (n : Nat) (r pre : List TMap) (t : Int) (L' S' : Nat), l = pre ++ r → L' < 2 ^ 64 → S' < 2 ^ 64 → 0 ≤ t → r.length < n →
      loopO 90009 (fun x => (natCheck_step9_9 x).eval) n ((pre.length : Int), (t, (l, ((l.length : Int), (life, (lb, ((L : Int), (sb, ((S : Int), (l, (life, (lb, ((L' : Int), (sb, ((S' : Int), (l, ())))))))))))))))) =
        some (match ck lb sb l r pre.length t L' S' with | none => .inl ((4 : Int), ()) | some (L', S') => .inr (life, (lb, ((L' : Int), (sb, ((S' : Int), (l, ()))))))) := by
    intro n
    induction n with
    | zero => intro r pre t L' S' _ _ _ _ hn; omega
    | succ n ih =>
      intro r pre t L' S' hlr hL' hS' ht hn
      cases r with
      | nil =>
        have : pre.length = l.length := by rw [hlr]; simp
        exact loopO_out (ev_f (decide_eq_false (by omega)) rfl)
      | cons m r =>
        have hlt : pre.length < l.length := by rw [hlr]; simp
        have hget : l[Int.toNat (pre.length : Int)]? = some m := by rw [Int.toNat_natCast, hlr]; simp
        have e1 : IntKind.wrap IntKind.i64 ((pre.length : Int) + (1 : Int)) = ((pre.length + 1 : Nat) : Int) := wi _ (by omega)
        have hw := within_fn life lb (L : Int) sb (S : Int) l m.proto m.addr m.port hl
        have hidx : decide ((match hit (kb m.proto m.addr m.port) l with | some r => (r.1 : Int) | none => -1) = (pre.length : Int)) = decide ((hit (kb m.proto m.addr m.port) l).map (·.1) = some pre.length) := by
          cases hit (kb m.proto m.addr m.port) l with
          | none => simp
          | some z => simp; omega
        have stop : ∀ z, (natCheck_step9_9 ((pre.length : Int), (t, (l, ((l.length : Int), (life, (lb, ((L : Int), (sb, ((S : Int), (l, (life, (lb, ((L' : Int), (sb, ((S' : Int), (l, ()))))))))))))))))).eval = some (.inr (.inl ((4 : Int), ()))) → ck lb sb l (m :: r) pre.length t L' S' = none →
            loopO 90009 (fun x => (natCheck_step9_9 x).eval) (n + 1) ((pre.length : Int), (t, (l, ((l.length : Int), (life, (lb, ((L : Int), (sb, ((S : Int), (l, (life, (lb, ((L' : Int), (sb, ((S' : Int), (l, z)))))))))))))))) =
            some (match ck lb sb l (m :: r) pre.length t L' S' with | none => .inl ((4 : Int), ()) | some (L', S') => .inr (life, (lb, ((L' : Int), (sb, ((S' : Int), (l, ()))))))) := fun z h1 h2 => by
          rw [h2]; exact loopO_out h1
        have bad : ¬ (okm m ∧ t ≤ m.at' ∧ (hit (kb m.proto m.addr m.port) l).map (·.1) = some pre.length) → ck lb sb l (m :: r) pre.length t L' S' = none := fun h => by unfold ck; rw [if_neg h]
        have go : ∀ (L2 S2 : Nat), L2 < 2 ^ 64 → S2 < 2 ^ 64 → 0 ≤ m.at' → loopO 90009 (fun x => (natCheck_step9_9 x).eval) n (((pre.length + 1 : Nat) : Int), (m.at', (l, ((l.length : Int), (life, (lb, ((L : Int), (sb, ((S : Int), (l, (life, (lb, ((L2 : Int), (sb, ((S2 : Int), (l, ())))))))))))))))) =
            some (match ck lb sb l r (pre.length + 1) m.at' L2 S2 with | none => .inl ((4 : Int), ()) | some (L', S') => .inr (life, (lb, ((L' : Int), (sb, ((S' : Int), (l, ()))))))) := fun L2 S2 h1 h2 h3 => by
          have := ih r (pre ++ [m]) m.at' L2 S2 (by rw [hlr]; simp) h1 h2 h3 (by simp at hn; omega)
          rw [show (pre ++ [m]).length = pre.length + 1 by simp] at this
          exact this
        have hlt' : decide ((pre.length : Int) < (l.length : Int)) = true := decide_eq_true (by omega)
        have hge' : decide ((0 : Int) ≤ (pre.length : Int)) = true := decide_eq_true (by omega)
        by_cases c1 : m.port < 0
        · refine stop () ?_ (bad fun h => by have := h.1.2.1; omega)
          by_cases p17 : m.proto = 17
          · exact ev_t hlt' (ev_g hge' (ev_opt hget (ev_t (decide_eq_true p17) (ev_f rfl (ev_t (decide_eq_true c1) rfl)))))
          by_cases p6 : m.proto = 6
          · exact ev_t hlt' (ev_g hge' (ev_opt hget (ev_f (decide_eq_false p17) (ev_t (decide_eq_true p6) (ev_f rfl (ev_t (decide_eq_true c1) rfl))))))
          · exact ev_t hlt' (ev_g hge' (ev_opt hget (ev_f (decide_eq_false p17) (ev_f (decide_eq_false p6) (ev_t rfl rfl)))))
        by_cases pb : m.proto = 17 ∨ m.proto = 6
        case neg =>
          refine stop () ?_ (bad fun h => pb h.1.1)
          exact ev_t hlt' (ev_g hge' (ev_opt hget (ev_f (decide_eq_false fun e => pb (.inl e)) (ev_f (decide_eq_false fun e => pb (.inr e)) (ev_t rfl rfl)))))
        have c1 := decide_eq_false c1
        by_cases c2 : 65535 < m.port
        · refine stop () ?_ (bad fun h => by have := h.1.2.2.1; omega)
          rcases pb with p17 | p6
          · exact ev_t hlt' (ev_g hge' (ev_opt hget (ev_t (decide_eq_true p17) (ev_f rfl (ev_f c1 (ev_t (decide_eq_true c2) rfl))))))
          · exact ev_t hlt' (ev_g hge' (ev_opt hget (ev_f (decide_eq_false (by omega)) (ev_t (decide_eq_true p6) (ev_f rfl (ev_f c1 (ev_t (decide_eq_true c2) rfl)))))))
        have c2' := decide_eq_false c2
        by_cases c3 : m.at' < t
        · refine stop () ?_ (bad fun h => by have := h.2.1; omega)
          rcases pb with p17 | p6
          · exact ev_t hlt' (ev_g hge' (ev_opt hget (ev_t (decide_eq_true p17) (ev_f rfl (ev_f c1 (ev_f c2' (ev_t (decide_eq_true c3) rfl)))))))
          · exact ev_t hlt' (ev_g hge' (ev_opt hget (ev_f (decide_eq_false (by omega)) (ev_t (decide_eq_true p6) (ev_f rfl (ev_f c1 (ev_f c2' (ev_t (decide_eq_true c3) rfl))))))))
        have c3' := decide_eq_false c3
        by_cases c4 : 1099511627776 < m.at'
        · refine stop () ?_ (bad fun h => by have := h.1.2.2.2.2; omega)
          rcases pb with p17 | p6
          · exact ev_t hlt' (ev_g hge' (ev_opt hget (ev_t (decide_eq_true p17) (ev_f rfl (ev_f c1 (ev_f c2' (ev_f c3' (ev_t (decide_eq_true c4) rfl))))))))
          · exact ev_t hlt' (ev_g hge' (ev_opt hget (ev_f (decide_eq_false (by omega)) (ev_t (decide_eq_true p6) (ev_f rfl (ev_f c1 (ev_f c2' (ev_f c3' (ev_t (decide_eq_true c4) rfl)))))))))
        have c4' := decide_eq_false c4
        by_cases c5 : (hit (kb m.proto m.addr m.port) l).map (·.1) = some pre.length
        case neg =>
          refine stop () ?_ (bad fun h => c5 h.2.2)
          have c5 : (!decide ((match hit (kb m.proto m.addr m.port) l with | some r => (r.1 : Int) | none => -1) = (pre.length : Int))) = true := by rw [hidx, decide_eq_false c5]; rfl
          rcases pb with p17 | p6
          · exact ev_t hlt' (ev_g hge' (ev_opt hget (ev_t (decide_eq_true p17) (ev_f rfl (ev_f c1 (ev_f c2' (ev_f c3' (ev_f c4' (ev_opt hw (ev_t c5 rfl))))))))))
          · exact ev_t hlt' (ev_g hge' (ev_opt hget (ev_f (decide_eq_false (by omega)) (ev_t (decide_eq_true p6) (ev_f rfl (ev_f c1 (ev_f c2' (ev_f c3' (ev_f c4' (ev_opt hw (ev_t c5 rfl)))))))))))
        have c6 : (!decide ((match hit (kb m.proto m.addr m.port) l with | some r => (r.1 : Int) | none => -1) = (pre.length : Int))) = false := by rw [hidx, decide_eq_true c5]; rfl
        have hok : okm m := ⟨pb, by have := of_decide_eq_false c1; omega, by omega, by omega, by omega⟩
        have hck : ck lb sb l (m :: r) pre.length t L' S' = if m.proto = 17 then (bitAt lb L' m.out).bind fun L' => ck lb sb l r (pre.length + 1) m.at' L' S' else (bitAt sb S' m.out).bind fun S' => ck lb sb l r (pre.length + 1) m.at' L' S' := by
          conv => lhs; unfold ck
          rw [if_pos ⟨hok, by omega, c5⟩]
        rcases pb with p17 | p6
        · rw [if_pos p17] at hck
          rcases end_bit lb L' m.out hb hL' with ⟨L2, b1, b2, b3⟩ | ⟨b1, e, b2, b3⟩
          · rw [hck, b1]
            have hstep : (natCheck_step9_9 ((pre.length : Int), (t, (l, ((l.length : Int), (life, (lb, ((L : Int), (sb, ((S : Int), (l, (life, (lb, ((L' : Int), (sb, ((S' : Int), (l, ()))))))))))))))))).eval = some (.inl (((pre.length + 1 : Nat) : Int), (m.at', (l, ((l.length : Int), (life, (lb, ((L : Int), (sb, ((S : Int), (l, (life, (lb, ((L2 : Int), (sb, ((S' : Int), (l, ()))))))))))))))))) := (ev_t hlt' (ev_g hge' (ev_opt hget (ev_t (decide_eq_true p17) (ev_f rfl (ev_f c1 (ev_f c2' (ev_f c3' (ev_f c4' (ev_opt hw (ev_f c6 (ev_opt b3 (ev_f rfl (ev_r (by rw [e1])))))))))))))))
            exact (loopO_in (f := fun x => (natCheck_step9_9 x).eval) hstep).trans (go L2 S' b2 hS' hok.2.2.2.1)
          · refine stop () ?_ (by rw [hck, b1]; rfl)
            exact ev_t hlt' (ev_g hge' (ev_opt hget (ev_t (decide_eq_true p17) (ev_f rfl (ev_f c1 (ev_f c2' (ev_f c3' (ev_f c4' (ev_opt hw (ev_f c6 (ev_opt b3 (ev_t (by simpa using b2) rfl))))))))))))
        · have p17 : ¬ m.proto = 17 := by omega
          rw [if_neg p17] at hck
          rcases end_bit sb S' m.out hs hS' with ⟨S2, b1, b2, b3⟩ | ⟨b1, e, b2, b3⟩
          · rw [hck, b1]
            have hstep : (natCheck_step9_9 ((pre.length : Int), (t, (l, ((l.length : Int), (life, (lb, ((L : Int), (sb, ((S : Int), (l, (life, (lb, ((L' : Int), (sb, ((S' : Int), (l, ()))))))))))))))))).eval = some (.inl (((pre.length + 1 : Nat) : Int), (m.at', (l, ((l.length : Int), (life, (lb, ((L : Int), (sb, ((S : Int), (l, (life, (lb, ((L' : Int), (sb, ((S2 : Int), (l, ()))))))))))))))))) := (ev_t hlt' (ev_g hge' (ev_opt hget (ev_f (decide_eq_false p17) (ev_t (decide_eq_true p6) (ev_f rfl (ev_f c1 (ev_f c2' (ev_f c3' (ev_f c4' (ev_opt hw (ev_f c6 (ev_opt b3 (ev_f rfl (ev_r (by rw [e1]))))))))))))))))
            exact (loopO_in (f := fun x => (natCheck_step9_9 x).eval) hstep).trans (go L' S2 hL' b2 hok.2.2.2.1)
          · refine stop () ?_ (by rw [hck, b1]; rfl)
            exact ev_t hlt' (ev_g hge' (ev_opt hget (ev_f (decide_eq_false p17) (ev_t (decide_eq_true p6) (ev_f rfl (ev_f c1 (ev_f c2' (ev_f c3' (ev_f c4' (ev_opt hw (ev_f c6 (ev_opt b3 (ev_t (by simpa using b2) rfl)))))))))))))
  have := key 18446744073709551616 l [] 0 L S rfl hL hS (Int.le_refl _) (by omega)
  exact this
theorem natCheck_yes {life lb : Int} {L : Nat} {sb : Int} {S : Nat} {l : List TMap} (h : NatOk life lb L sb S l) (hl : l.length < Big) : natCheck_fn (life, (lb, ((L : Int), (sb, ((S : Int), (l, ())))))) = some ((0 : Int), ()) := by
  have hlife := h.life
  have hck := (ck_iff lb sb l l [] 0 L S rfl (Int.le_refl _) h.ltL h.ltS).2 ⟨fun m hm => ⟨h.ok m hm, (h.ok m hm).2.2.2.1⟩, h.sorted, h.keys, (fun x hx => by cases hx), h.covL, h.covS⟩
  have hlp := check_loop life lb L sb S l h.bl h.bs h.ltL h.ltS hl
  rw [show ([] : List TMap).length = 0 from rfl] at hck
  rw [hck] at hlp
  exact ev_f (decide_eq_false (by omega)) (ev_f (decide_eq_false (by omega)) (ev_opt (check_ok _ h.bl) (ev_opt (check_ok _ h.bs) (ev_f rfl (ev_opt hlp (ev_f rfl (ev_f rfl rfl)))))))
theorem natCheck_no {life lb : Int} {L : Nat} {sb : Int} {S : Nat} {l : List TMap} (h : ¬ NatOk life lb L sb S l) (hL : L < 2 ^ 64) (hS : S < 2 ^ 64) (hl : l.length < Big) : ∃ e : Int, e ≠ 0 ∧ natCheck_fn (life, (lb, ((L : Int), (sb, ((S : Int), (l, ())))))) = some (e, ()) := by
  by_cases h1 : life < 1
  · exact ⟨1, by decide, ev_t (decide_eq_true h1) rfl⟩
  by_cases h2 : 1000000 < life
  · exact ⟨1, by decide, ev_f (decide_eq_false h1) (ev_t (decide_eq_true h2) rfl)⟩
  have h1' := decide_eq_false h1
  have h2' := decide_eq_false h2
  by_cases hb : baseOk lb
  case neg =>
    by_cases hs : baseOk sb
    · exact ⟨1, by decide, ev_f h1' (ev_f h2' (ev_opt (check_no _ hb) (ev_opt (check_ok _ hs) (ev_t rfl rfl))))⟩
    · exact ⟨1, by decide, ev_f h1' (ev_f h2' (ev_opt (check_no _ hb) (ev_opt (check_no _ hs) (ev_t rfl rfl))))⟩
  by_cases hs : baseOk sb
  case neg => exact ⟨1, by decide, ev_f h1' (ev_f h2' (ev_opt (check_ok _ hb) (ev_opt (check_no _ hs) (ev_t rfl rfl))))⟩
  have hlp := check_loop life lb L sb S l hb hs hL hS hl
  have hck := ck_iff lb sb l l [] 0 L S rfl (Int.le_refl _) hL hS
  rw [show ([] : List TMap).length = 0 from rfl] at hck
  have hne : ck lb sb l l 0 0 L S ≠ some (0, 0) := fun e => by
    obtain ⟨g1, g2, g3, _, g5, g6⟩ := hck.1 e
    exact h ⟨by omega, hb, hs, hL, hS, fun m hm => (g1 m hm).1, g2, g3, g5, g6⟩
  cases hc : ck lb sb l l 0 0 L S with
  | none =>
    rw [hc] at hlp
    exact ⟨4, by decide, ev_f h1' (ev_f h2' (ev_opt (check_ok _ hb) (ev_opt (check_ok _ hs) (ev_f rfl (ev_opt hlp rfl)))))⟩
  | some z =>
    obtain ⟨L', S'⟩ := z
    rw [hc] at hlp hne
    refine ⟨4, by decide, ev_f h1' (ev_f h2' (ev_opt (check_ok _ hb) (ev_opt (check_ok _ hs) (ev_f rfl (ev_opt hlp ?_)))))⟩
    by_cases hz : L' = 0
    · by_cases hz2 : S' = 0
      · subst hz; subst hz2; exact absurd rfl hne
      · exact ev_f (show (!decide ((L' : Int) = 0)) = false by rw [hz]; rfl) (ev_t (show (!decide ((S' : Int) = 0)) = true by rw [decide_eq_false (by omega)]; rfl) rfl)
    · exact ev_t (show (!decide ((L' : Int) = 0)) = true by rw [decide_eq_false (by omega)]; rfl) rfl
end Go.Proofs.YtcdcdmfecglemaaDoor.X
