/- Texts towards the law HouseOwn, put together (part 6): an abstract walk and its proof, functions of the program as trees, and plain laws. Conditions: none. -/
import Derived.KernelRfl
import Derived.Test.YthkhikdglmaiaaaGreatDoorK5
namespace Go.Proofs.YthkhikdglmaiaaaGreatDoor.X
open Go Go.RowKit Go.Proofs.YthkhikdglmaiaaaGreatDoor.Abs Go.Proofs.YthkhikdglmaiaaaGreatDoor.Bits
set_option linter.unusedVariables false
set_option linter.unusedSimpArgs false
theorem wi (x : Int) (h : -9223372036854775808 <= x /\ x <= 9223372036854775807) : IntKind.wrap IntKind.i64 x = x := by
 simp only [IntKind.wrap, IntKind.bits, IntKind.signed]
 simp
 omega
def kb (p a q : Int) (x : TMap) : Bool := decide (x.proto = p) && (decide (x.addr = a) && decide (x.port = q))
theorem kb_iff {p a q : Int} {x : TMap} : kb p a q x = true ↔ x.proto = p /\ x.addr = a /\ x.port = q := by simp [kb]
def same (x y : TMap) : Prop := x.proto = y.proto /\ x.addr = y.addr /\ x.port = y.port
abbrev BigN : Nat := 8796093022208
theorem within_fn (life lb lt sb st : Int) (l : List TMap) (p a q : Int) (hl : l.length < BigN) :
  natWithin_fn (life, (lb, (lt, (sb, (st, (l, (p, (a, (q, ()))))))))) = some ((match hit (kb p a q) l with | some r => (r.1 : Int) | none => -1), ()) := by
 unfold BigN at hl
 have := loop_hit (tag := 1610002) (f := fun x => (natWithin_step161_2 x).eval) (l := l) (fun i => ((i : Int), (l, ((l.length : Int), (p, (a, (q, ())))))))
   (kb p a q) (fun r => match r with | some r => Sum.inl ((r.1 : Int), (p, (a, (q, ())))) | none => Sum.inr (p, (a, (q, ()))))
   (fun i x hx => by
    have hi := (List.getElem?_eq_some_iff.1 hx).1
    have e1 : IntKind.wrap IntKind.i64 ((i : Int) + (1 : Int)) = ((i + 1 : Nat) : Int) := wi _ (by omega)
    show (natWithin_step161_2 _).eval = _
    unfold natWithin_step161_2
    refine ev_t (by simp <;> omega) (ev_g (by simp) (ev_opt (show l[Int.toNat (i : Int)]? = some x by simpa using hx) ?_))
    unfold kb
    cases h1 : decide (x.proto = p) with
    | false => exact ev_f rfl (ev_f rfl (ev_r (by rw [e1])))
    | true =>
     refine ev_t rfl ?_
     cases h2 : decide (x.addr = a) with
     | false => exact ev_f rfl (ev_f rfl (ev_r (by rw [e1])))
     | true =>
      refine ev_t rfl ?_
      cases h3 : decide (x.port = q) with
      | false => exact ev_f rfl (ev_r (by rw [e1]))
      | true => exact ev_t rfl (ev_r rfl))
   (by show (natWithin_step161_2 _).eval = _; exact ev_f (by simp) (ev_r rfl)) 18446744073709551616 (by omega)
 refine ev_opt (show natWithin_loop161_2 ((0 : Int), (l, ((l.length : Int), (p, (a, (q, ())))))) = _ from this) ?_
 cases hit (kb p a q) l <;> rfl

def bitAt (b : Int) (t : Nat) (o : Int) : Option Nat := if 0 <= o - b /\ o - b <= 63 /\ t.testBit (o - b).toNat = true then some (t ^^^ 2 ^ (o - b).toNat) else none
def rem (b : Int) : Nat -> List Int -> Option Nat
 | t, [] => some t
 | t, o :: r => (bitAt b t o).bind fun t' => rem b t' r
def Cov (b : Int) (t : Nat) (os : List Int) : Prop := os.Nodup /\ ∀ o, o ∈ os ↔ ∃ k : Nat, k < 64 /\ t.testBit k = true /\ o = b + (k : Int)
theorem bits_lt (x i : Nat) (hx : x < 2 ^ 64) (hi : 64 <= i) : x.testBit i = false := Nat.testBit_lt_two_pow (Nat.lt_of_lt_of_le hx (Nat.pow_le_pow_right (by decide) hi))
theorem bitAt_some {b : Int} {t : Nat} {o : Int} {t' : Nat} (h : bitAt b t o = some t') : ∃ k : Nat, k < 64 /\ o = b + (k : Int) /\ t.testBit k = true /\ t' = t ^^^ 2 ^ k := by
 unfold bitAt at h
 split at h
 . rename_i hc
   cases h
   exact ⟨(o - b).toNat, by omega, by omega, hc.2.2, rfl⟩
 . cases h
theorem bitAt_at {b : Int} {t k : Nat} (hk : k < 64) (hb : t.testBit k = true) : bitAt b t (b + (k : Int)) = some (t ^^^ 2 ^ k) := by
 unfold bitAt
 have e : b + (k : Int) - b = (k : Int) := by omega
 rw [e, Int.toNat_natCast, if_pos ⟨by omega, by omega, hb⟩]
theorem cov_tail {b : Int} {t k : Nat} {os : List Int} (hk : k < 64) (hb : t.testBit k = true) : Cov b t ((b + (k : Int)) :: os) ↔ Cov b (t ^^^ 2 ^ k) os := by
 constructor
 . rintro ⟨h1, h2⟩
   obtain ⟨hn, h1⟩ := List.nodup_cons.1 h1
   refine ⟨h1, fun o => ⟨fun ho => ?_, ?_⟩⟩
   . obtain ⟨j, j1, j2, rfl⟩ := (h2 o).1 (List.mem_cons_of_mem _ ho)
     refine ⟨j, j1, ?_, rfl⟩
     have hjk : ¬ k = j := fun e => by subst e; exact hn ho
     rw [xor_bit, j2, decide_eq_false hjk]; rfl
   . rintro ⟨j, j1, j2, rfl⟩
     rw [xor_bit] at j2
     by_cases hjk : k = j
     . subst hjk; rw [hb, decide_eq_true rfl] at j2; cases j2
     . rw [decide_eq_false hjk, Bool.xor_false] at j2
       rcases List.mem_cons.1 ((h2 _).2 ⟨j, j1, j2, rfl⟩) with e | e
       . exact absurd (show k = j by omega) hjk
       . exact e
 . rintro ⟨h1, h2⟩
   refine ⟨List.nodup_cons.2 ⟨fun hm => ?_, h1⟩, fun o => ⟨fun ho => ?_, ?_⟩⟩
   . obtain ⟨j, j1, j2, j3⟩ := (h2 _).1 hm
     have : j = k := by omega
     subst this
     rw [xor_bit, hb, decide_eq_true rfl] at j2; cases j2
   . rcases List.mem_cons.1 ho with rfl | ho
     . exact ⟨k, hk, hb, rfl⟩
     . obtain ⟨j, j1, j2, rfl⟩ := (h2 o).1 ho
       rw [xor_bit] at j2
       by_cases hjk : k = j
       . subst hjk; exact ⟨k, j1, hb, rfl⟩
       . rw [decide_eq_false hjk, Bool.xor_false] at j2; exact ⟨j, j1, j2, rfl⟩
   . rintro ⟨j, j1, j2, rfl⟩
     by_cases hjk : k = j
     . subst hjk; exact List.mem_cons_self
     . exact List.mem_cons_of_mem _ ((h2 _).2 ⟨j, j1, by rw [xor_bit, j2, decide_eq_false hjk]; rfl, rfl⟩)
theorem cov_nil {b : Int} {t : Nat} (ht : t < 2 ^ 64) : Cov b t [] ↔ t = 0 := by
 constructor
 . rintro ⟨_, h⟩
   apply Nat.eq_of_testBit_eq
   intro i
   rw [Nat.zero_testBit]
   by_cases hi : i < 64
   . cases hb : t.testBit i with
     | false => rfl
     | true => have := (h (b + (i : Int))).2 ⟨i, hi, hb, rfl⟩; cases this
   . exact bits_lt t i ht (by omega)
 . rintro rfl
   refine ⟨List.nodup_nil, fun o => ⟨(fun h => by cases h), ?_⟩⟩
   rintro ⟨k, _, h, _⟩
   rw [Nat.zero_testBit] at h; cases h
theorem end_bit (b : Int) (t : Nat) (o : Int) (hb : baseOk b) (ht : t < 2 ^ 64) : (∃ t' : Nat, bitAt b t o = some t' /\ t' < 2 ^ 64 /\ portsEnd_fn (b, ((t : Int), (o, ()))) = some (b, ((t' : Int), ((0 : Int), ())))) \/ (bitAt b t o = none /\ ∃ e : Int, e ≠ 0 /\ portsEnd_fn (b, ((t : Int), (o, ()))) = some ((0 : Int), ((0 : Int), (e, ())))) := by
 cases h : bitAt b t o with
 | some t' =>
  obtain ⟨k, k1, rfl, k2, rfl⟩ := bitAt_some h
  exact .inl ⟨_, rfl, xor_lt t k ht k1, end_ok b t k hb ht k1 k2⟩
 | none =>
  refine .inr ⟨rfl, end_no b t o ht ?_⟩
  rintro ⟨_, k, k1, k2, rfl⟩
  rw [bitAt_at k1 k2] at h; cases h

def outs (p : Int) (l : List TMap) : List Int := (l.filter fun m => decide (m.proto = p)).map (·.out)
def okm (m : TMap) : Prop := (m.proto = 17 \/ m.proto = 6) /\ 0 <= m.port /\ m.port <= 65535 /\ 0 <= m.at' /\ m.at' <= 1099511627776
instance (m : TMap) : Decidable (okm m) := by unfold okm; exact inferInstance
def ck (lb sb : Int) (l : List TMap) : List TMap -> Nat -> Int -> Nat -> Nat -> Option (Nat × Nat)
 | [], _, _, L, S => some (L, S)
 | m :: r, i, t, L, S =>
  if okm m /\ t <= m.at' /\ (hit (kb m.proto m.addr m.port) l).map (·.1) = some i then
   if m.proto = 17 then (bitAt lb L m.out).bind fun L' => ck lb sb l r (i + 1) m.at' L' S else (bitAt sb S m.out).bind fun S' => ck lb sb l r (i + 1) m.at' L S'
  else none
theorem outs_cons (p : Int) (m : TMap) (r : List TMap) : outs p (m :: r) = if m.proto = p then m.out :: outs p r else outs p r := by
 unfold outs
 by_cases h : m.proto = p
 . rw [if_pos h, List.filter_cons_of_pos (by simpa using h)]; rfl
 . rw [if_neg h, List.filter_cons_of_neg (by simpa using h)]
theorem outs_app (p : Int) (a b : List TMap) : outs p (a ++ b) = outs p a ++ outs p b := by simp [outs]
theorem hit_first {p a q : Int} (pre : List TMap) (m : TMap) (r : List TMap) (hm : kb p a q m = true) : (hit (kb p a q) (pre ++ m :: r)).map (·.1) = some pre.length ↔ ∀ x ∈ pre, kb p a q x = false := by
 constructor
 . intro h x hx
   cases hb : kb p a q x with
   | false => rfl
   | true =>
    exfalso
    cases hh : hit (kb p a q) pre with
    | none => have := hit_none.1 hh x hx; rw [hb] at this; cases this
    | some z =>
     have hlt := hit_lt (i := z.1) (x := z.2) hh
     rw [hit_app, hh] at h
     simp at h
     omega
 . intro h
   rw [hit_app, hit_none.2 h]
   simp [hit, hm]
theorem kb_same (x y : TMap) : kb x.proto x.addr x.port y = true ↔ same y x := kb_iff
theorem same_symm {x y : TMap} (h : same x y) : same y x := ⟨h.1.symm, h.2.1.symm, h.2.2.symm⟩
theorem ck_iff (lb sb : Int) (l : List TMap) : ∀ (r pre : List TMap) (t : Int) (L S : Nat), l = pre ++ r -> 0 <= t -> L < 2 ^ 64 -> S < 2 ^ 64 ->
  (ck lb sb l r pre.length t L S = some (0, 0) ↔ (∀ m ∈ r, okm m /\ t <= m.at') /\ r.Pairwise (fun x y => x.at' <= y.at') /\ r.Pairwise (fun x y => ¬ same x y) /\ (∀ x ∈ pre, ∀ m ∈ r, ¬ same x m) /\ Cov lb L (outs 17 r) /\ Cov sb S (outs 6 r))
 | [], pre, t, L, S, hl, ht, hL, hS => by
  have e : ∀ p : Int, outs p [] = [] := fun _ => rfl
  rw [e, e, cov_nil hL, cov_nil hS]
  simp [ck]
 | m :: r, pre, t, L, S, hl, ht, hL, hS => by
  have hl2 : l = (pre ++ [m]) ++ r := by rw [hl]; simp
  have hlen : (pre ++ [m]).length = pre.length + 1 := by simp
  have hfirst : (hit (kb m.proto m.addr m.port) l).map (·.1) = some pre.length ↔ ∀ x ∈ pre, ¬ same x m := by
    rw [hl, hit_first pre m r ((kb_same m m).2 ⟨rfl, rfl, rfl⟩)]
    refine forall_congr' fun x => forall_congr' fun hx => ?_
    rw [<- kb_same m x]; simp
  unfold ck
  by_cases hc : okm m /\ t <= m.at' /\ (hit (kb m.proto m.addr m.port) l).map (·.1) = some pre.length
  case neg =>
    rw [if_neg hc]
    constructor
    . intro h; cases h
    . rintro ⟨h1, h2, h3, h4, h5, h6⟩
      exact absurd ⟨(h1 m List.mem_cons_self).1, (h1 m List.mem_cons_self).2, hfirst.2 fun x hx => h4 x hx m List.mem_cons_self⟩ hc
  rw [if_pos hc]
  obtain ⟨c1, c2, c3⟩ := hc
  have c3 := hfirst.1 c3
  have main : ∀ (L' S' : Nat), L' < 2 ^ 64 -> S' < 2 ^ 64 -> (Cov lb L' (outs 17 r) /\ Cov sb S' (outs 6 r) ↔ Cov lb L (outs 17 (m :: r)) /\ Cov sb S (outs 6 (m :: r))) ->
      (ck lb sb l r (pre.length + 1) m.at' L' S' = some (0, 0) ↔ (∀ x ∈ m :: r, okm x /\ t <= x.at') /\ (m :: r).Pairwise (fun x y => x.at' <= y.at') /\ (m :: r).Pairwise (fun x y => ¬ same x y) /\ (∀ x ∈ pre, ∀ y ∈ m :: r, ¬ same x y) /\ Cov lb L (outs 17 (m :: r)) /\ Cov sb S (outs 6 (m :: r))) := by
    intro L' S' hL' hS' hcov
    have ih := ck_iff lb sb l r (pre ++ [m]) m.at' L' S' hl2 (by omega) hL' hS'
    rw [hlen] at ih
    rw [ih, <- hcov]
    constructor
    . rintro ⟨h1, h2, h3, h4, h5⟩
      refine ⟨fun x hx => ?_, List.pairwise_cons.2 ⟨fun x hx => (h1 x hx).2, h2⟩, List.pairwise_cons.2 ⟨fun x hx => h4 m (by simp) x hx, h3⟩, fun x hx y hy => ?_, h5⟩
      . rcases List.mem_cons.1 hx with rfl | hx
        . exact ⟨c1, c2⟩
        . have := h1 x hx; exact ⟨this.1, by omega⟩
      . rcases List.mem_cons.1 hy with rfl | hy
        . exact c3 x hx
        . exact h4 x (List.mem_append_left _ hx) y hy
    . rintro ⟨h1, h2, h3, h4, h5⟩
      obtain ⟨h2a, h2⟩ := List.pairwise_cons.1 h2
      obtain ⟨h3a, h3⟩ := List.pairwise_cons.1 h3
      refine ⟨fun x hx => ⟨(h1 x (List.mem_cons_of_mem _ hx)).1, h2a x hx⟩, h2, h3, fun x hx y hy => ?_, h5⟩
      rcases List.mem_append.1 hx with hx | hx
      . exact h4 x hx y (List.mem_cons_of_mem _ hy)
      . rw [List.mem_singleton] at hx; subst hx; exact h3a y hy
  by_cases hp : m.proto = 17
  . rw [if_pos hp]
    have e1 : outs 17 (m :: r) = m.out :: outs 17 r := by rw [outs_cons, if_pos hp]
    have e2 : outs 6 (m :: r) = outs 6 r := by rw [outs_cons, if_neg (by omega)]
    cases hb : bitAt lb L m.out with
    | none =>
      constructor
      . intro h; cases h
      . rintro ⟨_, _, _, _, h, _⟩
        rw [e1] at h
        obtain ⟨k, k1, k2, k3⟩ := (h.2 m.out).1 List.mem_cons_self
        rw [k3, bitAt_at k1 k2] at hb; cases hb
    | some L' =>
      obtain ⟨k, k1, k2, k3, rfl⟩ := bitAt_some hb
      refine main _ S (xor_lt L k hL k1) hS ?_
      rw [e1, e2, k2, cov_tail k1 k3]
  . rw [if_neg hp]
    have hp6 : m.proto = 6 := by have := c1.1; omega
    have e1 : outs 6 (m :: r) = m.out :: outs 6 r := by rw [outs_cons, if_pos hp6]
    have e2 : outs 17 (m :: r) = outs 17 r := by rw [outs_cons, if_neg hp]
    cases hb : bitAt sb S m.out with
    | none =>
      constructor
      . intro h; cases h
      . rintro ⟨_, _, _, _, _, h⟩
        rw [e1] at h
        obtain ⟨k, k1, k2, k3⟩ := (h.2 m.out).1 List.mem_cons_self
        rw [k3, bitAt_at k1 k2] at hb; cases hb
    | some S' =>
      obtain ⟨k, k1, k2, k3, rfl⟩ := bitAt_some hb
      refine main L _ hL (xor_lt S k hS k1) ?_
      rw [e1, e2, k2, cov_tail k1 k3]
structure NatOk (life lb : Int) (L : Nat) (sb : Int) (S : Nat) (l : List TMap) : Prop where
 life : 1 <= life /\ life <= 1000000
 bl : baseOk lb
 bs : baseOk sb
 ltL : L < 2 ^ 64
 ltS : S < 2 ^ 64
 ok : ∀ m ∈ l, okm m
 sorted : l.Pairwise (fun x y => x.at' <= y.at')
 keys : l.Pairwise (fun x y => ¬ same x y)
 covL : Cov lb L (outs 17 l)
 covS : Cov sb S (outs 6 l)
theorem check_loop (life lb : Int) (L : Nat) (sb : Int) (S : Nat) (l : List TMap) (hb : baseOk lb) (hs : baseOk sb) (hL : L < 2 ^ 64) (hS : S < 2 ^ 64) (hl : l.length < BigN) :
  natCheck_loop84_9 ((0 : Int), ((0 : Int), (l, ((l.length : Int), (life, (lb, ((L : Int), (sb, ((S : Int), (l, (life, (lb, ((L : Int), (sb, ((S : Int), (l, ())))))))))))))))) =
   some (match ck lb sb l l 0 0 L S with | none => .inl ((4 : Int), ()) | some (L', S') => .inr (life, (lb, ((L' : Int), (sb, ((S' : Int), (l, ()))))))) := by
 unfold BigN at hl
 have key : ∀ (n : Nat) (r pre : List TMap) (t : Int) (L' S' : Nat), l = pre ++ r -> L' < 2 ^ 64 -> S' < 2 ^ 64 -> 0 <= t -> r.length < n ->
   loopO 840009 (fun x => (natCheck_step84_9 x).eval) n ((pre.length : Int), (t, (l, ((l.length : Int), (life, (lb, ((L : Int), (sb, ((S : Int), (l, (life, (lb, ((L' : Int), (sb, ((S' : Int), (l, ())))))))))))))))) =
    some (match ck lb sb l r pre.length t L' S' with | none => .inl ((4 : Int), ()) | some (L', S') => .inr (life, (lb, ((L' : Int), (sb, ((S' : Int), (l, ()))))))) := by
  intro n
  induction n with
  | zero => intro r pre t L' S' _ _ _ _ hn; omega
  | succ n ih =>
   intro r pre t L' S' hlr hL' hS' ht hn
   cases r with
   | nil =>
    have : pre.length = l.length := by rw [hlr]; simp
    exact loopO_out (ev_f (decide_eq_false (by omega)) rfl)
   | cons m r =>
    have hlt : pre.length < l.length := by rw [hlr]; simp
    have hget : l[Int.toNat (pre.length : Int)]? = some m := by rw [Int.toNat_natCast, hlr]; simp
    have e1 : IntKind.wrap IntKind.i64 ((pre.length : Int) + (1 : Int)) = ((pre.length + 1 : Nat) : Int) := wi _ (by omega)
    have hw := within_fn life lb (L : Int) sb (S : Int) l m.proto m.addr m.port hl
    have hidx : decide ((match hit (kb m.proto m.addr m.port) l with | some r => (r.1 : Int) | none => -1) = (pre.length : Int)) = decide ((hit (kb m.proto m.addr m.port) l).map (·.1) = some pre.length) := by
      cases hit (kb m.proto m.addr m.port) l with
      | none => simp
      | some z => simp; omega
    have stop : ∀ z, (natCheck_step84_9 ((pre.length : Int), (t, (l, ((l.length : Int), (life, (lb, ((L : Int), (sb, ((S : Int), (l, (life, (lb, ((L' : Int), (sb, ((S' : Int), (l, ()))))))))))))))))).eval = some (.inr (.inl ((4 : Int), ()))) -> ck lb sb l (m :: r) pre.length t L' S' = none ->
        loopO 840009 (fun x => (natCheck_step84_9 x).eval) (n + 1) ((pre.length : Int), (t, (l, ((l.length : Int), (life, (lb, ((L : Int), (sb, ((S : Int), (l, (life, (lb, ((L' : Int), (sb, ((S' : Int), (l, z)))))))))))))))) =
        some (match ck lb sb l (m :: r) pre.length t L' S' with | none => .inl ((4 : Int), ()) | some (L', S') => .inr (life, (lb, ((L' : Int), (sb, ((S' : Int), (l, ()))))))) := fun z h1 h2 => by
      rw [h2]; exact loopO_out h1
    have bad : ¬ (okm m /\ t <= m.at' /\ (hit (kb m.proto m.addr m.port) l).map (·.1) = some pre.length) -> ck lb sb l (m :: r) pre.length t L' S' = none := fun h => by unfold ck; rw [if_neg h]
    have go : ∀ (L2 S2 : Nat), L2 < 2 ^ 64 -> S2 < 2 ^ 64 -> 0 <= m.at' -> loopO 840009 (fun x => (natCheck_step84_9 x).eval) n (((pre.length + 1 : Nat) : Int), (m.at', (l, ((l.length : Int), (life, (lb, ((L : Int), (sb, ((S : Int), (l, (life, (lb, ((L2 : Int), (sb, ((S2 : Int), (l, ())))))))))))))))) =
        some (match ck lb sb l r (pre.length + 1) m.at' L2 S2 with | none => .inl ((4 : Int), ()) | some (L', S') => .inr (life, (lb, ((L' : Int), (sb, ((S' : Int), (l, ()))))))) := fun L2 S2 h1 h2 h3 => by
      have := ih r (pre ++ [m]) m.at' L2 S2 (by rw [hlr]; simp) h1 h2 h3 (by simp at hn; omega)
      rw [show (pre ++ [m]).length = pre.length + 1 by simp] at this
      exact this
    have hlt' : decide ((pre.length : Int) < (l.length : Int)) = true := decide_eq_true (by omega)
    have hge' : decide ((0 : Int) <= (pre.length : Int)) = true := decide_eq_true (by omega)
    by_cases c1 : m.port < 0
    . refine stop () ?_ (bad fun h => by have := h.1.2.1; omega)
      by_cases p17 : m.proto = 17
      . exact ev_t hlt' (ev_g hge' (ev_opt hget (ev_t (decide_eq_true p17) (ev_f rfl (ev_t (decide_eq_true c1) rfl)))))
      by_cases p6 : m.proto = 6
      . exact ev_t hlt' (ev_g hge' (ev_opt hget (ev_f (decide_eq_false p17) (ev_t (decide_eq_true p6) (ev_f rfl (ev_t (decide_eq_true c1) rfl))))))
      . exact ev_t hlt' (ev_g hge' (ev_opt hget (ev_f (decide_eq_false p17) (ev_f (decide_eq_false p6) (ev_t rfl rfl)))))
    by_cases pb : m.proto = 17 \/ m.proto = 6
    case neg =>
      refine stop () ?_ (bad fun h => pb h.1.1)
      exact ev_t hlt' (ev_g hge' (ev_opt hget (ev_f (decide_eq_false fun e => pb (.inl e)) (ev_f (decide_eq_false fun e => pb (.inr e)) (ev_t rfl rfl)))))
    have c1 := decide_eq_false c1
    by_cases c2 : 65535 < m.port
    . refine stop () ?_ (bad fun h => by have := h.1.2.2.1; omega)
      rcases pb with p17 | p6
      . exact ev_t hlt' (ev_g hge' (ev_opt hget (ev_t (decide_eq_true p17) (ev_f rfl (ev_f c1 (ev_t (decide_eq_true c2) rfl))))))
      . exact ev_t hlt' (ev_g hge' (ev_opt hget (ev_f (decide_eq_false (by omega)) (ev_t (decide_eq_true p6) (ev_f rfl (ev_f c1 (ev_t (decide_eq_true c2) rfl)))))))
    have c2' := decide_eq_false c2
    by_cases c3 : m.at' < t
    . refine stop () ?_ (bad fun h => by have := h.2.1; omega)
      rcases pb with p17 | p6
      . exact ev_t hlt' (ev_g hge' (ev_opt hget (ev_t (decide_eq_true p17) (ev_f rfl (ev_f c1 (ev_f c2' (ev_t (decide_eq_true c3) rfl)))))))
      . exact ev_t hlt' (ev_g hge' (ev_opt hget (ev_f (decide_eq_false (by omega)) (ev_t (decide_eq_true p6) (ev_f rfl (ev_f c1 (ev_f c2' (ev_t (decide_eq_true c3) rfl))))))))
    have c3' := decide_eq_false c3
    by_cases c4 : 1099511627776 < m.at'
    . refine stop () ?_ (bad fun h => by have := h.1.2.2.2.2; omega)
      rcases pb with p17 | p6
      . exact ev_t hlt' (ev_g hge' (ev_opt hget (ev_t (decide_eq_true p17) (ev_f rfl (ev_f c1 (ev_f c2' (ev_f c3' (ev_t (decide_eq_true c4) rfl))))))))
      . exact ev_t hlt' (ev_g hge' (ev_opt hget (ev_f (decide_eq_false (by omega)) (ev_t (decide_eq_true p6) (ev_f rfl (ev_f c1 (ev_f c2' (ev_f c3' (ev_t (decide_eq_true c4) rfl)))))))))
    have c4' := decide_eq_false c4
    by_cases c5 : (hit (kb m.proto m.addr m.port) l).map (·.1) = some pre.length
    case neg =>
      refine stop () ?_ (bad fun h => c5 h.2.2)
      have c5 : (!decide ((match hit (kb m.proto m.addr m.port) l with | some r => (r.1 : Int) | none => -1) = (pre.length : Int))) = true := by rw [hidx, decide_eq_false c5]; rfl
      rcases pb with p17 | p6
      . exact ev_t hlt' (ev_g hge' (ev_opt hget (ev_t (decide_eq_true p17) (ev_f rfl (ev_f c1 (ev_f c2' (ev_f c3' (ev_f c4' (ev_opt hw (ev_t c5 rfl))))))))))
      . exact ev_t hlt' (ev_g hge' (ev_opt hget (ev_f (decide_eq_false (by omega)) (ev_t (decide_eq_true p6) (ev_f rfl (ev_f c1 (ev_f c2' (ev_f c3' (ev_f c4' (ev_opt hw (ev_t c5 rfl)))))))))))
    have c6 : (!decide ((match hit (kb m.proto m.addr m.port) l with | some r => (r.1 : Int) | none => -1) = (pre.length : Int))) = false := by rw [hidx, decide_eq_true c5]; rfl
    have hok : okm m := ⟨pb, by have := of_decide_eq_false c1; omega, by omega, by omega, by omega⟩
    have hck : ck lb sb l (m :: r) pre.length t L' S' = if m.proto = 17 then (bitAt lb L' m.out).bind fun L' => ck lb sb l r (pre.length + 1) m.at' L' S' else (bitAt sb S' m.out).bind fun S' => ck lb sb l r (pre.length + 1) m.at' L' S' := by
      conv => lhs; unfold ck
      rw [if_pos ⟨hok, by omega, c5⟩]
    rcases pb with p17 | p6
    . rw [if_pos p17] at hck
      rcases end_bit lb L' m.out hb hL' with ⟨L2, b1, b2, b3⟩ | ⟨b1, e, b2, b3⟩
      . rw [hck, b1]
        have hstep : (natCheck_step84_9 ((pre.length : Int), (t, (l, ((l.length : Int), (life, (lb, ((L : Int), (sb, ((S : Int), (l, (life, (lb, ((L' : Int), (sb, ((S' : Int), (l, ()))))))))))))))))).eval = some (.inl (((pre.length + 1 : Nat) : Int), (m.at', (l, ((l.length : Int), (life, (lb, ((L : Int), (sb, ((S : Int), (l, (life, (lb, ((L2 : Int), (sb, ((S' : Int), (l, ()))))))))))))))))) := (ev_t hlt' (ev_g hge' (ev_opt hget (ev_t (decide_eq_true p17) (ev_f rfl (ev_f c1 (ev_f c2' (ev_f c3' (ev_f c4' (ev_opt hw (ev_f c6 (ev_opt b3 (ev_f rfl (ev_r (by rw [e1])))))))))))))))
        exact (loopO_in (f := fun x => (natCheck_step84_9 x).eval) hstep).trans (go L2 S' b2 hS' hok.2.2.2.1)
      . refine stop () ?_ (by rw [hck, b1]; rfl)
        exact ev_t hlt' (ev_g hge' (ev_opt hget (ev_t (decide_eq_true p17) (ev_f rfl (ev_f c1 (ev_f c2' (ev_f c3' (ev_f c4' (ev_opt hw (ev_f c6 (ev_opt b3 (ev_t (by simpa using b2) rfl))))))))))))
    . have p17 : ¬ m.proto = 17 := by omega
      rw [if_neg p17] at hck
      rcases end_bit sb S' m.out hs hS' with ⟨S2, b1, b2, b3⟩ | ⟨b1, e, b2, b3⟩
      . rw [hck, b1]
        have hstep : (natCheck_step84_9 ((pre.length : Int), (t, (l, ((l.length : Int), (life, (lb, ((L : Int), (sb, ((S : Int), (l, (life, (lb, ((L' : Int), (sb, ((S' : Int), (l, ()))))))))))))))))).eval = some (.inl (((pre.length + 1 : Nat) : Int), (m.at', (l, ((l.length : Int), (life, (lb, ((L : Int), (sb, ((S : Int), (l, (life, (lb, ((L' : Int), (sb, ((S2 : Int), (l, ()))))))))))))))))) := (ev_t hlt' (ev_g hge' (ev_opt hget (ev_f (decide_eq_false p17) (ev_t (decide_eq_true p6) (ev_f rfl (ev_f c1 (ev_f c2' (ev_f c3' (ev_f c4' (ev_opt hw (ev_f c6 (ev_opt b3 (ev_f rfl (ev_r (by rw [e1]))))))))))))))))
        exact (loopO_in (f := fun x => (natCheck_step84_9 x).eval) hstep).trans (go L' S2 hL' b2 hok.2.2.2.1)
      . refine stop () ?_ (by rw [hck, b1]; rfl)
        exact ev_t hlt' (ev_g hge' (ev_opt hget (ev_f (decide_eq_false p17) (ev_t (decide_eq_true p6) (ev_f rfl (ev_f c1 (ev_f c2' (ev_f c3' (ev_f c4' (ev_opt hw (ev_f c6 (ev_opt b3 (ev_t (by simpa using b2) rfl)))))))))))))
 have := key 18446744073709551616 l [] 0 L S rfl hL hS (Int.le_refl _) (by omega)
 exact this
theorem natCheck_yes {life lb : Int} {L : Nat} {sb : Int} {S : Nat} {l : List TMap} (h : NatOk life lb L sb S l) (hl : l.length < BigN) : natCheck_fn (life, (lb, ((L : Int), (sb, ((S : Int), (l, ())))))) = some ((0 : Int), ()) := by
 have hlife := h.life
 have hck := (ck_iff lb sb l l [] 0 L S rfl (Int.le_refl _) h.ltL h.ltS).2 ⟨fun m hm => ⟨h.ok m hm, (h.ok m hm).2.2.2.1⟩, h.sorted, h.keys, (fun x hx => by cases hx), h.covL, h.covS⟩
 have hlp := check_loop life lb L sb S l h.bl h.bs h.ltL h.ltS hl
 rw [show ([] : List TMap).length = 0 from rfl] at hck
 rw [hck] at hlp
 exact ev_f (decide_eq_false (by omega)) (ev_f (decide_eq_false (by omega)) (ev_opt (check_ok _ h.bl) (ev_opt (check_ok _ h.bs) (ev_f rfl (ev_opt hlp (ev_f rfl (ev_f rfl rfl)))))))
theorem natCheck_no {life lb : Int} {L : Nat} {sb : Int} {S : Nat} {l : List TMap} (h : ¬ NatOk life lb L sb S l) (hL : L < 2 ^ 64) (hS : S < 2 ^ 64) (hl : l.length < BigN) : ∃ e : Int, e ≠ 0 /\ natCheck_fn (life, (lb, ((L : Int), (sb, ((S : Int), (l, ())))))) = some (e, ()) := by
 by_cases h1 : life < 1
 . exact ⟨1, by decide, ev_t (decide_eq_true h1) rfl⟩
 by_cases h2 : 1000000 < life
 . exact ⟨1, by decide, ev_f (decide_eq_false h1) (ev_t (decide_eq_true h2) rfl)⟩
 have h1' := decide_eq_false h1
 have h2' := decide_eq_false h2
 by_cases hb : baseOk lb
 case neg =>
   by_cases hs : baseOk sb
   . exact ⟨1, by decide, ev_f h1' (ev_f h2' (ev_opt (check_no _ hb) (ev_opt (check_ok _ hs) (ev_t rfl rfl))))⟩
   . exact ⟨1, by decide, ev_f h1' (ev_f h2' (ev_opt (check_no _ hb) (ev_opt (check_no _ hs) (ev_t rfl rfl))))⟩
 by_cases hs : baseOk sb
 case neg => exact ⟨1, by decide, ev_f h1' (ev_f h2' (ev_opt (check_ok _ hb) (ev_opt (check_no _ hs) (ev_t rfl rfl))))⟩
 have hlp := check_loop life lb L sb S l hb hs hL hS hl
 have hck := ck_iff lb sb l l [] 0 L S rfl (Int.le_refl _) hL hS
 rw [show ([] : List TMap).length = 0 from rfl] at hck
 have hne : ck lb sb l l 0 0 L S ≠ some (0, 0) := fun e => by
   obtain ⟨g1, g2, g3, _, g5, g6⟩ := hck.1 e
   exact h ⟨by omega, hb, hs, hL, hS, fun m hm => (g1 m hm).1, g2, g3, g5, g6⟩
 cases hc : ck lb sb l l 0 0 L S with
 | none =>
   rw [hc] at hlp
   exact ⟨4, by decide, ev_f h1' (ev_f h2' (ev_opt (check_ok _ hb) (ev_opt (check_ok _ hs) (ev_f rfl (ev_opt hlp rfl)))))⟩
 | some z =>
   obtain ⟨L', S'⟩ := z
   rw [hc] at hlp hne
   refine ⟨4, by decide, ev_f h1' (ev_f h2' (ev_opt (check_ok _ hb) (ev_opt (check_ok _ hs) (ev_f rfl (ev_opt hlp ?_)))))⟩
   by_cases hz : L' = 0
   . by_cases hz2 : S' = 0
     . subst hz; subst hz2; exact absurd rfl hne
     . exact ev_f (show (!decide ((L' : Int) = 0)) = false by rw [hz]; rfl) (ev_t (show (!decide ((S' : Int) = 0)) = true by rw [decide_eq_false (by omega)]; rfl) rfl)
   . exact ev_t (show (!decide ((L' : Int) = 0)) = true by rw [decide_eq_false (by omega)]; rfl) rfl
theorem delM_ok (l : List TMap) (i j : Nat) (hij : i <= j) (hj : j <= l.length) : delMap_fn ((i : Int), ((j : Int), (l, ()))) = some (l.take i ++ l.drop j, ()) := by
 by_cases he : i = j
 . subst he
   show (delMap_tree _).eval = _
   refine ev_g (decide_eq_true (by omega)) (ev_t (decide_eq_true rfl) (ev_g (decide_eq_true rfl) (ev_r ?_)))
   rw [List.take_append_drop]
 . unfold delMap_fn delMap_tree
   have hj2 : Int.toNat ((l.length : Int) - (j : Int)) = l.length - j := by omega
   have hB : (List.take (l.length - j) (List.drop j l)).length = l.length - j := by simp
   simp only [Int.toNat_natCast, hj2]
   refine ev_g (by simp <;> omega) (ev_f (by simp <;> omega) (ev_g (by simp <;> omega) (ev_g (by simp <;> omega) (ev_g (by simp <;> omega) (ev_g (by rw [hB]; simp; omega) ?_)))))
   refine ev_g (by simp [hB]; omega) (ev_g (by simp [hB]; omega) (ev_g (by simp [hB]; omega) (ev_r ?_)))
   simp only [del_eq l i j (by omega) (by omega)]
theorem NatOk.tail {life lb : Int} {L : Nat} {sb : Int} {S : Nat} {m : TMap} {r : List TMap} (h : NatOk life lb L sb S (m :: r)) :
   (m.proto = 17 /\ ∃ k : Nat, k < 64 /\ L.testBit k = true /\ m.out = lb + (k : Int) /\ NatOk life lb (L ^^^ 2 ^ k) sb S r) \/ (m.proto = 6 /\ ∃ k : Nat, k < 64 /\ S.testBit k = true /\ m.out = sb + (k : Int) /\ NatOk life lb L sb (S ^^^ 2 ^ k) r) := by
 have hok := h.ok m List.mem_cons_self
 have s2 := (List.pairwise_cons.1 h.sorted).2
 have k2 := (List.pairwise_cons.1 h.keys).2
 have cL := h.covL
 have cS := h.covS
 rcases hok.1 with p | p
 . left
   rw [outs_cons, if_pos p] at cL
   rw [outs_cons, if_neg (by omega)] at cS
   obtain ⟨k, k1, k3, k4⟩ := (cL.2 m.out).1 List.mem_cons_self
   rw [k4, cov_tail k1 k3] at cL
   exact ⟨p, k, k1, k3, k4, ⟨h.life, h.bl, h.bs, xor_lt L k h.ltL k1, h.ltS, fun x hx => h.ok x (List.mem_cons_of_mem _ hx), s2, k2, cL, cS⟩⟩
 . right
   rw [outs_cons, if_neg (by omega)] at cL
   rw [outs_cons, if_pos p] at cS
   obtain ⟨k, k1, k3, k4⟩ := (cS.2 m.out).1 List.mem_cons_self
   rw [k4, cov_tail k1 k3] at cS
   exact ⟨p, k, k1, k3, k4, ⟨h.life, h.bl, h.bs, h.ltL, xor_lt S k h.ltS k1, fun x hx => h.ok x (List.mem_cons_of_mem _ hx), s2, k2, cL, cS⟩⟩
theorem drop_cons {T : Type} (l : List T) (i : Nat) (hi : i < l.length) : l.drop i = l[i] :: l.drop (i + 1) := List.drop_eq_getElem_cons hi
theorem expire_ok (now life lb : Int) (L : Nat) (sb : Int) (S : Nat) (l : List TMap) (h : NatOk life lb L sb S l) (hnow : 0 <= now /\ now <= 1099511627776) (hl : l.length < BigN) :
  ∃ k L' S' : Nat, natExpire_fn (now, (life, (lb, ((L : Int), (sb, ((S : Int), (l, ()))))))) = some (life, (lb, ((L' : Int), (sb, ((S' : Int), (l.drop k, ())))))) /\ NatOk life lb L' sb S' (l.drop k) /\ k <= l.length /\ (∀ m ∈ l.take k, life < now - m.at') /\ (∀ m ∈ l.drop k, now - m.at' <= life) := by
 unfold BigN at hl
 have key : ∃ z, natExpire_loop170_1 ((0 : Int), (now, (life, (lb, ((L : Int), (sb, ((S : Int), (l, ())))))))) = some z /\ ∃ k L' S' : Nat, z = ((k : Int), (life, (lb, ((L' : Int), (sb, ((S' : Int), (l, ()))))))) /\ NatOk life lb L' sb S' (l.drop k) /\ k <= l.length /\ (∀ m ∈ l.take k, life < now - m.at') /\ (∀ m ∈ l.drop k, now - m.at' <= life) := by
  refine loopO_ex (f := fun x => (natExpire_step170_1 x).eval)
    (fun x => ∃ i L' S' : Nat, x = ((i : Int), (now, (life, (lb, ((L' : Int), (sb, ((S' : Int), (l, ())))))))) /\ NatOk life lb L' sb S' (l.drop i) /\ i <= l.length /\ (∀ m ∈ l.take i, life < now - m.at')) _
    (fun x => l.length - x.1.toNat) ?_ _ _ ⟨0, L, S, rfl, h, Nat.zero_le _, fun m hm => by simp at hm⟩ (by show l.length - (0 : Int).toNat < 18446744073709551616; simp; omega)
  rintro _ ⟨i, L', S', rfl, hN, hi, hold⟩
  by_cases hlt : i < l.length
  case neg =>
    left
    have : i = l.length := by omega
    exact ⟨_, ev_f (decide_eq_false (by omega)) (ev_g (decide_eq_true rfl) rfl), i, L', S', rfl, hN, hi, hold, fun m hm => by rw [List.drop_eq_nil_of_le (by omega)] at hm; cases hm⟩
  have hget : l[Int.toNat (i : Int)]? = some l[i] := by rw [Int.toNat_natCast, List.getElem?_eq_getElem hlt]
  have hd := drop_cons l i hlt
  have htk : l.take (i + 1) = l.take i ++ [l[i]] := (List.take_append_getElem hlt).symm
  generalize l[i] = m at hget hd htk
  have hNd := hN
  rw [hd] at hNd
  have hok := hNd.ok m List.mem_cons_self
  have hw : IntKind.wrap IntKind.i64 (now - m.at') = now - m.at' := by have := hok.2.2.2; exact wi _ (by omega)
  have g0 : decide ((i : Int) < (l.length : Int)) = true := decide_eq_true (by omega)
  have g1 : decide ((0 : Int) <= (i : Int) /\ (i : Int) < (l.length : Int)) = true := decide_eq_true (by omega)
  have e1 : IntKind.wrap IntKind.i64 ((i : Int) + (1 : Int)) = ((i + 1 : Nat) : Int) := wi _ (by omega)
  by_cases ho : life < now - m.at'
  . right
    have hold2 : ∀ x ∈ l.take (i + 1), life < now - x.at' := fun x hx => by
      rw [htk] at hx
      rcases List.mem_append.1 hx with hx | hx
      . exact hold x hx
      . rw [List.mem_singleton] at hx; subst hx; exact ho
    have hmeas : l.length - (i + 1) < l.length - i := by omega
    rcases hNd.tail with ⟨p, k, k1, k2, k3, hN2⟩ | ⟨p, k, k1, k2, k3, hN2⟩
    . have he := end_ok lb L' k h.bl hN.ltL k1 k2
      rw [<- k3] at he
      refine ⟨_, ev_t g0 (ev_g g1 (ev_opt hget (ev_t (by rw [hw]; exact decide_eq_true ho) (ev_g g1 (ev_opt hget (ev_t (decide_eq_true p) (ev_g g1 (ev_opt hget (ev_opt he (ev_g (decide_eq_true rfl) (ev_r rfl))))))))))), ⟨i + 1, L' ^^^ 2 ^ k, S', by rw [e1], hN2, by omega, hold2⟩, by show l.length - (IntKind.wrap IntKind.i64 ((i : Int) + (1 : Int))).toNat < l.length - (i : Int).toNat; rw [e1]; exact hmeas⟩
    . have he := end_ok sb S' k h.bs hN.ltS k1 k2
      rw [<- k3] at he
      refine ⟨_, ev_t g0 (ev_g g1 (ev_opt hget (ev_t (by rw [hw]; exact decide_eq_true ho) (ev_g g1 (ev_opt hget (ev_f (decide_eq_false (by omega)) (ev_t (decide_eq_true p) (ev_g g1 (ev_opt hget (ev_opt he (ev_g (decide_eq_true rfl) (ev_r rfl)))))))))))), ⟨i + 1, L', S' ^^^ 2 ^ k, by rw [e1], hN2, by omega, hold2⟩, by show l.length - (IntKind.wrap IntKind.i64 ((i : Int) + (1 : Int))).toNat < l.length - (i : Int).toNat; rw [e1]; exact hmeas⟩
  . left
    refine ⟨_, ev_t g0 (ev_g g1 (ev_opt hget (ev_f (by rw [hw]; exact decide_eq_false ho) (ev_g (decide_eq_true rfl) (ev_r rfl))))), i, L', S', rfl, hN, hi, hold, fun x hx => ?_⟩
    rw [hd] at hx
    rcases List.mem_cons.1 hx with rfl | hx
    . omega
    . have := (List.pairwise_cons.1 hNd.sorted).1 x hx
      omega
 obtain ⟨_, h1, k, L', S', rfl, h2, h3, h4, h5⟩ := key
 have hdel := delM_ok l 0 k (Nat.zero_le _) h3
 refine ⟨k, L', S', ?_, h2, h3, h4, h5⟩
 exact ev_g (decide_eq_true rfl) (ev_opt h1 (ev_g (decide_eq_true rfl) (ev_opt hdel (ev_g (decide_eq_true rfl) rfl))))
def natOutMain (a0 a1 a2 a3 a4 : Int) (a5 : List TMap) (a6 a7 a8 a9 : Int) : Tr (Int × (Int × (Int × (Int × (Int × ((List TMap) × (Int × (Int × Unit)))))))) :=
 .grd (decide (((0 : Nat) + List.length a5) * (40 : Nat) <= (140737488355328 : Nat) /\ (0 : Nat) + List.length a5 <= (9223372036854775807 : Nat))) ( .grd (decide (List.length a5 = List.length a5)) ( .opt (β := (Int × (Int × (Int × (Int × (Int × ((List TMap) × Unit))))))) ((natExpire_fn (a9, (a0, (a1, (a2, (a3, (a4, (a5, ()))))))))) (fun r2 => .opt (β := (Int × Unit)) ((natWithin_fn (r2.1, (r2.2.1, (r2.2.2.1, (r2.2.2.2.1, (r2.2.2.2.2.1, (r2.2.2.2.2.2.1, (a6, (a7, (a8, ()))))))))))) (fun r3 => .ite (decide ((0 : Int) <= r3.1)) ( .grd (decide ((0 : Int) <= r3.1 /\ r3.1 < (↑(List.length r2.2.2.2.2.2.fst) : Int))) ( .opt (β := TMap) (r2.2.2.2.2.2.1[Int.toNat r3.1]?) (fun r4 => .grd (decide (List.length r2.2.2.2.2.2.fst = List.length r2.2.2.2.2.2.1)) ( .opt (β := ((List TMap) × Unit)) ((delMap_fn (r3.1, (IntKind.wrap IntKind.i64 (r3.1 + (1 : Int)), (r2.2.2.2.2.2.1, ()))))) (fun r5 => .grd (decide ((List.length r5.1 + List.length [TMap.mk a6 a7 a8 r4.out a9]) * (40 : Nat) <= (140737488355328 : Nat) /\ List.length r5.1 + List.length [TMap.mk a6 a7 a8 r4.out a9] <= (9223372036854775807 : Nat))) ( .ret (r2.1, (r2.2.1, (r2.2.2.1, (r2.2.2.2.1, (r2.2.2.2.2.1, (r5.1 ++ [TMap.mk a6 a7 a8 r4.out a9], (r4.out, ((0 : Int), ())))))))))))))) ( .ite (decide (a6 = (17 : Int))) ( .opt (β := (Int × (Int × (Int × (Int × Unit))))) ((portsLet_fn (r2.2.1, (r2.2.2.1, (a8, ()))))) (fun r4 => .ite (!decide (r4.2.2.2.1 = (0 : Int))) ( .ret (a0, (a1, (a2, (a3, (a4, (a5, ((0 : Int), (r4.2.2.2.1, ()))))))))) ( .grd (decide ((List.length r2.2.2.2.2.2.1 + List.length [TMap.mk a6 a7 a8 r4.2.2.1 a9]) * (40 : Nat) <= (140737488355328 : Nat) /\ List.length r2.2.2.2.2.2.1 + List.length [TMap.mk a6 a7 a8 r4.2.2.1 a9] <= (9223372036854775807 : Nat))) ( .ret (r2.1, (r4.1, (r4.2.1, (r2.2.2.2.1, (r2.2.2.2.2.1, (r2.2.2.2.2.2.1 ++ [TMap.mk a6 a7 a8 r4.2.2.1 a9], (r4.2.2.1, ((0 : Int), ())))))))))))) ( .ite (decide (a6 = (6 : Int))) ( .opt (β := (Int × (Int × (Int × (Int × Unit))))) ((portsLet_fn (r2.2.2.2.1, (r2.2.2.2.2.1, (a8, ()))))) (fun r4 => .ite (!decide (r4.2.2.2.1 = (0 : Int))) ( .ret (a0, (a1, (a2, (a3, (a4, (a5, ((0 : Int), (r4.2.2.2.1, ()))))))))) ( .grd (decide ((List.length r2.2.2.2.2.2.1 + List.length [TMap.mk a6 a7 a8 r4.2.2.1 a9]) * (40 : Nat) <= (140737488355328 : Nat) /\ List.length r2.2.2.2.2.2.1 + List.length [TMap.mk a6 a7 a8 r4.2.2.1 a9] <= (9223372036854775807 : Nat))) ( .ret (r2.1, (r2.2.1, (r2.2.2.1, (r4.1, (r4.2.1, (r2.2.2.2.2.2.1 ++ [TMap.mk a6 a7 a8 r4.2.2.1 a9], (r4.2.2.1, ((0 : Int), ())))))))))))) ( .fail 3)))))))
theorem natOut_short (a0 a1 a2 a3 a4 : Int) (a5 : List TMap) (a6 a7 a8 a9 : Int) : natOut_fn (a0, (a1, (a2, (a3, (a4, (a5, (a6, (a7, (a8, (a9, ())))))))))) = (Tr.grd (decide (((0 : Nat) + List.length a5) * (40 : Nat) <= (140737488355328 : Nat) /\ (0 : Nat) + List.length a5 <= (9223372036854775807 : Nat))) (
 .opt (β := (Int × Unit)) ((natCheck_fn (a0, (a1, (a2, (a3, (a4, (a5, ())))))))) (fun r0 =>
 .ite (!decide (r0.1 = (0 : Int))) (
  .ret ((a0, (a1, (a2, (a3, (a4, (a5, ((0 : Int), (r0.1, ())))))))) : (Int × (Int × (Int × (Int × (Int × ((List TMap) × (Int × (Int × Unit)))))))))) (
  .ite (decide ((0 : Int) < (↑(List.length a5) : Int))) (
   .grd (decide ((0 : Int) <= IntKind.wrap IntKind.i64 ((↑(List.length a5) : Int) - (1 : Int)) /\ IntKind.wrap IntKind.i64 ((↑(List.length a5) : Int) - (1 : Int)) < (↑(List.length a5) : Int))) (
   .opt (β := TMap) (a5[Int.toNat (IntKind.wrap IntKind.i64 ((↑(List.length a5) : Int) - (1 : Int)))]?) (fun r1 =>
   .ite (!decide (a6 = (6 : Int))) (
    .ite (!decide (a6 = (17 : Int))) (
     .ret (a0, (a1, (a2, (a3, (a4, (a5, ((0 : Int), ((7 : Int), ()))))))))) (
     .ite (decide (a8 < (0 : Int))) (
    .ret (a0, (a1, (a2, (a3, (a4, (a5, ((0 : Int), ((1 : Int), ()))))))))) (
    .ite (decide ((65535 : Int) < a8)) (
     .ret (a0, (a1, (a2, (a3, (a4, (a5, ((0 : Int), ((1 : Int), ()))))))))) (
     .ite (decide (a9 < r1.at')) (
      .ret (a0, (a1, (a2, (a3, (a4, (a5, ((0 : Int), ((1 : Int), ()))))))))) (
      .ite (decide ((1099511627776 : Int) < a9)) (
       .ret (a0, (a1, (a2, (a3, (a4, (a5, ((0 : Int), ((1 : Int), ()))))))))) (
       natOutMain a0 a1 a2 a3 a4 a5 a6 a7 a8 a9)))))) (
    .ite (decide (a8 < (0 : Int))) (
    .ret (a0, (a1, (a2, (a3, (a4, (a5, ((0 : Int), ((1 : Int), ()))))))))) (
    .ite (decide ((65535 : Int) < a8)) (
     .ret (a0, (a1, (a2, (a3, (a4, (a5, ((0 : Int), ((1 : Int), ()))))))))) (
     .ite (decide (a9 < r1.at')) (
      .ret (a0, (a1, (a2, (a3, (a4, (a5, ((0 : Int), ((1 : Int), ()))))))))) (
      .ite (decide ((1099511627776 : Int) < a9)) (
       .ret (a0, (a1, (a2, (a3, (a4, (a5, ((0 : Int), ((1 : Int), ()))))))))) (
       natOutMain a0 a1 a2 a3 a4 a5 a6 a7 a8 a9)))))))) (
   .ite (!decide (a6 = (6 : Int))) (
    .ite (!decide (a6 = (17 : Int))) (
     .ret (a0, (a1, (a2, (a3, (a4, (a5, ((0 : Int), ((7 : Int), ()))))))))) (
     .ite (decide (a8 < (0 : Int))) (
    .ret (a0, (a1, (a2, (a3, (a4, (a5, ((0 : Int), ((1 : Int), ()))))))))) (
    .ite (decide ((65535 : Int) < a8)) (
     .ret (a0, (a1, (a2, (a3, (a4, (a5, ((0 : Int), ((1 : Int), ()))))))))) (
     .ite (decide (a9 < (0 : Int))) (
      .ret (a0, (a1, (a2, (a3, (a4, (a5, ((0 : Int), ((1 : Int), ()))))))))) (
      .ite (decide ((1099511627776 : Int) < a9)) (
       .ret (a0, (a1, (a2, (a3, (a4, (a5, ((0 : Int), ((1 : Int), ()))))))))) (
       natOutMain a0 a1 a2 a3 a4 a5 a6 a7 a8 a9)))))) (
    .ite (decide (a8 < (0 : Int))) (
    .ret (a0, (a1, (a2, (a3, (a4, (a5, ((0 : Int), ((1 : Int), ()))))))))) (
    .ite (decide ((65535 : Int) < a8)) (
     .ret (a0, (a1, (a2, (a3, (a4, (a5, ((0 : Int), ((1 : Int), ()))))))))) (
     .ite (decide (a9 < (0 : Int))) (
      .ret (a0, (a1, (a2, (a3, (a4, (a5, ((0 : Int), ((1 : Int), ()))))))))) (
      .ite (decide ((1099511627776 : Int) < a9)) (
       .ret (a0, (a1, (a2, (a3, (a4, (a5, ((0 : Int), ((1 : Int), ()))))))))) (
       natOutMain a0 a1 a2 a3 a4 a5 a6 a7 a8 a9)))))))))).eval := rfl
def lastAt (l : List TMap) : Int := match l.getLast? with | some m => m.at' | none => 0
theorem lastAt_ge {l : List TMap} (h : l.Pairwise (fun x y => x.at' <= y.at')) : ∀ m ∈ l, m.at' <= lastAt l := by
 intro m hm
 rcases List.eq_nil_or_concat l with rfl | ⟨p, x, rfl⟩
 . cases hm
 . rw [List.concat_eq_append] at hm h ⊢
   simp only [lastAt, List.getLast?_append, List.getLast?_singleton, Option.some_or]
   rcases List.mem_append.1 hm with hm | hm
   . exact (List.pairwise_append.1 h).2.2 m hm x (by simp)
   . rw [List.mem_singleton] at hm; subst hm; exact Int.le_refl _
structure ArgOk (l : List TMap) (proto port now : Int) : Prop where
 proto : proto = 17 \/ proto = 6
 port : 0 <= port /\ port <= 65535
 now : lastAt l <= now /\ 0 <= now /\ now <= 1099511627776
theorem R_ite {α : Type} {Q : Option α -> Prop} {c : Bool} {t e : Tr α} (h1 : c = true -> Q t.eval) (h2 : c = false -> Q e.eval) : Q (Tr.ite c t e).eval := by
 cases c
 . exact h2 rfl
 . exact h1 rfl
theorem R_opt {α β : Type} {Q : Option α -> Prop} {o : Option β} {k : β -> Tr α} {b : β} (h : o = some b) (h2 : Q (k b).eval) : Q (Tr.opt o k).eval := by rw [h]; exact h2
theorem R_g {α : Type} {Q : Option α -> Prop} {c : Bool} {t : Tr α} (h : c = true) (h2 : Q t.eval) : Q (Tr.grd c t).eval := by rw [h]; exact h2
theorem out_head {life lb : Int} {L : Nat} {sb : Int} {S : Nat} {l : List TMap} {proto addr port now : Int} (hN : NatOk life lb L sb S l) (hs : l.length * 40 <= 140737488355300) (hl : l.length < BigN) (Q : Option (Int × (Int × (Int × (Int × (Int × ((List TMap) × (Int × (Int × Unit)))))))) -> Prop)
   (hA : ArgOk l proto port now -> Q (natOutMain life lb (L : Int) sb (S : Int) l proto addr port now).eval) (hB : ¬ ArgOk l proto port now -> ∀ e : Int, e ≠ 0 -> Q (some (life, (lb, ((L : Int), (sb, ((S : Int), (l, ((0 : Int), (e, ()))))))))) ) :
   Q (natOut_fn (life, (lb, ((L : Int), (sb, ((S : Int), (l, (proto, (addr, (port, (now, ()))))))))))) := by
 unfold BigN at hl
 rw [natOut_short]
 refine R_g (Q := Q) (decide_eq_true (by omega)) (R_opt (Q := Q) (natCheck_yes hN (by unfold BigN; exact hl)) (R_ite (Q := Q) (fun h => by cases h) fun _ => ?_))
 have tl : ∀ last : Int, last = lastAt l -> 0 <= last -> (proto = 17 \/ proto = 6) -> Q (Tr.ite (decide (port < (0 : Int))) (
    .ret ((life, (lb, ((L : Int), (sb, ((S : Int), (l, ((0 : Int), ((1 : Int), ())))))))) : (Int × (Int × (Int × (Int × (Int × ((List TMap) × (Int × (Int × Unit)))))))))) (
    .ite (decide ((65535 : Int) < port)) (
     .ret (life, (lb, ((L : Int), (sb, ((S : Int), (l, ((0 : Int), ((1 : Int), ()))))))))) (
     .ite (decide (now < last)) (
      .ret (life, (lb, ((L : Int), (sb, ((S : Int), (l, ((0 : Int), ((1 : Int), ()))))))))) (
      .ite (decide ((1099511627776 : Int) < now)) (
       .ret (life, (lb, ((L : Int), (sb, ((S : Int), (l, ((0 : Int), ((1 : Int), ()))))))))) (
       natOutMain life lb (L : Int) sb (S : Int) l proto addr port now))))).eval := by
   intro last hla h0 hp
   refine R_ite (Q := Q) (fun c => hB (fun h => by have := h.port; have := of_decide_eq_true c; omega) 1 (by decide)) fun c1 => R_ite (Q := Q) (fun c => hB (fun h => by have := h.port; have := of_decide_eq_true c; omega) 1 (by decide)) fun c2 => R_ite (Q := Q) (fun c => hB (fun h => by have := h.now; have := of_decide_eq_true c; omega) 1 (by decide)) fun c3 => R_ite (Q := Q) (fun c => hB (fun h => by have := h.now; have := of_decide_eq_true c; omega) 1 (by decide)) fun c4 => hA ?_
   have c1 := of_decide_eq_false c1
   have c2 := of_decide_eq_false c2
   have c3 := of_decide_eq_false c3
   have c4 := of_decide_eq_false c4
   exact ⟨hp, by omega, by omega⟩
 have two : ∀ T1 T2 : Tr (Int × (Int × (Int × (Int × (Int × ((List TMap) × (Int × (Int × Unit)))))))), ((proto = 17 \/ proto = 6) -> Q T1.eval) -> ((proto = 17 \/ proto = 6) -> Q T2.eval) -> Q (Tr.ite (!decide (proto = (6 : Int))) (.ite (!decide (proto = (17 : Int))) (.ret (life, (lb, ((L : Int), (sb, ((S : Int), (l, ((0 : Int), ((7 : Int), ()))))))))) T1) T2).eval := by
   intro T1 T2 h1 h2
   refine R_ite (Q := Q) (fun c => ?_) (fun c => h2 (.inr (by simpa using c)))
   refine R_ite (Q := Q) (fun c2 => hB (fun h => ?_) 7 (by decide)) (fun c2 => h1 (.inl (by simpa using c2)))
   have h3 : ¬ proto = 6 := by simpa using c
   have h4 : ¬ proto = 17 := by simpa using c2
   have := h.proto
   omega
 by_cases hz : 0 < l.length
 . have hw : IntKind.wrap IntKind.i64 ((l.length : Int) - (1 : Int)) = ((l.length - 1 : Nat) : Int) := by rw [wi _ (by omega)]; omega
   have hget : l[Int.toNat (IntKind.wrap IntKind.i64 ((l.length : Int) - (1 : Int)))]? = some l[l.length - 1] := by rw [hw, Int.toNat_natCast, List.getElem?_eq_getElem (by omega)]
   have hla : l[l.length - 1].at' = lastAt l := by
     unfold lastAt
     rw [List.getLast?_eq_getElem?, List.getElem?_eq_getElem (by omega)]
   have h0 : 0 <= l[l.length - 1].at' := (hN.ok _ (List.getElem_mem _)).2.2.2.1
   generalize l[l.length - 1] = m at hget hla h0
   refine R_ite (Q := Q) (fun _ => R_g (Q := Q) (decide_eq_true (by rw [hw]; omega)) (R_opt (Q := Q) hget (two _ _ (tl _ hla h0) (tl _ hla h0)))) (fun c => absurd (of_decide_eq_false c) (by omega))
 . have hla : (0 : Int) = lastAt l := by
     have : l = [] := List.length_eq_zero_iff.1 (by omega)
     subst this; rfl
   exact R_ite (Q := Q) (fun c => absurd (of_decide_eq_true c) (by omega)) (fun _ => two _ _ (tl _ hla (Int.le_refl _)) (tl _ hla (Int.le_refl _)))
theorem cov_perm {b : Int} {t : Nat} {x y : List Int} (h : x.Perm y) (hc : Cov b t x) : Cov b t y := ⟨(h.nodup_iff).1 hc.1, fun o => by rw [<- h.mem_iff]; exact hc.2 o⟩
theorem cov_add {b : Int} {t k : Nat} {os : List Int} (hk : k < 64) (hb : t.testBit k = false) (hc : Cov b t os) : Cov b (t ||| 2 ^ k) (os ++ [b + (k : Int)]) := by
 have h1 : (t ||| 2 ^ k).testBit k = true := by rw [or_bit]; simp
 have := (cov_tail (b := b) (os := os) hk h1).2 (by rw [or_xor t k hb]; exact hc)
 exact cov_perm (List.perm_append_comm (l₁ := [b + (k : Int)])) this
theorem hit_split {T : Type} {p : T -> Bool} : ∀ {l : List T} {i : Nat} {x : T}, hit p l = some (i, x) -> l = l.take i ++ x :: l.drop (i + 1) /\ p x = true := by
 intro l i x h
 obtain ⟨h1, h2⟩ := hit_at h
 have hi := hit_lt h
 refine ⟨?_, h2⟩
 have : l[i] = x := by rw [List.getElem?_eq_getElem hi] at h1; exact Option.some.inj h1
 conv => lhs; rw [<- List.take_append_drop i l, drop_cons l i hi, this]
theorem grd40 (Y : List TMap) (m : TMap) (h : (Y.length + 1) * 40 <= 140737488355328) : decide ((List.length Y + List.length [m]) * (40 : Nat) <= (140737488355328 : Nat) /\ List.length Y + List.length [m] <= (9223372036854775807 : Nat)) = true := by
 apply decide_eq_true
 simp only [List.length_singleton]
 omega
theorem NatOk.put {life lb : Int} {L L2 : Nat} {sb : Int} {S S2 : Nat} {Y Z : List TMap} {proto addr port out now : Int} (hN : NatOk life lb L sb S Y) (hA : ArgOk Y proto port now) (hZ : Z.Sublist Y) (hk : ∀ x ∈ Z, kb proto addr port x = false) (hL2 : L2 < 2 ^ 64) (hS2 : S2 < 2 ^ 64)
   (cL : Cov lb L2 (outs 17 (Z ++ [⟨proto, addr, port, out, now⟩]))) (cS : Cov sb S2 (outs 6 (Z ++ [⟨proto, addr, port, out, now⟩]))) : NatOk life lb L2 sb S2 (Z ++ [⟨proto, addr, port, out, now⟩]) := by
 have hlast := lastAt_ge hN.sorted
 refine ⟨hN.life, hN.bl, hN.bs, hL2, hS2, fun m hm => ?_, ?_, ?_, cL, cS⟩
 . rcases List.mem_append.1 hm with hm | hm
   . exact hN.ok m (hZ.subset hm)
   . rw [List.mem_singleton] at hm; subst hm
     exact ⟨hA.proto, hA.port.1, hA.port.2, hA.now.2.1, hA.now.2.2⟩
 . refine List.pairwise_append.2 ⟨hN.sorted.sublist hZ, by simp, fun x hx y hy => ?_⟩
   rw [List.mem_singleton] at hy; subst hy
   have := hlast x (hZ.subset hx)
   have := hA.now.1
   show x.at' <= now
   omega
 . refine List.pairwise_append.2 ⟨hN.keys.sublist hZ, by simp, fun x hx y hy hs => ?_⟩
   rw [List.mem_singleton] at hy; subst hy
   have := hk x hx
   rw [kb_iff.2 hs] at this; cases this
theorem out_ok {life lb : Int} {L : Nat} {sb : Int} {S : Nat} {l : List TMap} {proto addr port now : Int} (hN : NatOk life lb L sb S l) (hA : ArgOk l proto port now) (hs : l.length * 40 <= 140737488355280) (hl : l.length < BigN) :
  ∃ Y : List TMap, (∃ k, Y = l.drop k) /\ (∀ m, m ∈ Y ↔ m ∈ l /\ now - m.at' <= life) /\ ((∃ (out : Int) (L2 S2 : Nat) (Z : List TMap), natOut_fn (life, (lb, ((L : Int), (sb, ((S : Int), (l, (proto, (addr, (port, (now, ())))))))))) = some (life, (lb, ((L2 : Int), (sb, ((S2 : Int), (Z ++ [⟨proto, addr, port, out, now⟩], (out, ((0 : Int), ())))))))) /\
      NatOk life lb L2 sb S2 (Z ++ [⟨proto, addr, port, out, now⟩]) /\ Z.length <= l.length /\ (∀ m, m ∈ Z ↔ m ∈ Y /\ kb proto addr port m = false) /\ (∀ m ∈ Y, kb proto addr port m = true -> m.out = out) /\ ((∀ m ∈ Y, kb proto addr port m = false) -> Z = Y)) \/
    (natOut_fn (life, (lb, ((L : Int), (sb, ((S : Int), (l, (proto, (addr, (port, (now, ())))))))))) = some (life, (lb, ((L : Int), (sb, ((S : Int), (l, ((0 : Int), ((6 : Int), ())))))))) /\ (∀ m ∈ Y, kb proto addr port m = false) /\ ∃ b : Int, (proto = 17 /\ b = lb \/ proto = 6 /\ b = sb) /\ ∀ k : Nat, k < 64 -> b + (k : Int) ∈ outs proto Y)) := by
 have hl0 := hl
 unfold BigN at hl
 obtain ⟨k, L1, S1, e1, hN1, hk, hold, hnew⟩ := expire_ok now life lb L sb S l hN hA.now.2 hl0
 have hYl : (l.drop k).length <= l.length := by simp
 have hAY : ArgOk (l.drop k) proto port now := by
  refine ⟨hA.proto, hA.port, ?_, hA.now.2⟩
  unfold lastAt
  cases hg : (l.drop k).getLast? with
  | none => exact hA.now.2.1
  | some m =>
    have hm : m ∈ l.drop k := List.mem_of_getLast? hg
    have := lastAt_ge hN.sorted m (List.mem_of_mem_drop hm)
    have := hA.now.1
    show m.at' <= now
    omega
 have hmem : ∀ m, m ∈ l.drop k ↔ m ∈ l /\ now - m.at' <= life := by
  intro m
  constructor
  . intro hm; exact ⟨List.mem_of_mem_drop hm, hnew m hm⟩
  . rintro ⟨hm, ht⟩
    rw [<- List.take_append_drop k l] at hm
    rcases List.mem_append.1 hm with hm | hm
    . have := hold m hm; omega
    . exact hm
 refine ⟨l.drop k, ⟨k, rfl⟩, hmem, ?_⟩
 have g0 : decide (((0 : Nat) + List.length l) * (40 : Nat) <= (140737488355328 : Nat) /\ (0 : Nat) + List.length l <= (9223372036854775807 : Nat)) = true := decide_eq_true (by omega)
 generalize hY : l.drop k = Y at e1 hN1 hold hnew hYl hAY hmem ⊢
 have hwi := within_fn life lb (L1 : Int) sb (S1 : Int) Y proto addr port (by unfold BigN; omega)
 cases hh : hit (kb proto addr port) Y with
 | some z =>
  obtain ⟨i, x⟩ := z
  obtain ⟨hsp, hkx⟩ := hit_split hh
  have hi := hit_lt hh
  rw [hh] at hwi
  have hx := kb_iff.1 hkx
  have hxY : x ∈ Y := by rw [hsp]; simp
  have hkeys := hN1.keys
  rw [hsp] at hkeys
  obtain ⟨ka, kbb, kc⟩ := List.pairwise_append.1 hkeys
  obtain ⟨kd, ke⟩ := List.pairwise_cons.1 kbb
  have hZk : ∀ y ∈ Y.take i ++ Y.drop (i + 1), kb proto addr port y = false := by
    intro y hy
    cases hb : kb proto addr port y with
    | false => rfl
    | true =>
      exfalso
      have hy2 := kb_iff.1 hb
      have hsame : same y x := ⟨hy2.1.trans hx.1.symm, hy2.2.1.trans hx.2.1.symm, hy2.2.2.trans hx.2.2.symm⟩
      rcases List.mem_append.1 hy with hy | hy
      . exact kc y hy x List.mem_cons_self hsame
      . exact kd y hy (same_symm hsame)
  have hsub : (Y.take i ++ Y.drop (i + 1)).Sublist Y := by
    conv => rhs; rw [hsp]
    exact List.Sublist.append (List.Sublist.refl _) (List.sublist_cons_self _ _)
  have hperm : (Y.take i ++ Y.drop (i + 1) ++ [(⟨proto, addr, port, x.out, now⟩ : TMap)]).Perm ((⟨proto, addr, port, x.out, now⟩ : TMap) :: (Y.take i ++ Y.drop (i + 1))) := List.perm_append_comm (l₂ := [(⟨proto, addr, port, x.out, now⟩ : TMap)])
  have hperm2 : Y.Perm (x :: (Y.take i ++ Y.drop (i + 1))) := by
    conv => lhs; rw [hsp]
    exact List.perm_middle
  have ho : ∀ p : Int, (outs p Y).Perm (outs p (Y.take i ++ Y.drop (i + 1) ++ [⟨proto, addr, port, x.out, now⟩])) := by
    intro p
    have a1 : (outs p Y).Perm (outs p (x :: (Y.take i ++ Y.drop (i + 1)))) := (hperm2.filter _).map _
    have a2 : (outs p (Y.take i ++ Y.drop (i + 1) ++ [⟨proto, addr, port, x.out, now⟩])).Perm (outs p (⟨proto, addr, port, x.out, now⟩ :: (Y.take i ++ Y.drop (i + 1)))) := (hperm.filter _).map _
    have a3 : outs p (x :: (Y.take i ++ Y.drop (i + 1))) = outs p (⟨proto, addr, port, x.out, now⟩ :: (Y.take i ++ Y.drop (i + 1))) := by rw [outs_cons, outs_cons, hx.1]
    rw [a3] at a1
    exact a1.trans a2.symm
  left
  have hzl : (Y.take i ++ Y.drop (i + 1)).length + 1 = Y.length := by simp; omega
  have hnext : IntKind.wrap IntKind.i64 ((i : Int) + (1 : Int)) = ((i + 1 : Nat) : Int) := wi _ (by omega)
  have hget : Y[Int.toNat (i : Int)]? = some x := by rw [Int.toNat_natCast]; exact (hit_at hh).1
  have hdel := delM_ok Y i (i + 1) (by omega) (by omega)
  refine ⟨x.out, L1, S1, Y.take i ++ Y.drop (i + 1), ?_, hN1.put hAY hsub hZk hN1.ltL hN1.ltS (cov_perm (ho 17) hN1.covL) (cov_perm (ho 6) hN1.covS), by omega, fun m => ?_, fun m hm hb => ?_, fun hno => by have := hno x hxY; rw [hkx] at this; cases this⟩
  . refine out_head hN (by omega) hl0 (fun z => z = _) (fun _ => ?_) (fun hno => absurd hA hno)
    refine ev_g g0 (ev_g (decide_eq_true rfl) (ev_opt e1 (ev_opt hwi (ev_t (decide_eq_true (by show (0 : Int) <= (i : Int); omega)) (ev_g (decide_eq_true (by show (0 : Int) <= (i : Int) /\ (i : Int) < (Y.length : Int); omega)) (ev_opt hget (ev_g (decide_eq_true rfl) (ev_opt (b := (Y.take i ++ Y.drop (i + 1), ())) ?_ (ev_g (grd40 _ _ (by show (List.length (Y.take i ++ Y.drop (i + 1)) + 1) * 40 <= 140737488355328; omega)) (ev_r rfl))))))))))
    show delMap_fn ((i : Int), (IntKind.wrap IntKind.i64 ((i : Int) + (1 : Int)), (Y, ()))) = _
    rw [hnext]; exact hdel
  . constructor
    . intro hm; exact ⟨hsub.subset hm, hZk m hm⟩
    . rintro ⟨hm, hb⟩
      rcases List.mem_cons.1 (hperm2.subset hm) with rfl | hm
      . rw [hkx] at hb; cases hb
      . exact hm
  . rcases List.mem_cons.1 (hperm2.subset hm) with rfl | hm
    . rfl
    . have := hZk m hm; rw [hb] at this; cases this
 | none =>
  rw [hh] at hwi
  have hno := hit_none.1 hh
  have hneg : decide ((0 : Int) <= (-1 : Int)) = false := by decide
  have pre : ∀ r, (Tr.ite (decide (proto = (17 : Int))) ( .opt (β := (Int × (Int × (Int × (Int × Unit))))) ((portsLet_fn (lb, ((L1 : Int), (port, ()))))) (fun r4 => .ite (!decide (r4.2.2.2.1 = (0 : Int))) ( .ret ((life, (lb, ((L : Int), (sb, ((S : Int), (l, ((0 : Int), (r4.2.2.2.1, ())))))))) : (Int × (Int × (Int × (Int × (Int × ((List TMap) × (Int × (Int × Unit)))))))))) ( .grd (decide ((List.length Y + List.length [TMap.mk proto addr port r4.2.2.1 now]) * (40 : Nat) <= (140737488355328 : Nat) /\ List.length Y + List.length [TMap.mk proto addr port r4.2.2.1 now] <= (9223372036854775807 : Nat))) ( .ret (life, (r4.1, (r4.2.1, (sb, ((S1 : Int), (Y ++ [TMap.mk proto addr port r4.2.2.1 now], (r4.2.2.1, ((0 : Int), ())))))))))))) ( .ite (decide (proto = (6 : Int))) ( .opt (β := (Int × (Int × (Int × (Int × Unit))))) ((portsLet_fn (sb, ((S1 : Int), (port, ()))))) (fun r4 => .ite (!decide (r4.2.2.2.1 = (0 : Int))) ( .ret (life, (lb, ((L : Int), (sb, ((S : Int), (l, ((0 : Int), (r4.2.2.2.1, ()))))))))) ( .grd (decide ((List.length Y + List.length [TMap.mk proto addr port r4.2.2.1 now]) * (40 : Nat) <= (140737488355328 : Nat) /\ List.length Y + List.length [TMap.mk proto addr port r4.2.2.1 now] <= (9223372036854775807 : Nat))) ( .ret (life, (lb, ((L1 : Int), (r4.1, (r4.2.1, (Y ++ [TMap.mk proto addr port r4.2.2.1 now], (r4.2.2.1, ((0 : Int), ())))))))))))) ( .fail 3))).eval = r ->
      natOut_fn (life, (lb, ((L : Int), (sb, ((S : Int), (l, (proto, (addr, (port, (now, ())))))))))) = r := by
    intro r hr
    refine out_head hN (by omega) hl0 (fun z => z = r) (fun _ => ?_) (fun hno => absurd hA hno)
    exact ev_g g0 (ev_g (decide_eq_true rfl) (ev_opt e1 (ev_opt hwi (ev_f hneg hr))))
  have mem2 : ∀ m, m ∈ Y ↔ m ∈ Y /\ kb proto addr port m = false := fun m => ⟨fun hm => ⟨hm, hno m hm⟩, fun h => h.1⟩
  have bad : ∀ m ∈ Y, kb proto addr port m = true -> ∀ o : Int, m.out = o := fun m hm hb => by have := hno m hm; rw [hb] at this; cases this
  have full : ∀ t : Nat, t = 2 ^ 64 - 1 -> ∀ j : Nat, j < 64 -> t.testBit j = true := fun t ht j hj => by subst ht; rw [Nat.testBit_two_pow_sub_one]; exact decide_eq_true hj
  rcases hA.proto with p | p
  . subst p
    by_cases hf : L1 = 2 ^ 64 - 1
    . right
      refine ⟨pre _ ?_, hno, lb, .inl ⟨rfl, rfl⟩, fun j hj => (hN1.covL.2 _).2 ⟨j, hj, full L1 hf j hj, rfl⟩⟩
      have := let_full lb port hN.bl hA.port
      rw [hf]
      exact ev_t rfl (ev_opt this (ev_t rfl rfl))
    . left
      obtain ⟨j, j1, j2, j3, _, _⟩ := let_ok lb port L1 hN.bl hN1.ltL hf hA.port
      have c1 : Cov lb (L1 ||| 2 ^ j) (outs 17 (Y ++ [⟨17, addr, port, lb + (j : Int), now⟩])) := by rw [outs_app]; exact cov_add j1 j2 hN1.covL
      have c2 : Cov sb S1 (outs 6 (Y ++ [⟨17, addr, port, lb + (j : Int), now⟩])) := by rw [outs_app]; show Cov sb S1 (outs 6 Y ++ []); rw [List.append_nil]; exact hN1.covS
      exact ⟨lb + (j : Int), L1 ||| 2 ^ j, S1, Y, pre _ (ev_t rfl (ev_opt j3 (ev_f rfl (ev_g (grd40 _ _ (by omega)) rfl)))), hN1.put hAY (List.Sublist.refl _) hno (or_lt L1 j hN1.ltL j1) hN1.ltS c1 c2, hYl, mem2, fun m hm hb => bad m hm hb _, fun _ => rfl⟩
  . subst p
    by_cases hf : S1 = 2 ^ 64 - 1
    . right
      refine ⟨pre _ ?_, hno, sb, .inr ⟨rfl, rfl⟩, fun j hj => (hN1.covS.2 _).2 ⟨j, hj, full S1 hf j hj, rfl⟩⟩
      have := let_full sb port hN.bs hA.port
      rw [hf]
      exact ev_f rfl (ev_t rfl (ev_opt this (ev_t rfl rfl)))
    . left
      obtain ⟨j, j1, j2, j3, _, _⟩ := let_ok sb port S1 hN.bs hN1.ltS hf hA.port
      have c1 : Cov sb (S1 ||| 2 ^ j) (outs 6 (Y ++ [⟨6, addr, port, sb + (j : Int), now⟩])) := by rw [outs_app]; exact cov_add j1 j2 hN1.covS
      have c2 : Cov lb L1 (outs 17 (Y ++ [⟨6, addr, port, sb + (j : Int), now⟩])) := by rw [outs_app]; show Cov lb L1 (outs 17 Y ++ []); rw [List.append_nil]; exact hN1.covL
      exact ⟨sb + (j : Int), L1, S1 ||| 2 ^ j, Y, pre _ (ev_f rfl (ev_t rfl (ev_opt j3 (ev_f rfl (ev_g (grd40 _ _ (by omega)) rfl))))), hN1.put hAY (List.Sublist.refl _) hno hN1.ltL (or_lt S1 j hN1.ltS j1) c2 c1, hYl, mem2, fun m hm hb => bad m hm hb _, fun _ => rfl⟩
def inB (life proto out now : Int) (x : TMap) : Bool := decide (x.proto = proto) && (decide (x.out = out) && decide (now - x.at' <= life))
theorem in_ok {life lb : Int} {L : Nat} {sb : Int} {S : Nat} {l : List TMap} {proto out now : Int} (hN : NatOk life lb L sb S l) (hp : proto = 17 \/ proto = 6) (hnow : 0 <= now /\ now <= 1099511627776) (hl : l.length < BigN) :
   natIn_fn (life, (lb, ((L : Int), (sb, ((S : Int), (l, (proto, (out, (now, ()))))))))) = some (match hit (inB life proto out now) l with | some r => (r.2.addr, (r.2.port, ((0 : Int), ()))) | none => ((0 : Int), ((0 : Int), ((7 : Int), ())))) := by
 have hl0 := hl
 unfold BigN at hl
 have lp := loop_hit (tag := 1410009) (f := fun x => (natIn_step141_9 x).eval) (l := l) (fun i => ((i : Int), (now, (out, (proto, (l, ((l.length : Int), (life, (lb, ((L : Int), (sb, ((S : Int), (l, ())))))))))))))
     (inB life proto out now) (fun r => match r with | some r => Sum.inl (r.2.addr, (r.2.port, ((0 : Int), ()))) | none => Sum.inr ())
     (fun i x hx => by
       have hi := (List.getElem?_eq_some_iff.1 hx).1
       have hok := hN.ok x (List.mem_of_getElem? hx)
       have e1 : IntKind.wrap IntKind.i64 ((i : Int) + (1 : Int)) = ((i + 1 : Nat) : Int) := wi _ (by omega)
       have e2 : IntKind.wrap IntKind.i64 (now - x.at') = now - x.at' := by have := hok.2.2.2; exact wi _ (by omega)
       show (natIn_step141_9 _).eval = _
       unfold natIn_step141_9
       refine ev_t (by simp <;> omega) (ev_g (by simp) (ev_opt (show l[Int.toNat (i : Int)]? = some x by simpa using hx) ?_))
       unfold inB
       simp only [e1, e2]
       cases h1 : decide (x.proto = proto) with
       | false => exact ev_f rfl (ev_r rfl)
       | true =>
        refine ev_t rfl ?_
        cases h2 : decide (x.out = out) with
        | false => exact ev_f rfl (ev_r rfl)
        | true =>
         refine ev_t rfl ?_
         cases h3 : decide (now - x.at' <= life) with
         | false => exact ev_f rfl (ev_r rfl)
         | true => exact ev_t rfl (ev_r rfl))
     (by show (natIn_step141_9 _).eval = _; exact ev_f (by simp) (ev_r rfl)) 18446744073709551616 (by omega)
 have lp : natIn_loop141_9 ((0 : Int), (now, (out, (proto, (l, ((l.length : Int), (life, (lb, ((L : Int), (sb, ((S : Int), (l, ())))))))))))) = _ := lp
 have fin : (Tr.ite (decide (now < (0 : Int))) (.ret (((0 : Int), ((0 : Int), ((1 : Int), ()))) : (Int × (Int × (Int × Unit))))) (
    .ite (decide ((1099511627776 : Int) < now)) (.ret ((0 : Int), ((0 : Int), ((1 : Int), ())))) (
     .opt (β := ((Int × (Int × (Int × Unit))) ⊕ Unit)) ((natIn_loop141_9 ((0 : Int), (now, (out, (proto, (l, ((l.length : Int), (life, (lb, ((L : Int), (sb, ((S : Int), (l, ())))))))))))))) (fun r1 =>
     .sum (β := (Int × (Int × (Int × Unit)))) (γ := Unit) (r1) (fun r2 =>
      .ret (r2.1, (r2.2.1, (r2.2.2.1, ())))) (fun r2 =>
      .ret ((0 : Int), ((0 : Int), ((7 : Int), ())))))))).eval = some (match hit (inB life proto out now) l with | some r => (r.2.addr, (r.2.port, ((0 : Int), ()))) | none => ((0 : Int), ((0 : Int), ((7 : Int), ())))) := by
   refine ev_f (decide_eq_false (by omega)) (ev_f (decide_eq_false (by omega)) (ev_opt lp ?_))
   cases hit (inB life proto out now) l <;> rfl
 refine ev_opt (natCheck_yes hN hl0) (ev_f rfl ?_)
 by_cases p6 : proto = 6
 . exact ev_f (by rw [decide_eq_true p6]; rfl) fin
 . exact ev_t (by rw [decide_eq_false p6]; rfl) (ev_f (by rw [decide_eq_true (show proto = 17 by omega)]; rfl) fin)
def ks (p : Nat -> Bool) (b : Int) (n : Nat) : List Int := ((List.range n).filter p).map fun k : Nat => b + (k : Int)
theorem ks_len (p : Nat -> Bool) (b : Int) (n : Nat) : (ks p b n).length <= n := by
 unfold ks
 rw [List.length_map]
 exact Nat.le_trans (List.length_filter_le _ _) (by simp)
theorem ks_mem (p : Nat -> Bool) (b : Int) (n : Nat) (o : Int) : o ∈ ks p b n ↔ ∃ k : Nat, k < n /\ p k = true /\ o = b + (k : Int) := by
 unfold ks
 simp only [List.mem_map, List.mem_filter, List.mem_range]
 constructor
 . rintro ⟨k, ⟨h1, h2⟩, h3⟩; exact ⟨k, h1, h2, h3.symm⟩
 . rintro ⟨k, h1, h2, h3⟩; exact ⟨k, ⟨h1, h2⟩, h3.symm⟩
theorem ks_nodup (p : Nat -> Bool) (b : Int) (n : Nat) : (ks p b n).Nodup := by
 unfold ks
 exact List.pairwise_map.2 (((List.nodup_range (n := n)).filter _).imp fun h e => h (by omega))
theorem cov_len {b : Int} {t : Nat} {os : List Int} (hc : Cov b t os) : os.length = (ks (fun k => t.testBit k) b 64).length := by
 refine List.Perm.length_eq ((List.perm_ext_iff_of_nodup hc.1 (ks_nodup _ _ _)).2 fun o => ?_)
 rw [hc.2 o, ks_mem]
theorem outs_mem {p o : Int} {l : List TMap} : o ∈ outs p l ↔ ∃ m ∈ l, m.proto = p /\ m.out = o := by
 unfold outs
 simp only [List.mem_map, List.mem_filter, decide_eq_true_eq]
 constructor
 . rintro ⟨m, ⟨h1, h2⟩, h3⟩; exact ⟨m, h1, h2, h3⟩
 . rintro ⟨m, h1, h2, h3⟩; exact ⟨m, ⟨h1, h2⟩, h3⟩
theorem NatOk.apart {life lb : Int} {L : Nat} {sb : Int} {S : Nat} {l : List TMap} (hN : NatOk life lb L sb S l) : l.Pairwise (fun x y => ¬ (x.proto = y.proto /\ x.out = y.out)) := by
 have one : ∀ (p : Int) (l : List TMap), (outs p l).Nodup -> l.Pairwise (fun x y => x.proto = p -> ¬ (x.proto = y.proto /\ x.out = y.out)) := by
  intro p l
  induction l with
  | nil => intro _; exact List.Pairwise.nil
  | cons m r ih =>
    intro h
    rw [outs_cons] at h
    by_cases hp : m.proto = p
    . rw [if_pos hp] at h
      obtain ⟨h1, h2⟩ := List.nodup_cons.1 h
      refine List.pairwise_cons.2 ⟨fun y hy _ hs => h1 ?_, ih h2⟩
      exact outs_mem.2 ⟨y, hy, hs.1.symm.trans hp, hs.2.symm⟩
    . rw [if_neg hp] at h
      exact List.pairwise_cons.2 ⟨fun y hy hq => absurd hq hp, ih h⟩
 have h17 := one 17 l hN.covL.1
 have h6 := one 6 l hN.covS.1
 have hok := hN.ok
 clear hN
 induction l with
 | nil => exact List.Pairwise.nil
 | cons m r ih =>
  obtain ⟨a1, a2⟩ := List.pairwise_cons.1 h17
  obtain ⟨b1, b2⟩ := List.pairwise_cons.1 h6
  refine List.pairwise_cons.2 ⟨fun y hy => ?_, ih a2 b2 fun x hx => hok x (List.mem_cons_of_mem _ hx)⟩
  rcases (hok m List.mem_cons_self).1 with h | h
  . exact a1 y hy h
  . exact b1 y hy h
theorem outs_len {l : List TMap} (h : ∀ m ∈ l, okm m) : l.length = (outs 17 l).length + (outs 6 l).length := by
 induction l with
 | nil => rfl
 | cons m r ih =>
  have := ih fun x hx => h x (List.mem_cons_of_mem _ hx)
  rw [outs_cons, outs_cons]
  rcases (h m List.mem_cons_self).1 with p | p
  . rw [if_pos p, if_neg (by omega)]; simp; omega
  . rw [if_neg (by omega), if_pos p]; simp; omega
theorem NatOk.len {life lb : Int} {L : Nat} {sb : Int} {S : Nat} {l : List TMap} (hN : NatOk life lb L sb S l) : (outs 17 l).length <= 64 /\ (outs 6 l).length <= 64 /\ l.length <= 128 := by
 have c1 := cov_len hN.covL
 have c2 := cov_len hN.covS
 have b1 := ks_len (fun k => L.testBit k) lb 64
 have b2 := ks_len (fun k => S.testBit k) sb 64
 have := outs_len hN.ok
 omega
def yg (life now : Int) (m : TMap) : Bool := decide (now - m.at' <= life)
def cy (p life now : Int) (l : List TMap) : Nat := (outs p (l.filter (yg life now))).length
structure J (life now : Int) (R k6 k17 L S : Nat) (l : List TMap) : Prop where
 ok : NatOk life 1024 L 4096 S l
 at' : ∀ m ∈ l, m.at' <= now
 c6 : cy 6 life now l = min k6 64
 c17 : cy 17 life now l = min k17 64
 a6 : ∀ m ∈ l, now - m.at' <= life -> m.proto = 6 -> m.addr < 1000 * R + k6
 a17 : ∀ m ∈ l, now - m.at' <= life -> m.proto = 17 -> m.addr < 1000 * R + k17
theorem lastAt_le {l : List TMap} {now : Int} (h0 : 0 <= now) (h : ∀ m ∈ l, m.at' <= now) : lastAt l <= now := by
 unfold lastAt
 cases hg : l.getLast? with
 | none => exact h0
 | some m => exact h m (List.mem_of_getLast? hg)
theorem J.next {life now : Int} {R R2 k6 k17 L S : Nat} {l : List TMap} (hJ : J life now R k6 k17 L S l) : J life (now + (life + 1)) R2 0 0 L S l := by
 have hlife := hJ.ok.life
 have old : ∀ m ∈ l, ¬ now + (life + 1) - m.at' <= life := fun m hm => by have := hJ.at' m hm; omega
 have hf : l.filter (yg life (now + (life + 1))) = [] := List.filter_eq_nil_iff.2 fun m hm => by
   unfold yg; rw [decide_eq_true_eq]; exact old m hm
 refine ⟨hJ.ok, fun m hm => by have := hJ.at' m hm; omega, ?_, ?_, fun m hm h => absurd h (old m hm), fun m hm h => absurd h (old m hm)⟩
 . unfold cy; rw [hf]; rfl
 . unfold cy; rw [hf]; rfl
def netB (a l : Int) : Bool := decide ((0 : Int) <= l) && (decide (l <= (32 : Int)) && decide (IntKind.wrap IntKind.u32 (a * (2 : Int) ^ min (Int.toNat l) (32 : Nat)) = (0 : Int)))
theorem net_fn (a l : Int) : ruNet_fn (a, (l, ())) = some (netB a l, ()) := by
 unfold ruNet_fn ruNet_tree netB
 simp only [Tr.eval]
 cases h : decide ((0 : Int) <= l) <;> simp only [cond_true, cond_false, Bool.true_and, Bool.false_and]
 cases h2 : decide (l <= (32 : Int)) <;> rfl
def hasB (a l x : Int) : Bool := decide (Int.fdiv (IntKind.wrap IntKind.u64 (bits BinOp.xor IntKind.u32 x a)) ((2 : Int) ^ min (Int.toNat (IntKind.wrap IntKind.i64 ((32 : Int) - l))) (64 : Nat)) = (0 : Int))
theorem wrap_small (x : Int) (h : 0 <= x) (h2 : x <= 65536) : IntKind.i64.wrap x = x := by
 obtain ⟨n, rfl⟩ := Int.eq_ofNat_of_zero_le h
 exact wrap_nat .i64 n (by show n < 2 ^ 64; omega) (fun _ => by show n < 2 ^ 63; omega)
theorem has_fn (a l x : Int) (h : 0 <= l) (h2 : l <= 32) : ruHas_fn (a, (l, (x, ()))) = some (hasB a l x, ()) := by
 unfold ruHas_fn ruHas_tree hasB
 simp only [Tr.eval]
 rw [show decide ((0 : Int) <= IntKind.wrap IntKind.i64 ((32 : Int) - l)) = true by rw [wrap_small _ (by omega) (by omega)]; simp; omega]
 rfl
def bndB (a b : Int) : Bool := decide ((0 : Int) <= a) && (decide (a <= b) && decide (b <= (65535 : Int)))
theorem bnd_fn (a b : Int) : ruBounds_fn (a, (b, ())) = some (bndB a b, ()) := by
 simp only [ruBounds_fn, ruBounds_tree, bndB, Tr.eval, cond_and]
def rightB (r : TRule) : Bool := netB r.fromAddr r.fromLong && (netB r.toAddr r.toLong && (decide ((0 : Int) <= r.proto) && (decide (r.proto <= (255 : Int)) && (bndB r.fromLow r.fromHigh && bndB r.toLow r.toHigh))))
theorem ruRight_is (r : TRule) : ruRight_fn (r.fromAddr, (r.fromLong, (r.toAddr, (r.toLong, (r.proto, (r.fromLow, (r.fromHigh, (r.toLow, (r.toHigh, (r.pass, ())))))))))) = some (rightB r, ()) := by
 simp only [ruRight_fn, ruRight_tree, rightB, Tr.eval, net_fn, bnd_fn, Option.bind_some, cond_and]
theorem right_long {r : TRule} (h : rightB r = true) : 0 <= r.fromLong /\ r.fromLong <= 32 /\ 0 <= r.toLong /\ r.toLong <= 32 := by
 simp only [rightB, netB, Bool.and_eq_true, decide_eq_true_eq] at h
 exact ⟨h.1.1, h.1.2.1, h.2.1.1, h.2.1.2.1⟩
def meetsB (f1 f2 f3 f4 f5 : Int) (r : TRule) : Bool := hasB r.fromAddr r.fromLong f1 && (hasB r.toAddr r.toLong f2 && ((decide (r.proto = (0 : Int)) || decide (r.proto = f3)) && (decide (r.fromLow <= f4) && (decide (f4 <= r.fromHigh) && (decide (r.toLow <= f5) && decide (f5 <= r.toHigh))))))
theorem meets_fn (f1 f2 f3 f4 f5 : Int) (r : TRule) (h : rightB r = true) : ruMeets_fn (r.fromAddr, (r.fromLong, (r.toAddr, (r.toLong, (r.proto, (r.fromLow, (r.fromHigh, (r.toLow, (r.toHigh, (r.pass, (f1, (f2, (f3, (f4, (f5, ()))))))))))))))) = some (meetsB f1 f2 f3 f4 f5 r, ()) := by
 obtain ⟨h1, h2, h3, h4⟩ := right_long h
 simp only [ruMeets_fn, ruMeets_tree, meetsB, Tr.eval, has_fn _ _ _ h1 h2, has_fn _ _ _ h3 h4, Option.bind_some, cond_and, cond_or]
def ruChk (l : List TRule) : Int := if 64 < l.length then 2 else if l.all rightB then 0 else 4
theorem ruChk_zero {l : List TRule} : ruChk l = 0 ↔ l.length <= 64 /\ ∀ r ∈ l, rightB r = true := by
 unfold ruChk
 split
 . simp; omega
 . split
   . rename_i h1 h2; simp only [List.all_eq_true] at h2; exact ⟨fun _ => ⟨by omega, h2⟩, fun _ => rfl⟩
   . rename_i h1 h2; simp only [List.all_eq_true] at h2; exact ⟨fun h => by omega, fun h => (h2 h.2).elim⟩
theorem check_fn (l : List TRule) : ruCheck_fn (l, ()) = some (ruChk l, ()) := by
 unfold ruCheck_fn ruCheck_tree
 by_cases hl : 64 < l.length
 . exact ev_t (by simp <;> omega) (ev_r (by unfold ruChk; rw [if_pos hl]))
 . refine ev_f (by simp <;> omega) ?_
   have := loop_hit (tag := 1050004) (f := fun x => (ruCheck_step105_4 x).eval) (l := l) (fun i => ((i : Int), (l, ((l.length : Int), ())))) (fun r => !rightB r)
    (fun o => match o with | some _ => Sum.inl ((4 : Int), ()) | none => Sum.inr ())
    (fun i x hx => by
     have hi := (List.getElem?_eq_some_iff.1 hx).1
     have e : (ruCheck_step105_4 ((i : Int), (l, ((l.length : Int), ())))).eval = match !rightB x with | true => some (.inr (Sum.inl ((4 : Int), ()))) | false => some (.inl (((i + 1 : Nat) : Int), (l, ((l.length : Int), ())))) := by
      unfold ruCheck_step105_4
      refine ev_t (by simp <;> omega) (ev_g (by simp) (ev_opt (show l[Int.toNat (i : Int)]? = some x by simpa using hx) (ev_opt (ruRight_is x) ?_)))
      cases rightB x with
      | true => exact ev_f rfl (ev_r (by rw [next_i64 i (by omega)]))
      | false => exact ev_t rfl (ev_r rfl)
     exact e.trans (by cases rightB x <;> rfl))
    (by show (ruCheck_step105_4 _).eval = _; exact ev_f (by simp) (ev_r rfl)) 18446744073709551616 (by omega)
   refine ev_opt (show ruCheck_loop105_4 ((0 : Int), (l, ((l.length : Int), ()))) = _ from this) ?_
   cases h : hit (fun r => !rightB r) l with
   | none =>
    have := hit_none.1 h
    have e : ruChk l = 0 := ruChk_zero.2 ⟨by omega, fun r hr => by simpa using this r hr⟩
    rw [e]; rfl
   | some q =>
    have h1 := (hit_at (i := q.1) (x := q.2) h)
    have e : ruChk l = 4 := by
     unfold ruChk
     rw [if_neg hl, if_neg]
     intro hall
     have := List.all_eq_true.1 hall q.2 (List.mem_of_getElem? h1.1)
     simp [this] at h1
    rw [e]; rfl
def dec (l : List TRule) (m : TRule -> Bool) (bad o : Bool) : Bool × (Int × (Int × Unit)) :=
 if ruChk l = 0 then if bad then (false, (0, (1, ()))) else match hit m l with | none => (o, (-1, (0, ()))) | some (i, r) => (r.pass, ((i : Int), (0, ()))) else (false, (0, (ruChk l, ())))
def badB (f3 f4 f5 : Int) : Bool := decide (f3 < (0 : Int)) || (decide ((255 : Int) < f3) || (!bndB f4 f4 || !bndB f5 f5))
theorem decide_fn (l : List TRule) (f1 f2 f3 f4 f5 : Int) (o : Bool) : ruDecide_fn (l, (f1, (f2, (f3, (f4, (f5, (o, ()))))))) = some (dec l (meetsB f1 f2 f3 f4 f5) (badB f3 f4 f5) o) := by
 unfold ruDecide_fn ruDecide_tree dec
 refine ev_opt (check_fn l) ?_
 by_cases hc : ruChk l = 0
 case neg =>
  rw [if_neg hc]
  exact ev_t (by simpa using hc) (ev_r rfl)
 rw [if_pos hc]
 refine ev_f (by simpa using hc) ?_
 unfold badB
 cases h1 : decide (f3 < (0 : Int)) with
 | true => exact ev_t rfl (ev_r rfl)
 | false =>
 refine ev_f rfl ?_
 cases h2 : decide ((255 : Int) < f3) with
 | true => exact ev_t rfl (ev_r rfl)
 | false =>
 refine ev_f rfl (ev_opt (bnd_fn f4 f4) ?_)
 cases h3 : bndB f4 f4 with
 | false => exact ev_t rfl (ev_r rfl)
 | true =>
 refine ev_f rfl (ev_opt (bnd_fn f5 f5) ?_)
 cases h4 : bndB f5 f5 with
 | false => exact ev_t rfl (ev_r rfl)
 | true =>
 refine ev_f rfl ?_
 obtain ⟨hlen, hall⟩ := ruChk_zero.1 hc
 have := loop_hit (tag := 1660002) (f := fun x => (ruDecide_step166_2 x).eval) (l := l) (fun i => ((i : Int), (l, ((l.length : Int), (f1, (f2, (f3, (f4, (f5, ()))))))))) (meetsB f1 f2 f3 f4 f5)
   (fun q => match q with | some q => Sum.inl ((q.1 : Int), (f1, (f2, (f3, (f4, (f5, ())))))) | none => Sum.inr (f1, (f2, (f3, (f4, (f5, ()))))))
   (fun i x hx => by
    have hi := (List.getElem?_eq_some_iff.1 hx).1
    show (ruDecide_step166_2 ((i : Int), (l, ((l.length : Int), (f1, (f2, (f3, (f4, (f5, ()))))))))).eval = _
    unfold ruDecide_step166_2
    refine ev_t (by simp <;> omega) (ev_g (by simp) (ev_opt (show l[Int.toNat (i : Int)]? = some x by simpa using hx) (ev_opt (meets_fn f1 f2 f3 f4 f5 x (hall x (List.mem_of_getElem? hx))) ?_)))
    cases meetsB f1 f2 f3 f4 f5 x with
    | true => exact ev_t rfl (ev_r rfl)
    | false => exact ev_f rfl (ev_r (by rw [next_i64 i (by omega)])))
   (by show (ruDecide_step166_2 _).eval = _; exact ev_f (by simp) (ev_r rfl)) 18446744073709551616 (by omega)
 refine ev_opt (show ruDecide_loop166_2 ((0 : Int), (l, ((l.length : Int), (f1, (f2, (f3, (f4, (f5, ())))))))) = _ from this) ?_
 cases h : hit (meetsB f1 f2 f3 f4 f5) l with
 | none => rfl
 | some q =>
  obtain ⟨i, r⟩ := q
  have hi := hit_at h
  show (Tr.ite (decide ((i : Int) < 0)) _ _).eval = _
  exact ev_f (by simp) (ev_g (by simp) (ev_opt (show l[Int.toNat (i : Int)]? = some r by simpa using hi.1) (ev_r rfl)))
set_option linter.unnecessarySimpa false
set_option maxRecDepth 100000
structure Bu where (rate most has at' : Int)
def BOk (b : Bu) : Prop := 0 <= b.rate /\ b.rate <= 1000000 /\ 1 <= b.most /\ b.most <= 1000000000 /\ 0 <= b.has /\ b.has <= b.most /\ 0 <= b.at' /\ b.at' <= 1099511627776
theorem buCheck_ex (b : Bu) : ∃ c : Int, buCheck_fn (b.rate, (b.most, (b.has, (b.at', ())))) = some (c, ()) /\ (c = 0 ↔ BOk b) := by
 unfold buCheck_fn buCheck_tree
 have no : ∀ {c : Int}, c ≠ 0 -> ¬ BOk b -> (c = 0 ↔ BOk b) := fun h1 h2 => ⟨fun h => absurd h h1, fun h => absurd h h2⟩
 by_cases h1 : b.rate < 0
 . exact ⟨1, ev_t (by simpa using h1) (ev_r rfl), no (by decide) fun h => by have := h.1; omega⟩
 by_cases h2 : 1000000 < b.rate
 . exact ⟨1, ev_f (by simpa using h1) (ev_t (by simpa using h2) (ev_r rfl)), no (by decide) fun h => by have := h.2.1; omega⟩
 by_cases h3 : b.most < 1
 . exact ⟨1, ev_f (by simpa using h1) (ev_f (by simpa using h2) (ev_t (by simpa using h3) (ev_r rfl))), no (by decide) fun h => by have := h.2.2.1; omega⟩
 by_cases h4 : 1000000000 < b.most
 . exact ⟨1, ev_f (by simpa using h1) (ev_f (by simpa using h2) (ev_f (by simpa using h3) (ev_t (by simpa using h4) (ev_r rfl)))), no (by decide) fun h => by have := h.2.2.2.1; omega⟩
 by_cases h5 : b.has < 0
 . exact ⟨4, ev_f (by simpa using h1) (ev_f (by simpa using h2) (ev_f (by simpa using h3) (ev_f (by simpa using h4) (ev_t (by simpa using h5) (ev_r rfl))))), no (by decide) fun h => by have := h.2.2.2.2.1; omega⟩
 by_cases h6 : b.most < b.has
 . exact ⟨4, ev_f (by simpa using h1) (ev_f (by simpa using h2) (ev_f (by simpa using h3) (ev_f (by simpa using h4) (ev_f (by simpa using h5) (ev_t (by simpa using h6) (ev_r rfl)))))), no (by decide) fun h => by have := h.2.2.2.2.2.1; omega⟩
 by_cases h7 : b.at' < 0
 . exact ⟨4, ev_f (by simpa using h1) (ev_f (by simpa using h2) (ev_f (by simpa using h3) (ev_f (by simpa using h4) (ev_f (by simpa using h5) (ev_f (by simpa using h6) (ev_t (by simpa using h7) (ev_r rfl))))))), no (by decide) fun h => by have := h.2.2.2.2.2.2.1; omega⟩
 by_cases h8 : 1099511627776 < b.at'
 . exact ⟨4, ev_f (by simpa using h1) (ev_f (by simpa using h2) (ev_f (by simpa using h3) (ev_f (by simpa using h4) (ev_f (by simpa using h5) (ev_f (by simpa using h6) (ev_f (by simpa using h7) (ev_t (by simpa using h8) (ev_r rfl)))))))), no (by decide) fun h => by have := h.2.2.2.2.2.2.2; omega⟩
 exact ⟨0, ev_f (by simpa using h1) (ev_f (by simpa using h2) (ev_f (by simpa using h3) (ev_f (by simpa using h4) (ev_f (by simpa using h5) (ev_f (by simpa using h6) (ev_f (by simpa using h7) (ev_f (by simpa using h8) (ev_r rfl)))))))), ⟨fun _ => ⟨by omega, by omega, by omega, by omega, by omega, by omega, by omega, by omega⟩, fun _ => rfl⟩⟩
theorem wrap_midB (x : Int) (h : -4611686018427387904 <= x /\ x <= 4611686018427387904) : IntKind.wrap IntKind.i64 x = x := by
 simp [IntKind.wrap, IntKind.bits, IntKind.signed]
 split <;> omega

def tick (b : Bu) (now : Int) : Int := if 1000000000 < now - b.at' then 1000000000 else now - b.at'
def lev (b : Bu) (now : Int) : Int := if b.has + b.rate * tick b now < b.most then b.has + b.rate * tick b now else b.most
theorem lev_fn {b : Bu} (hb : BOk b) {now : Int} (h0 : b.at' <= now) (h1 : now <= 1099511627785) : buLev_fn (b.rate, (b.most, (b.has, (b.at', (now, ()))))) = some (lev b now, ()) := by
 obtain ⟨r1, r2, m1, m2, s1, s2, t1, t2⟩ := hb
 have ht : 0 <= tick b now /\ tick b now <= 1000000000 := by unfold tick; split <;> omega
 have hp0 : 0 <= b.rate * tick b now := Int.mul_nonneg r1 ht.1
 have hp1 : b.rate * tick b now <= 1000000 * 1000000000 := Int.mul_le_mul r2 ht.2 ht.1 (by decide)
 unfold buLev_fn buLev_tree
 refine ev_r ?_
 have w1 : IntKind.wrap IntKind.i64 (now - b.at') = now - b.at' := wrap_midB _ (by omega)
 have e1 : (if (1000000000 : Int) < now - b.at' then (1000000000 : Int) else now - b.at') = tick b now := rfl
 simp only [w1, if_true, e1]
 have w2 : IntKind.wrap IntKind.i64 (b.rate * tick b now) = b.rate * tick b now := wrap_midB _ (by omega)
 simp only [w2]
 have w3 : IntKind.wrap IntKind.i64 (b.has + b.rate * tick b now) = b.has + b.rate * tick b now := wrap_midB _ (by omega)
 simp only [w3]
 rfl
theorem lev_bound {b : Bu} (hb : BOk b) {now : Int} (h0 : b.at' <= now) : 0 <= lev b now /\ lev b now <= b.most := by
 obtain ⟨r1, r2, m1, m2, s1, s2, t1, t2⟩ := hb
 have ht : 0 <= tick b now := by unfold tick; split <;> omega
 have hp0 : 0 <= b.rate * tick b now := Int.mul_nonneg r1 ht
 unfold lev
 split <;> omega
def tkOk (b : Bu) (now n : Int) : Prop := BOk b /\ b.at' <= now /\ now <= 1099511627776 /\ 0 <= n /\ n <= 1000000000
def tkR (b : Bu) (now n : Int) : Bu × Bool := if lev b now < n then (⟨b.rate, b.most, lev b now, now⟩, false) else (⟨b.rate, b.most, lev b now - n, now⟩, true)
theorem take_ok {b : Bu} {now n : Int} (h : tkOk b now n) : buTake_fn (b.rate, (b.most, (b.has, (b.at', (now, (n, ())))))) = some ((tkR b now n).1.rate, ((tkR b now n).1.most, ((tkR b now n).1.has, ((tkR b now n).1.at', ((tkR b now n).2, (0, ())))))) := by
 obtain ⟨hb, h1, h2, h3, h4⟩ := h
 obtain ⟨c, hc, hc0⟩ := buCheck_ex b
 have l1 := lev_bound hb h1
 have hm := hb.2.2.2.1
 unfold buTake_fn buTake_tree tkR
 refine ev_opt hc (ev_f (by simp [hc0.2 hb]) (ev_f (by simp <;> omega) (ev_f (by simp <;> omega) (ev_f (by simp <;> omega) (ev_f (by simp <;> omega) (ev_opt (lev_fn hb h1 (by omega)) ?_))))))
 by_cases hn : lev b now < n
 . rw [if_pos hn]; exact ev_t (by simpa using hn) (ev_r rfl)
 . rw [if_neg hn]; exact ev_f (by simpa using hn) (ev_r (by rw [wrap_midB _ (by omega)]))
theorem tk_bok {b : Bu} {now n : Int} (h : tkOk b now n) : BOk (tkR b now n).1 := by
 obtain ⟨hb, h1, h2, h3, h4⟩ := h
 have l1 := lev_bound hb h1
 obtain ⟨r1, r2, m1, m2, s1, s2, t1, t2⟩ := hb
 unfold tkR
 split
 . exact ⟨r1, r2, m1, m2, l1.1, l1.2, by show 0 <= now; omega, h2⟩
 . exact ⟨r1, r2, m1, m2, by show 0 <= lev b now - n; omega, by show lev b now - n <= b.most; omega, by show 0 <= now; omega, h2⟩
theorem fold_fn (n : Nat) (h : n < 18446744073709551616) : sumFold_fn ((n : Int), ()) = some ((ear n : Int), ()) := by
 unfold sumFold_fn sumFold_tree sumFold_loop152_1
 rw [Tr.eval, loopO_fn (f := fun x => (sumFold_step152_1 x).eval) (fun x : Int × Unit => ∃ m : Nat, x = ((m : Int), ()) /\ m < 18446744073709551616) (fun x => ((ear x.1.toNat : Int), ())) (fun x => x.1.toNat) (fun a ha => ?_) _ _ ⟨n, rfl, h⟩ (by simpa using h)]
 . simp only [Option.bind_some, Tr.eval, Int.toNat_natCast]
   have := ear_le n
   rw [wrap16u, show (ear n : Int) % 65536 = ear n by omega]
 . obtain ⟨m, rfl, hm⟩ := ha
   simp only [Int.toNat_natCast]
   by_cases hbig : 65535 < m
   . right
     have hd : decide ((65535 : Int) < (m : Int)) = true := by simp; omega
     refine ⟨(((m / 65536 + m % 65536 : Nat) : Int), ()), ?_, ⟨_, rfl, by omega⟩, by simp; omega, by simp only [Int.toNat_natCast, ear_round]⟩
     simp only [sumFold_step152_1, Tr.eval, hd, cond_true]
     rw [fdiv16, show (65535 : Int) = ((65535 : Nat) : Int) from rfl, bits_and_nat .u64 m 65535 (by show m < 2 ^ 64; omega) (by decide) (fun h => by cases h), wrap64u]
     have e1 : m &&& 65535 = m % 65536 := Nat.and_two_pow_sub_one_eq_mod m 16
     rw [e1]
     have : ((m : Int) / 65536 + ((m % 65536 : Nat) : Int)) % 18446744073709551616 = ((m / 65536 + m % 65536 : Nat) : Int) := by omega
     rw [this]
   . left
     have hd : decide ((65535 : Int) < (m : Int)) = false := by simp; omega
     simp only [sumFold_step152_1, Tr.eval, hd, cond_false]
     rw [ear_small m (by omega)]

abbrev Lim : Nat := 140737488355328
theorem add_step (a b : UInt8) (r : List UInt8) (n : Nat) (h : n + 65535 < 18446744073709551616) : (sumAdd_step111_2 (a :: b :: r, ((n : Int), ()))).eval = some (.inl (r, (((n + (a.toNat * 256 + b.toNat) : Nat) : Int), ()))) := by
 have h1 := u8n a; have h2 := u8n b
 have hl : ((List.length (a :: b :: r) : Nat) : Int) = r.length + 2 := by simp; omega
 simp only [sumAdd_step111_2, Tr.eval, hl]
 rw [show decide ((1 : Int) < (r.length : Int) + 2) = true by simp; omega, cond_true, show decide ((0 : Int) <= 0 /\ (0 : Int) < (r.length : Int) + 2) = true by simp; omega, cond_true, cond_true,
  show decide ((0 : Int) <= 1 /\ (1 : Int) < (r.length : Int) + 2) = true by simp; omega, cond_true, show decide ((0 : Int) <= 2 /\ (2 : Int) <= (r.length : Int) + 2 /\ (r.length : Int) + 2 <= (r.length : Int) + 2) = true by simp; omega, cond_true]
 have e1 : Int.toNat ((r.length : Int) + 2) = (a :: b :: r).length := by simp; omega
 have e2 : List.getD (a :: b :: r) 0 0 = a := rfl
 have e3 : List.getD (a :: b :: r) 1 0 = b := rfl
 rw [e1, List.take_length, e2, e3, or_u64, wrap64u]
 have e4 : ((n : Int) + wv a b) % 18446744073709551616 = ((n + (a.toNat * 256 + b.toNat) : Nat) : Int) := by unfold wv; omega
 rw [e4]; rfl
theorem add_loop : ∀ (l : List UInt8) (n k : Nat), n + 65535 * l.length + 65535 < 18446744073709551616 -> l.length < k -> ∃ (t : List UInt8) (m : Nat), loopO 1110002 (fun x => (sumAdd_step111_2 x).eval) k (l, ((n : Int), ())) = some (t, ((m : Int), ())) /\ t.length <= 1 /\ m + ws t = n + ws l /\ m <= n + 65535 * l.length
 | a :: b :: r, n, k, h, hk => by
  obtain ⟨k, rfl⟩ : ∃ k', k = k' + 1 := ⟨k - 1, by simp at hk; omega⟩
  have h1 := u8n a; have h2 := u8n b
  simp only [List.length_cons] at h hk
  rw [loopO_in (add_step a b r n (by omega))]
  obtain ⟨t, m, e, h3, h4, h5⟩ := add_loop r (n + (a.toNat * 256 + b.toNat)) k (by omega) (by omega)
  refine ⟨t, m, e, h3, ?_, ?_⟩
  . simp only [ws]; omega
  . simp only [List.length_cons]; omega
 | [a], n, k, h, hk => by
  obtain ⟨k, rfl⟩ : ∃ k', k = k' + 1 := ⟨k - 1, by simp at hk; omega⟩
  exact ⟨[a], n, loopO_out (by rfl), by simp, rfl, by omega⟩
 | [], n, k, h, hk => by
  obtain ⟨k, rfl⟩ : ∃ k', k = k' + 1 := ⟨k - 1, by simp at hk; omega⟩
  exact ⟨[], n, loopO_out (by rfl), by simp, rfl, by omega⟩

theorem add_fn (n : Nat) (l : List UInt8) (hn : n <= 65535) (hl : l.length <= Lim) : sumAdd_fn ((n : Int), (l, ())) = some ((ear (n + ws l) : Int), ()) := by
 obtain ⟨t, m, e, h3, h4, h5⟩ := add_loop l n 18446744073709551616 (by unfold Lim at hl; omega) (by unfold Lim at hl; omega)
 have hw : IntKind.u64.wrap (n : Int) = n := by rw [wrap64u]; omega
 have hm : m < 18446744073709551616 - 16777216 := by unfold Lim at hl; omega
 simp only [sumAdd_fn, sumAdd_tree, sumAdd_loop111_2, hw, Tr.eval, e, Option.bind_some]
 match t, h3 with
 | [], _ =>
  simp only [decide_true, Bool.not_true, cond_false]
  rw [fold_fn m (by omega)]
  simp only [ws] at h4
  simp [Tr.eval, <- h4]
 | [a], _ =>
  have ha := u8n a
  rw [show decide (([a] : List UInt8) = []) = false from rfl, Bool.not_false, cond_true, show decide ((0 : Int) <= 0 /\ (0 : Int) < (([a] : List UInt8).length : Int)) = true by simp, cond_true, cond_true]
  have e2 : List.getD [a] 0 0 = a := rfl
  rw [e2, wrap64u, wrap64u, wrap64u]
  simp only [ws] at h4
  have e3 : ((m : Int) + ((a.toNat : Int) % 18446744073709551616 * 2 ^ 8) % 18446744073709551616) % 18446744073709551616 = ((n + ws l : Nat) : Int) := by omega
  rw [e3, fold_fn _ (by omega)]
  simp [Tr.eval]

theorem not16 (x : Int) (h : 0 <= x /\ x <= 65535) : bits BinOp.xor IntKind.u16 (if IntKind.signed IntKind.u16 = true then (-1 : Int) else IntKind.max IntKind.u16) x = 65535 - x := not_u16 x h.1 h.2
theorem right_fn (l : List UInt8) (hl : l.length <= Lim) : sumRight_fn (l, ()) = some (decide (ws l ≠ 0 /\ ws l % 65535 = 0), ()) := by
 unfold sumRight_fn sumRight_tree
 have := add_fn 0 l (by decide) hl
 rw [Tr.eval, show ((0 : Int), (l, ())) = (((0 : Nat) : Int), (l, ())) from rfl, this]
 simp only [Option.bind_some, Tr.eval, Nat.zero_add]
 have e : ((ear (ws l) : Int) = 65535) ↔ (ws l ≠ 0 /\ ws l % 65535 = 0) := by rw [<- ear_full]; omega
 rw [decide_eq_decide.2 e]
theorem fix_fn (c o n : Nat) (hc : c <= 65535) (ho : o <= 65535) (hn : n <= 65535) : sumFix_fn ((c : Int), ((o : Int), ((n : Int), ()))) = some (65535 - (ear (65535 - c + (65535 - o) + n) : Int), ()) := by
 simp only [sumFix_fn, sumFix_tree, Tr.eval]
 rw [not16 c ⟨by omega, by omega⟩, not16 o ⟨by omega, by omega⟩, wrap64u, wrap64u, wrap64u, wrap64u, wrap64u]
 have e : (((65535 - (c : Int)) % 18446744073709551616 + (65535 - (o : Int)) % 18446744073709551616) % 18446744073709551616 + (n : Int) % 18446744073709551616) % 18446744073709551616 = ((65535 - c + (65535 - o) + n : Nat) : Int) := by omega
 rw [e, fold_fn _ (by omega)]
 have := ear_le (65535 - c + (65535 - o) + n)
 simp only [Option.bind_some, Tr.eval]
 rw [not16 _ ⟨by omega, by omega⟩]
theorem wrap_mid (x : Int) (h : -4611686018427387904 <= x /\ x <= 4611686018427387904) : IntKind.wrap IntKind.i64 x = x := by
 simp [IntKind.wrap, IntKind.bits, IntKind.signed]
 split <;> omega
def bytB (x : Int) : Bool := decide ((0 : Int) <= x) && decide (x <= (255 : Int))
theorem byt_fn (x : Int) : ipByt_fn (x, ()) = some (bytB x, ()) := by
 simp only [ipByt_fn, ipByt_tree, bytB, Tr.eval, cond_and]
theorem wr8 (x : Int) : (0 : Int) <= IntKind.wrap IntKind.u8 x /\ IntKind.wrap IntKind.u8 x < 256 := by rw [wrap8u]; omega
structure RefOk (p : TPacket) : Prop where
 tos : 0 <= p.tos /\ p.tos <= 255
 life : 0 <= p.life /\ p.life <= 255
 proto : 0 <= p.proto /\ p.proto <= 255
 id : 0 <= p.id /\ p.id <= 65535
 start : 0 <= p.start /\ p.start <= 8191
 opt : p.options.length <= 40
 four : p.options.length % 4 = 0
 one : p.whole = true -> p.more = false /\ p.start = 0
 data : p.options.length + p.data.length <= 65515
theorem refused_fn (p : TPacket) : ∃ c : Int, ipRefused_fn (p.tos, (p.id, (p.whole, (p.more, (p.start, (p.life, (p.proto, (p.from', (p.to, (p.options, (p.data, ()))))))))))) = some (c, ()) /\ (c = 0 ↔ RefOk p) := by
 unfold ipRefused_fn ipRefused_tree
 have no : ∀ {c : Int}, c ≠ 0 -> ¬ RefOk p -> (c = 0 ↔ RefOk p) := fun h1 h2 => ⟨fun h => absurd h h1, fun h => absurd h h2⟩
 by_cases h1 : 0 <= p.tos /\ p.tos <= 255
 case neg => exact ⟨1, ev_opt (byt_fn _) (ev_t (by simp [bytB]; omega) (ev_r rfl)), no (by decide) fun h => h1 h.tos⟩
 by_cases h2 : 0 <= p.life /\ p.life <= 255
 case neg => exact ⟨1, ev_opt (byt_fn _) (ev_f (by simp [bytB]; omega) (ev_opt (byt_fn _) (ev_t (by simp [bytB]; omega) (ev_r rfl)))), no (by decide) fun h => h2 h.life⟩
 by_cases h3 : 0 <= p.proto /\ p.proto <= 255
 case neg => exact ⟨1, ev_opt (byt_fn _) (ev_f (by simp [bytB]; omega) (ev_opt (byt_fn _) (ev_f (by simp [bytB]; omega) (ev_opt (byt_fn _) (ev_t (by simp [bytB]; omega) (ev_r rfl)))))), no (by decide) fun h => h3 h.proto⟩
 have pre : ∀ {T : Tr (Int × Unit)} {r : Option (Int × Unit)}, T.eval = r -> (Tr.opt (ipByt_fn (p.tos, ())) fun r0 => .ite (!r0.1) (.ret ((1 : Int), ())) (.opt (ipByt_fn (p.life, ())) fun r1 => .ite (!r1.1) (.ret ((1 : Int), ())) (.opt (ipByt_fn (p.proto, ())) fun r2 => .ite (!r2.1) (.ret ((1 : Int), ())) T))).eval = r := fun h =>
   ev_opt (byt_fn _) (ev_f (by simp [bytB]; omega) (ev_opt (byt_fn _) (ev_f (by simp [bytB]; omega) (ev_opt (byt_fn _) (ev_f (by simp [bytB]; omega) h)))))
 by_cases h4 : p.id < 0
 . exact ⟨1, pre (ev_t (by simpa using h4) (ev_r rfl)), no (by decide) fun h => by have := h.id; omega⟩
 by_cases h5 : 65535 < p.id
 . exact ⟨1, pre (ev_f (by simpa using h4) (ev_t (by simpa using h5) (ev_r rfl))), no (by decide) fun h => by have := h.id; omega⟩
 by_cases h6 : p.start < 0
 . exact ⟨1, pre (ev_f (by simpa using h4) (ev_f (by simpa using h5) (ev_t (by simpa using h6) (ev_r rfl)))), no (by decide) fun h => by have := h.start; omega⟩
 by_cases h7 : 8191 < p.start
 . exact ⟨1, pre (ev_f (by simpa using h4) (ev_f (by simpa using h5) (ev_f (by simpa using h6) (ev_t (by simpa using h7) (ev_r rfl))))), no (by decide) fun h => by have := h.start; omega⟩
 by_cases h8 : 40 < p.options.length
 . exact ⟨1, pre (ev_f (by simpa using h4) (ev_f (by simpa using h5) (ev_f (by simpa using h6) (ev_f (by simpa using h7) (ev_t (by simp <;> omega) (ev_r rfl)))))), no (by decide) fun h => by have := h.opt; omega⟩
 have hm : Int.tmod (p.options.length : Int) 4 = ((p.options.length % 4 : Nat) : Int) := by rw [Int.tmod_eq_emod_of_nonneg (by omega)]; omega
 have hw : IntKind.wrap IntKind.i64 ((65515 : Int) - (p.options.length : Int)) = 65515 - (p.options.length : Int) := wrap_mid _ (by omega)
 by_cases h9 : p.options.length % 4 = 0
 case neg => exact ⟨1, pre (ev_f (by simpa using h4) (ev_f (by simpa using h5) (ev_f (by simpa using h6) (ev_f (by simpa using h7) (ev_f (by simp <;> omega) (ev_g rfl (ev_t (by rw [hm]; simp; omega) (ev_r rfl)))))))), no (by decide) fun h => h9 h.four⟩
 have pre2 : ∀ {T : Tr (Int × Unit)} {r : Option (Int × Unit)}, T.eval = r -> _ = r := fun {T} {r} h => pre (T := .ite (decide (p.id < (0 : Int))) (.ret ((1 : Int), ())) (.ite (decide ((65535 : Int) < p.id)) (.ret ((1 : Int), ())) (.ite (decide (p.start < (0 : Int))) (.ret ((1 : Int), ())) (.ite (decide ((8191 : Int) < p.start)) (.ret ((1 : Int), ())) (.ite (decide ((40 : Int) < (p.options.length : Int))) (.ret ((1 : Int), ())) (.grd true (.ite (!decide (Int.tmod (p.options.length : Int) (4 : Int) = (0 : Int))) (.ret ((1 : Int), ())) T)))))))
   (ev_f (by simpa using h4) (ev_f (by simpa using h5) (ev_f (by simpa using h6) (ev_f (by simpa using h7) (ev_f (by simp <;> omega) (ev_g rfl (ev_f (by rw [hm, h9]; rfl) h)))))))
 have tail : ∀ {T : Tr (Int × Unit)}, T = .ite (decide (IntKind.wrap IntKind.i64 ((65515 : Int) - (p.options.length : Int)) < (p.data.length : Int))) (.ret ((2 : Int), ())) (.ret ((0 : Int), ())) -> (p.whole = true -> p.more = false /\ p.start = 0) -> ∃ c : Int, T.eval = some (c, ()) /\ (c = 0 ↔ RefOk p) := by
   rintro T rfl hone
   by_cases h10 : p.options.length + p.data.length <= 65515
   . exact ⟨0, ev_f (by rw [hw]; simp; omega) (ev_r rfl), ⟨fun _ => ⟨h1, h2, h3, by omega, by omega, by omega, h9, hone, h10⟩, fun _ => rfl⟩⟩
   . exact ⟨2, ev_t (by rw [hw]; simp; omega) (ev_r rfl), no (by decide) fun h => h10 h.data⟩
 cases hwh : p.whole with
 | false =>
   obtain ⟨c, hc, hc0⟩ := tail rfl (fun h => by rw [hwh] at h; cases h)
   exact ⟨c, pre2 (ev_f rfl hc), hc0⟩
 | true =>
   cases hmo : p.more with
   | true => exact ⟨4, pre2 (ev_t rfl (ev_t rfl (ev_r rfl))), no (by decide) fun h => by have := (h.one hwh).1; rw [hmo] at this; cases this⟩
   | false =>
     by_cases hst : p.start = 0
     . obtain ⟨c, hc, hc0⟩ := tail rfl (fun _ => ⟨hmo, hst⟩)
       exact ⟨c, pre2 (ev_t rfl (ev_f rfl (ev_f (by simpa using hst) hc))), hc0⟩
     . exact ⟨4, pre2 (ev_t rfl (ev_f rfl (ev_t (by simpa using hst) (ev_r rfl)))), no (by decide) fun h => hst (h.one hwh).2⟩
theorem ipAt_ok (l : List UInt8) (i : Nat) (h : i + 1 < l.length) (hl : l.length <= Lim) : ipWordAt_fn (l, ((i : Int), ())) = some (wAt l i, ()) := by
 have e1 : IntKind.i64.wrap ((i : Int) + 1) = ((i + 1 : Nat) : Int) := by
  rw [wrap_mid _ (by unfold Lim at hl; omega)]; omega
 simp only [ipWordAt_fn, ipWordAt_tree, Tr.eval, e1, Int.toNat_natCast]
 rw [show decide (0 <= (i : Int) /\ (i : Int) < (l.length : Int)) = true by simp; omega, cond_true, cond_true, show decide (0 <= ((i + 1 : Nat) : Int) /\ ((i + 1 : Nat) : Int) < (l.length : Int)) = true by simp; omega, cond_true, or_i64]
 rfl
theorem ipLongAt_ok (l : List UInt8) (i : Nat) (h : i + 3 < l.length) (hl : l.length <= Lim) : ipLongAt_fn (l, ((i : Int), ())) = some (lAt l i, ()) := by
 have e1 : IntKind.i64.wrap ((i : Int) + 2) = ((i + 2 : Nat) : Int) := by
  rw [wrap_mid _ (by unfold Lim at hl; omega)]; omega
 have b1 := wAt_bound l i; have b2 := wAt_bound l (i + 2)
 refine ev_opt (ipAt_ok l i (by omega) hl) (ev_g rfl ?_)
 rw [e1]
 refine ev_opt (ipAt_ok l (i + 2) (by omega) hl) (ev_r ?_)
 have f1 : IntKind.u32.wrap (wAt l i) = wAt l i := by rw [wrap32u]; omega
 have f2 : IntKind.u32.wrap (wAt l (i + 2)) = wAt l (i + 2) := by rw [wrap32u]; omega
 have f3 : IntKind.u32.wrap (wAt l i * 2 ^ 16) = wAt l i * 2 ^ 16 := by rw [wrap32u]; omega
 simp only [f1, f2, f3]
 rw [bits_or_disjoint .u32 16 (wAt l i) (wAt l (i + 2)) (by omega) (by omega) (by omega) (by show _ < (2 : Int) ^ 32; omega) (fun h => by cases h)]
 unfold lAt; rfl
def hn (s : List UInt8) : Nat := (s.getD 0 0).toNat % 16 * 4
def alln (s : List UInt8) : Nat := (wAt s 2).toNat
def pk (s : List UInt8) : TPacket := ⟨((s.getD 1 0).toNat : Int), wAt s 4, decide (wAt s 6 / 16384 % 2 = 1), decide (wAt s 6 / 8192 % 2 = 1), wAt s 6 % 8192, ((s.getD 8 0).toNat : Int), ((s.getD 9 0).toNat : Int), lAt s 12, lAt s 16, (s.take (hn s)).drop 20, (s.take (alln s)).drop (hn s)⟩
structure IpOk (s : List UInt8) : Prop where
 len : 20 <= s.length
 head : hn s <= s.length
 all : alln s <= s.length
 ver : (s.getD 0 0).toNat / 16 = 4
 h20 : 20 <= hn s
 hall : hn s <= alln s
 flag : wAt s 6 < 32768
 ref : RefOk (pk s)
 sum0 : ws (s.take (hn s)) ≠ 0
 sum : ws (s.take (hn s)) % 65535 = 0
theorem hnN (b : UInt8) : IntKind.wrap IntKind.i64 (IntKind.wrap IntKind.i64 (bits BinOp.and IntKind.u8 (b.toNat : Int) (15 : Int)) * (4 : Int)) = ((b.toNat % 16 * 4 : Nat) : Int) := by
 have := u8n b
 have h := bits_and_mask .u8 4 (b.toNat : Int) (by omega) (by show (b.toNat : Int) < 2 ^ 8; omega) (by decide) (fun h => by cases h)
 have w1 : IntKind.wrap IntKind.i64 ((b.toNat % 16 : Nat) : Int) = ((b.toNat % 16 : Nat) : Int) := wrap_mid _ (by omega)
 have w2 : IntKind.wrap IntKind.i64 (((b.toNat % 16 : Nat) : Int) * 4) = ((b.toNat % 16 : Nat) : Int) * 4 := wrap_mid _ (by omega)
 rw [show ((15 : Int)) = 2 ^ 4 - 1 from rfl, h, show (b.toNat : Int) % 2 ^ 4 = ((b.toNat % 16 : Nat) : Int) by omega, w1, w2]
 omega
theorem fd4 (b : UInt8) : Int.fdiv (b.toNat : Int) ((2 : Int) ^ (4 : Nat)) = ((b.toNat / 16 : Nat) : Int) := by rw [fdiv_pos _ (by decide)]; omega
theorem fd15 (x : Int) : Int.fdiv x ((2 : Int) ^ (15 : Nat)) = x / 32768 := fdiv_pos _ (by decide)
theorem bit1 (x : Int) (h : 0 <= x /\ x <= 65535) : bits BinOp.and IntKind.i64 x (1 : Int) = x % 2 := by
 have := bits_and_mask .i64 1 x h.1 (by show x < 2 ^ 64; omega) (by decide) (fun _ => by show x < 2 ^ 63; omega)
 rw [show ((1 : Int)) = 2 ^ 1 - 1 from rfl, this]; rfl
theorem bit13 (x : Int) (h : 0 <= x /\ x <= 65535) : bits BinOp.and IntKind.i64 x (8191 : Int) = x % 8192 := by
 have := bits_and_mask .i64 13 x h.1 (by show x < 2 ^ 64; omega) (by decide) (fun _ => by show x < 2 ^ 63; omega)
 rw [show ((8191 : Int)) = 2 ^ 13 - 1 from rfl, this]; rfl
def p11 (p : TPacket) {R : Type} (r : R) := (p.tos, (p.id, (p.whole, (p.more, (p.start, (p.life, (p.proto, (p.from', (p.to, (p.options, (p.data, r)))))))))))
def zp : TPacket := ⟨0, 0, false, false, 0, 0, 0, 0, 0, [], []⟩
theorem byt64 (b : UInt8) : IntKind.wrap IntKind.i64 (b.toNat : Int) = b.toNat := by have := u8n b; exact wrap_mid _ (by omega)
theorem ipRead_ok {s : List UInt8} (h : IpOk s) (hl : s.length <= Lim) : ipRead_fn (s, ()) = some (p11 (pk s) ((0 : Int), ())) := by
 obtain ⟨h1, h2, h3, h4, h5, h6, h7, h8, h9, h10⟩ := h
 have b2 := wAt_bound s 2; have b6 := wAt_bound s 6
 have ha : (alln s : Int) = wAt s 2 := by unfold alln; omega
 obtain ⟨c, hc, hc0⟩ := refused_fn (pk s)
 have hcz := hc0.2 h8
 subst hcz
 have hh : hn s <= 60 := by have := u8n (s.getD 0 0); unfold hn; omega
 have hr := right_fn (s.take (hn s)) (by rw [List.length_take]; unfold Lim; omega)
 unfold ipRead_fn ipRead_tree
 simp only [hnN, fd4, fd15]
 refine ev_f (by (first | (simp; done) | (simp; omega) | omega)) (ev_g (by (first | (simp; done) | (simp; omega) | omega)) (ev_opt (ipAt_ok s 2 (by omega) hl) (ev_f (show decide ((s.length : Int) < (hn s : Int)) = false by (first | (simp; done) | (simp; omega) | omega)) (ev_f (show decide ((s.length : Int) < wAt s 2) = false by (first | (simp; done) | (simp; omega) | omega)) (ev_opt (ipAt_ok s 6 (by omega) hl) (ev_g (by (first | (simp; done) | (simp; omega) | omega)) (ev_g rfl (ev_f (by rw [h4]; rfl) (ev_f (show decide ((hn s : Int) < 20) = false by (first | (simp; done) | (simp; omega) | omega)) (ev_f (show decide (wAt s 2 < (hn s : Int)) = false by (first | (simp; done) | (simp; omega) | omega)) (ev_g rfl (ev_f (by (first | (simp; done) | (simp; omega) | omega)) (ev_g (by (first | (simp; done) | (simp; omega) | omega)) (ev_opt (ipAt_ok s 4 (by omega) hl) (ev_g rfl (ev_g rfl (ev_g (by (first | (simp; done) | (simp; omega) | omega)) (ev_g (by (first | (simp; done) | (simp; omega) | omega)) (ev_opt (ipLongAt_ok s 12 (by omega) hl) (ev_opt (ipLongAt_ok s 16 (by omega) hl) (ev_g (show decide ((0 : Int) <= 20 /\ (20 : Int) <= (hn s : Int) /\ (hn s : Int) <= (s.length : Int)) = true by (first | (simp; done) | (simp; omega) | omega)) (ev_g (show decide ((0 : Int) <= (hn s : Int) /\ (hn s : Int) <= wAt s 2 /\ wAt s 2 <= (s.length : Int)) = true by (first | (simp; done) | (simp; omega) | omega)) ?_))))))))))))))))))))))
 rw [fdiv_pos (wAt s 6) (by decide), fdiv_pos (wAt s 6) (by decide), bit1 _ ⟨by omega, by omega⟩, bit1 _ ⟨by omega, by omega⟩, bit13 _ b6, byt64, byt64, byt64]
 refine ev_opt (show _ = some ((0 : Int), ()) from hc) (ev_f rfl (ev_g (show decide ((0 : Int) <= 0 /\ (0 : Int) <= (hn s : Int) /\ (hn s : Int) <= (s.length : Int)) = true by (first | (simp; done) | (simp; omega) | omega)) (ev_opt (b := (true, ())) ?_ (ev_f rfl (ev_r ?_)))))
 . show sumRight_fn (List.drop 0 (List.take (Int.toNat (hn s : Int)) s), ()) = _
   rw [Int.toNat_natCast, List.drop_zero, hr, decide_eq_true ⟨h9, h10⟩]
 . rfl
theorem ipRead_bad {s : List UInt8} (h : ¬ IpOk s) (hl : s.length <= Lim) : ∃ e : Int, (e ≠ 0 /\ (e = 3 \/ e = 4 \/ e = 5)) /\ ipRead_fn (s, ()) = some (p11 zp (e, ())) := by
 have b2 := wAt_bound s 2; have b6 := wAt_bound s 6
 have ha : (alln s : Int) = wAt s 2 := by unfold alln; omega
 have hh : hn s <= 60 := by have := u8n (s.getD 0 0); unfold hn; omega
 unfold ipRead_fn ipRead_tree
 simp only [hnN, fd4, fd15]
 by_cases h1 : s.length < 20
 . exact ⟨3, by decide, ev_t (by (first | (simp; done) | (simp; omega) | omega)) (ev_r rfl)⟩
 by_cases h2 : s.length < hn s
 . exact ⟨3, by decide, ev_f (by (first | (simp; done) | (simp; omega) | omega)) (ev_g (by (first | (simp; done) | (simp; omega) | omega)) (ev_opt (ipAt_ok s 2 (by omega) hl) (ev_t (show decide ((s.length : Int) < (hn s : Int)) = true by (first | (simp; done) | (simp; omega) | omega)) (ev_r rfl))))⟩
 by_cases h3 : (s.length : Int) < wAt s 2
 . exact ⟨3, by decide, ev_f (by (first | (simp; done) | (simp; omega) | omega)) (ev_g (by (first | (simp; done) | (simp; omega) | omega)) (ev_opt (ipAt_ok s 2 (by omega) hl) (ev_f (show decide ((s.length : Int) < (hn s : Int)) = false by (first | (simp; done) | (simp; omega) | omega)) (ev_t (by (first | (simp; done) | (simp; omega) | omega)) (ev_r rfl)))))⟩
 by_cases h4 : (s.getD 0 0).toNat / 16 = 4
 case neg => exact ⟨4, by decide, ev_f (by (first | (simp; done) | (simp; omega) | omega)) (ev_g (by (first | (simp; done) | (simp; omega) | omega)) (ev_opt (ipAt_ok s 2 (by omega) hl) (ev_f (show decide ((s.length : Int) < (hn s : Int)) = false by (first | (simp; done) | (simp; omega) | omega)) (ev_f (by (first | (simp; done) | (simp; omega) | omega)) (ev_opt (ipAt_ok s 6 (by omega) hl) (ev_g (by (first | (simp; done) | (simp; omega) | omega)) (ev_g rfl (ev_t (by rw [decide_eq_false (by omega)]; rfl) (ev_r rfl)))))))))⟩
 by_cases h5 : hn s < 20
 . exact ⟨4, by decide, ev_f (by (first | (simp; done) | (simp; omega) | omega)) (ev_g (by (first | (simp; done) | (simp; omega) | omega)) (ev_opt (ipAt_ok s 2 (by omega) hl) (ev_f (show decide ((s.length : Int) < (hn s : Int)) = false by (first | (simp; done) | (simp; omega) | omega)) (ev_f (by (first | (simp; done) | (simp; omega) | omega)) (ev_opt (ipAt_ok s 6 (by omega) hl) (ev_g (by (first | (simp; done) | (simp; omega) | omega)) (ev_g rfl (ev_f (by rw [h4]; rfl) (ev_t (show decide ((hn s : Int) < 20) = true by (first | (simp; done) | (simp; omega) | omega)) (ev_r rfl))))))))))⟩
 by_cases h6 : wAt s 2 < (hn s : Int)
 . exact ⟨4, by decide, ev_f (by (first | (simp; done) | (simp; omega) | omega)) (ev_g (by (first | (simp; done) | (simp; omega) | omega)) (ev_opt (ipAt_ok s 2 (by omega) hl) (ev_f (show decide ((s.length : Int) < (hn s : Int)) = false by (first | (simp; done) | (simp; omega) | omega)) (ev_f (by (first | (simp; done) | (simp; omega) | omega)) (ev_opt (ipAt_ok s 6 (by omega) hl) (ev_g (by (first | (simp; done) | (simp; omega) | omega)) (ev_g rfl (ev_f (by rw [h4]; rfl) (ev_f (show decide ((hn s : Int) < 20) = false by (first | (simp; done) | (simp; omega) | omega)) (ev_t (show decide (wAt s 2 < (hn s : Int)) = true by (first | (simp; done) | (simp; omega) | omega)) (ev_r rfl)))))))))))⟩
 by_cases h7 : wAt s 6 < 32768
 case neg => exact ⟨4, by decide, ev_f (by (first | (simp; done) | (simp; omega) | omega)) (ev_g (by (first | (simp; done) | (simp; omega) | omega)) (ev_opt (ipAt_ok s 2 (by omega) hl) (ev_f (show decide ((s.length : Int) < (hn s : Int)) = false by (first | (simp; done) | (simp; omega) | omega)) (ev_f (by (first | (simp; done) | (simp; omega) | omega)) (ev_opt (ipAt_ok s 6 (by omega) hl) (ev_g (by (first | (simp; done) | (simp; omega) | omega)) (ev_g rfl (ev_f (by rw [h4]; rfl) (ev_f (show decide ((hn s : Int) < 20) = false by (first | (simp; done) | (simp; omega) | omega)) (ev_f (show decide (wAt s 2 < (hn s : Int)) = false by (first | (simp; done) | (simp; omega) | omega)) (ev_g rfl (ev_t (by (first | (simp; done) | (simp; omega) | omega)) (ev_r rfl)))))))))))))⟩
 obtain ⟨c, hc, hc0⟩ := refused_fn (pk s)
 by_cases h8 : RefOk (pk s)
 case neg =>
   have hcz : ¬ c = 0 := fun e => h8 (hc0.1 e)
   refine ⟨4, by decide, ?_⟩
   refine ev_f (by (first | (simp; done) | (simp; omega) | omega)) (ev_g (by (first | (simp; done) | (simp; omega) | omega)) (ev_opt (ipAt_ok s 2 (by omega) hl) (ev_f (show decide ((s.length : Int) < (hn s : Int)) = false by (first | (simp; done) | (simp; omega) | omega)) (ev_f (show decide ((s.length : Int) < wAt s 2) = false by (first | (simp; done) | (simp; omega) | omega)) (ev_opt (ipAt_ok s 6 (by omega) hl) (ev_g (by (first | (simp; done) | (simp; omega) | omega)) (ev_g rfl (ev_f (by rw [h4]; rfl) (ev_f (show decide ((hn s : Int) < 20) = false by (first | (simp; done) | (simp; omega) | omega)) (ev_f (show decide (wAt s 2 < (hn s : Int)) = false by (first | (simp; done) | (simp; omega) | omega)) (ev_g rfl (ev_f (by (first | (simp; done) | (simp; omega) | omega)) (ev_g (by (first | (simp; done) | (simp; omega) | omega)) (ev_opt (ipAt_ok s 4 (by omega) hl) (ev_g rfl (ev_g rfl (ev_g (by (first | (simp; done) | (simp; omega) | omega)) (ev_g (by (first | (simp; done) | (simp; omega) | omega)) (ev_opt (ipLongAt_ok s 12 (by omega) hl) (ev_opt (ipLongAt_ok s 16 (by omega) hl) (ev_g (show decide ((0 : Int) <= 20 /\ (20 : Int) <= (hn s : Int) /\ (hn s : Int) <= (s.length : Int)) = true by (first | (simp; done) | (simp; omega) | omega)) (ev_g (show decide ((0 : Int) <= (hn s : Int) /\ (hn s : Int) <= wAt s 2 /\ wAt s 2 <= (s.length : Int)) = true by (first | (simp; done) | (simp; omega) | omega)) ?_))))))))))))))))))))))
   rw [fdiv_pos (wAt s 6) (by decide), fdiv_pos (wAt s 6) (by decide), bit1 _ ⟨by omega, by omega⟩, bit1 _ ⟨by omega, by omega⟩, bit13 _ b6, byt64, byt64, byt64]
   exact ev_opt (show _ = some (c, ()) from hc) (ev_t (by rw [decide_eq_false hcz]; rfl) (ev_r rfl))
 have hcz := hc0.2 h8
 subst hcz
 refine ⟨5, by decide, ?_⟩
 have hr := right_fn (s.take (hn s)) (by rw [List.length_take]; unfold Lim; omega)
 have h9 : ¬ (ws (s.take (hn s)) ≠ 0 /\ ws (s.take (hn s)) % 65535 = 0) := fun e => h ⟨by omega, by omega, by omega, h4, by omega, by omega, h7, h8, e.1, e.2⟩
 refine ev_f (by (first | (simp; done) | (simp; omega) | omega)) (ev_g (by (first | (simp; done) | (simp; omega) | omega)) (ev_opt (ipAt_ok s 2 (by omega) hl) (ev_f (show decide ((s.length : Int) < (hn s : Int)) = false by (first | (simp; done) | (simp; omega) | omega)) (ev_f (show decide ((s.length : Int) < wAt s 2) = false by (first | (simp; done) | (simp; omega) | omega)) (ev_opt (ipAt_ok s 6 (by omega) hl) (ev_g (by (first | (simp; done) | (simp; omega) | omega)) (ev_g rfl (ev_f (by rw [h4]; rfl) (ev_f (show decide ((hn s : Int) < 20) = false by (first | (simp; done) | (simp; omega) | omega)) (ev_f (show decide (wAt s 2 < (hn s : Int)) = false by (first | (simp; done) | (simp; omega) | omega)) (ev_g rfl (ev_f (by (first | (simp; done) | (simp; omega) | omega)) (ev_g (by (first | (simp; done) | (simp; omega) | omega)) (ev_opt (ipAt_ok s 4 (by omega) hl) (ev_g rfl (ev_g rfl (ev_g (by (first | (simp; done) | (simp; omega) | omega)) (ev_g (by (first | (simp; done) | (simp; omega) | omega)) (ev_opt (ipLongAt_ok s 12 (by omega) hl) (ev_opt (ipLongAt_ok s 16 (by omega) hl) (ev_g (show decide ((0 : Int) <= 20 /\ (20 : Int) <= (hn s : Int) /\ (hn s : Int) <= (s.length : Int)) = true by (first | (simp; done) | (simp; omega) | omega)) (ev_g (show decide ((0 : Int) <= (hn s : Int) /\ (hn s : Int) <= wAt s 2 /\ wAt s 2 <= (s.length : Int)) = true by (first | (simp; done) | (simp; omega) | omega)) ?_))))))))))))))))))))))
 rw [fdiv_pos (wAt s 6) (by decide), fdiv_pos (wAt s 6) (by decide), bit1 _ ⟨by omega, by omega⟩, bit1 _ ⟨by omega, by omega⟩, bit13 _ b6, byt64, byt64, byt64]
 refine ev_opt (show _ = some ((0 : Int), ()) from hc) (ev_f rfl (ev_g (show decide ((0 : Int) <= 0 /\ (0 : Int) <= (hn s : Int) /\ (hn s : Int) <= (s.length : Int)) = true by (first | (simp; done) | (simp; omega) | omega)) (ev_opt (b := (false, ())) ?_ (ev_t rfl (ev_r rfl)))))
 show sumRight_fn (List.drop 0 (List.take (Int.toNat (hn s : Int)) s), ()) = _
 rw [Int.toNat_natCast, List.drop_zero, hr, decide_eq_false h9]
theorem m256 (x : Int) : decide (0 <= x % 256 /\ x % 256 < 256) = true := by simp; omega
theorem dgWord_ok (x : Int) : dgWord_fn (x, ()) = some (wd x, ()) := by
 simp only [dgWord_fn, dgWord_tree, Tr.eval, wrap8u, fdiv8, m256, cond_true, wd, byteOf]
abbrev U32 (x : Int) : Prop := 0 <= x /\ x <= 4294967295
theorem dgLong_ok (x : Int) (h : U32 x) : dgLong_fn (x, ()) = some (lg x, ()) := by
 have e1 : IntKind.i64.wrap (x / 65536) = x / 65536 := wrapI64 ⟨by unfold U32 at h; omega, by unfold U32 at h; omega⟩
 have e2 : IntKind.i64.wrap x = x := wrapI64 ⟨by unfold U32 at h; omega, by unfold U32 at h; omega⟩
 simp only [dgLong_fn, dgLong_tree, Tr.eval, fdiv16, e1, e2, cond_true, dgWord_ok, Option.bind_some, wd_len]
 rfl
theorem wAt_ok (l : List UInt8) (i : Nat) (h : i + 1 < l.length) (hl : l.length <= Lim) : dgWordAt_fn (l, ((i : Int), ())) = some (wAt l i, ()) := by
 have e1 : IntKind.i64.wrap ((i : Int) + 1) = ((i + 1 : Nat) : Int) := by
  rw [wrapI64 ⟨by unfold Lim at hl; omega, by unfold Lim at hl; omega⟩]; omega
 simp only [dgWordAt_fn, dgWordAt_tree, Tr.eval, e1, Int.toNat_natCast]
 rw [show decide (0 <= (i : Int) /\ (i : Int) < (l.length : Int)) = true by simp; omega, cond_true, cond_true, show decide (0 <= ((i + 1 : Nat) : Int) /\ ((i + 1 : Nat) : Int) < (l.length : Int)) = true by simp; omega, cond_true, or_i64]
 rfl
def under (f t p n : Int) : List UInt8 := lg f ++ lg t ++ wd p ++ wd n
@[simp] theorem under_len (f t p n : Int) : (under f t p n).length = 12 := rfl
theorem dgUnder_ok (f t p n : Int) (hf : U32 f) (ht : U32 t) (hp : 0 <= p /\ p <= 255) : dgUnder_fn (f, (t, (p, (n, ())))) = some (under f t p n, ()) := by
 have e1 : bits .and .i64 p 255 = p := by
  have := bits_and_mask .i64 8 p hp.1 (by show p < 2 ^ 64; omega) (by decide) (fun _ => by show p < 2 ^ 63; omega)
  rw [show ((255 : Int)) = 2 ^ 8 - 1 from rfl, this]; omega
 simp only [dgUnder_fn, dgUnder_tree, Tr.eval, dgLong_ok f hf, dgLong_ok t ht, e1, dgWord_ok, Option.bind_some, lg_len, wd_len, List.length_append, Nat.reduceAdd, Nat.reduceLeDiff, decide_true, cond_true]
 rfl
def lb (a b : Int) (d : List UInt8) (c : Int) : List UInt8 := wd a ++ wd b ++ wd (8 + d.length) ++ wd c ++ d
@[simp] theorem lb_len (a b : Int) (d : List UInt8) (c : Int) : (lb a b d c).length = 8 + d.length := by simp [lb]; omega
def rd (s : List UInt8) (f t : Int) : Int × Int × List UInt8 × Int :=
 if s.length < 8 then (0, 0, [], 3) else
 if (s.length : Int) < wAt s 4 then (0, 0, [], 3) else
 if wAt s 4 < 8 then (0, 0, [], 4) else
 if 65515 < wAt s 4 then (0, 0, [], 4) else
 if wAt s 6 ≠ 0 /\ ¬ (ws (under f t 17 (wAt s 4) ++ s.take (wAt s 4).toNat) ≠ 0 /\ ws (under f t 17 (wAt s 4) ++ s.take (wAt s 4).toNat) % 65535 = 0) then (0, 0, [], 5) else
 (wAt s 0, wAt s 2, (s.take (wAt s 4).toNat).drop 8, 0)
theorem dgRead_ok (s : List UInt8) (f t : Int) (hs : s.length <= Lim) (hf : U32 f) (ht : U32 t) : dgRead_fn (s, (f, (t, ()))) = some ((rd s f t).1, ((rd s f t).2.1, ((rd s f t).2.2.1, ((rd s f t).2.2.2, ())))) := by
 unfold rd
 by_cases h8 : s.length < 8
 . rw [if_pos h8]; exact ev_t (by simp <;> omega) rfl
 rw [if_neg h8]
 have w4 := wAt_ok s 4 (by omega) hs
 have b4 := wAt_bound s 4
 refine ev_f (by simp <;> omega) (ev_opt w4 ?_)
 by_cases h1 : (s.length : Int) < wAt s 4
 . rw [if_pos h1]; exact ev_t (by simpa using h1) rfl
 rw [if_neg h1]
 refine ev_f (by simpa using h1) ?_
 by_cases h2 : wAt s 4 < 8
 . rw [if_pos h2]; exact ev_t (by simpa using h2) rfl
 rw [if_neg h2]
 refine ev_f (by simpa using h2) ?_
 by_cases h3 : 65515 < wAt s 4
 . rw [if_pos h3]; exact ev_t (by simpa using h3) rfl
 rw [if_neg h3]
 refine ev_f (by simpa using h3) (ev_opt (wAt_ok s 6 (by omega) hs) ?_)
 have hlt : (s.take (wAt s 4).toNat).length <= 65515 := by rw [List.length_take]; omega
 by_cases h6 : wAt s 6 = 0
 . rw [if_neg (by simp [h6])]
   refine ev_f (by simp [h6]) (ev_opt (wAt_ok s 0 (by omega) hs) (ev_opt (wAt_ok s 2 (by omega) hs) (ev_g (by simp <;> omega) rfl)))
 . refine ev_t (by simp [h6]) (ev_opt (dgUnder_ok f t 17 _ hf ht (by decide)) (ev_g (by simp <;> omega) (ev_g (by simp <;> omega) ?_)))
   have hr := right_fn (under f t 17 (wAt s 4) ++ s.take (wAt s 4).toNat) (by simp; unfold Lim; omega)
   rw [<- List.drop_zero (l := s.take (wAt s 4).toNat)] at hr
   refine ev_opt hr ?_
   rw [List.drop_zero]
   by_cases hx : ws (under f t 17 (wAt s 4) ++ s.take (wAt s 4).toNat) ≠ 0 /\ ws (under f t 17 (wAt s 4) ++ s.take (wAt s 4).toNat) % 65535 = 0
   . rw [if_neg (fun h => h.2 hx)]
     exact ev_f (by simpa using hx) (ev_opt (wAt_ok s 0 (by omega) hs) (ev_opt (wAt_ok s 2 (by omega) hs) (ev_g (by simp <;> omega) rfl)))
   . rw [if_pos ⟨h6, hx⟩]
     exact ev_t (by rw [decide_eq_false hx]; rfl) rfl

theorem tcAt_ok (l : List UInt8) (i : Nat) (h : i + 1 < l.length) (hl : l.length <= Lim) : tcWordAt_fn (l, ((i : Int), ())) = some (wAt l i, ()) := by
 have e1 : IntKind.i64.wrap ((i : Int) + 1) = ((i + 1 : Nat) : Int) := by
  rw [wrapI64 ⟨by unfold Lim at hl; omega, by unfold Lim at hl; omega⟩]; omega
 simp only [tcWordAt_fn, tcWordAt_tree, Tr.eval, e1, Int.toNat_natCast]
 rw [show decide (0 <= (i : Int) /\ (i : Int) < (l.length : Int)) = true by simp; omega, cond_true, cond_true, show decide (0 <= ((i + 1 : Nat) : Int) /\ ((i + 1 : Nat) : Int) < (l.length : Int)) = true by simp; omega, cond_true, or_i64]
 rfl
theorem tcLongAt_ok (l : List UInt8) (i : Nat) (h : i + 3 < l.length) (hl : l.length <= Lim) : tcLongAt_fn (l, ((i : Int), ())) = some (lAt l i, ()) := by
 have e1 : IntKind.i64.wrap ((i : Int) + 2) = ((i + 2 : Nat) : Int) := by
  rw [wrapI64 ⟨by unfold Lim at hl; omega, by unfold Lim at hl; omega⟩]; omega
 have b1 := wAt_bound l i; have b2 := wAt_bound l (i + 2)
 refine ev_opt (tcAt_ok l i (by omega) hl) (ev_g rfl ?_)
 rw [e1]
 refine ev_opt (tcAt_ok l (i + 2) (by omega) hl) (ev_r ?_)
 have f1 : IntKind.u32.wrap (wAt l i) = wAt l i := by rw [wrap32u]; omega
 have f2 : IntKind.u32.wrap (wAt l (i + 2)) = wAt l (i + 2) := by rw [wrap32u]; omega
 have f3 : IntKind.u32.wrap (wAt l i * 2 ^ 16) = wAt l i * 2 ^ 16 := by rw [wrap32u]; omega
 simp only [f1, f2, f3]
 rw [bits_or_disjoint .u32 16 (wAt l i) (wAt l (i + 2)) (by omega) (by omega) (by omega) (by show _ < (2 : Int) ^ 32; omega) (fun h => by cases h)]
 unfold lAt; rfl

def ob (o : TOption) : List UInt8 := if 1 < o.kind then byteOf o.kind :: byteOf (o.data.length + 2) :: o.data else [byteOf o.kind]
def obs (l : List TOption) : List UInt8 := l.flatMap ob
def pad (o : List UInt8) : List UInt8 := o ++ List.replicate ((4 - o.length % 4) % 4) 0
theorem tmN (n k : Nat) : Int.tmod (n : Int) (k : Int) = ((n % k : Nat) : Int) := by
 rw [Int.tmod_eq_emod_of_nonneg (by omega)]; rfl
def sA (g : TSegment) (n : Int) : List UInt8 := wd g.from' ++ wd g.to ++ lg g.seq ++ lg g.ack ++ [byteOf (n * 4), byteOf g.flags] ++ wd g.window
def sB (g : TSegment) : List UInt8 := wd g.urgent ++ pad (obs g.options) ++ g.data
def sn (g : TSegment) : Int := 20 + ((pad (obs g.options)).length : Int)
def sc (g : TSegment) (f t : Int) : Int := 65535 - (ear (ws (under f t 6 (sn g + g.data.length) ++ sA g (sn g) ++ sB g)) : Int)
def sb (g : TSegment) (f t : Int) : List UInt8 := sA g (sn g) ++ wd (sc g f t) ++ sB g
def g9 (g : TSegment) {R : Type} (r : R) : (Int × (Int × (Int × (Int × (Int × (Int × (Int × ((List TOption) × ((List UInt8) × R))))))))) :=
 (g.from', (g.to, (g.seq, (g.ack, (g.flags, (g.window, (g.urgent, (g.options, (g.data, r)))))))))
def okR (o : TOption) : Prop := 1 <= o.kind /\ o.kind <= 255 /\ o.data.length <= 253 /\ (o.kind = 1 -> o.data = [])
theorem byte_i64 (b : UInt8) : IntKind.wrap IntKind.i64 (b.toNat : Int) = b.toNat := by have := u8n b; exact wrapI64 ⟨by omega, by omega⟩
theorem take_self (l : List UInt8) : List.take (Int.toNat (l.length : Int)) l = l := by rw [Int.toNat_natCast, List.take_length]
theorem parse_one (b : UInt8) (r : List UInt8) (acc : List TOption) (hb : b.toNat = 1) (hl : acc.length + r.length <= 1000) :
  (tcParse_step64_2 (b :: r, (acc, ()))).eval = some (.inl (r, (acc ++ [TOption.mk 1 []], ()))) := by
 unfold tcParse_step64_2
 have e : List.getD (b :: r) 0 0 = b := rfl
 refine ev_t (by simp) (ev_g (by (first | (simp; done) | (simp; omega) | omega)) (ev_t (by rw [e, hb]; rfl) (ev_g (by (first | (simp; done) | (simp; omega) | omega)) (ev_t (by rw [e, hb]; rfl) (ev_g (by (first | (simp; done) | (simp; omega) | omega)) (ev_g (by (first | (simp; done) | (simp; omega) | omega)) (ev_g (by simp) (ev_r ?_))))))))
 rw [take_self]; rfl
theorem parse_more (b c : UInt8) (d r : List UInt8) (acc : List TOption) (hb : 2 <= b.toNat) (hc : c.toNat = d.length + 2) (hl : acc.length + r.length + d.length <= 1000) :
  (tcParse_step64_2 (b :: c :: (d ++ r), (acc, ()))).eval = some (.inl (r, (acc ++ [TOption.mk b.toNat d], ()))) := by
 unfold tcParse_step64_2
 have e : List.getD (b :: c :: (d ++ r)) 0 0 = b := rfl
 have e1 : List.getD (b :: c :: (d ++ r)) 1 0 = c := rfl
 have h1 := u8n b; have h2 := u8n c
 have hlen : (b :: c :: (d ++ r)).length = d.length + r.length + 2 := by simp
 have t1 : List.take (Int.toNat (c.toNat : Int)) (b :: c :: (d ++ r)) = b :: c :: d := by
  rw [Int.toNat_natCast, hc]; simp
 have t2 : List.drop (Int.toNat (c.toNat : Int)) (b :: c :: (d ++ r)) = r := by
  rw [Int.toNat_natCast, hc]; simp
 simp only [e, e1, byte_i64, hlen]
 refine ev_t (by simp) (ev_g (by (first | (simp; done) | (simp; omega) | omega)) (ev_t (by (first | (simp; done) | (simp; omega) | omega)) (ev_g (by (first | (simp; done) | (simp; omega) | omega)) (ev_f (by (first | (simp; done) | (simp; omega) | omega)) (ev_f (by (first | (simp; done) | (simp; omega) | omega)) (ev_g (by (first | (simp; done) | (simp; omega) | omega)) (ev_f (by (first | (simp; done) | (simp; omega) | omega)) (ev_g (by (first | (simp; done) | (simp; omega) | omega)) (ev_f (by (first | (simp; done) | (simp; omega) | omega)) (ev_g (by (first | (simp; done) | (simp; omega) | omega)) (ev_g (by (first | (simp; done) | (simp; omega) | omega)) (ev_g (by (first | (simp; done) | (simp; omega) | omega)) (ev_g (by (first | (simp; done) | (simp; omega) | omega)) (ev_g (by (first | (simp; done) | (simp; omega) | omega)) (ev_g (by simp) (ev_r ?_))))))))))))))))
 rw [t1, show List.take (Int.toNat ((d.length + r.length + 2 : Nat) : Int)) (b :: c :: (d ++ r)) = b :: c :: (d ++ r) by rw [Int.toNat_natCast, <- hlen, List.take_length], t2]
 rfl
theorem parse_stop (s : List UInt8) (acc : List TOption) (h : s = [] \/ (s.getD 0 0).toNat = 0) : (tcParse_step64_2 (s, (acc, ()))).eval = some (.inr (.inr (s, (acc, ())))) := by
 unfold tcParse_step64_2
 match s, h with
 | [], _ => exact ev_f rfl (ev_g (by simp) (ev_r rfl))
 | b :: r, h =>
  have h : b.toNat = 0 := by
   rcases h with h | h
   . cases h
   . exact h
  have e : List.getD (b :: r) 0 0 = b := rfl
  exact ev_t (by simp) (ev_g (by (first | (simp; done) | (simp; omega) | omega)) (ev_f (by rw [e, h]; rfl) (ev_g (by simp) (ev_r rfl))))
abbrev pLoop := fun (n : Nat) (x : (List UInt8) × ((List TOption) × Unit)) => loopO 640002 (fun x => (tcParse_step64_2 x).eval) n x
theorem obs_cons (o : TOption) (l : List TOption) : obs (o :: l) = ob o ++ obs l := rfl
theorem parse_ex : ∀ (k : Nat) (s : List UInt8) (acc : List TOption) (n : Nat), s.length <= k -> acc.length + s.length <= 1000 -> k < n ->
  pLoop n (s, (acc, ())) = some (.inl (false, ())) \/ ∃ l rest, s = obs l ++ rest /\ (∀ o ∈ l, okR o) /\ pLoop n (s, (acc, ())) = some (.inr (rest, (acc ++ l, ())))
 | k, s, acc, n, hk, ha, hn => by
  obtain ⟨n, rfl⟩ : ∃ m, n = m + 1 := ⟨n - 1, by omega⟩
  by_cases h0 : s = [] \/ (s.getD 0 0).toNat = 0
  . right; exact ⟨[], s, rfl, by simp, by rw [List.append_nil]; exact loopO_out (parse_stop s acc h0)⟩
  match s, h0 with
  | [], h0 => exact absurd (.inl rfl) h0
  | b :: r, h0 =>
  have hb : b.toNat ≠ 0 := fun e => h0 (.inr e)
  have h1 := u8n b
  simp only [List.length_cons] at hk ha
  obtain ⟨k, rfl⟩ : ∃ m, k = m + 1 := ⟨k - 1, by omega⟩
  by_cases hb1 : b.toNat = 1
  . have st := parse_one b r acc hb1 (by omega)
    have hob : ob (TOption.mk 1 []) = [b] := by
      unfold ob; rw [if_neg (by decide)]
      congr 1; apply UInt8.toNat_inj.1; rw [hb1]; rfl
    rcases parse_ex k r (acc ++ [TOption.mk 1 []]) n (by omega) (by (first | (simp; done) | (simp; omega) | omega)) (by omega) with e | ⟨l, rest, e1, e2, e3⟩
    . left; show loopO _ _ _ _ = _; rw [loopO_in st]; exact e
    . right
      refine ⟨TOption.mk 1 [] :: l, rest, by rw [obs_cons, hob, e1]; rfl, fun o ho => ?_, ?_⟩
      . rcases List.mem_cons.1 ho with rfl | ho
        . exact ⟨by decide, by decide, by decide, fun _ => rfl⟩
        . exact e2 o ho
      . show loopO _ _ _ _ = _; rw [loopO_in st]
        rw [show acc ++ TOption.mk 1 [] :: l = acc ++ [TOption.mk 1 []] ++ l by simp]; exact e3
  have e : List.getD (b :: r) 0 0 = b := rfl
  match r, hk, ha with
  | [], hk, ha =>
    left; refine loopO_out ?_
    unfold tcParse_step64_2
    exact ev_t (by simp) (ev_g (by simp) (ev_t (by rw [e]; (first | (simp; done) | (simp; omega) | omega)) (ev_g (by simp) (ev_f (by rw [e]; (first | (simp; done) | (simp; omega) | omega)) (ev_t (by simp) (ev_r rfl))))))
  | c :: r, hk, ha =>
  have h2 := u8n c
  have e1 : List.getD (b :: c :: r) 1 0 = c := rfl
  have e0 : List.getD (b :: c :: r) 0 0 = b := rfl
  simp only [List.length_cons] at hk ha
  have hlen : ((b :: c :: r).length : Int) = r.length + 2 := by simp; omega
  by_cases hc : c.toNat < 2
  . left; refine loopO_out ?_
    unfold tcParse_step64_2
    exact ev_t (by simp) (ev_g (by rw [hlen]; (first | (simp; done) | (simp; omega) | omega)) (ev_t (by rw [e0]; (first | (simp; done) | (simp; omega) | omega)) (ev_g (by rw [hlen]; (first | (simp; done) | (simp; omega) | omega)) (ev_f (by rw [e0]; (first | (simp; done) | (simp; omega) | omega)) (ev_f (by rw [hlen]; (first | (simp; done) | (simp; omega) | omega)) (ev_g (by rw [hlen]; (first | (simp; done) | (simp; omega) | omega)) (ev_t (by rw [e1]; (first | (simp; done) | (simp; omega) | omega)) (ev_r rfl))))))))
  by_cases hc2 : r.length + 2 < c.toNat
  . left; refine loopO_out ?_
    unfold tcParse_step64_2
    exact ev_t (by simp) (ev_g (by rw [hlen]; (first | (simp; done) | (simp; omega) | omega)) (ev_t (by rw [e0]; (first | (simp; done) | (simp; omega) | omega)) (ev_g (by rw [hlen]; (first | (simp; done) | (simp; omega) | omega)) (ev_f (by rw [e0]; (first | (simp; done) | (simp; omega) | omega)) (ev_f (by rw [hlen]; (first | (simp; done) | (simp; omega) | omega)) (ev_g (by rw [hlen]; (first | (simp; done) | (simp; omega) | omega)) (ev_f (by rw [e1]; (first | (simp; done) | (simp; omega) | omega)) (ev_g (by rw [hlen]; (first | (simp; done) | (simp; omega) | omega)) (ev_t (by rw [e1, byte_i64, hlen]; (first | (simp; done) | (simp; omega) | omega)) (ev_r rfl))))))))))
  have hr : r = r.take (c.toNat - 2) ++ r.drop (c.toNat - 2) := (List.take_append_drop _ _).symm
  have hd : (r.take (c.toNat - 2)).length = c.toNat - 2 := by rw [List.length_take]; omega
  have hq : (r.drop (c.toNat - 2)).length = r.length - (c.toNat - 2) := by rw [List.length_drop]
  have st := parse_more b c (r.take (c.toNat - 2)) (r.drop (c.toNat - 2)) acc (by omega) (by omega) (by omega)
  rw [<- hr] at st
  have hob : ob (TOption.mk b.toNat (r.take (c.toNat - 2))) = b :: c :: r.take (c.toNat - 2) := by
    unfold ob; rw [if_pos (by show (1 : Int) < (b.toNat : Int); omega)]
    show byteOf (b.toNat : Int) :: byteOf (((r.take (c.toNat - 2)).length : Int) + 2) :: _ = _
    rw [byteOf_self, hd, show (((c.toNat - 2 : Nat) : Int) + 2) = (c.toNat : Int) by omega, byteOf_self]
  rcases parse_ex k (r.drop (c.toNat - 2)) (acc ++ [TOption.mk b.toNat (r.take (c.toNat - 2))]) n (by omega) (by (first | (simp; done) | (simp; omega) | omega)) (by omega) with e | ⟨l, rest, e1, e2, e3⟩
  . left; show loopO _ _ _ _ = _; rw [loopO_in st]; exact e
  . right
    refine ⟨TOption.mk b.toNat (r.take (c.toNat - 2)) :: l, rest, ?_, fun o ho => ?_, ?_⟩
    . rw [obs_cons, hob]
      show b :: c :: r = b :: c :: r.take (c.toNat - 2) ++ obs l ++ rest
      rw [List.append_assoc, <- e1]
      simp
    . rcases List.mem_cons.1 ho with rfl | ho
      . refine ⟨by show (1 : Int) <= (b.toNat : Int); omega, by show (b.toNat : Int) <= 255; omega, by show (r.take _).length <= 253; omega, fun e => ?_⟩
        have : (b.toNat : Int) = 1 := e
        omega
      . exact e2 o ho
    . show loopO _ _ _ _ = _; rw [loopO_in st]
      rw [show acc ++ TOption.mk b.toNat (r.take (c.toNat - 2)) :: l = acc ++ [TOption.mk b.toNat (r.take (c.toNat - 2))] ++ l by simp]; exact e3
theorem zeros_loop (s : List UInt8) (acc : List TOption) (hs : s.length <= 1000) :
   loopO 640010 (fun x => (tcParse_step64_10 x).eval) 18446744073709551616 (((0 : Nat) : Int), (s, ((s.length : Int), (acc, ())))) = some (match hit (fun b : UInt8 => decide (b.toNat ≠ 0)) s with | some _ => Sum.inl (false, ()) | none => Sum.inr (acc, ())) := by
 refine loop_hit (T := UInt8) (l := s) (fun i => (((i : Nat) : Int), (s, ((s.length : Int), (acc, ()))))) (fun b : UInt8 => decide (b.toNat ≠ 0)) (fun q => match q with | some _ => Sum.inl (false, ()) | none => Sum.inr (acc, ())) (fun i x hx => ?_) ?_ 18446744073709551616 (by omega)
 . have hi := (List.getElem?_eq_some_iff.1 hx).1
   have e : List.getD s (Int.toNat (i : Int)) 0 = x := by rw [Int.toNat_natCast, List.getD_eq_getElem?_getD, hx]; rfl
   show (tcParse_step64_10 _).eval = _
   unfold tcParse_step64_10
   rcases Bool.eq_false_or_eq_true (decide (x.toNat ≠ 0)) with h | h
   . rw [h]
     have h : x.toNat ≠ 0 := by simpa using h
     exact ev_t (by (first | (simp; done) | (simp; omega) | omega)) (ev_g (by (first | (simp; done) | (simp; omega) | omega)) (ev_t (by rw [e]; (first | (simp; done) | (simp; omega) | omega)) (ev_r rfl)))
   . rw [h]
     have h : x.toNat = 0 := by simpa using h
     refine ev_t (by (first | (simp; done) | (simp; omega) | omega)) (ev_g (by (first | (simp; done) | (simp; omega) | omega)) (ev_f (by rw [e]; (first | (simp; done) | (simp; omega) | omega)) (ev_g (by simp) (ev_r ?_))))
     rw [next_i64 i (by omega)]
 . show (tcParse_step64_10 _).eval = _
   unfold tcParse_step64_10
   exact ev_f (by simp) (ev_g (by simp) (ev_r rfl))
theorem tcParse_ex (s : List UInt8) (hs : s.length <= 1000) : tcParse_fn (s, ()) = some ([], (false, ())) \/ ∃ l rest, s = obs l ++ rest /\ (∀ o ∈ l, okR o) /\ tcParse_fn (s, ()) = some (l, (true, ())) := by
 rcases parse_ex s.length s [] 18446744073709551616 (by omega) (by simpa using hs) (by omega) with e | ⟨l, rest, e1, e2, e3⟩
 . left; exact ev_g rfl (ev_opt e rfl)
 . have hr : rest.length <= 1000 := by have := congrArg List.length e1; simp at this; omega
   have z := zeros_loop rest l hr
   rw [List.nil_append] at e3
   cases hh : hit (fun b : UInt8 => decide (b.toNat ≠ 0)) rest with
   | some q =>
    rw [hh] at z
    left; exact ev_g rfl (ev_opt e3 (ev_g (by simp) (ev_opt z rfl)))
   | none =>
    rw [hh] at z
    right; exact ⟨l, rest, e1, e2, ev_g rfl (ev_opt e3 (ev_g (by simp) (ev_opt z rfl)))⟩
theorem tcN (b : UInt8) : IntKind.wrap IntKind.i64 (IntKind.wrap IntKind.i64 (Int.tdiv (IntKind.wrap IntKind.i64 (b.toNat : Int)) (16 : Int)) * (4 : Int)) = ((b.toNat / 16 * 4 : Nat) : Int) := by
 have := u8n b
 have e : Int.tdiv (b.toNat : Int) 16 = ((b.toNat / 16 : Nat) : Int) := by rw [Int.tdiv_eq_ediv_of_nonneg (by omega)]; omega
 have w1 : IntKind.wrap IntKind.i64 ((b.toNat / 16 : Nat) : Int) = ((b.toNat / 16 : Nat) : Int) := wrapI64 ⟨by omega, by omega⟩
 have w2 : IntKind.wrap IntKind.i64 (((b.toNat / 16 : Nat) : Int) * 4) = ((b.toNat / 16 : Nat) : Int) * 4 := wrapI64 ⟨by omega, by omega⟩
 rw [byte_i64, e, w1, w2]; omega
theorem tm16 (n : Nat) : Int.tmod (n : Int) (16 : Int) = ((n % 16 : Nat) : Int) := tmN n 16
def tn (s : List UInt8) : Nat := (s.getD 12 0).toNat / 16 * 4
def z9 (e : Int) : (Int × (Int × (Int × (Int × (Int × (Int × (Int × ((List TOption) × ((List UInt8) × (Int × Unit)))))))))) := g9 ⟨0, 0, 0, 0, 0, 0, 0, [], []⟩ (e, ())
abbrev sumR (s : List UInt8) (f t : Int) : Prop := ws (under f t 6 s.length ++ s) ≠ 0 /\ ws (under f t 6 s.length ++ s) % 65535 = 0
def gOf (s : List UInt8) (l : List TOption) : TSegment := ⟨wAt s 0, wAt s 2, lAt s 4, lAt s 8, ((s.getD 13 0).toNat : Int), wAt s 14, wAt s 18, l, s.drop (tn s)⟩
theorem tcRead_go (s : List UInt8) (f t : Int) (hf : U32 f) (ht : U32 t) (h20 : 20 <= s.length) (h1 : tn s <= s.length) (h2 : 20 <= tn s) (h3 : (s.getD 12 0).toNat % 16 = 0) (h4 : s.length - tn s <= 65455) (l : List TOption)
  (hp : tcParse_fn (List.drop 20 (List.take (tn s) s), ()) = some (l, (true, ()))) :
  (sumR s f t -> tcRead_fn (s, (f, (t, ()))) = some (g9 (gOf s l) (0, ()))) /\ (¬ sumR s f t -> tcRead_fn (s, (f, (t, ()))) = some (z9 5)) := by
 have hb := u8n (s.getD 12 0)
 have hn : tn s <= 60 := by unfold tn; omega
 have hsl : s.length <= 65515 := by omega
 have hlim : s.length <= Lim := by unfold Lim; omega
 have hr := right_fn (under f t 6 s.length ++ s) (by simp only [List.length_append, under_len]; unfold Lim; omega)
 have hsub : IntKind.wrap IntKind.i64 ((s.length : Int) - (tn s : Int)) = ((s.length - tn s : Nat) : Int) := by rw [wrapI64 ⟨by omega, by omega⟩]; omega
 have htm : Int.tmod ((s.getD 12 0).toNat : Int) 16 = 0 := by
  have := tmN (s.getD 12 0).toNat 16
  rw [h3] at this; exact this
 have go : tcRead_fn (s, (f, (t, ()))) = (if sumR s f t then some (g9 (gOf s l) (0, ())) else some (z9 5)) := by
  unfold tcRead_fn tcRead_tree
  simp only [tcN]
  refine ev_f (by (first | (simp; done) | (simp; omega) | omega)) (ev_g (by (first | (simp; done) | (simp; omega) | omega)) (ev_g rfl (ev_f (show decide ((s.length : Int) < (tn s : Int)) = false by (first | (simp; done) | (simp; omega) | omega)) (ev_f (show decide ((tn s : Int) < 20) = false by (first | (simp; done) | (simp; omega) | omega)) (ev_g (by (first | (simp; done) | (simp; omega) | omega)) (ev_g rfl (ev_f (by rw [htm]; rfl) (ev_f (show decide ((65455 : Int) < IntKind.wrap IntKind.i64 ((s.length : Int) - (tn s : Int))) = false by rw [hsub]; (first | (simp; done) | (simp; omega) | omega)) (ev_g (show decide ((0 : Int) <= 20 /\ (20 : Int) <= (tn s : Int) /\ (tn s : Int) <= (s.length : Int)) = true by (first | (simp; done) | (simp; omega) | omega)) (ev_opt hp (ev_f rfl (ev_opt (dgUnder_ok f t 6 _ hf ht (by decide)) (ev_g (decide_eq_true (by simp only [under_len]; omega)) (ev_opt hr ?_))))))))))))))
  by_cases hs : sumR s f t
  . rw [if_pos hs]
    have hd : decide (ws (under f t 6 s.length ++ s) ≠ 0 /\ ws (under f t 6 s.length ++ s) % 65535 = 0) = true := decide_eq_true hs
    refine ev_f (by simp only [hd]; rfl) (ev_opt (tcAt_ok s 0 (by omega) hlim) (ev_opt (tcAt_ok s 2 (by omega) hlim) (ev_opt (tcLongAt_ok s 4 (by omega) hlim) (ev_opt (tcLongAt_ok s 8 (by omega) hlim) (ev_g (by (first | (simp; done) | (simp; omega) | omega)) (ev_opt (tcAt_ok s 14 (by omega) hlim) (ev_opt (tcAt_ok s 18 (by omega) hlim) (ev_g (show decide ((0 : Int) <= (tn s : Int) /\ (tn s : Int) <= (s.length : Int) /\ (s.length : Int) <= (s.length : Int)) = true by (first | (simp; done) | (simp; omega) | omega)) (ev_r ?_)))))))))
    rw [byte_i64, take_self, Int.toNat_natCast]
    rfl
  . rw [if_neg hs]
    have hd : decide (ws (under f t 6 s.length ++ s) ≠ 0 /\ ws (under f t 6 s.length ++ s) % 65535 = 0) = false := decide_eq_false hs
    exact ev_t (by simp only [hd]; rfl) (ev_r rfl)
 exact ⟨fun h => by rw [go, if_pos h], fun h => by rw [go, if_neg h]⟩
theorem tcRead_ex (s : List UInt8) (f t : Int) (hf : U32 f) (ht : U32 t) (hl : s.length <= Lim) : (∃ e, e ≠ 0 /\ tcRead_fn (s, (f, (t, ()))) = some (z9 e)) \/
   ∃ l rest, 20 <= tn s /\ tn s <= 60 /\ tn s <= s.length /\ s.length - tn s <= 65455 /\ List.drop 20 (List.take (tn s) s) = obs l ++ rest /\ (∀ o ∈ l, okR o) /\ sumR s f t /\ tcRead_fn (s, (f, (t, ()))) = some (g9 (gOf s l) (0, ())) /\ (s.getD 12 0).toNat % 16 = 0 /\ tcParse_fn (List.drop 20 (List.take (tn s) s), ()) = some (l, (true, ())) := by
 have hb := u8n (s.getD 12 0)
 have hn : tn s <= 60 := by unfold tn; omega
 have htm := tmN (s.getD 12 0).toNat 16
 by_cases h20 : s.length < 20
 . left; exact ⟨3, by decide, ev_t (by (first | (simp; done) | (simp; omega) | omega)) (ev_r rfl)⟩
 by_cases h1 : s.length < tn s
 . left; refine ⟨3, by decide, ?_⟩
   unfold tcRead_fn tcRead_tree
   simp only [tcN]
   exact ev_f (by (first | (simp; done) | (simp; omega) | omega)) (ev_g (by (first | (simp; done) | (simp; omega) | omega)) (ev_g rfl (ev_t (show decide ((s.length : Int) < (tn s : Int)) = true by (first | (simp; done) | (simp; omega) | omega)) (ev_r rfl))))
 by_cases h2 : tn s < 20
 . left; refine ⟨4, by decide, ?_⟩
   unfold tcRead_fn tcRead_tree
   simp only [tcN]
   exact ev_f (by (first | (simp; done) | (simp; omega) | omega)) (ev_g (by (first | (simp; done) | (simp; omega) | omega)) (ev_g rfl (ev_f (show decide ((s.length : Int) < (tn s : Int)) = false by (first | (simp; done) | (simp; omega) | omega)) (ev_t (show decide ((tn s : Int) < 20) = true by (first | (simp; done) | (simp; omega) | omega)) (ev_r rfl)))))
 by_cases h3 : (s.getD 12 0).toNat % 16 = 0
 case neg =>
   left; refine ⟨4, by decide, ?_⟩
   unfold tcRead_fn tcRead_tree
   simp only [tcN]
   exact ev_f (by (first | (simp; done) | (simp; omega) | omega)) (ev_g (by (first | (simp; done) | (simp; omega) | omega)) (ev_g rfl (ev_f (show decide ((s.length : Int) < (tn s : Int)) = false by (first | (simp; done) | (simp; omega) | omega)) (ev_f (show decide ((tn s : Int) < 20) = false by (first | (simp; done) | (simp; omega) | omega)) (ev_g (by (first | (simp; done) | (simp; omega) | omega)) (ev_g rfl (ev_t (by rw [tm16, decide_eq_false (by omega)]; rfl) (ev_r rfl))))))))
 have htm : Int.tmod ((s.getD 12 0).toNat : Int) 16 = 0 := by rw [h3] at htm; exact htm
 have hsub : IntKind.wrap IntKind.i64 ((s.length : Int) - (tn s : Int)) = ((s.length - tn s : Nat) : Int) := by unfold Lim at hl; rw [wrapI64 ⟨by omega, by omega⟩]; omega
 by_cases h4 : 65455 < s.length - tn s
 . left; refine ⟨2, by decide, ?_⟩
   unfold tcRead_fn tcRead_tree
   simp only [tcN]
   exact ev_f (by (first | (simp; done) | (simp; omega) | omega)) (ev_g (by (first | (simp; done) | (simp; omega) | omega)) (ev_g rfl (ev_f (show decide ((s.length : Int) < (tn s : Int)) = false by (first | (simp; done) | (simp; omega) | omega)) (ev_f (show decide ((tn s : Int) < 20) = false by (first | (simp; done) | (simp; omega) | omega)) (ev_g (by (first | (simp; done) | (simp; omega) | omega)) (ev_g rfl (ev_f (by rw [htm]; rfl) (ev_t (show decide ((65455 : Int) < IntKind.wrap IntKind.i64 ((s.length : Int) - (tn s : Int))) = true by rw [hsub]; (first | (simp; done) | (simp; omega) | omega)) (ev_r rfl)))))))))
 rcases tcParse_ex (List.drop 20 (List.take (tn s) s)) (by simp <;> omega) with hp | ⟨l, rest, e1, e2, hp⟩
 . left; refine ⟨4, by decide, ?_⟩
   unfold tcRead_fn tcRead_tree
   simp only [tcN]
   exact ev_f (by (first | (simp; done) | (simp; omega) | omega)) (ev_g (by (first | (simp; done) | (simp; omega) | omega)) (ev_g rfl (ev_f (show decide ((s.length : Int) < (tn s : Int)) = false by (first | (simp; done) | (simp; omega) | omega)) (ev_f (show decide ((tn s : Int) < 20) = false by (first | (simp; done) | (simp; omega) | omega)) (ev_g (by (first | (simp; done) | (simp; omega) | omega)) (ev_g rfl (ev_f (by rw [htm]; rfl) (ev_f (show decide ((65455 : Int) < IntKind.wrap IntKind.i64 ((s.length : Int) - (tn s : Int))) = false by rw [hsub]; (first | (simp; done) | (simp; omega) | omega)) (ev_g (show decide ((0 : Int) <= 20 /\ (20 : Int) <= (tn s : Int) /\ (tn s : Int) <= (s.length : Int)) = true by (first | (simp; done) | (simp; omega) | omega)) (ev_opt hp (ev_t rfl (ev_r rfl))))))))))))
 . have h := tcRead_go s f t hf ht (by omega) (by omega) (by omega) h3 (by omega) l hp
   by_cases hs : sumR s f t
   . right; exact ⟨l, rest, by omega, by omega, by omega, by omega, e1, e2, hs, h.1 hs, h3, hp⟩
   . left; exact ⟨5, by decide, h.2 hs⟩
def setW (l : List UInt8) (i : Nat) (x : Int) : List UInt8 := (l.set i (byteOf (x / 256))).set (i + 1) (byteOf x)
@[simp] theorem setW_len (l : List UInt8) (i : Nat) (x : Int) : (setW l i x).length = l.length := by simp [setW]
theorem setW_app_left (g d : List UInt8) (i : Nat) (x : Int) (h : i + 1 < g.length) : setW (g ++ d) i x = setW g i x ++ d := by
 unfold setW
 rw [List.set_append_left _ _ (by omega), List.set_append_left _ _ (by simpa using h)]
theorem setW_app_right (g d : List UInt8) (i : Nat) (x : Int) : setW (g ++ d) (g.length + i) x = g ++ setW d i x := by
 unfold setW
 rw [List.set_append_right _ _ (by omega), List.set_append_right _ _ (by omega), show g.length + i - g.length = i by omega, show g.length + i + 1 - g.length = i + 1 by omega]
theorem wAt_take (l : List UInt8) (i n : Nat) (h : i + 1 < n) : wAt (l.take n) i = wAt l i := by
 unfold wAt
 simp only [List.getD_eq_getElem?_getD, List.getElem?_take]
 rw [if_pos (by omega), if_pos h]
theorem wAt_drop (l : List UInt8) (i n : Nat) : wAt (l.drop n) i = wAt l (n + i) := by
 unfold wAt
 simp only [List.getD_eq_getElem?_getD, List.getElem?_drop, Nat.add_assoc]
theorem swWord_ok (l : List UInt8) (i : Nat) (h : i + 1 < l.length) (hi : i <= 1000000) : swWord_fn (l, ((i : Int), ())) = some (wAt l i, ()) := by
 have e1 : IntKind.i64.wrap ((i : Int) + 1) = ((i + 1 : Nat) : Int) := by rw [wrap_mid _ (by omega)]; omega
 have g0 : l[i]? = some (l.getD i 0) := by rw [List.getD_eq_getElem?_getD, List.getElem?_eq_getElem (by omega)]; rfl
 have g1 : l[i + 1]? = some (l.getD (i + 1) 0) := by rw [List.getD_eq_getElem?_getD, List.getElem?_eq_getElem (by omega)]; rfl
 unfold swWord_fn swWord_tree
 simp only [e1, Int.toNat_natCast]
 refine ev_g (by simp) (ev_opt g0 (ev_g rfl (ev_g (by (first | (simp; done) | (simp; omega) | omega)) (ev_opt g1 (ev_r ?_)))))
 rw [or_u16]; rfl
theorem swPut_ok (n i : Nat) (x : Int) (l : List UInt8) (h : i + 1 < n) (hn : n <= l.length) (hi : i <= 1000000) : swPut_fn (n, ((i : Int), (x, (l, ())))) = some (setW l i x, ()) := by
 have e1 : IntKind.i64.wrap ((i : Int) + 1) = ((i + 1 : Nat) : Int) := by rw [wrap_mid _ (by omega)]; omega
 have w8 : ∀ x : Int, UInt8.ofNat (Int.toNat (IntKind.wrap IntKind.u8 x)) = byteOf x := fun x => by rw [wrap8u]; rfl
 unfold swPut_fn swPut_tree
 simp only [e1, Int.toNat_natCast, Nat.zero_add, fdiv8, w8]
 exact ev_g rfl (ev_g (by (first | (simp; done) | (simp; omega) | omega)) (ev_opt (List.getElem?_eq_getElem (by omega)) (ev_g (decide_eq_true (wr8 _)) (ev_g (by (first | (simp; done) | (simp; omega) | omega)) (ev_opt (List.getElem?_eq_getElem (by simp <;> omega)) (ev_g (decide_eq_true (wr8 _)) (ev_r rfl)))))))
def fixI (c o n : Int) : Int := 65535 - (ear ((65535 - c) + (65535 - o) + n).toNat : Int)
abbrev U16 (x : Int) : Prop := 0 <= x /\ x <= 65535
theorem fixI_ok {c o n : Int} (hc : U16 c) (ho : U16 o) (hn : U16 n) : sumFix_fn (c, (o, (n, ()))) = some (fixI c o n, ()) := by
 have h := fix_fn c.toNat o.toNat n.toNat (by unfold U16 at hc; omega) (by unfold U16 at ho; omega) (by unfold U16 at hn; omega)
 unfold U16 at hc ho hn
 rw [show ((c.toNat : Int)) = c by omega, show ((o.toNat : Int)) = o by omega, show ((n.toNat : Int)) = n by omega] at h
 rw [h]
 unfold fixI
 rw [show ((65535 - c) + (65535 - o) + n).toNat = 65535 - c.toNat + (65535 - o.toNat) + n.toNat by omega]
def chk (o x : Int) (l : List UInt8) (c : Nat) : List UInt8 := setW l c (fixI (wAt l c) o x)
theorem chk_len (o x : Int) (l : List UInt8) (c : Nat) : (chk o x l c).length = l.length := by simp [chk]
theorem change_loop (n : Nat) (o x : Int) (ho : U16 o) (hx : U16 x) (CS : List Nat) (hcs : ∀ c ∈ CS, c + 1 < n /\ c <= 1000000) (hCS : CS.length <= 1000) : ∀ (r : List Nat) (k m : Nat) (l : List UInt8), CS.drop k = r -> k <= CS.length -> n <= l.length -> r.length < m ->
  loopO 1250003 (fun x => (swChange_step125_3 x).eval) m ((k : Int), (x, (o, (n, (CS.map (fun c : Nat => (c : Int)), ((CS.length : Int), (l, ()))))))) = some (r.foldl (chk o x) l, ())
 | [], k, m, l, hk, hle, hn, hm => by
  obtain ⟨m, rfl⟩ : ∃ q, m = q + 1 := ⟨m - 1, by simp at hm; omega⟩
  have : k = CS.length := by have := congrArg List.length hk; simp at this; omega
  subst this
  refine loopO_out ?_
  unfold swChange_step125_3
  exact ev_f (by simp) (ev_r rfl)
 | c :: r, k, m, l, hk, hle, hn, hm => by
  obtain ⟨m, rfl⟩ : ∃ q, m = q + 1 := ⟨m - 1, by simp at hm; omega⟩
  have hx0 : CS[k]? = some c := by have := congrArg (·[0]?) hk; simpa using this
  have hk2 : CS.drop (k + 1) = r := by rw [<- List.drop_drop, hk]; rfl
  have hlt := (List.getElem?_eq_some_iff.1 hx0).1
  obtain ⟨hc1, hc2⟩ := hcs c (List.mem_of_getElem? hx0)
  have hw : wAt (l.take n) c = wAt l c := wAt_take l c n hc1
  have st : (swChange_step125_3 ((k : Int), (x, (o, (n, (CS.map (fun c : Nat => (c : Int)), ((CS.length : Int), (l, ())))))))).eval = some (.inl (((k + 1 : Nat) : Int), (x, (o, (n, (CS.map (fun c : Nat => (c : Int)), ((CS.length : Int), (chk o x l c, ())))))))) := by
   unfold swChange_step125_3
   refine ev_t (by (first | (simp; done) | (simp; omega) | omega)) (ev_g (by simp) (ev_opt (b := (c : Int)) (by rw [Int.toNat_natCast, List.getElem?_map, hx0]; rfl) (ev_opt (swWord_ok (l.take n) c (by simp <;> omega) hc2) ?_)))
   rw [hw]
   refine ev_opt (fixI_ok (wAt_bound l c) ho hx) (ev_opt (swPut_ok n c _ l hc1 hn hc2) (ev_r ?_))
   rw [next_i64 k (by omega)]; rfl
  rw [loopO_in st, change_loop n o x ho hx CS hcs hCS r (k + 1) m (chk o x l c) hk2 (by omega) (by rw [chk_len]; exact hn) (by simp at hm; omega)]
  rfl
theorem change_ok (n i : Nat) (x : Int) (hx : U16 x) (CS : List Nat) (hcs : ∀ c ∈ CS, c + 1 < n /\ c <= 1000000) (hCS : CS.length <= 1000) (l : List UInt8) (hi : i + 1 < n) (hi2 : i <= 1000000) (hn : n <= l.length) :
  swChange_fn (n, ((i : Int), (x, (CS.map (fun c : Nat => (c : Int)), (l, ()))))) = some (CS.foldl (chk (wAt l i) x) (setW l i x), ()) := by
 have hw : wAt (l.take n) i = wAt l i := wAt_take l i n hi
 have hl := change_loop n (wAt l i) x (wAt_bound l i) hx CS hcs hCS CS 0 18446744073709551616 (setW l i x) rfl (by omega) (by simpa using hn) (by omega)
 unfold swChange_fn swChange_tree
 refine ev_opt (swWord_ok (l.take n) i (by simp <;> omega) hi2) (ev_opt (swPut_ok n i x l hi hn hi2) ?_)
 rw [hw, List.length_map]
 exact ev_opt (show swChange_loop125_3 _ = _ from hl) (ev_r rfl)
structure TcOk (d : List UInt8) (f t : Int) : Prop where
 n20 : 20 <= tn d
 nle : tn d <= d.length
 most : d.length - tn d <= 65455
 low : (d.getD 12 0).toNat % 16 = 0
 opts : ∃ l, tcParse_fn (List.drop 20 (List.take (tn d) d), ()) = some (l, (true, ()))
 sum : sumR d f t
theorem tc_ok {d : List UInt8} {f t : Int} (hf : U32 f) (ht : U32 t) (h : TcOk d f t) : ∃ l, tcRead_fn (d, (f, (t, ()))) = some (g9 (gOf d l) (0, ())) := by
 obtain ⟨h1, h2, h3, h4, ⟨l, hp⟩, h6⟩ := h
 exact ⟨l, (tcRead_go d f t hf ht (by omega) h2 h1 h4 h3 l hp).1 h6⟩
theorem tc_bad {d : List UInt8} {f t : Int} (hf : U32 f) (ht : U32 t) (hl : d.length <= Lim) (h : ¬ TcOk d f t) : ∃ e, e ≠ 0 /\ tcRead_fn (d, (f, (t, ()))) = some (z9 e) := by
 rcases tcRead_ex d f t hf ht hl with h1 | ⟨l, rest, h1, h2, h3, h4, h5, h6, h7, h8, h9, h10⟩
 . exact h1
 . exact absurd ⟨h1, h3, h4, h9, ⟨l, h10⟩, h7⟩ h
structure DgOk (d : List UInt8) (f t : Int) : Prop where
 n8 : 8 <= wAt d 4
 nle : wAt d 4 <= d.length
 most : wAt d 4 <= 65515
 sum : wAt d 6 ≠ 0 -> ws (under f t 17 (wAt d 4) ++ d.take (wAt d 4).toNat) ≠ 0 /\ ws (under f t 17 (wAt d 4) ++ d.take (wAt d 4).toNat) % 65535 = 0
theorem dg_ok {d : List UInt8} {f t : Int} (hf : U32 f) (ht : U32 t) (hl : d.length <= Lim) (h : DgOk d f t) : dgRead_fn (d, (f, (t, ()))) = some (wAt d 0, (wAt d 2, ((d.take (wAt d 4).toNat).drop 8, (0, ())))) := by
 obtain ⟨h1, h2, h3, h4⟩ := h
 have e : rd d f t = (wAt d 0, wAt d 2, (d.take (wAt d 4).toNat).drop 8, 0) := by
  unfold rd
  rw [if_neg (by omega), if_neg (by omega), if_neg (by omega), if_neg (by omega), if_neg (fun h => h.2 (h4 h.1))]
 rw [dgRead_ok d f t hl hf ht, e]
theorem dg_bad {d : List UInt8} {f t : Int} (hf : U32 f) (ht : U32 t) (hl : d.length <= Lim) (h : ¬ DgOk d f t) : ∃ e : Int, e ≠ 0 /\ dgRead_fn (d, (f, (t, ()))) = some (0, (0, ([], (e, ())))) := by
 rw [dgRead_ok d f t hl hf ht]
 unfold rd
 have b4 := wAt_bound d 4
 by_cases h0 : d.length < 8
 . rw [if_pos h0]; exact ⟨3, by decide, rfl⟩
 rw [if_neg h0]
 by_cases h1 : (d.length : Int) < wAt d 4
 . rw [if_pos h1]; exact ⟨3, by decide, rfl⟩
 rw [if_neg h1]
 by_cases h2 : wAt d 4 < 8
 . rw [if_pos h2]; exact ⟨4, by decide, rfl⟩
 rw [if_neg h2]
 by_cases h3 : 65515 < wAt d 4
 . rw [if_pos h3]; exact ⟨4, by decide, rfl⟩
 rw [if_neg h3]
 split
 . exact ⟨5, by decide, rfl⟩
 . rename_i hn
   refine absurd ⟨by omega, by omega, by omega, fun h6 => ?_⟩ h
   exact Classical.byContradiction fun hx => hn ⟨h6, hx⟩

structure EndOk (s : List UInt8) : Prop where
 ip : IpOk s
 proto : (s.getD 9 0).toNat = 6 \/ (s.getD 9 0).toNat = 17
 whole : (pk s).more = false /\ (pk s).start = 0
 tcp : (s.getD 9 0).toNat = 6 -> TcOk (pk s).data (pk s).from' (pk s).to
 udp : (s.getD 9 0).toNat = 17 -> DgOk (pk s).data (pk s).from' (pk s).to
theorem pk_u32 (s : List UInt8) : U32 (pk s).from' /\ U32 (pk s).to := ⟨lAt_bound s 12, lAt_bound s 16⟩
theorem ends_ok {s : List UInt8} (h : EndOk s) (hl : s.length <= Lim) : swEnds_fn (s, ()) = some ((pk s).from', ((pk s).to, (((s.getD 9 0).toNat : Int), (wAt (pk s).data 0, (wAt (pk s).data 2, ((0 : Int), ())))))) := by
 obtain ⟨h1, h2, ⟨h3, h3'⟩, h4, h5⟩ := h
 obtain ⟨u1, u2⟩ := pk_u32 s
 have hd : (pk s).data.length <= Lim := by show ((s.take (alln s)).drop (hn s)).length <= _; simp; omega
 refine ev_opt (ipRead_ok h1 hl) (ev_f rfl ?_)
 rcases h2 with h2 | h2
 . obtain ⟨l, ht⟩ := tc_ok u1 u2 (h4 h2)
   have e : (pk s).proto = 6 := by show ((s.getD 9 0).toNat : Int) = 6; omega
   have e' : ((s.getD 9 0).toNat : Int) = 6 := by omega
   refine ev_f (show (!decide ((pk s).proto = 6)) = false by rw [e]; rfl) (ev_f h3 (ev_f (show (!decide ((pk s).start = 0)) = false by rw [h3']; rfl) (ev_t (show decide ((pk s).proto = 6) = true by rw [e]; rfl) (ev_opt ht (ev_f rfl (ev_r rfl))))))
 . have ht := dg_ok u1 u2 hd (h5 h2)
   have e : (pk s).proto = 17 := by show ((s.getD 9 0).toNat : Int) = 17; omega
   refine ev_t (show (!decide ((pk s).proto = 6)) = true by rw [e]; rfl) (ev_f (show (!decide ((pk s).proto = 17)) = false by rw [e]; rfl) (ev_f h3 (ev_f (show (!decide ((pk s).start = 0)) = false by rw [h3']; rfl) (ev_f (show decide ((pk s).proto = 6) = false by rw [e]; rfl) (ev_opt ht (ev_f rfl (ev_r rfl)))))))
theorem ends_bad {s : List UInt8} (h : ¬ EndOk s) (hl : s.length <= Lim) : ∃ e : Int, e ≠ 0 /\ swEnds_fn (s, ()) = some ((0 : Int), ((0 : Int), ((0 : Int), ((0 : Int), ((0 : Int), (e, ())))))) := by
 obtain ⟨u1, u2⟩ := pk_u32 s
 have hd : (pk s).data.length <= Lim := by show ((s.take (alln s)).drop (hn s)).length <= _; simp; omega
 by_cases h1 : IpOk s
 case neg =>
   obtain ⟨e, ⟨he, _⟩, hr⟩ := ipRead_bad h1 hl
   exact ⟨e, he, ev_opt hr (ev_t (show (!decide (e = 0)) = true by rw [decide_eq_false he]; rfl) (ev_r rfl))⟩
 have hr := ipRead_ok h1 hl
 by_cases hm : (pk s).more = true
 . by_cases e6 : (pk s).proto = 6
   . exact ⟨9, by decide, ev_opt hr (ev_f rfl (ev_f (show (!decide ((pk s).proto = 6)) = false by rw [e6]; rfl) (ev_t hm (ev_r rfl))))⟩
   by_cases e17 : (pk s).proto = 17
   . exact ⟨9, by decide, ev_opt hr (ev_f rfl (ev_t (show (!decide ((pk s).proto = 6)) = true by rw [decide_eq_false e6]; rfl) (ev_f (show (!decide ((pk s).proto = 17)) = false by rw [e17]; rfl) (ev_t hm (ev_r rfl)))))⟩
   . exact ⟨7, by decide, ev_opt hr (ev_f rfl (ev_t (show (!decide ((pk s).proto = 6)) = true by rw [decide_eq_false e6]; rfl) (ev_t (show (!decide ((pk s).proto = 17)) = true by rw [decide_eq_false e17]; rfl) (ev_r rfl))))⟩
 have hm : (pk s).more = false := by cases hx : (pk s).more with | true => exact absurd hx hm | false => rfl
 by_cases hs : (pk s).start = 0
 case neg =>
   have hs' : (!decide ((pk s).start = 0)) = true := by rw [decide_eq_false hs]; rfl
   by_cases e6 : (pk s).proto = 6
   . exact ⟨9, by decide, ev_opt hr (ev_f rfl (ev_f (show (!decide ((pk s).proto = 6)) = false by rw [e6]; rfl) (ev_f hm (ev_t hs' (ev_r rfl)))))⟩
   by_cases e17 : (pk s).proto = 17
   . exact ⟨9, by decide, ev_opt hr (ev_f rfl (ev_t (show (!decide ((pk s).proto = 6)) = true by rw [decide_eq_false e6]; rfl) (ev_f (show (!decide ((pk s).proto = 17)) = false by rw [e17]; rfl) (ev_f hm (ev_t hs' (ev_r rfl))))))⟩
   . exact ⟨7, by decide, ev_opt hr (ev_f rfl (ev_t (show (!decide ((pk s).proto = 6)) = true by rw [decide_eq_false e6]; rfl) (ev_t (show (!decide ((pk s).proto = 17)) = true by rw [decide_eq_false e17]; rfl) (ev_r rfl))))⟩
 have hs' : (!decide ((pk s).start = 0)) = false := by rw [hs]; rfl
 by_cases e6 : (pk s).proto = 6
 . have e9 : (s.getD 9 0).toNat = 6 := by have : ((s.getD 9 0).toNat : Int) = 6 := e6; omega
   have hn : ¬ TcOk (pk s).data (pk s).from' (pk s).to := fun hx => h ⟨h1, .inl e9, ⟨hm, hs⟩, fun _ => hx, fun e => by omega⟩
   obtain ⟨e, he, ht⟩ := tc_bad u1 u2 hd hn
   exact ⟨e, he, ev_opt hr (ev_f rfl (ev_f (show (!decide ((pk s).proto = 6)) = false by rw [e6]; rfl) (ev_f hm (ev_f hs' (ev_t (show decide ((pk s).proto = 6) = true by rw [e6]; rfl) (ev_opt ht (ev_t (show (!decide (e = 0)) = true by rw [decide_eq_false he]; rfl) (ev_r rfl))))))))⟩
 by_cases e17 : (pk s).proto = 17
 . have e9 : (s.getD 9 0).toNat = 17 := by have : ((s.getD 9 0).toNat : Int) = 17 := e17; omega
   have hn : ¬ DgOk (pk s).data (pk s).from' (pk s).to := fun hx => h ⟨h1, .inr e9, ⟨hm, hs⟩, fun e => by omega, fun _ => hx⟩
   obtain ⟨e, he, ht⟩ := dg_bad u1 u2 hd hn
   exact ⟨e, he, ev_opt hr (ev_f rfl (ev_t (show (!decide ((pk s).proto = 6)) = true by rw [decide_eq_false e6]; rfl) (ev_f (show (!decide ((pk s).proto = 17)) = false by rw [e17]; rfl) (ev_f hm (ev_f hs' (ev_f (show decide ((pk s).proto = 6) = false by rw [decide_eq_false e6]) (ev_opt ht (ev_t (show (!decide (e = 0)) = true by rw [decide_eq_false he]; rfl) (ev_r rfl)))))))))⟩
 . exact ⟨7, by decide, ev_opt hr (ev_f rfl (ev_t (show (!decide ((pk s).proto = 6)) = true by rw [decide_eq_false e6]; rfl) (ev_t (show (!decide ((pk s).proto = 17)) = true by rw [decide_eq_false e17]; rfl) (ev_r rfl))))⟩
def gch (g : List UInt8) (i : Nat) (x : Int) : List UInt8 := chk (wAt g i) x (setW g i x) 10
theorem gch_len (g : List UInt8) (i : Nat) (x : Int) : (gch g i x).length = g.length := by simp [gch, chk_len]
theorem chk_left (o x : Int) (g d : List UInt8) (c : Nat) (h : c + 1 < g.length) : chk o x (g ++ d) c = chk o x g c ++ d := by
 unfold chk
 rw [wAt_app_left _ _ _ h, setW_app_left _ _ _ _ h]
theorem chk_right (o x : Int) (g d : List UInt8) (c : Nat) : chk o x (g ++ d) (g.length + c) = g ++ chk o x d c := by
 unfold chk
 rw [setW_app_right, wAt_app_right _ _ _ (by omega), show g.length + c - g.length = c by omega]
section
variable {g d z : List UInt8} {i c off : Nat} {x : Int}
theorem ch_two (hx : U16 x) (hi : i + 1 < g.length) (h10 : 11 < g.length) (hc : c + 1 < d.length) (hs : g.length + d.length <= 100000) :
  swChange_fn (g.length + d.length, ((i : Int), (x, ([(10 : Int), ((g.length + c : Nat) : Int)], (g ++ (d ++ z), ()))))) = some (gch g i x ++ (chk (wAt g i) x d c ++ z), ()) := by
 have h := change_ok (g.length + d.length) i x hx [10, g.length + c] (by intro q hq; simp at hq; omega) (by simp) (g ++ (d ++ z)) (by omega) (by omega) (by (first | (simp; done) | (simp; omega) | omega))
 refine (show _ = _ from h).trans ?_
 rw [wAt_app_left _ _ _ hi, setW_app_left _ _ _ _ hi]
 simp only [List.foldl_cons, List.foldl_nil]
 rw [chk_left _ _ _ _ _ (by simp <;> omega)]
 have e : g.length + c = (chk (wAt g i) x (setW g i x) 10).length + c := by simp [chk_len]
 rw [e, chk_right, chk_left _ _ _ _ _ (by omega)]
 rfl
theorem ch_one (n : Nat) (hn : n = g.length + d.length) (hx : U16 x) (hi : i + 1 < g.length) (h10 : 11 < g.length) (hs : g.length + d.length <= 100000) :
  swChange_fn (n, ((i : Int), (x, ([(10 : Int)], (g ++ (d ++ z), ()))))) = some (gch g i x ++ (d ++ z), ()) := by
 subst hn
 have h := change_ok (g.length + d.length) i x hx [10] (by intro q hq; simp at hq; omega) (by simp) (g ++ (d ++ z)) (by omega) (by omega) (by (first | (simp; done) | (simp; omega) | omega))
 refine (show _ = _ from h).trans ?_
 rw [wAt_app_left _ _ _ hi, setW_app_left _ _ _ _ hi]
 simp only [List.foldl_cons, List.foldl_nil]
 rw [chk_left _ _ _ _ _ (by simp <;> omega)]
 rfl
theorem ch_port (hx : U16 x) (ho : off + 1 < d.length) (hc : c + 1 < d.length) (hs : g.length + d.length <= 100000) :
  swChange_fn (g.length + d.length, (((g.length + off : Nat) : Int), (x, ([((g.length + c : Nat) : Int)], (g ++ (d ++ z), ()))))) = some (g ++ (chk (wAt d off) x (setW d off x) c ++ z), ()) := by
 have h := change_ok (g.length + d.length) (g.length + off) x hx [g.length + c] (by intro q hq; simp at hq; omega) (by simp) (g ++ (d ++ z)) (by omega) (by omega) (by (first | (simp; done) | (simp; omega) | omega))
 refine (show _ = _ from h).trans ?_
 rw [wAt_app_right _ _ _ (by omega), setW_app_right, setW_app_left _ _ _ _ ho, show g.length + off - g.length = off by omega, wAt_app_left _ _ _ ho]
 simp only [List.foldl_cons, List.foldl_nil]
 rw [chk_right, chk_left _ _ _ _ _ (by simp <;> omega)]
theorem ch_last (hx : U16 x) (ho : off + 1 < d.length) (hs : g.length + d.length <= 100000) :
  swChange_fn (g.length + d.length, (((g.length + off : Nat) : Int), (x, ([], (g ++ (d ++ z), ()))))) = some (g ++ (setW d off x ++ z), ()) := by
 have h := change_ok (g.length + d.length) (g.length + off) x hx [] (by intro q hq; simp at hq) (by simp) (g ++ (d ++ z)) (by omega) (by omega) (by (first | (simp; done) | (simp; omega) | omega))
 refine (show _ = _ from h).trans ?_
 rw [setW_app_right, setW_app_left _ _ _ _ ho]
 rfl
end

def dNew (udp : Bool) (g d : List UInt8) (a p : Int) (i off c : Nat) : List UInt8 :=
 if udp = true /\ wAt d c = 0 then setW d off p else
 let d2 := chk (wAt (gch g i (a / 65536)) (i + 2)) (a % 65536) (chk (wAt g i) (a / 65536) d c) c
 let d3 := chk (wAt d2 off) p (setW d2 off p) c
 if udp = true /\ wAt d3 c = 0 then setW d3 c 65535 else d3
def gNew (g : List UInt8) (a : Int) (i : Nat) : List UInt8 := gch (gch g i (a / 65536)) (i + 2) (a % 65536)
theorem gNew_len (g : List UInt8) (a : Int) (i : Nat) : (gNew g a i).length = g.length := by simp [gNew, gch_len]
def udpB (s : List UInt8) : Bool := decide ((s.getD 9 0).toNat = 17)
def cOf (s : List UInt8) : Nat := if (s.getD 9 0).toNat = 17 then 6 else 16
def swp (s : List UInt8) (a p : Int) (i off : Nat) : List UInt8 := gNew (s.take (hn s)) a i ++ dNew (udpB s) (s.take (hn s)) (pk s).data a p i off (cOf s)

theorem end_len {s : List UInt8} (h : EndOk s) : (pk s).data.length = alln s - hn s /\ (s.take (hn s)).length = hn s /\ cOf s + 1 < (pk s).data.length /\ 4 <= (pk s).data.length /\ hn s + (pk s).data.length = alln s /\ alln s <= 65535 /\ 20 <= hn s := by
 have h1 := h.ip.hall; have h2 := h.ip.all; have h3 := h.ip.head; have h4 := h.ip.h20
 have b2 := wAt_bound s 2
 have e : (pk s).data.length = alln s - hn s := by show ((s.take (alln s)).drop (hn s)).length = _; simp; omega
 have hc : cOf s + 1 < (pk s).data.length /\ 4 <= (pk s).data.length := by
  unfold cOf
  rcases h.proto with hp | hp
  . have := h.tcp hp
    have := this.n20; have := (h.tcp hp).nle
    rw [if_neg (by omega)]; omega
  . have := h.udp hp
    have := this.n8; have := (h.udp hp).nle
    rw [if_pos hp]; omega
 exact ⟨e, by rw [List.length_take]; omega, hc.1, hc.2, by omega, by unfold alln; omega, h4⟩
theorem u16w (x : Int) : IntKind.wrap IntKind.u16 x = x % 65536 := wrap16u x
theorem swapped_ok {s : List UInt8} (h : EndOk s) (hl : s.length <= Lim) {a p : Int} {i off : Nat} (ha : U32 a) (hp : U16 p) (hi : i = 12 \/ i = 16) (ho : off = 0 \/ off = 2) :
   swSwapped_fn (s, (a, (p, ((i : Int), ((off : Int), ()))))) = some (swp s a p i off, ((0 : Int), ())) := by
 obtain ⟨l1, l2, l3, l4, l5, l6, l7⟩ := end_len h
 have h1 := h.ip.hall; have h2 := h.ip.all; have h3 := h.ip.head
 have b2 := wAt_bound s 2
 have hA : Int.toNat (wAt s 2) = alln s := rfl
 have hs0 : s = s.take (hn s) ++ ((pk s).data ++ s.drop (alln s)) := by
   show s = s.take (hn s) ++ ((s.take (alln s)).drop (hn s) ++ s.drop (alln s))
   have e1 : s.take (hn s) = (s.take (alln s)).take (hn s) := by rw [List.take_take, Nat.min_eq_left h1]
   rw [<- List.append_assoc, e1, List.take_append_drop, List.take_append_drop]
 have g0 : s[0]? = some (s.getD 0 0) := by rw [List.getD_eq_getElem?_getD, List.getElem?_eq_getElem (by omega)]; rfl
 have hck : wAt (s.take (alln s)) (hn s + cOf s) = wAt (pk s).data (cOf s) := by
   show _ = wAt ((s.take (alln s)).drop (hn s)) (cOf s)
   rw [wAt_drop]
 have hpl : (pk s).proto = ((s.getD 9 0).toNat : Int) := rfl
 have w1 : IntKind.wrap IntKind.u16 (Int.fdiv a ((2 : Int) ^ (16 : Nat))) = a / 65536 := by rw [fdiv16, u16w]; unfold U32 at ha; omega
 have w2 : IntKind.wrap IntKind.u16 a = a % 65536 := u16w a
 have w3 : IntKind.wrap IntKind.u16 p = p := by rw [u16w]; unfold U16 at hp; omega
 have w4 : IntKind.wrap IntKind.i64 ((i : Int) + 2) = ((i + 2 : Nat) : Int) := by rw [wrap_mid _ (by omega)]; omega
 have w5 : IntKind.wrap IntKind.i64 ((hn s : Int) + (off : Int)) = ((hn s + off : Nat) : Int) := by rw [wrap_mid _ (by omega)]; omega
 have u1 : U16 (a / 65536) := by unfold U32 at ha; unfold U16; omega
 have u2 : U16 (a % 65536) := by unfold U16; omega
 have hnb : ((s.getD 0 0).toNat % 16 * 4 : Nat) = hn s := rfl
 unfold swSwapped_fn swSwapped_tree
 refine ev_opt (ends_ok h hl) (ev_f rfl (ev_f (show decide (p < 0) = false by unfold U16 at hp; (first | (simp; done) | (simp; omega) | omega)) (ev_f (show decide ((65535 : Int) < p) = false by unfold U16 at hp; (first | (simp; done) | (simp; omega) | omega)) (ev_g (by unfold Lim at hl; (first | (simp; done) | (simp; omega) | omega)) (ev_opt (swWord_ok s 2 (by have := h.ip.len; omega) (by omega)) (ev_g (by show decide ((0 : Int) <= wAt s 2 /\ wAt s 2 <= (s.length : Int)) = true; unfold alln at h2; (first | (simp; done) | (simp; omega) | omega)) (ev_g (show decide ((0 : Int) <= 0 /\ (0 : Int) < ((alln s : Nat) : Int)) = true by (first | (simp; done) | (simp; omega) | omega)) (ev_opt g0 ?_))))))))
 simp only [hA, hnN, hnb, w1, w2, w3, w4, w5]
 generalize hg : s.take (hn s) = g at *
 generalize hd : (pk s).data = d at *
 generalize hz : s.drop (alln s) = z at *
 have fin : ∀ (q r : List UInt8), q.length = g.length -> r.length = d.length -> List.take (alln s) (q ++ (r ++ z)) = q ++ r := fun q r hq hr => by
   rw [<- List.append_assoc, List.take_left' (by simp <;> omega)]
 have hgd : g.length + d.length = alln s := by omega
 rcases h.proto with hp9 | hp9
 . -- a segment
   have hc : cOf s = 16 := by unfold cOf; rw [if_neg (by omega)]
   have hu : udpB s = false := by unfold udpB; rw [decide_eq_false (by omega)]
   rw [hc] at l3
   have w6 : IntKind.wrap IntKind.i64 ((hn s : Int) + 16) = ((g.length + 16 : Nat) : Int) := by rw [wrap_mid _ (by omega)]; omega
   have n17 : decide (((s.getD 9 0).toNat : Int) = 17) = false := decide_eq_false (by omega)
   have e1 := ch_two (g := g) (d := d) (z := z) (i := i) (c := 16) u1 (by omega) (by omega) (by omega) (by omega)
   have e2 := ch_two (g := gch g i (a / 65536)) (d := chk (wAt g i) (a / 65536) d 16) (z := z) (i := i + 2) (c := 16) u2 (by rw [gch_len]; omega) (by rw [gch_len]; omega) (by rw [chk_len]; omega) (by rw [gch_len, chk_len]; omega)
   have e3 := ch_port (g := gNew g a i) (d := chk (wAt (gch g i (a / 65536)) (i + 2)) (a % 65536) (chk (wAt g i) (a / 65536) d 16) 16) (z := z) (off := off) (c := 16) (x := p) hp (by rw [chk_len, chk_len]; omega) (by rw [chk_len, chk_len]; omega) (by rw [gNew_len, chk_len, chk_len]; omega)
   rw [gch_len, chk_len] at e2
   rw [gNew_len, chk_len, chk_len] at e3
   rw [hgd] at e1 e2 e3
   simp only [w6]
   rw [<- hs0] at e1
   have l2' : hn s = g.length := by omega
   simp only [l2']
   refine ev_f n17 (ev_f n17 (ev_g rfl (ev_opt e1 (ev_opt e2 (ev_g rfl (ev_opt e3 (ev_f n17 (ev_r ?_))))))))
   show (List.take (alln s) _, _) = _
   rw [fin _ _ (gNew_len g a i) (by simp [chk_len])]
   unfold swp dNew
   rw [hg, hd, hu, hc]
   rfl
 . have hc : cOf s = 6 := by unfold cOf; rw [if_pos hp9]
   have hu : udpB s = true := by unfold udpB; rw [decide_eq_true hp9]
   rw [hc] at l3 hck
   have w6 : IntKind.wrap IntKind.i64 ((hn s : Int) + 6) = ((g.length + 6 : Nat) : Int) := by rw [wrap_mid _ (by omega)]; omega
   have n17 : decide (((s.getD 9 0).toNat : Int) = 17) = true := decide_eq_true (by omega)
   have l2' : hn s = g.length := by omega
   have hw := swWord_ok (s.take (alln s)) (g.length + 6) (by rw [List.length_take]; omega) (by omega)
   rw [<- l2', hck] at hw
   simp only [w6]
   rw [<- l2']
   refine ev_t n17 (ev_t n17 (ev_opt hw ?_))
   rw [l2'] at *
   by_cases h0 : wAt d 6 = 0
   . have e1 := ch_one (g := g) (d := d) (z := z) (i := i) (alln s) hgd.symm u1 (by omega) (by omega) (by omega)
     have e2 := ch_one (g := gch g i (a / 65536)) (d := d) (z := z) (i := i + 2) (alln s) (by rw [gch_len]; exact hgd.symm) u2 (by rw [gch_len]; omega) (by rw [gch_len]; omega) (by rw [gch_len]; omega)
     have e3 := ch_last (g := gNew g a i) (d := d) (z := z) (off := off) (x := p) hp (by omega) (by rw [gNew_len]; omega)
     rw [gNew_len, hgd] at e3
     rw [<- hs0] at e1
     refine ev_t (show decide (wAt d 6 = 0) = true from decide_eq_true h0) (ev_g rfl (ev_g rfl (ev_opt e1 (ev_opt e2 (ev_g rfl (ev_opt e3 (ev_t n17 (ev_f (show (!decide (wAt d 6 = 0)) = false by rw [decide_eq_true h0]; rfl) (ev_r ?_)))))))))
     show (List.take (alln s) _, _) = _
     rw [fin _ _ (gNew_len g a i) (by simp)]
     unfold swp dNew
     rw [hg, hd, hu, hc, if_pos ⟨rfl, h0⟩]
   . have e1 := ch_two (g := g) (d := d) (z := z) (i := i) (c := 6) u1 (by omega) (by omega) (by omega) (by omega)
     have e2 := ch_two (g := gch g i (a / 65536)) (d := chk (wAt g i) (a / 65536) d 6) (z := z) (i := i + 2) (c := 6) u2 (by rw [gch_len]; omega) (by rw [gch_len]; omega) (by rw [chk_len]; omega) (by rw [gch_len, chk_len]; omega)
     have e3 := ch_port (g := gNew g a i) (d := chk (wAt (gch g i (a / 65536)) (i + 2)) (a % 65536) (chk (wAt g i) (a / 65536) d 6) 6) (z := z) (off := off) (c := 6) (x := p) hp (by rw [chk_len, chk_len]; omega) (by rw [chk_len, chk_len]; omega) (by rw [gNew_len, chk_len, chk_len]; omega)
     rw [gch_len, chk_len] at e2
     rw [gNew_len, chk_len, chk_len] at e3
     rw [hgd] at e1 e2 e3
     rw [<- hs0] at e1
     refine ev_f (show decide (wAt d 6 = 0) = false from decide_eq_false h0) (ev_g rfl (ev_opt e1 (ev_opt e2 (ev_g rfl (ev_opt e3 (ev_t n17 (ev_t (show (!decide (wAt d 6 = 0)) = true by rw [decide_eq_false h0]; rfl) ?_)))))))
     have hdn : dNew true g d a p i off 6 = (let d2 := chk (wAt (gch g i (a / 65536)) (i + 2)) (a % 65536) (chk (wAt g i) (a / 65536) d 6) 6
        let d3 := chk (wAt d2 off) p (setW d2 off p) 6
        if (true = true) /\ wAt d3 6 = 0 then setW d3 6 65535 else d3) := by unfold dNew; rw [if_neg (fun h => h0 h.2)]
     generalize hd3 : chk (wAt (chk (wAt (gch g i (a / 65536)) (i + 2)) (a % 65536) (chk (wAt g i) (a / 65536) d 6) 6) off) p (setW (chk (wAt (gch g i (a / 65536)) (i + 2)) (a % 65536) (chk (wAt g i) (a / 65536) d 6) 6) off p) 6 = d3 at *
     have ld3 : d3.length = d.length := by rw [<- hd3]; simp [chk_len]
     simp only [hd3] at hdn
     have hw3 : swWord_fn (List.take (alln s) (gNew g a i ++ (d3 ++ z)), (((g.length + 6 : Nat) : Int), ())) = some (wAt d3 6, ()) := by
       rw [fin _ _ (gNew_len g a i) ld3, swWord_ok _ _ (by simp [gNew_len]; omega) (by omega), wAt_app_right _ _ _ (by rw [gNew_len]; omega), gNew_len, show g.length + 6 - g.length = 6 by omega]
     refine ev_opt hw3 ?_
     by_cases h3 : wAt d3 6 = 0
     . have hput := swPut_ok (alln s) (g.length + 6) 65535 (gNew g a i ++ (d3 ++ z)) (by omega) (by simp [gNew_len]; omega) (by omega)
       refine ev_t (show decide (wAt d3 6 = 0) = true from decide_eq_true h3) (ev_opt hput (ev_r ?_))
       show (List.take (alln s) _, _) = _
       have e : g.length + 6 = (gNew g a i).length + 6 := by rw [gNew_len]
       rw [e, setW_app_right, setW_app_left _ _ _ _ (by omega), fin _ _ (gNew_len g a i) (by simp [ld3])]
       unfold swp
       rw [hg, hd, hu, hc, hdn, if_pos ⟨trivial, h3⟩]
     . refine ev_f (show decide (wAt d3 6 = 0) = false from decide_eq_false h3) (ev_r ?_)
       show (List.take (alln s) _, _) = _
       rw [fin _ _ (gNew_len g a i) ld3]
       unfold swp
       rw [hg, hd, hu, hc, hdn, if_neg (fun h => h3 h.2)]
theorem from_ok {s : List UInt8} (h : EndOk s) (hl : s.length <= Lim) {a p : Int} (ha : U32 a) (hp : U16 p) : swFrom_fn (s, (a, (p, ()))) = some (swp s a p 12 0, ((0 : Int), ())) :=
 ev_opt (swapped_ok h hl (i := 12) (off := 0) ha hp (.inl rfl) (.inl rfl)) (ev_r rfl)
theorem to_ok {s : List UInt8} (h : EndOk s) (hl : s.length <= Lim) {a p : Int} (ha : U32 a) (hp : U16 p) : swTo_fn (s, (a, (p, ()))) = some (swp s a p 16 2, ((0 : Int), ())) :=
 ev_opt (swapped_ok h hl (i := 16) (off := 2) ha hp (.inr rfl) (.inr rfl)) (ev_r rfl)
theorem ipWd_ok (x : Int) : ipWord_fn (x, ()) = some (wd x, ()) := by
 unfold ipWord_fn ipWord_tree
 simp only [wrap8u, fdiv8]
 exact ev_g rfl (ev_g (by (first | (simp; done) | (simp; omega) | omega)) (ev_g (by (first | (simp; done) | (simp; omega) | omega)) (ev_r rfl)))
theorem hopWord (k c : Int) (hk : 0 <= k /\ k <= 255) (hc : 0 <= c /\ c <= 255) : bits BinOp.or IntKind.i64 (IntKind.wrap IntKind.i64 (k * (2 : Int) ^ (8 : Nat))) c = k * 256 + c := by
 have e3 : IntKind.i64.wrap (k * 2 ^ 8) = k * 2 ^ 8 := wrapI64 ⟨by omega, by omega⟩
 rw [e3, bits_or_disjoint .i64 8 k c (by omega) (by omega) (by omega) (by show _ < (2 : Int) ^ 64; omega) (fun _ => by show _ < (2 : Int) ^ 63; omega)]
 omega
theorem take_drop (l : List UInt8) (n m : Nat) : (l.take n).drop m = (l.drop m).take (n - m) := List.drop_take ..
set_option maxHeartbeats 1000000 in
theorem hop_ok (x0 x1 x2 x3 x4 x5 x6 x7 x8 x9 x10 x11 : UInt8) (r : List UInt8) (s : List UInt8) (hs : s = x0 :: x1 :: x2 :: x3 :: x4 :: x5 :: x6 :: x7 :: x8 :: x9 :: x10 :: x11 :: r) (h : IpOk s) (hl : 2 <= x8.toNat) (y8 : UInt8) (hy8 : (y8.toNat : Int) = x8.toNat - 1) (C : Int)
   (hC : C = 65535 - (ear (65535 - (wv x10 x11).toNat + (65535 - (wv x8 x9).toNat) + (wv y8 x9).toNat) : Int)) (al : Nat) (hal : alln s = al) (t : List UInt8) (ht : t = x0 :: x1 :: x2 :: x3 :: x4 :: x5 :: x6 :: x7 :: y8 :: x9 :: byteOf (C / 256) :: byteOf C :: r.take (al - 12)) :
   IpOk t /\ pk t = { pk s with life := (pk s).life - 1 } /\ t.length = al := by
 have e0 : hn t = hn s := by rw [ht, hs]; rfl
 have e2 : wAt t 2 = wAt s 2 := by rw [ht, hs]; rfl
 have ea : alln t = al := by rw [<- hal]; unfold alln; rw [e2]
 have e6 : wAt t 6 = wAt s 6 := by rw [ht, hs]; rfl
 obtain ⟨h1, h2, h3, h4, h5, h6, h7, h8, h9, h10⟩ := h
 rw [hal] at h3 h6
 have hlen : s.length = r.length + 12 := by rw [hs]; simp
 have htl : t.length = al := by rw [ht]; simp; omega
 have hg : ∀ i, i + 12 < al -> (r.take (al - 12)).getD i 0 = r.getD i 0 := fun i hi => by
   rw [List.getD_eq_getElem?_getD, List.getElem?_take, if_pos (by omega), <- List.getD_eq_getElem?_getD]
 have l12 : lAt t 12 = lAt s 12 := by
   rw [ht, hs]
   show wv ((r.take (al - 12)).getD 0 0) ((r.take (al - 12)).getD 1 0) * 65536 + wv ((r.take (al - 12)).getD 2 0) ((r.take (al - 12)).getD 3 0) = wv (r.getD 0 0) (r.getD 1 0) * 65536 + wv (r.getD 2 0) (r.getD 3 0)
   rw [hg 0 (by omega), hg 1 (by omega), hg 2 (by omega), hg 3 (by omega)]
 have l16 : lAt t 16 = lAt s 16 := by
   rw [ht, hs]
   show wv ((r.take (al - 12)).getD 4 0) ((r.take (al - 12)).getD 5 0) * 65536 + wv ((r.take (al - 12)).getD 6 0) ((r.take (al - 12)).getD 7 0) = wv (r.getD 4 0) (r.getD 5 0) * 65536 + wv (r.getD 6 0) (r.getD 7 0)
   rw [hg 4 (by omega), hg 5 (by omega), hg 6 (by omega), hg 7 (by omega)]
 have hdr : ∀ m, 12 <= m -> t.drop m = (s.take (al)).drop m := fun m hm => by
   obtain ⟨j, rfl⟩ : ∃ j, m = j + 12 := ⟨m - 12, by omega⟩
   obtain ⟨a, ha⟩ : ∃ a, al = a + 12 := ⟨al - 12, by omega⟩
   rw [ht, ha, hs]
   show List.drop j (r.take (a + 12 - 12)) = List.drop j (r.take a)
   rw [Nat.add_sub_cancel]
 have hpk : pk t = { pk s with life := (pk s).life - 1 } := by
   have p8 : ((t.getD 8 0).toNat : Int) = ((s.getD 8 0).toNat : Int) - 1 := by rw [ht, hs]; exact hy8
   have p1 : t.getD 1 0 = s.getD 1 0 := by rw [ht, hs]; rfl
   have p9 : t.getD 9 0 = s.getD 9 0 := by rw [ht, hs]; rfl
   have p4 : wAt t 4 = wAt s 4 := by rw [ht, hs]; rfl
   have d1 : (t.take (hn s)).drop 20 = (s.take (hn s)).drop 20 := by
    rw [take_drop, hdr 20 (by omega), take_drop s (hn s), take_drop s (al), List.take_take, Nat.min_eq_left (by omega)]
   have d2 : (t.take (al)).drop (hn s) = (s.take (al)).drop (hn s) := by
    rw [List.take_of_length_le (by omega), hdr _ (by omega)]
   unfold pk
   rw [e0, ea, hal, l12, l16, e6, p4, p1, p9, p8, d1, d2]
 have hb8 : (pk s).life = (x8.toNat : Int) := by rw [hs]; rfl
 have u8 := u8n x8
 refine ⟨⟨by omega, by omega, by omega, ?_, by omega, by omega, by omega, ?_, ?_, ?_⟩, hpk, htl⟩
 . rw [ht]; rw [hs] at h4; exact h4
 . rw [hpk]; exact ⟨h8.tos, by show 0 <= (pk s).life - 1 /\ (pk s).life - 1 <= 255; omega, h8.proto, h8.id, h8.start, h8.opt, h8.four, h8.one, h8.data⟩
 . obtain ⟨m, hm⟩ : ∃ m, hn s = m + 12 := ⟨hn s - 12, by omega⟩
   have hv : x0.toNat / 16 = 4 := by rw [hs] at h4; exact h4
   rw [e0, hm, ht]
   show ws (x0 :: x1 :: _) ≠ 0
   have := ws_cons2 x0 x1 (List.take (m + 10) (x2 :: x3 :: x4 :: x5 :: x6 :: x7 :: y8 :: x9 :: byteOf (C / 256) :: byteOf C :: r.take (al - 12)))
   have b := wv_bound x0 x1
   have : wv x0 x1 ≠ 0 := by unfold wv; omega
   intro hz
   have hz' : ws (x0 :: x1 :: (List.take (m + 10) (x2 :: x3 :: x4 :: x5 :: x6 :: x7 :: y8 :: x9 :: byteOf (C / 256) :: byteOf C :: r.take (al - 12)))) = 0 := hz
   omega
 . obtain ⟨m, hm⟩ : ∃ m, hn s = m + 12 := ⟨hn s - 12, by omega⟩
   have hts : ws (s.take (m + 12)) % 65535 = 0 := by rw [<- hm]; exact h10
   rw [e0, hm]
   have hrm : (r.take (al - 12)).take m = r.take m := by rw [List.take_take, Nat.min_eq_left (by omega)]
   have f1 : t.take (m + 12) = x0 :: x1 :: x2 :: x3 :: x4 :: x5 :: x6 :: x7 :: y8 :: x9 :: byteOf (C / 256) :: byteOf C :: r.take m := by rw [ht, <- hrm]; rfl
   have f2 : s.take (m + 12) = x0 :: x1 :: x2 :: x3 :: x4 :: x5 :: x6 :: x7 :: x8 :: x9 :: x10 :: x11 :: r.take m := by rw [hs]; rfl
   rw [f1]
   rw [f2] at hts
   have g1 : (ws (x0 :: x1 :: x2 :: x3 :: x4 :: x5 :: x6 :: x7 :: y8 :: x9 :: byteOf (C / 256) :: byteOf C :: r.take m) : Int) = wv x0 x1 + (wv x2 x3 + (wv x4 x5 + (wv x6 x7 + (wv y8 x9 + (C % 65536 + ws (r.take m)))))) := by
    rw [ws_cons2, ws_cons2, ws_cons2, ws_cons2, ws_cons2, ws_cons2, wv_wd]
   have g2 : (ws (x0 :: x1 :: x2 :: x3 :: x4 :: x5 :: x6 :: x7 :: x8 :: x9 :: x10 :: x11 :: r.take m) : Int) = wv x0 x1 + (wv x2 x3 + (wv x4 x5 + (wv x6 x7 + (wv x8 x9 + (wv x10 x11 + ws (r.take m)))))) := by
    rw [ws_cons2, ws_cons2, ws_cons2, ws_cons2, ws_cons2, ws_cons2]
   have b1 := wv_bound x8 x9; have b2 := wv_bound x10 x11; have b3 := wv_bound y8 x9
   have hem := ear_mod (65535 - (wv x10 x11).toNat + (65535 - (wv x8 x9).toNat) + (wv y8 x9).toNat)
   have hel := ear_le (65535 - (wv x10 x11).toNat + (65535 - (wv x8 x9).toNat) + (wv y8 x9).toNat)
   generalize ear (65535 - (wv x10 x11).toNat + (65535 - (wv x8 x9).toNat) + (wv y8 x9).toNat) = E at *
   have hC2 : C % 65536 = C := by omega
   rw [hC2] at g1
   clear hel hC2 hg hdr
   generalize ws (x0 :: x1 :: x2 :: x3 :: x4 :: x5 :: x6 :: x7 :: y8 :: x9 :: byteOf (C / 256) :: byteOf C :: List.take m r) = A at *
   generalize ws (x0 :: x1 :: x2 :: x3 :: x4 :: x5 :: x6 :: x7 :: x8 :: x9 :: x10 :: x11 :: List.take m r) = B at *
   have hE : ((E : Int) - ((65535 - wv x10 x11) + (65535 - wv x8 x9) + wv y8 x9)) % 65535 = 0 := by omega
   have hAB : ((A : Int) - B) % 65535 = 0 := by
    have : (A : Int) - B = -((E : Int) - ((65535 - wv x10 x11) + (65535 - wv x8 x9) + wv y8 x9)) - 65535 := by omega
    omega
   omega
theorem un1 : ∀ (s : List UInt8) (n : Nat), n + 1 <= s.length -> ∃ x r, s = x :: r /\ n <= r.length
 | [], n, h => by simp at h
 | x :: r, n, h => ⟨x, r, rfl, by simpa using h⟩
theorem un12 (s : List UInt8) (h : 12 <= s.length) : ∃ x0 x1 x2 x3 x4 x5 x6 x7 x8 x9 x10 x11 r, s = x0 :: x1 :: x2 :: x3 :: x4 :: x5 :: x6 :: x7 :: x8 :: x9 :: x10 :: x11 :: r := by
 obtain ⟨x0, r0, rfl, g0⟩ := un1 s 11 h
 obtain ⟨x1, r1, rfl, g1⟩ := un1 r0 10 g0
 obtain ⟨x2, r2, rfl, g2⟩ := un1 r1 9 g1
 obtain ⟨x3, r3, rfl, g3⟩ := un1 r2 8 g2
 obtain ⟨x4, r4, rfl, g4⟩ := un1 r3 7 g3
 obtain ⟨x5, r5, rfl, g5⟩ := un1 r4 6 g4
 obtain ⟨x6, r6, rfl, g6⟩ := un1 r5 5 g5
 obtain ⟨x7, r7, rfl, g7⟩ := un1 r6 4 g6
 obtain ⟨x8, r8, rfl, g8⟩ := un1 r7 3 g7
 obtain ⟨x9, r9, rfl, g9⟩ := un1 r8 2 g8
 obtain ⟨x10, r10, rfl, g10⟩ := un1 r9 1 g9
 obtain ⟨x11, r11, rfl, g11⟩ := un1 r10 0 g10
 exact ⟨_, _, _, _, _, _, _, _, _, _, _, _, _, rfl⟩
theorem hop_end {s : List UInt8} (h : IpOk s) (hl : s.length <= Lim) (h2 : (pk s).life < 2) : ipHop_fn (s, ()) = some ([], (7, ())) := by
 unfold ipHop_fn ipHop_tree
 exact ev_opt (ipRead_ok h hl) (ev_f rfl (ev_t (decide_eq_true h2) (ev_r rfl)))
theorem hop_fnL {s : List UInt8} (h : IpOk s) (hl : s.length <= Lim) (h2 : 2 <= (pk s).life) : ∃ t, ipHop_fn (s, ()) = some (t, (0, ())) /\ IpOk t /\ pk t = { pk s with life := (pk s).life - 1 } /\ t.length <= s.length /\ t.length = alln s := by
 obtain ⟨x0, x1, x2, x3, x4, x5, x6, x7, x8, x9, x10, x11, r, hs⟩ := un12 s (by have := h.len; omega)
 have hlife : (pk s).life = (x8.toNat : Int) := by rw [hs]; rfl
 have hproto : (pk s).proto = (x9.toNat : Int) := by rw [hs]; rfl
 have hw8 : wAt s 8 = wv x8 x9 := by rw [hs]; rfl
 have hw10 : wAt s 10 = wv x10 x11 := by rw [hs]; rfl
 have u8 := u8n x8; have u9 := u8n x9
 have b8 := wv_bound x8 x9; have b10 := wv_bound x10 x11; have b2 := wAt_bound s 2
 have hal : (alln s : Int) = wAt s 2 := by unfold alln; omega
 have hlen := h.len; have hall := h.all; have h20 := h.h20; have hha := h.hall
 generalize hV : ((x8.toNat : Int) - 1) * 256 + x9.toNat = V
 have hVb : 0 <= V /\ V <= 65535 := by omega
 have hy : ((byteOf (V / 256)).toNat : Int) = (x8.toNat : Int) - 1 := by rw [byteOf_nat]; omega
 have hyv : wv (byteOf (V / 256)) x9 = V := by unfold wv; rw [hy]; omega
 have hb9 : byteOf V = x9 := by
   rw [<- byteOf_self x9]; unfold byteOf
   have : V % 256 = (x9.toNat : Int) % 256 := by omega
   rw [this]
 obtain ⟨C, hC⟩ : ∃ C : Int, C = 65535 - (ear (65535 - (wv x10 x11).toNat + (65535 - (wv x8 x9).toNat) + (wv (byteOf (V / 256)) x9).toNat) : Int) := ⟨_, rfl⟩
 have hCb : 0 <= C /\ C <= 65535 := by
   have := ear_le (65535 - (wv x10 x11).toNat + (65535 - (wv x8 x9).toNat) + (wv (byteOf (V / 256)) x9).toNat)
   omega
 obtain ⟨k1, k2, k3⟩ := hop_ok x0 x1 x2 x3 x4 x5 x6 x7 x8 x9 x10 x11 r s hs h (by omega) (byteOf (V / 256)) hy C hC (alln s) rfl _ rfl
 refine ⟨_, ?_, k1, k2, by omega, k3⟩
 have hor : bits BinOp.or IntKind.i64 (IntKind.wrap IntKind.i64 (IntKind.wrap IntKind.i64 ((pk s).life - (1 : Int)) * (2 : Int) ^ (8 : Nat))) (pk s).proto = V := by
   rw [hlife, hproto, show IntKind.wrap IntKind.i64 ((x8.toNat : Int) - 1) = (x8.toNat : Int) - 1 from wrapI64 ⟨by omega, by omega⟩, hopWord _ _ ⟨by omega, by omega⟩ ⟨by omega, by omega⟩]
   exact hV
 have hVw : IntKind.wrap IntKind.u16 V = V := by rw [wrap16u]; omega
 have hVi : IntKind.wrap IntKind.i64 V = V := wrapI64 ⟨by omega, by omega⟩
 have hCi : IntKind.wrap IntKind.i64 C = C := wrapI64 ⟨by omega, by omega⟩
 have hfix : sumFix_fn (IntKind.wrap IntKind.u16 (wAt s 10), (IntKind.wrap IntKind.u16 (wAt s 8), (IntKind.wrap IntKind.u16 (bits BinOp.or IntKind.i64 (IntKind.wrap IntKind.i64 (IntKind.wrap IntKind.i64 ((pk s).life - (1 : Int)) * (2 : Int) ^ (8 : Nat))) (pk s).proto), ()))) = some (C, ()) := by
   rw [hor, hVw, hw8, hw10]
   have e1 : IntKind.wrap IntKind.u16 (wv x10 x11) = ((wv x10 x11).toNat : Int) := by rw [wrap16u]; omega
   have e2 : IntKind.wrap IntKind.u16 (wv x8 x9) = ((wv x8 x9).toNat : Int) := by rw [wrap16u]; omega
   have e3 : V = ((wv (byteOf (V / 256)) x9).toNat : Int) := by rw [hyv]; omega
   rw [e1, e2, hC]
   conv => lhs; rw [e3]
   exact fix_fn _ _ _ (by omega) (by omega) (by rw [hyv]; omega)
 have ht : List.drop 0 (List.take 8 s) ++ wd V ++ wd C ++ List.drop 12 (List.take (Int.toNat (wAt s 2)) s) = x0 :: x1 :: x2 :: x3 :: x4 :: x5 :: x6 :: x7 :: byteOf (V / 256) :: x9 :: byteOf (C / 256) :: byteOf C :: r.take (alln s - 12) := by
   rw [<- hal, Int.toNat_natCast]
   obtain ⟨a, ha⟩ : ∃ a, alln s = a + 12 := ⟨alln s - 12, by omega⟩
   rw [ha, Nat.add_sub_cancel, hs]
   show x0 :: x1 :: x2 :: x3 :: x4 :: x5 :: x6 :: x7 :: byteOf (V / 256) :: byteOf V :: byteOf (C / 256) :: byteOf C :: r.take a = _
   rw [hb9]
 unfold ipHop_fn ipHop_tree
 refine ev_opt (ipRead_ok h hl) (ev_f rfl (ev_f (decide_eq_false (by show ¬ (pk s).life < 2; omega)) (ev_opt (ipAt_ok s 8 (by omega) hl) (ev_g rfl (ev_opt (ipAt_ok s 10 (by omega) hl) (ev_opt hfix (ev_g (by simp <;> omega) (ev_opt (ipWd_ok _) ?_))))))))
 refine ev_g (by simp [wd]; unfold Lim at hl; omega) (ev_opt (ipWd_ok _) (ev_g (by simp [wd]; unfold Lim at hl; omega) (ev_opt (ipAt_ok s 2 (by omega) hl) (ev_g (decide_eq_true ⟨by omega, by show (12 : Int) <= wAt s 2; omega, by show wAt s 2 <= (s.length : Int); omega⟩) (ev_g ?_ (ev_r ?_))))))
 . refine decide_eq_true ?_
   simp only [List.length_append, List.length_drop, List.length_take]
   unfold Lim at hl
   simp [wd]; omega
 . show (_ ++ wd (IntKind.wrap IntKind.i64 (IntKind.wrap IntKind.u16 (bits BinOp.or IntKind.i64 (IntKind.wrap IntKind.i64 (IntKind.wrap IntKind.i64 ((pk s).life - (1 : Int)) * (2 : Int) ^ (8 : Nat))) (pk s).proto))) ++ wd (IntKind.wrap IntKind.i64 C) ++ _, _) = _
   rw [hor, hVw, hVi, hCi]
   exact congrArg (fun q => (q, ((0 : Int), ()))) ht
structure Hs where (out lt st life rate most : Int) (rules : List TRule) (els : Bool) (met : List TMeter) (trk : List TTalk) (nl lb : Int) (L : Nat) (sb : Int) (S : Nat) (maps : List TMap)
def Hs.t (h : Hs) {R : Type} (r : R) : Int × (Int × (Int × (Int × (Int × (Int × ((List TRule) × (Bool × ((List TMeter) × ((List TTalk) × (Int × (Int × (Int × (Int × (Int × ((List TMap) × R))))))))))))))) :=
 (h.out, (h.lt, (h.st, (h.life, (h.rate, (h.most, (h.rules, (h.els, (h.met, (h.trk, (h.nl, (h.lb, ((h.L : Int), (h.sb, ((h.S : Int), (h.maps, r))))))))))))))))
structure PlanOk (h : Hs) : Prop where
 lt : baseOk h.lt
 st : baseOk h.st
 life : 1 <= h.life /\ h.life <= 1000000
 rate : 0 <= h.rate /\ h.rate <= 1000000
 most : 1 <= h.most /\ h.most <= 1000000000
 rules : ruChk h.rules = 0
theorem conf_ex (h : Hs) : ∃ c : Int, confCheck_fn (h.out, (h.lt, (h.st, (h.life, (h.rate, (h.most, (h.rules, (h.els, ())))))))) = some (c, ()) /\ (c = 0 ↔ PlanOk h) := by
 unfold confCheck_fn confCheck_tree
 have no : ∀ {c : Int}, c ≠ 0 -> ¬ PlanOk h -> (c = 0 ↔ PlanOk h) := fun h1 h2 => ⟨fun h => absurd h h1, fun h => absurd h h2⟩
 by_cases h1 : baseOk h.lt
 case neg => exact ⟨1, ev_opt (check_no 0 h1) (ev_t rfl (ev_r rfl)), no (by decide) fun h => h1 h.lt⟩
 by_cases h2 : baseOk h.st
 case neg => exact ⟨1, ev_opt (check_ok 0 h1) (ev_f rfl (ev_opt (check_no 0 h2) (ev_t rfl (ev_r rfl)))), no (by decide) fun h => h2 h.st⟩
 have go : ∀ {c : Int} {T : Tr (Int × Unit)}, T.eval = some (c, ()) -> (Tr.opt (β := (Int × Unit)) ((portsCheck_fn (h.lt, ((0 : Int), ())))) (fun r0 =>
   .ite (!decide (r0.1 = (0 : Int))) (
    .ret ((1 : Int), ())) (
    .opt (β := (Int × Unit)) ((portsCheck_fn (h.st, ((0 : Int), ())))) (fun r1 =>
    .ite (!decide (r1.1 = (0 : Int))) (
     .ret ((1 : Int), ())) T)))).eval = some (c, ()) := fun hT => ev_opt (check_ok 0 h1) (ev_f rfl (ev_opt (check_ok 0 h2) (ev_f rfl hT)))
 by_cases h3 : h.life < 1
 . exact ⟨1, go (ev_t (decide_eq_true h3) (ev_r rfl)), no (by decide) fun h => by have := h.life; omega⟩
 by_cases h4 : 1000000 < h.life
 . exact ⟨1, go (ev_f (decide_eq_false h3) (ev_t (decide_eq_true h4) (ev_r rfl))), no (by decide) fun h => by have := h.life; omega⟩
 by_cases h5 : h.rate < 0
 . exact ⟨1, go (ev_f (decide_eq_false h3) (ev_f (decide_eq_false h4) (ev_t (decide_eq_true h5) (ev_r rfl)))), no (by decide) fun h => by have := h.rate; omega⟩
 by_cases h6 : 1000000 < h.rate
 . exact ⟨1, go (ev_f (decide_eq_false h3) (ev_f (decide_eq_false h4) (ev_f (decide_eq_false h5) (ev_t (decide_eq_true h6) (ev_r rfl))))), no (by decide) fun h => by have := h.rate; omega⟩
 by_cases h7 : h.most < 1
 . exact ⟨1, go (ev_f (decide_eq_false h3) (ev_f (decide_eq_false h4) (ev_f (decide_eq_false h5) (ev_f (decide_eq_false h6) (ev_t (decide_eq_true h7) (ev_r rfl)))))), no (by decide) fun h => by have := h.most; omega⟩
 by_cases h8 : 1000000000 < h.most
 . exact ⟨1, go (ev_f (decide_eq_false h3) (ev_f (decide_eq_false h4) (ev_f (decide_eq_false h5) (ev_f (decide_eq_false h6) (ev_f (decide_eq_false h7) (ev_t (decide_eq_true h8) (ev_r rfl))))))), no (by decide) fun h => by have := h.most; omega⟩
 exact ⟨ruChk h.rules, go (ev_f (decide_eq_false h3) (ev_f (decide_eq_false h4) (ev_f (decide_eq_false h5) (ev_f (decide_eq_false h6) (ev_f (decide_eq_false h7) (ev_f (decide_eq_false h8) (ev_opt (check_fn h.rules) (ev_r rfl)))))))),
   fun e => ⟨h1, h2, by omega, by omega, by omega, e⟩, fun h => h.rules⟩

def mb (a : Int) (m : TMeter) : Bool := decide (m.addr = a)
def bOf (m : TMeter) : Bu := ⟨m.rate, m.most, m.has, m.at'⟩
theorem meter_fn (h : Hs) (a : Int) (hl : h.met.length < Big) : hsMeter_fn (h.t (a, ())) = some ((match hit (mb a) h.met with | some r => (r.1 : Int) | none => -1), ()) := by
 unfold Big at hl
 have lp := loop_hit (tag := 1320002) (f := fun x => (hsMeter_step132_2 x).eval) (l := h.met) (fun i => ((i : Int), (h.met, ((h.met.length : Int), (a, ())))))
  (mb a) (fun r => match r with | some r => Sum.inl ((r.1 : Int), (a, ())) | none => Sum.inr (a, ()))
  (fun i x hx => by
   have hi := (List.getElem?_eq_some_iff.1 hx).1
   show (hsMeter_step132_2 _).eval = _
   unfold hsMeter_step132_2
   refine ev_t (by simp <;> omega) (ev_g (by simp) (ev_opt (show h.met[Int.toNat (i : Int)]? = some x by simpa using hx) ?_))
   rw [next_i64 i (by omega)]
   unfold mb
   cases h1 : decide (x.addr = a) with
   | false => exact ev_f rfl (ev_r rfl)
   | true => exact ev_t rfl (ev_r rfl))
  (by show (hsMeter_step132_2 _).eval = _; exact ev_f (by simp) (ev_r rfl)) 18446744073709551616 (by omega)
 refine ev_opt lp ?_
 cases hit (mb a) h.met <;> exact ev_r rfl
def MetOk (l : List TMeter) (rate most : Int) : Prop := l.length <= 64 /\ (∀ m ∈ l, BOk (bOf m) /\ m.rate = rate /\ m.most = most) /\ l.Pairwise (fun x y => x.at' <= y.at' /\ x.addr ≠ y.addr)
def pAt (l : List TMeter) (i : Nat) : Int := match i with | 0 => 0 | i + 1 => match l[i]? with | some m => m.at' | none => 0
def MAt (l : List TMeter) (rate most : Int) (i : Nat) (x : TMeter) : Prop := BOk (bOf x) /\ x.rate = rate /\ x.most = most /\ pAt l i <= x.at' /\ (hit (mb x.addr) l).map (·.1) = some i
theorem met_at {l : List TMeter} {rate most : Int} : (l.length <= 64 /\ ∀ i x, l[i]? = some x -> MAt l rate most i x) ↔ MetOk l rate most := by
 constructor
 . rintro ⟨h1, h2⟩
   refine ⟨h1, fun x hx => ?_, ?_⟩
   . obtain ⟨i, hi, rfl⟩ := List.getElem_of_mem hx
     have := h2 i _ (List.getElem?_eq_getElem hi)
     exact ⟨this.1, this.2.1, this.2.2.1⟩
   . rw [List.pairwise_iff_getElem]
     intro i j hi hj hij
     refine ⟨?_, ?_⟩
     . have key : ∀ d, ∀ (k : Nat) (hk : k < l.length), k = i + d -> l[i].at' <= l[k].at' := by
        intro d
        induction d with
        | zero => intro k hk e; subst e; exact Int.le_refl _
        | succ d ih =>
         intro k hk e
         obtain ⟨k, rfl⟩ : ∃ q, k = q + 1 := ⟨k - 1, by omega⟩
         have := (h2 (k + 1) _ (List.getElem?_eq_getElem hk)).2.2.2.1
         simp only [pAt, List.getElem?_eq_getElem (show k < l.length by omega)] at this
         exact Int.le_trans (ih k (by omega) (by omega)) this
       exact key (j - i) j hj (by omega)
     . intro he
       have h3 := (h2 j _ (List.getElem?_eq_getElem hj)).2.2.2.2
       have h4 : mb l[j].addr l[i] = true := decide_eq_true he
       have e : l = l.take i ++ l[i] :: l.drop (i + 1) := by rw [<- List.drop_eq_getElem_cons hi, List.take_append_drop]
       rw [show hit (mb l[j].addr) l = hit (mb l[j].addr) (l.take i ++ l[i] :: l.drop (i + 1)) from congrArg _ e, hit_app] at h3
       simp only [hit, h4, Option.map_some] at h3
       cases h5 : hit (mb l[j].addr) (l.take i) with
       | none => rw [h5] at h3; simp at h3; omega
       | some q =>
        rw [h5] at h3
        have := hit_lt (i := q.1) (x := q.2) h5
        simp at h3 this; omega
 . rintro ⟨h1, h2, h3⟩
   refine ⟨h1, fun i x hx => ?_⟩
   obtain ⟨g1, g2, g3⟩ := h2 x (List.mem_of_getElem? hx)
   refine ⟨g1, g2, g3, ?_, ?_⟩
   . cases i with
     | zero => exact g1.2.2.2.2.2.2.1
     | succ i =>
       obtain ⟨hi', rfl⟩ := List.getElem?_eq_some_iff.1 hx
       simp only [pAt, List.getElem?_eq_getElem (show i < l.length by omega)]
       exact ((List.pairwise_iff_getElem.1 h3) i (i + 1) (by omega) hi' (by omega)).1
   . obtain ⟨hi', rfl⟩ := List.getElem?_eq_some_iff.1 hx
     have e : l = l.take i ++ l[i] :: l.drop (i + 1) := by rw [<- List.drop_eq_getElem_cons hi', List.take_append_drop]
     have hn : hit (mb l[i].addr) (l.take i) = none := hit_none.2 fun y hy => by
       obtain ⟨j, hj, rfl⟩ := List.getElem_of_mem hy
       have hj2 : j < i := by simp at hj; omega
       rw [List.getElem_take]
       have := ((List.pairwise_iff_getElem.1 h3) j i (by omega) hi' hj2).2
       exact decide_eq_false this
     have hs : mb l[i].addr l[i] = true := decide_eq_true rfl
     generalize hx : l[i] = x at *
     conv => lhs; rw [e]
     rw [hit_app, hn]
     simp only [hit, hs, Option.map_some, Option.none_or]
     simp; omega
structure HouseOk (h : Hs) : Prop where
 plan : PlanOk h
 trk : Good h.trk
 nat : NatOk h.nl h.lb h.L h.sb h.S h.maps
 met : MetOk h.met h.rate h.most
 el : h.nl = h.life
 eb : h.lb = h.lt
 es : h.sb = h.st
structure Fits (h : Hs) : Prop where
 L : h.L < 2 ^ 64
 S : h.S < 2 ^ 64
 met : h.met.length * 40 <= 140737488351232
 trk : h.trk.length * 48 <= 140737488351232
 maps : h.maps.length * 40 <= 140737488351232
 rules : h.rules.length * 80 <= 140737488351232
theorem HouseOk.fits {h : Hs} (k : HouseOk h) : Fits h := by
 have h1 := k.nat.len.2.2
 have h2 := k.trk.1
 have h3 := k.met.1
 have h4 := (ruChk_zero.1 k.plan.rules).1
 exact ⟨k.nat.ltL, k.nat.ltS, by omega, by omega, by omega, by omega⟩
theorem nat_ex {life lb : Int} {L : Nat} {sb : Int} {S : Nat} {l : List TMap} (hL : L < 2 ^ 64) (hS : S < 2 ^ 64) (hl : l.length < BigN) : ∃ c : Int, natCheck_fn (life, (lb, ((L : Int), (sb, ((S : Int), (l, ())))))) = some (c, ()) /\ (c = 0 ↔ NatOk life lb L sb S l) := by
 by_cases h : NatOk life lb L sb S l
 . exact ⟨0, natCheck_yes h hl, fun _ => h, fun _ => rfl⟩
 . obtain ⟨e, he, hc⟩ := natCheck_no h hL hS hl
   exact ⟨e, hc, fun q => absurd q he, fun q => absurd q h⟩
theorem hsCheck_ex (h : Hs) (hf : Fits h) : ∃ c : Int, hsCheck_fn (h.t ()) = some (c, ()) /\ (c = 0 ↔ HouseOk h) := by
  obtain ⟨f1, f2, f3, f4, f5, f6⟩ := hf
  obtain ⟨c1, e1, q1⟩ := conf_ex h
  obtain ⟨c2, e2, q2⟩ := checkT_fn h.trk
  obtain ⟨c3, e3, q3⟩ := nat_ex (life := h.nl) (lb := h.lb) (sb := h.sb) f1 f2 (show h.maps.length < BigN by unfold BigN; omega)
  have lp : ∃ r, hsCheck_loop40_2 ((0 : Int), (c1, (c2, (c3, h.t ())))) = some r /\ ((∃ c, c ≠ 0 /\ r = Sum.inl (c, ()) /\ ¬ (c1 = 0 /\ c2 = 0 /\ c3 = 0)) \/ (r = Sum.inr (h.t ()) /\ c1 = 0 /\ c2 = 0 /\ c3 = 0)) := by
    have s0 : c1 ≠ 0 -> (hsCheck_step40_2 ((0 : Int), (c1, (c2, (c3, h.t ()))))).eval = some (.inr (.inl (c1, ()))) := fun q => ev_t rfl (ev_g rfl (ev_opt rfl (ev_t (by simpa using q) (ev_r rfl))))
    have s0' : c1 = 0 -> (hsCheck_step40_2 ((0 : Int), (c1, (c2, (c3, h.t ()))))).eval = some (.inl ((1 : Int), (c1, (c2, (c3, h.t ()))))) := fun q => ev_t rfl (ev_g rfl (ev_opt rfl (ev_f (by simpa using q) (ev_r rfl))))
    have s1 : c2 ≠ 0 -> (hsCheck_step40_2 ((1 : Int), (c1, (c2, (c3, h.t ()))))).eval = some (.inr (.inl (c2, ()))) := fun q => ev_t rfl (ev_g rfl (ev_opt rfl (ev_t (by simpa using q) (ev_r rfl))))
    have s1' : c2 = 0 -> (hsCheck_step40_2 ((1 : Int), (c1, (c2, (c3, h.t ()))))).eval = some (.inl ((2 : Int), (c1, (c2, (c3, h.t ()))))) := fun q => ev_t rfl (ev_g rfl (ev_opt rfl (ev_f (by simpa using q) (ev_r rfl))))
    have s2 : c3 ≠ 0 -> (hsCheck_step40_2 ((2 : Int), (c1, (c2, (c3, h.t ()))))).eval = some (.inr (.inl (c3, ()))) := fun q => ev_t rfl (ev_g rfl (ev_opt rfl (ev_t (by simpa using q) (ev_r rfl))))
    have s2' : c3 = 0 -> (hsCheck_step40_2 ((2 : Int), (c1, (c2, (c3, h.t ()))))).eval = some (.inl ((3 : Int), (c1, (c2, (c3, h.t ()))))) := fun q => ev_t rfl (ev_g rfl (ev_opt rfl (ev_f (by simpa using q) (ev_r rfl))))
    have s3 : (hsCheck_step40_2 ((3 : Int), (c1, (c2, (c3, h.t ()))))).eval = some (.inr (.inr (h.t ()))) := ev_f rfl (ev_r rfl)
    have L4 : hsCheck_loop40_2 ((0 : Int), (c1, (c2, (c3, h.t ())))) = loopO 400002 (fun x => (hsCheck_step40_2 x).eval) (18446744073709551612 + 1 + 1 + 1 + 1) ((0 : Int), (c1, (c2, (c3, h.t ())))) := rfl
    rw [L4]
    by_cases z1 : c1 = 0
    case neg => exact ⟨_, loopO_out (s0 z1), .inl ⟨c1, z1, rfl, fun q => z1 q.1⟩⟩
    rw [loopO_in (s0' z1)]
    by_cases z2 : c2 = 0
    case neg => exact ⟨_, loopO_out (s1 z2), .inl ⟨c2, z2, rfl, fun q => z2 q.2.1⟩⟩
    rw [loopO_in (s1' z2)]
    by_cases z3 : c3 = 0
    case neg => exact ⟨_, loopO_out (s2 z3), .inl ⟨c3, z3, rfl, fun q => z3 q.2.2⟩⟩
    rw [loopO_in (s2' z3)]
    exact ⟨_, loopO_out s3, .inr ⟨rfl, z1, z2, z3⟩⟩
  obtain ⟨r, hr, hcase⟩ := lp
  unfold hsCheck_fn
  have no : ∀ {c : Int}, c ≠ 0 -> ¬ HouseOk h -> (c = 0 ↔ HouseOk h) := fun h1 h2 => ⟨fun h => absurd h h1, fun h => absurd h h2⟩
  rcases hcase with ⟨c, hc, rfl, hn⟩ | ⟨rfl, z1, z2, z3⟩
  . exact ⟨c, (ev_opt e1 (ev_opt e2 (ev_opt e3 (ev_opt hr (ev_r rfl))))), no hc fun k => hn ⟨q1.2 k.plan, q2.2 k.trk, q3.2 k.nat⟩⟩
  by_cases g1 : 64 < h.met.length
  . exact ⟨4, (ev_opt e1 (ev_opt e2 (ev_opt e3 (ev_opt hr (ev_t (decide_eq_true (by show (64 : Int) < (h.met.length : Int); omega)) (ev_r rfl)))))), no (by decide) fun k => by have := k.met.1; omega⟩
  have d1 : decide ((64 : Int) < (h.met.length : Int)) = false := decide_eq_false (by omega)
  by_cases g2 : h.nl = h.life
  case neg => exact ⟨4, (ev_opt e1 (ev_opt e2 (ev_opt e3 (ev_opt hr (ev_f d1 (ev_t (by show (!decide (h.nl = h.life)) = true; simp [g2]) (ev_r rfl))))))), no (by decide) fun k => g2 k.el⟩
  have d2 : (!decide (h.nl = h.life)) = false := by simp [g2]
  by_cases g3 : h.lb = h.lt
  case neg => exact ⟨4, (ev_opt e1 (ev_opt e2 (ev_opt e3 (ev_opt hr (ev_f d1 (ev_f d2 (ev_t (by show (!decide (h.lb = h.lt)) = true; simp [g3]) (ev_r rfl)))))))), no (by decide) fun k => g3 k.eb⟩
  have d3 : (!decide (h.lb = h.lt)) = false := by simp [g3]
  by_cases g4 : h.sb = h.st
  case neg => exact ⟨4, (ev_opt e1 (ev_opt e2 (ev_opt e3 (ev_opt hr (ev_f d1 (ev_f d2 (ev_f d3 (ev_t (by show (!decide (h.sb = h.st)) = true; simp [g4]) (ev_r rfl))))))))), no (by decide) fun k => g4 k.es⟩
  have d4 : (!decide (h.sb = h.st)) = false := by simp [g4]
  have lp := loop_all (tag := 400012) (f := fun x => (hsCheck_step40_12 x).eval) (l := h.met)
      (fun i => ((i : Int), (pAt h.met i, (h.met, ((h.met.length : Int), h.t (h.out, (h.lt, (h.st, (h.life, (h.rate, (h.most, (h.rules, (h.els, ())))))))))))))
      (MAt h.met h.rate h.most) (Sum.inl ((4 : Int), ())) (Sum.inr ())
      (fun i x hx => by
        have hi := (List.getElem?_eq_some_iff.1 hx).1
        obtain ⟨c, hc, hq⟩ := buCheck_ex (bOf x)
        have hm := meter_fn h x.addr (by unfold Big; omega)
        have hp : pAt h.met (i + 1) = x.at' := by simp only [pAt, hx]
        show (MAt h.met h.rate h.most i x -> (hsCheck_step40_12 _).eval = _) /\ (¬ MAt h.met h.rate h.most i x -> (hsCheck_step40_12 _).eval = _)
        refine ⟨fun hA => ?_, fun hA => ?_⟩
        . obtain ⟨a1, a2, a3, a4, a5⟩ := hA
          refine ev_t (decide_eq_true (by show (i : Int) < (h.met.length : Int); omega)) (ev_g (decide_eq_true (by show (0 : Int) <= (i : Int); omega)) (ev_opt (show h.met[Int.toNat (i : Int)]? = some x by simpa using hx) (ev_opt hc (ev_f (by simp [hq.2 a1]) (ev_f (by show (!decide (x.rate = h.rate)) = false; simp [a2]) (ev_f (by show (!decide (x.most = h.most)) = false; simp [a3]) (ev_f (decide_eq_false (by show ¬ x.at' < pAt h.met i; omega)) (ev_opt hm ?_))))))))
          refine ev_f ?_ (ev_r ?_)
          . cases h5 : hit (mb x.addr) h.met with
            | none => rw [h5] at a5; cases a5
            | some q => rw [h5] at a5; have : q.1 = i := by simpa using a5
                        simp [this]
          . rw [next_i64 i (by omega), hp]; rfl
        . refine ev_t (decide_eq_true (by show (i : Int) < (h.met.length : Int); omega)) (ev_g (decide_eq_true (by show (0 : Int) <= (i : Int); omega)) (ev_opt (show h.met[Int.toNat (i : Int)]? = some x by simpa using hx) (ev_opt hc ?_)))
          by_cases b1 : c = 0
          case neg => exact ev_t (by simpa using b1) (ev_r rfl)
          refine ev_f (by simpa using b1) ?_
          by_cases b2 : x.rate = h.rate
          case neg => exact ev_t (by show (!decide (x.rate = h.rate)) = true; simp [b2]) (ev_r rfl)
          refine ev_f (by show (!decide (x.rate = h.rate)) = false; simp [b2]) ?_
          by_cases b3 : x.most = h.most
          case neg => exact ev_t (by show (!decide (x.most = h.most)) = true; simp [b3]) (ev_r rfl)
          refine ev_f (by show (!decide (x.most = h.most)) = false; simp [b3]) ?_
          by_cases b4 : x.at' < pAt h.met i
          . exact ev_t (decide_eq_true b4) (ev_r rfl)
          refine ev_f (decide_eq_false b4) (ev_opt hm (ev_t ?_ (ev_r rfl)))
          have b5 : ¬ (hit (mb x.addr) h.met).map (·.1) = some i := fun q => hA ⟨hq.1 b1, b2, b3, by omega, q⟩
          cases h5 : hit (mb x.addr) h.met with
          | none => simp <;> omega
          | some q => rw [h5] at b5; have : ¬ q.1 = i := by simpa using b5
                      simp <;> omega)
      (by show (hsCheck_step40_12 _).eval = _; exact ev_f (by simp) (ev_r rfl)) 18446744073709551616 (by omega)
  rcases lp with ⟨k1, k2⟩ | ⟨k1, k2⟩
  . refine ⟨0, (ev_opt e1 (ev_opt e2 (ev_opt e3 (ev_opt hr (ev_f d1 (ev_f d2 (ev_f d3 (ev_f d4 (ev_opt k2 (ev_r rfl)))))))))), fun _ => ⟨q1.1 z1, q2.1 z2, q3.1 z3, met_at.1 ⟨by omega, k1⟩, g2, g3, g4⟩, fun _ => rfl⟩
  . refine ⟨4, (ev_opt e1 (ev_opt e2 (ev_opt e3 (ev_opt hr (ev_f d1 (ev_f d2 (ev_f d3 (ev_f d4 (ev_opt k2 (ev_r rfl)))))))))), no (by decide) fun k => k1 (met_at.2 k.met).2⟩

def lastM (l : List TMeter) : Int := match l.getLast? with | some m => m.at' | none => 0
def mx (a b : Int) : Int := if b > a then b else a
def lastH (h : Hs) : Int := mx (mx (lastM h.met) (last h.trk)) (lastAt h.maps)
theorem hsLast_ok (h : Hs) (k : HouseOk h) : hsLast_fn (h.t ()) = some (lastH h, ()) := by
 have f1 := k.met.1; have f2 := k.trk.1; have f3 := k.nat.len.2.2
 unfold hsLast_fn
 have get : ∀ {α : Type} (l : List α), 0 < l.length -> l.length <= 128 -> decide ((0 : Int) <= IntKind.wrap IntKind.i64 ((↑(List.length l) : Int) - (1 : Int))) = true /\ l[Int.toNat (IntKind.wrap IntKind.i64 ((↑(List.length l) : Int) - (1 : Int)))]? = l.getLast? := by
   intro α l h1 h2
   rw [prev_i64 _ h1 (by omega)]
   exact ⟨by simp, by rw [List.getLast?_eq_getElem?]; simp⟩
 have ne : ∀ {α : Type} (l : List α), ¬ 0 < l.length -> l.getLast? = none := fun l hl => by
   have : l = [] := List.eq_nil_of_length_eq_zero (by omega)
   rw [this]; rfl
 have sm : ∀ {α : Type} (l : List α), 0 < l.length -> ∃ x, l.getLast? = some x := fun l hl => by
   cases e : l.getLast? with
   | none => rw [List.getLast?_eq_none_iff] at e; rw [e] at hl; simp at hl
   | some x => exact ⟨x, rfl⟩
 have nm : ∀ x ∈ h.met, 0 <= x.at' := fun x hx => ((k.met.2.1 x hx).1).2.2.2.2.2.2.1
 have nt : ∀ x ∈ h.trk, 0 <= x.at' := fun x hx => (form_st (k.trk.2.1 x hx)).2.1
 have nn : ∀ x ∈ h.maps, 0 <= x.at' := fun x hx => (k.nat.ok x hx).2.2.2.1
 have z : ∀ x : Int, 0 <= x -> mx 0 x = x := fun x hx => by unfold mx; split <;> omega
 have z' : ∀ x : Int, 0 <= x -> mx x 0 = x := fun x hx => by unfold mx; rw [if_neg (by omega)]
 have nmx : ∀ a b : Int, 0 <= a -> 0 <= b -> 0 <= mx a b := fun a b h1 h2 => by unfold mx; split <;> omega
 unfold lastH lastM last lastAt
 by_cases c1 : 0 < h.met.length
 . obtain ⟨x1, e1⟩ := sm _ c1
   refine ev_t (decide_eq_true (by show (0 : Int) < (h.met.length : Int); omega)) (ev_g (get h.met c1 (by omega)).1 (ev_opt ((get h.met c1 (by omega)).2.trans e1) ?_))
   have p1 := nm x1 (List.mem_of_getLast? e1)
   by_cases c2 : 0 < h.trk.length
   . obtain ⟨x2, e2⟩ := sm _ c2
     have p2 := nt x2 (List.mem_of_getLast? e2)
     refine ev_t (decide_eq_true (by show (0 : Int) < (h.trk.length : Int); omega)) (ev_g (get h.trk c2 (by omega)).1 (ev_opt ((get h.trk c2 (by omega)).2.trans e2) ?_))
     by_cases c3 : 0 < h.maps.length
     . obtain ⟨x3, e3⟩ := sm _ c3
       refine ev_t (decide_eq_true (by show (0 : Int) < (h.maps.length : Int); omega)) (ev_g (get h.maps c3 (by omega)).1 (ev_opt ((get h.maps c3 (by omega)).2.trans e3) (ev_r ?_)))
       simp only [e1, e2, e3]; rfl
     . refine ev_f (decide_eq_false (by show ¬ (0 : Int) < (h.maps.length : Int); omega)) (ev_r ?_)
       simp only [e1, e2, ne _ c3]; rw [z' _ (nmx _ _ p1 p2)]; rfl
   . refine ev_f (decide_eq_false (by show ¬ (0 : Int) < (h.trk.length : Int); omega)) ?_
     by_cases c3 : 0 < h.maps.length
     . obtain ⟨x3, e3⟩ := sm _ c3
       refine ev_t (decide_eq_true (by show (0 : Int) < (h.maps.length : Int); omega)) (ev_g (get h.maps c3 (by omega)).1 (ev_opt ((get h.maps c3 (by omega)).2.trans e3) (ev_r ?_)))
       simp only [e1, ne _ c2, e3]; rw [z' _ p1]; rfl
     . refine ev_f (decide_eq_false (by show ¬ (0 : Int) < (h.maps.length : Int); omega)) (ev_r ?_)
       simp only [e1, ne _ c2, ne _ c3]; rw [z' _ p1, z' _ p1]
 . refine ev_f (decide_eq_false (by show ¬ (0 : Int) < (h.met.length : Int); omega)) ?_
   by_cases c2 : 0 < h.trk.length
   . obtain ⟨x2, e2⟩ := sm _ c2
     have p2 := nt x2 (List.mem_of_getLast? e2)
     refine ev_t (decide_eq_true (by show (0 : Int) < (h.trk.length : Int); omega)) (ev_g (get h.trk c2 (by omega)).1 (ev_opt ((get h.trk c2 (by omega)).2.trans e2) ?_))
     by_cases c3 : 0 < h.maps.length
     . obtain ⟨x3, e3⟩ := sm _ c3
       refine ev_t (decide_eq_true (by show (0 : Int) < (h.maps.length : Int); omega)) (ev_g (get h.maps c3 (by omega)).1 (ev_opt ((get h.maps c3 (by omega)).2.trans e3) (ev_r ?_)))
       simp only [ne _ c1, e2, e3]; rfl
     . refine ev_f (decide_eq_false (by show ¬ (0 : Int) < (h.maps.length : Int); omega)) (ev_r ?_)
       simp only [ne _ c1, e2, ne _ c3]; rw [z' _ (nmx _ _ (Int.le_refl 0) p2)]; rfl
   . refine ev_f (decide_eq_false (by show ¬ (0 : Int) < (h.trk.length : Int); omega)) ?_
     by_cases c3 : 0 < h.maps.length
     . obtain ⟨x3, e3⟩ := sm _ c3
       refine ev_t (decide_eq_true (by show (0 : Int) < (h.maps.length : Int); omega)) (ev_g (get h.maps c3 (by omega)).1 (ev_opt ((get h.maps c3 (by omega)).2.trans e3) (ev_r ?_)))
       simp only [ne _ c1, ne _ c2, e3]; rfl
     . refine ev_f (decide_eq_false (by show ¬ (0 : Int) < (h.maps.length : Int); omega)) (ev_r ?_)
       simp only [ne _ c1, ne _ c2, ne _ c3]; rfl
structure Till (h : Hs) (now : Int) : Prop where
 met : ∀ m ∈ h.met, m.at' <= now
 trk : ∀ m ∈ h.trk, m.at' <= now
 maps : ∀ m ∈ h.maps, m.at' <= now
 pos : 0 <= now
theorem lastM_ge {l : List TMeter} {r m : Int} (h : MetOk l r m) : ∀ x ∈ l, x.at' <= lastM l := by
 intro x hx
 unfold lastM
 cases e : l.getLast? with
 | none => rw [List.getLast?_eq_none_iff] at e; rw [e] at hx; cases hx
 | some y =>
  obtain ⟨ys, rfl⟩ := List.getLast?_eq_some_iff.1 e
  rcases List.mem_append.1 hx with h1 | h1
  . exact ((List.pairwise_append.1 h.2.2).2.2 x h1 y (by simp)).1
  . simp at h1; rw [h1]; exact Int.le_refl _
theorem lastM_le {l : List TMeter} {now : Int} (h0 : 0 <= now) (h : ∀ m ∈ l, m.at' <= now) : lastM l <= now := by
 unfold lastM
 cases e : l.getLast? with
 | none => exact h0
 | some y => exact h y (List.mem_of_getLast? e)
theorem last_le' {l : List TTalk} {now : Int} (h0 : 0 <= now) (h : ∀ m ∈ l, m.at' <= now) : last l <= now := by
 unfold last
 cases e : l.getLast? with
 | none => exact h0
 | some y => exact h y (List.mem_of_getLast? e)
theorem till_iff {h : Hs} (k : HouseOk h) (now : Int) : lastH h <= now ↔ Till h now := by
 have a1 := lastM_ge k.met; have a2 := last_le k.trk; have a3 := lastAt_ge k.nat.sorted
 constructor
 . intro hn
   have hz : 0 <= lastM h.met := by
    unfold lastM
    cases e : h.met.getLast? with
    | none => exact Int.le_refl _
    | some y => exact ((k.met.2.1 y (List.mem_of_getLast? e)).1).2.2.2.2.2.2.1
   have b : lastM h.met <= now /\ last h.trk <= now /\ lastAt h.maps <= now := by
    unfold lastH mx at hn
    repeat' split at hn
    all_goals omega
   exact ⟨fun m hm => Int.le_trans (a1 m hm) b.1, fun m hm => Int.le_trans (a2 m hm) b.2.1, fun m hm => Int.le_trans (a3 m hm) b.2.2, by omega⟩
 . rintro ⟨h1, h2, h3, h4⟩
   have b1 := lastM_le h4 h1; have b2 := last_le' h4 h2; have b3 := lastAt_le h4 h3
   unfold lastH mx
   repeat' split
   all_goals omega
structure Fl where (a b pr p q : Int)
def wk (h : Hs) (f : Fl) (d : List UInt8) (now : Int) : Int × (Int × (Int × (Int × (Int × (Int × ((List TRule) × (Bool × ((List TTalk) × (Int × (Int × (Int × (Int × (Int × ((List TMap) × (Int × (Int × (Int × (Int × (Int × ((List UInt8) × (Int × ((List TMeter) × Unit)))))))))))))))))))))) :=
 (h.out, (h.lt, (h.st, (h.life, (h.rate, (h.most, (h.rules, (h.els, (h.trk, (h.nl, (h.lb, ((h.L : Int), (h.sb, ((h.S : Int), (h.maps, (f.a, (f.b, (f.pr, (f.p, (f.q, (d, (now, (h.met, ())))))))))))))))))))))))
theorem delMeter_ok (l : List TMeter) (i j : Nat) (hij : i <= j) (hj : j <= l.length) : delMeter_fn ((i : Int), ((j : Int), (l, ()))) = some (l.take i ++ l.drop j, ()) := by
 by_cases he : i = j
 . subst he
   show (delMeter_tree _).eval = _
   refine ev_g (decide_eq_true (by omega)) (ev_t (decide_eq_true rfl) (ev_g (decide_eq_true rfl) (ev_r ?_)))
   rw [List.take_append_drop]
 . unfold delMeter_fn delMeter_tree
   have hj2 : Int.toNat ((l.length : Int) - (j : Int)) = l.length - j := by omega
   have hB : (List.take (l.length - j) (List.drop j l)).length = l.length - j := by simp
   simp only [Int.toNat_natCast, hj2]
   refine ev_g (by simp <;> omega) (ev_f (by simp <;> omega) (ev_g (by simp <;> omega) (ev_g (by simp <;> omega) (ev_g (by simp <;> omega) (ev_g (by rw [hB]; simp; omega) ?_)))))
   refine ev_g (by simp [hB]; omega) (ev_g (by simp [hB]; omega) (ev_g (by simp [hB]; omega) (ev_r ?_)))
   simp only [del_eq l i j (by omega) (by omega)]
def mBu (h : Hs) (a now : Int) : Bu := match hit (mb a) h.met with | some r => bOf r.2 | none => ⟨h.rate, h.most, h.most, now⟩
def mRest (h : Hs) (a : Int) : List TMeter := match hit (mb a) h.met with | some r => h.met.take r.1 ++ h.met.drop (r.1 + 1) | none => if h.met.length = 64 then h.met.drop 1 else h.met
def mOf (a : Int) (b : Bu) : TMeter := ⟨a, b.rate, b.most, b.has, b.at'⟩
def mNew (h : Hs) (a now n : Int) : List TMeter := mRest h a ++ [mOf a (tkR (mBu h a now) now n).1]
def mHs (h : Hs) (a now n : Int) : Hs := { h with met := mNew h a now n }
def mGo (h : Hs) (a now n : Int) : Bool := (tkR (mBu h a now) now n).2
theorem mRest_sub (h : Hs) (a : Int) : (mRest h a).Sublist h.met := by
 unfold mRest
 split
 . rename_i r e
   conv => rhs; rw [<- List.take_append_drop r.1 h.met]
   exact List.Sublist.append_left (by rw [show r.1 + 1 = 1 + r.1 by omega, <- List.drop_drop, List.drop_drop, Nat.add_comm, <- List.drop_drop]; exact List.drop_sublist _ _) _
 . split
   . exact List.drop_sublist _ _
   . exact List.Sublist.refl _
theorem mRest_len (h : Hs) (a : Int) (k : HouseOk h) : (mRest h a).length < 64 := by
 have := k.met.1
 unfold mRest
 split
 . rename_i r e
   have := hit_lt (i := r.1) (x := r.2) e
   simp; omega
 . split <;> simp <;> omega
theorem mRest_not (h : Hs) (a : Int) (k : HouseOk h) : ∀ m ∈ mRest h a, m.addr ≠ a := by
 intro m hm
 unfold mRest at hm
 split at hm
 . rename_i r e
   have h1 := hit_at (i := r.1) (x := r.2) e
   obtain ⟨hlt, hx⟩ := List.getElem?_eq_some_iff.1 h1.1
   have ha : r.2.addr = a := of_decide_eq_true h1.2
   have hp := List.pairwise_iff_getElem.1 k.met.2.2
   rcases List.mem_append.1 hm with h2 | h2
   . obtain ⟨j, hj, rfl⟩ := List.getElem_of_mem h2
     rw [List.getElem_take]
     have hj2 : j < r.1 := by simp at hj; omega
     have := (hp j r.1 (by omega) hlt hj2).2
     rw [hx, ha] at this; exact this
   . obtain ⟨j, hj, rfl⟩ := List.getElem_of_mem h2
     rw [List.getElem_drop]
     have := (hp r.1 (r.1 + 1 + j) hlt (by simp at hj; omega) (by omega)).2
     rw [hx, ha] at this; exact fun q => this q.symm
 . rename_i e
   have h1 := hit_none.1 e
   have hm' : m ∈ h.met := by
     split at hm
     . exact List.mem_of_mem_drop hm
     . exact hm
   exact of_decide_eq_false (h1 m hm')
theorem mBu_ok {h : Hs} (k : HouseOk h) {a now : Int} (ht : Till h now) (hn : now <= 1099511627776) : BOk (mBu h a now) /\ (mBu h a now).rate = h.rate /\ (mBu h a now).most = h.most /\ (mBu h a now).at' <= now := by
 have h0 := ht.pos; have p1 := k.plan.rate; have p2 := k.plan.most
 unfold mBu
 split
 . rename_i r e
   have hm := List.mem_of_getElem? (hit_at (i := r.1) (x := r.2) e).1
   obtain ⟨g1, g2, g3⟩ := k.met.2.1 _ hm
   exact ⟨g1, g2, g3, ht.met _ hm⟩
 . exact ⟨⟨p1.1, p1.2, p2.1, p2.2, by show 0 <= h.most; omega, Int.le_refl _, h0, hn⟩, rfl, rfl, Int.le_refl _⟩
theorem tkR_parts (b : Bu) (now n : Int) : (tkR b now n).1.rate = b.rate /\ (tkR b now n).1.most = b.most /\ (tkR b now n).1.at' = now := by
 unfold tkR; split <;> exact ⟨rfl, rfl, rfl⟩
theorem mHs_ok {h : Hs} (k : HouseOk h) {a now n : Int} (ht : Till h now) (hn : now <= 1099511627776) (h0 : 0 <= n /\ n <= 1000000000) : HouseOk (mHs h a now n) /\ Till (mHs h a now n) now := by
 obtain ⟨b1, b2, b3, b4⟩ := mBu_ok (a := a) k ht hn
 have tk := tk_bok (b := mBu h a now) (now := now) (n := n) ⟨b1, b4, hn, h0.1, h0.2⟩
 obtain ⟨t1, t2, t3⟩ := tkR_parts (mBu h a now) now n
 have hsub := mRest_sub h a
 have hl := mRest_len h a k
 have hno := mRest_not h a k
 refine ⟨⟨⟨k.plan.lt, k.plan.st, k.plan.life, k.plan.rate, k.plan.most, k.plan.rules⟩, k.trk, k.nat, ⟨?_, ?_, ?_⟩, k.el, k.eb, k.es⟩, ⟨?_, ht.trk, ht.maps, ht.pos⟩⟩
 . show (mRest h a ++ [_]).length <= 64
   rw [List.length_append]; simp only [List.length_singleton]; omega
 . intro m hm
   rcases List.mem_append.1 hm with h1 | h1
   . exact k.met.2.1 m (hsub.subset h1)
   . simp at h1
     rw [h1]
     exact ⟨tk, t1.trans b2, t2.trans b3⟩
 . refine List.pairwise_append.2 ⟨k.met.2.2.sublist hsub, List.pairwise_singleton _ _, fun x hx y hy => ?_⟩
   simp at hy
   rw [hy]
   exact ⟨by show x.at' <= (tkR _ _ _).1.at'; rw [t3]; exact ht.met x (hsub.subset hx), hno x hx⟩
 . intro m hm
   rcases List.mem_append.1 hm with h1 | h1
   . exact ht.met m (hsub.subset h1)
   . simp at h1
     rw [h1]; show (tkR _ _ _).1.at' <= now; rw [t3]; exact Int.le_refl _
theorem measured_fn {h : Hs} (k : HouseOk h) (f : Fl) (d : List UInt8) {now : Int} (ht : Till h now) (hn : now <= 1099511627776) (hd : d.length <= 1000000000) : wMeasured_fn (wk h f d now) = some (mGo h f.a now d.length, wk (mHs h f.a now d.length) f d now) := by
 obtain ⟨b1, b2, b3, b4⟩ := mBu_ok (a := f.a) k ht hn
 have hl64 := k.met.1
 have tk := take_ok (b := mBu h f.a now) (now := now) (n := d.length) ⟨b1, b4, hn, by omega, by omega⟩
 have hm := meter_fn h f.a (by unfold Big; omega)
 have hrl := mRest_len h f.a k
 have fin : ∀ (R : List TMeter), R = mRest h f.a -> (Tr.opt (β := (Int × (Int × (Int × (Int × (Bool × (Int × Unit))))))) ((buTake_fn ((mBu h f.a now).rate, ((mBu h f.a now).most, ((mBu h f.a now).has, ((mBu h f.a now).at', (now, ((↑(List.length d) : Int), ())))))))) (fun r1 =>
  .grd (decide ((List.length R + List.length [TMeter.mk f.a r1.1 r1.2.1 r1.2.2.1 r1.2.2.2.1]) * (40 : Nat) <= (140737488355328 : Nat) /\ List.length R + List.length [TMeter.mk f.a r1.1 r1.2.1 r1.2.2.1 r1.2.2.2.1] <= (9223372036854775807 : Nat))) (
  .grd (decide (List.length (R ++ [TMeter.mk f.a r1.1 r1.2.1 r1.2.2.1 r1.2.2.2.1]) = List.length (R ++ [TMeter.mk f.a r1.1 r1.2.1 r1.2.2.1 r1.2.2.2.1]))) (
  .ret (r1.2.2.2.2.1, (h.out, (h.lt, (h.st, (h.life, (h.rate, (h.most, (h.rules, (h.els, (h.trk, (h.nl, (h.lb, ((h.L : Int), (h.sb, ((h.S : Int), (h.maps, (f.a, (f.b, (f.pr, (f.p, (f.q, (d, (now, ((R ++ [TMeter.mk f.a r1.1 r1.2.1 r1.2.2.1 r1.2.2.2.1]), ())))))))))))))))))))))))))))).eval = some (mGo h f.a now d.length, wk (mHs h f.a now d.length) f d now) := by
  rintro R rfl
  refine ev_opt tk (ev_g (decide_eq_true ?_) (ev_g (decide_eq_true rfl) (ev_r rfl)))
  simp only [List.length_singleton]; omega
 unfold wMeasured_fn
 refine ev_opt hm ?_
 cases e : hit (mb f.a) h.met with
 | some r =>
  have h1 := hit_at (i := r.1) (x := r.2) e
  have hlt := hit_lt (i := r.1) (x := r.2) e
  have eB : mBu h f.a now = bOf r.2 := by unfold mBu; rw [e]
  have eR : h.met.take r.1 ++ h.met.drop (r.1 + 1) = mRest h f.a := by unfold mRest; rw [e]
  refine ev_t (decide_eq_true (by show (0 : Int) <= (r.1 : Int); omega)) (ev_g (decide_eq_true (by show (0 : Int) <= (r.1 : Int) /\ (r.1 : Int) < (h.met.length : Int); omega)) (ev_opt (b := r.2) (by show h.met[Int.toNat (r.1 : Int)]? = some r.2; rw [Int.toNat_natCast]; exact h1.1) (ev_g (decide_eq_true rfl) (ev_opt (b := (h.met.take r.1 ++ h.met.drop (r.1 + 1), ())) ?_ ?_))))
  . show delMeter_fn ((r.1 : Int), (IntKind.wrap IntKind.i64 ((r.1 : Int) + 1), (h.met, ()))) = _
    rw [next_i64 r.1 (by omega)]
    exact delMeter_ok _ _ _ (by omega) (by omega)
  . have := fin _ eR
    rw [eB] at this
    exact this
 | none =>
  have eB : mBu h f.a now = ⟨h.rate, h.most, h.most, now⟩ := by unfold mBu; rw [e]
  refine ev_f (decide_eq_false (by show ¬ (0 : Int) <= -1; omega)) ?_
  by_cases h64 : h.met.length = 64
  . have eR : h.met.take 0 ++ h.met.drop 1 = mRest h f.a := by unfold mRest; rw [e]; simp [h64]
    refine ev_t (decide_eq_true (by show (h.met.length : Int) = 64; omega)) (ev_g (decide_eq_true rfl) (ev_opt (delMeter_ok h.met 0 1 (by omega) (by omega)) ?_))
    have := fin _ eR
    rw [eB] at this
    exact this
  . have eR : h.met = mRest h f.a := by unfold mRest; rw [e]; simp [h64]
    refine ev_f (decide_eq_false (by show ¬ (h.met.length : Int) = 64; omega)) ?_
    have := fin _ eR
    rw [eB] at this
    exact this

def kn (h : Hs) (w : Rd4) (now : Int) : Bool := match hit (meet w) h.trk with | none => false | some q => !oldB now q.2
theorem known_fn {h : Hs} (k : HouseOk h) (w : Rd4) (f : Fl) (d : List UInt8) {now : Int} (h0 : 0 <= now) (hn : now <= 1099511627776) : wKnown_fn (w.a, (w.b, (w.p, (w.q, wk h f d now)))) = some (kn h w now, wk h f d now) := by
 unfold wKnown_fn
 refine ev_opt (find_good h.trk w now k.trk h0 hn) (ev_g (decide_eq_true rfl) (ev_r ?_))
 unfold fnd kn
 cases hit (meet w) h.trk with
 | none => rfl
 | some q => cases h1 : oldB now q.2 <;> simp [h1, noT, okT] <;> rfl
def Heard (l : List TTalk) (w : Rd4) (flags now : Int) (l1 : List TTalk) (ok : Bool) : Prop :=
 ∃ (a : List TTalk) (b : Bool) (e : Int), trHear_fn (l, (w.a, (w.b, (w.p, (w.q, (flags, (now, ()))))))) = some (a, (b, (e, ()))) /\ l1 = (if e = 0 then a else l) /\ ok = (decide (e = 0) && b)
theorem hear_till (l : List TTalk) (w : Rd4) (flags now : Int) (hg : Good l) (hr : InR l w flags now) {a : List TTalk} {ok : Bool} {e : Int} (h : trHear_fn (l, (w.a, (w.b, (w.p, (w.q, (flags, (now, ()))))))) = some (a, (ok, (e, ())))) : ∀ x ∈ a, x.at' <= now := by
 rw [hear_good l w flags now hg hr] at h
 obtain ⟨r1, r2, r3, r4, r5⟩ := hr
 have hl : ∀ y ∈ l, y.at' <= now := fun y hy => Int.le_trans (last_le hg y hy) r4
 have hnow : ∀ y ∈ Young l now, y.at' <= now := fun y hy => hl y (young_mem.1 hy).1
 cases h2 : hit (meet w) (Young l now) with
 | none =>
  rw [tail_none l w flags now hg h2] at h
  split at h
  . split at h
    . cases h; exact hl
    . cases h
      intro x hx
      rcases List.mem_append.1 hx with h3 | h3
      . exact hnow x h3
      . simp at h3; rw [h3]; exact Int.le_refl _
  . cases h; exact hnow
 | some q =>
  obtain ⟨i, x⟩ := q
  cases hrst : rstB flags with
  | true =>
    rw [tail_some l w flags now hg h2 hrst] at h
    cases h
    exact fun y hy => hnow y ((out_sub _ i).subset hy)
  | false =>
    obtain ⟨b, x', e1, e2, e3, e4⟩ := tail_pass l w flags now hg h2 hrst
    rw [e4] at h
    cases b with
    | false => cases h; exact hnow
    | true =>
      cases h
      intro y hy
      rcases List.mem_append.1 hy with h3 | h3
      . exact hnow y ((out_sub _ i).subset h3)
      . simp at h3; rw [h3, e2]; exact Int.le_refl _
theorem heard_ex {l : List TTalk} (hg : Good l) (w : Rd4) (flags now : Int) (hl : ∀ x ∈ l, x.at' <= now) : ∃ l1 ok, Heard l w flags now l1 ok := by
 have hb : l.length * 48 <= 140737488351232 := by have := hg.1; omega
 by_cases hr : InR l w flags now
 . obtain ⟨a, ok, e, h1, _⟩ := hear_all l w flags now hg hr
   exact ⟨_, _, a, ok, e, h1, rfl, rfl⟩
 . obtain ⟨e, _, h1⟩ := hear_bad l w flags now hb fun q => hr q.2
   exact ⟨_, _, _, _, _, h1, rfl, rfl⟩
theorem heard_good {l : List TTalk} (hg : Good l) {w : Rd4} {flags now : Int} (hl : ∀ x ∈ l, x.at' <= now) {l1 : List TTalk} {ok : Bool} (h : Heard l w flags now l1 ok) : Good l1 /\ ∀ x ∈ l1, x.at' <= now := by
 obtain ⟨a, b, e, h1, rfl, rfl⟩ := h
 have hb : l.length * 48 <= 140737488351232 := by have := hg.1; omega
 by_cases he : e = 0
 case neg => rw [if_neg he]; exact ⟨hg, hl⟩
 rw [if_pos he]
 by_cases hr : InR l w flags now
 . obtain ⟨a', ok', e', h2, h3⟩ := hear_all l w flags now hg hr
   rw [h1] at h2
   obtain ⟨rfl, rfl, rfl⟩ : a = a' /\ b = ok' /\ e = e' := by simpa using h2
   refine ⟨?_, hear_till l w flags now hg hr h1⟩
   rcases h3 with ⟨h4, _⟩ | ⟨_, h4, _⟩
   . exact absurd he h4
   . exact h4
 . obtain ⟨e', he', h2⟩ := hear_bad l w flags now hb fun q => hr q.2
   rw [h1] at h2
   obtain ⟨_, _, rfl⟩ : a = l /\ b = false /\ e = e' := by simpa using h2
   exact absurd he he'
def flagsOf (d : List UInt8) : Int := (((pk d).data.getD 13 0).toNat : Int)
theorem talked_fn {h : Hs} (w : Rd4) (f : Fl) (d : List UInt8) {now : Int} (hd : EndOk d) (h6 : (d.getD 9 0).toNat = 6) (hl : d.length <= Lim) {l1 : List TTalk} {ok : Bool} (hh : Heard h.trk w (flagsOf d) now l1 ok) :
   wTalked_fn (w.a, (w.b, (w.p, (w.q, wk h f d now)))) = some (ok, wk { h with trk := l1 } f d now) := by
 obtain ⟨a, b, e, h1, rfl, rfl⟩ := hh
 obtain ⟨u1, u2⟩ := pk_u32 d
 obtain ⟨o, ho⟩ := tc_ok u1 u2 (hd.tcp h6)
 unfold wTalked_fn
 refine ev_opt (ipRead_ok hd.ip hl) (ev_opt ho (ev_opt h1 ?_))
 by_cases he : e = 0
 . have d1 : decide (e = 0) = true := decide_eq_true he
   refine ev_t d1 (ev_t d1 (ev_g (decide_eq_true rfl) (ev_r ?_)))
   rw [if_pos he, d1]; rfl
 . have d1 : decide (e = 0) = false := decide_eq_false he
   refine ev_f d1 (ev_f d1 (ev_g (decide_eq_true rfl) (ev_r ?_)))
   rw [if_neg he, d1]; rfl

def pass (h : Hs) (f : Fl) : Bool := (dec h.rules (meetsB f.a f.b f.pr f.p f.q) (badB f.pr f.p f.q) h.els).1
def road (f : Fl) : Rd4 := ⟨f.a, f.b, f.p, f.q⟩
structure Fit32 (h : Hs) : Prop where
 out : U32 h.out
 adr : ∀ m ∈ h.maps, U32 m.addr
def Talks (h : Hs) (f : Fl) (w : Rd4) (d : List UInt8) (now : Int) (l1 : List TTalk) (ok : Bool) : Prop := (f.pr ≠ 6 /\ l1 = h.trk /\ ok = true) \/ (f.pr = 6 /\ Heard h.trk w (flagsOf d) now l1 ok)
def nOut (h : Hs) (f : Fl) (now : Int) : Option (Int × (Int × (Int × (Int × (Int × ((List TMap) × (Int × (Int × Unit)))))))) := natOut_fn (h.nl, (h.lb, ((h.L : Int), (h.sb, ((h.S : Int), (h.maps, (f.pr, (f.a, (f.p, (now, ()))))))))))
inductive Leaves (h : Hs) (f : Fl) (d : List UInt8) (now : Int) : Hs -> List UInt8 -> Int -> Prop
 | rules (h1 : f.pr ≠ 6 \/ kn h (road f) now = false) (h2 : pass h f = false) : Leaves h f d now h [] 4
 | talk (l1 : List TTalk) (h1 : f.pr = 6) (h2 : kn h (road f) now = true \/ pass h f = true) (h3 : Heard h.trk (road f) (flagsOf d) now l1 false) : Leaves h f d now { h with trk := l1 } [] 4
 | full (l1 : List TTalk) (e : Int) (h1 : (f.pr = 6 /\ kn h (road f) now = true) \/ pass h f = true) (h2 : Talks h f (road f) d now l1 true) (he : e ≠ 0) (h3 : nOut h f now = some (h.nl, (h.lb, ((h.L : Int), (h.sb, ((h.S : Int), (h.maps, ((0 : Int), (e, ()))))))))) : Leaves h f d now { h with trk := l1 } [] 5
 | out (l1 : List TTalk) (port : Int) (L2 S2 : Nat) (m2 : List TMap) (h1 : (f.pr = 6 /\ kn h (road f) now = true) \/ pass h f = true) (h2 : Talks h f (road f) d now l1 true)
  (h3 : nOut h f now = some (h.nl, (h.lb, ((L2 : Int), (h.sb, ((S2 : Int), (m2, (port, ((0 : Int), ()))))))))) (hp : U16 port) : Leaves h f d now { h with trk := l1, L := L2, S := S2, maps := m2 } (swp d h.out port 12 0) 0
theorem nOut_ex {h : Hs} (k : HouseOk h) {f : Fl} {now : Int} (ht : Till h now) (hn : now <= 1099511627776) (hpr : f.pr = 17 \/ f.pr = 6) (hp : 0 <= f.p /\ f.p <= 65535) (ha : U32 f.a) :
   (∃ e : Int, e ≠ 0 /\ nOut h f now = some (h.nl, (h.lb, ((h.L : Int), (h.sb, ((h.S : Int), (h.maps, ((0 : Int), (e, ()))))))))) \/ ∃ (port : Int) (L2 S2 : Nat) (Z : List TMap), nOut h f now = some (h.nl, (h.lb, ((L2 : Int), (h.sb, ((S2 : Int), (Z ++ [⟨f.pr, f.a, f.p, port, now⟩], (port, ((0 : Int), ())))))))) /\
    NatOk h.nl h.lb L2 h.sb S2 (Z ++ [⟨f.pr, f.a, f.p, port, now⟩]) /\ (∀ m ∈ Z, m ∈ h.maps /\ now - m.at' <= h.nl /\ kb f.pr f.a f.p m = false) /\ (∀ m ∈ h.maps, now - m.at' <= h.nl -> kb f.pr f.a f.p m = false -> m ∈ Z) := by
 have hl := k.nat.len.2.2
 have hA : ArgOk h.maps f.pr f.p now := ⟨hpr, hp, lastAt_le ht.pos ht.maps, ht.pos, hn⟩
 obtain ⟨Y, _, hY, hcase⟩ := out_ok (addr := f.a) k.nat hA (by omega) (by unfold BigN; omega)
 rcases hcase with ⟨out, L2, S2, Z, ho, hN, _, hZ, _, _⟩ | ⟨ho, _⟩
 . exact .inr ⟨out, L2, S2, Z, ho, hN, fun m hm => ⟨((hY m).1 ((hZ m).1 hm).1).1, ((hY m).1 ((hZ m).1 hm).1).2, ((hZ m).1 hm).2⟩, fun m h1 h2 h3 => (hZ m).2 ⟨(hY m).2 ⟨h1, h2⟩, h3⟩⟩
 . exact .inl ⟨6, by decide, ho⟩
theorem nat_port {life lb : Int} {L : Nat} {sb : Int} {S : Nat} {l : List TMap} (h : NatOk life lb L sb S l) : ∀ m ∈ l, U16 m.out /\ ((m.proto = 17 /\ lb <= m.out /\ m.out < lb + 64) \/ (m.proto = 6 /\ sb <= m.out /\ m.out < sb + 64)) := by
 intro m hm
 have hb := h.bl; have hs := h.bs
 unfold baseOk at hb hs
 unfold U16
 rcases (h.ok m hm).1 with e | e
 . have : m.out ∈ outs 17 l := outs_mem.2 ⟨m, hm, e, rfl⟩
   obtain ⟨k, h1, _, h3⟩ := (h.covL.2 _).1 this
   exact ⟨by omega, .inl ⟨e, by omega, by omega⟩⟩
 . have : m.out ∈ outs 6 l := outs_mem.2 ⟨m, hm, e, rfl⟩
   obtain ⟨k, h1, _, h3⟩ := (h.covS.2 _).1 this
   exact ⟨by omega, .inr ⟨e, by omega, by omega⟩⟩
theorem dec_some (h : Hs) (f : Fl) : ruDecide_fn (h.rules, (f.a, (f.b, (f.pr, (f.p, (f.q, (h.els, ()))))))) = some (dec h.rules (meetsB f.a f.b f.pr f.p f.q) (badB f.pr f.p f.q) h.els) := decide_fn _ _ _ _ _ _ _
def flow (s : List UInt8) : Fl := ⟨(pk s).from', (pk s).to, ((s.getD 9 0).toNat : Int), wAt (pk s).data 0, wAt (pk s).data 2⟩
theorem flow_ok {d : List UInt8} (hd : EndOk d) : U32 (flow d).a /\ U32 (flow d).b /\ ((flow d).pr = 17 \/ (flow d).pr = 6) /\ U16 (flow d).p /\ U16 (flow d).q /\ ((flow d).pr = 6 ↔ (d.getD 9 0).toNat = 6) := by
 obtain ⟨u1, u2⟩ := pk_u32 d
 refine ⟨u1, u2, ?_, wAt_bound _ _, wAt_bound _ _, ?_⟩
 . rcases hd.proto with h | h
   . right; show ((d.getD 9 0).toNat : Int) = 6; omega
   . left; show ((d.getD 9 0).toNat : Int) = 17; omega
 . show ((d.getD 9 0).toNat : Int) = 6 ↔ _; omega
def Fine (h : Hs) (now : Int) : Prop := HouseOk h /\ Fit32 h /\ Till h now
theorem Fine.trk {h : Hs} {now : Int} (k : Fine h now) {w : Rd4} {flags : Int} {l1 : List TTalk} {ok : Bool} (hh : Heard h.trk w flags now l1 ok) : Fine { h with trk := l1 } now := by
 obtain ⟨k1, k2, k3⟩ := k
 obtain ⟨g1, g2⟩ := heard_good k1.trk k3.trk hh
 exact ⟨⟨⟨k1.plan.lt, k1.plan.st, k1.plan.life, k1.plan.rate, k1.plan.most, k1.plan.rules⟩, g1, k1.nat, k1.met, k1.el, k1.eb, k1.es⟩, ⟨k2.out, k2.adr⟩, ⟨k3.met, g2, k3.maps, k3.pos⟩⟩
theorem out_tail {h : Hs} {now : Int} (k : Fine h now) (hn : now <= 1099511627776) {d : List UInt8} (hd : EndOk d) :
   (∃ e : Int, e ≠ 0 /\ (!decide (e = 0)) = true /\ nOut h (flow d) now = some (h.nl, (h.lb, ((h.L : Int), (h.sb, ((h.S : Int), (h.maps, ((0 : Int), (e, ()))))))))) \/
   (∃ (port : Int) (L2 S2 : Nat) (m2 : List TMap), nOut h (flow d) now = some (h.nl, (h.lb, ((L2 : Int), (h.sb, ((S2 : Int), (m2, (port, ((0 : Int), ())))))))) /\ U16 port /\ Fine { h with L := L2, S := S2, maps := m2 } now) := by
 obtain ⟨k1, k2, k3⟩ := k
 obtain ⟨f1, f2, f3, f4, f5, f6⟩ := flow_ok hd
 rcases nOut_ex k1 k3 hn f3 f4 f1 with ⟨e, he, ho⟩ | ⟨port, L2, S2, Z, ho, hN, hZ, _⟩
 . left
   exact ⟨e, he, by rw [decide_eq_false he]; rfl, ho⟩
 . right
   have hp : U16 port := (nat_port hN _ (List.mem_append_right _ (List.mem_singleton.2 rfl))).1
   refine ⟨port, L2, S2, _, ho, hp, ⟨⟨k1.plan.lt, k1.plan.st, k1.plan.life, k1.plan.rate, k1.plan.most, k1.plan.rules⟩, k1.trk, hN, k1.met, k1.el, k1.eb, k1.es⟩, ⟨k2.out, fun m hm => ?_⟩, ⟨k3.met, k3.trk, fun m hm => ?_, k3.pos⟩⟩
   . rcases List.mem_append.1 hm with h1 | h1
     . exact k2.adr m (hZ m h1).1
     . simp at h1; rw [h1]; exact f1
   . rcases List.mem_append.1 hm with h1 | h1
     . exact k3.maps m (hZ m h1).1
     . simp at h1; rw [h1]; exact Int.le_refl _
theorem leaves_ex {h : Hs} {now : Int} (k : Fine h now) (hn : now <= 1099511627776) {d : List UInt8} (hd : EndOk d) (hl : d.length <= Lim) :
  ∃ (h' : Hs) (out : List UInt8) (why : Int), wLeaves_fn (wk h (flow d) d now) = some (out, (why, wk h' (flow d) d now)) /\ Leaves h (flow d) d now h' out why /\ Fine h' now := by
 obtain ⟨f1, f2, f3, f4, f5, f6⟩ := flow_ok hd
 have hdec := dec_some h (flow d)
 have h0 := k.2.2.pos
 unfold wLeaves_fn
 by_cases p6 : (flow d).pr = 6
 case neg =>
  have d6 : decide ((flow d).pr = 6) = false := decide_eq_false p6
  have d6' : (!decide ((flow d).pr = 6)) = true := by rw [d6]; rfl
  cases hp : pass h (flow d) with
  | false => exact ⟨h, [], 4, ev_t d6' (ev_opt hdec (ev_t (by show (!pass h (flow d)) = true; rw [hp]; rfl) (ev_g (decide_eq_true rfl) (ev_r rfl)))), .rules (.inl p6) hp, k⟩
  | true =>
   have np : (!pass h (flow d)) = false := by rw [hp]; rfl
   rcases out_tail k hn hd with ⟨e, he, he', ho⟩ | ⟨port, L2, S2, m2, ho, hpo, hF⟩
   . exact ⟨h, [], 5, ev_t d6' (ev_opt hdec (ev_f np (ev_f d6 (ev_opt ho (ev_t he' (ev_g (decide_eq_true rfl) (ev_r rfl))))))), .full h.trk e (.inr hp) (.inl ⟨p6, rfl, rfl⟩) he ho, k⟩
   . exact ⟨_, _, 0, ev_t d6' (ev_opt hdec (ev_f np (ev_f d6 (ev_opt ho (ev_f rfl (ev_opt (from_ok hd hl k.2.1.out hpo) (ev_g (decide_eq_true rfl) (ev_r rfl)))))))), .out h.trk port L2 S2 m2 (.inr hp) (.inl ⟨p6, rfl, rfl⟩) ho hpo, hF⟩
 have d6 : decide ((flow d).pr = 6) = true := decide_eq_true p6
 have d6' : (!decide ((flow d).pr = 6)) = false := by rw [d6]; rfl
 have hkn := known_fn k.1 (road (flow d)) (flow d) d h0 hn
 obtain ⟨l1, ok, hh⟩ := heard_ex k.1.trk (road (flow d)) (flagsOf d) now k.2.2.trk
 have htk := talked_fn (h := h) (road (flow d)) (flow d) d hd (f6.1 p6) hl hh
 have kF := k.trk hh
 cases hk : kn h (road (flow d)) now with
 | false =>
  have nk : (!kn h (road (flow d)) now) = true := by rw [hk]; rfl
  cases hp : pass h (flow d) with
  | false => exact ⟨h, [], 4, ev_f d6' (ev_g (decide_eq_true rfl) (ev_opt hkn (ev_t nk (ev_opt hdec (ev_t (by show (!pass h (flow d)) = true; rw [hp]; rfl) (ev_g (decide_eq_true rfl) (ev_r rfl))))))), .rules (.inr hk) hp, k⟩
  | true =>
   have np : (!pass h (flow d)) = false := by rw [hp]; rfl
   cases ok with
   | false => exact ⟨{ h with trk := l1 }, [], 4, ev_f d6' (ev_g (decide_eq_true rfl) (ev_opt hkn (ev_t nk (ev_opt hdec (ev_f np (ev_t d6 (ev_g (decide_eq_true rfl) (ev_opt htk (ev_t rfl (ev_g (decide_eq_true rfl) (ev_r rfl))))))))))), .talk l1 p6 (.inr hp) hh, kF⟩
   | true =>
     rcases out_tail kF hn hd with ⟨e, he, he', ho⟩ | ⟨port, L2, S2, m2, ho, hpo, hF⟩
     . exact ⟨{ h with trk := l1 }, [], 5, ev_f d6' (ev_g (decide_eq_true rfl) (ev_opt hkn (ev_t nk (ev_opt hdec (ev_f np (ev_t d6 (ev_g (decide_eq_true rfl) (ev_opt htk (ev_f rfl (ev_opt ho (ev_t he' (ev_g (decide_eq_true rfl) (ev_r rfl))))))))))))), .full l1 e (.inr hp) (.inr ⟨p6, hh⟩) he ho, kF⟩
     . exact ⟨{ h with trk := l1, L := L2, S := S2, maps := m2 }, swp d h.out port 12 0, 0, ev_f d6' (ev_g (decide_eq_true rfl) (ev_opt hkn (ev_t nk (ev_opt hdec (ev_f np (ev_t d6 (ev_g (decide_eq_true rfl) (ev_opt htk (ev_f rfl (ev_opt ho (ev_f rfl (ev_opt (from_ok hd hl k.2.1.out hpo) (ev_g (decide_eq_true rfl) (ev_r rfl)))))))))))))), .out l1 port L2 S2 m2 (.inr hp) (.inr ⟨p6, hh⟩) ho hpo, hF⟩
 | true =>
  have nk : (!kn h (road (flow d)) now) = false := by rw [hk]; rfl
  cases ok with
  | false => exact ⟨{ h with trk := l1 }, [], 4, ev_f d6' (ev_g (decide_eq_true rfl) (ev_opt hkn (ev_f nk (ev_t d6 (ev_g (decide_eq_true rfl) (ev_opt htk (ev_t rfl (ev_g (decide_eq_true rfl) (ev_r rfl))))))))), .talk l1 p6 (.inl hk) hh, kF⟩
  | true =>
   rcases out_tail kF hn hd with ⟨e, he, he', ho⟩ | ⟨port, L2, S2, m2, ho, hpo, hF⟩
   . exact ⟨{ h with trk := l1 }, [], 5, ev_f d6' (ev_g (decide_eq_true rfl) (ev_opt hkn (ev_f nk (ev_t d6 (ev_g (decide_eq_true rfl) (ev_opt htk (ev_f rfl (ev_opt ho (ev_t he' (ev_g (decide_eq_true rfl) (ev_r rfl))))))))))), .full l1 e (.inl ⟨p6, hk⟩) (.inr ⟨p6, hh⟩) he ho, kF⟩
   . exact ⟨{ h with trk := l1, L := L2, S := S2, maps := m2 }, swp d h.out port 12 0, 0, ev_f d6' (ev_g (decide_eq_true rfl) (ev_opt hkn (ev_f nk (ev_t d6 (ev_g (decide_eq_true rfl) (ev_opt htk (ev_f rfl (ev_opt ho (ev_f rfl (ev_opt (from_ok hd hl k.2.1.out hpo) (ev_g (decide_eq_true rfl) (ev_r rfl)))))))))))), .out l1 port L2 S2 m2 (.inl ⟨p6, hk⟩) (.inr ⟨p6, hh⟩) ho hpo, hF⟩
def roadIn (f : Fl) (addr port : Int) : Rd4 := ⟨f.a, addr, f.p, port⟩
def nIn (h : Hs) (f : Fl) (now : Int) : Option (Nat × TMap) := hit (inB h.nl f.pr f.q now) h.maps
inductive Enters (h : Hs) (f : Fl) (d : List UInt8) (now : Int) : Hs -> List UInt8 -> Int -> Prop
 | none (h1 : nIn h f now = .none) : Enters h f d now h [] 4
 | unknown (r : Nat × TMap) (h1 : nIn h f now = some r) (h2 : f.pr = 6) (h3 : kn h (roadIn f r.2.addr r.2.port) now = false) : Enters h f d now h [] 4
 | talk (r : Nat × TMap) (l1 : List TTalk) (h1 : nIn h f now = some r) (h2 : f.pr = 6) (h3 : kn h (roadIn f r.2.addr r.2.port) now = true) (h4 : Heard h.trk (roadIn f r.2.addr r.2.port) (flagsOf d) now l1 false) : Enters h f d now { h with trk := l1 } [] 4
 | ins (r : Nat × TMap) (l1 : List TTalk) (h1 : nIn h f now = some r) (h2 : f.pr = 6 -> kn h (roadIn f r.2.addr r.2.port) now = true) (h3 : Talks h f (roadIn f r.2.addr r.2.port) d now l1 true) (h4 : U32 r.2.addr /\ U16 r.2.port) : Enters h f d now { h with trk := l1 } (swp d r.2.addr r.2.port 16 2) 0
theorem enters_ex {h : Hs} {now : Int} (k : Fine h now) (hn : now <= 1099511627776) {d : List UInt8} (hd : EndOk d) (hl : d.length <= Lim) :
  ∃ (h' : Hs) (out : List UInt8) (why : Int), wEnters_fn (wk h (flow d) d now) = some (out, (why, wk h' (flow d) d now)) /\ Enters h (flow d) d now h' out why /\ Fine h' now := by
 obtain ⟨f1, f2, f3, f4, f5, f6⟩ := flow_ok hd
 have h0 := k.2.2.pos
 have hlm := k.1.nat.len.2.2
 have hin := in_ok (out := (flow d).q) k.1.nat f3 ⟨h0, hn⟩ (by unfold BigN; omega)
 have hr : ∀ r, nIn h (flow d) now = some r -> U32 r.2.addr /\ U16 r.2.port := fun r e => by
  have hm := List.mem_of_getElem? (hit_at (i := r.1) (x := r.2) e).1
  exact ⟨k.2.1.adr _ hm, (k.1.nat.ok _ hm).2.1, (k.1.nat.ok _ hm).2.2.1⟩
 have hE : nIn h (flow d) now = hit (inB h.nl (flow d).pr (flow d).q now) h.maps := rfl
 unfold wEnters_fn
 rw [<- hE] at hin
 cases e : nIn h (flow d) now with
 | none =>
  rw [e] at hin
  exact ⟨h, [], 4, ev_opt hin (ev_t rfl (ev_g (decide_eq_true rfl) (ev_r rfl))), .none e, k⟩
 | some r =>
  rw [e] at hin
  obtain ⟨ra, rp⟩ := hr r e
  by_cases p6 : (flow d).pr = 6
  case neg =>
   exact ⟨h, _, 0, ev_opt hin (ev_f rfl (ev_f (decide_eq_false p6) (ev_opt (to_ok hd hl ra rp) (ev_g (decide_eq_true rfl) (ev_r rfl))))), .ins r h.trk e (fun q => absurd q p6) (.inl ⟨p6, rfl, rfl⟩) ⟨ra, rp⟩, k⟩
  have d6 : decide ((flow d).pr = 6) = true := decide_eq_true p6
  have hkn := known_fn k.1 (roadIn (flow d) r.2.addr r.2.port) (flow d) d h0 hn
  cases hk : kn h (roadIn (flow d) r.2.addr r.2.port) now with
  | false =>
   have nk : (!kn h (roadIn (flow d) r.2.addr r.2.port) now) = true := by rw [hk]; rfl
   exact ⟨h, [], 4, ev_opt hin (ev_f rfl (ev_t d6 (ev_g (decide_eq_true rfl) (ev_opt hkn (ev_t nk (ev_g (decide_eq_true rfl) (ev_r rfl))))))), .unknown r e p6 hk, k⟩
  | true =>
   have nk : (!kn h (roadIn (flow d) r.2.addr r.2.port) now) = false := by rw [hk]; rfl
   obtain ⟨l1, ok, hh⟩ := heard_ex k.1.trk (roadIn (flow d) r.2.addr r.2.port) (flagsOf d) now k.2.2.trk
   have htk := talked_fn (h := h) (roadIn (flow d) r.2.addr r.2.port) (flow d) d hd (f6.1 p6) hl hh
   have kF := k.trk hh
   cases ok with
   | false => exact ⟨{ h with trk := l1 }, [], 4, ev_opt hin (ev_f rfl (ev_t d6 (ev_g (decide_eq_true rfl) (ev_opt hkn (ev_f nk (ev_g (decide_eq_true rfl) (ev_opt htk (ev_t rfl (ev_g (decide_eq_true rfl) (ev_r rfl)))))))))), .talk r l1 e p6 hk hh, kF⟩
   | true => exact ⟨{ h with trk := l1 }, _, 0, ev_opt hin (ev_f rfl (ev_t d6 (ev_g (decide_eq_true rfl) (ev_opt hkn (ev_f nk (ev_g (decide_eq_true rfl) (ev_opt htk (ev_f rfl (ev_opt (to_ok hd hl ra rp) (ev_g (decide_eq_true rfl) (ev_r rfl))))))))))), .ins r l1 e (fun _ => hk) (.inr ⟨p6, hh⟩) ⟨ra, rp⟩, kF⟩
structure Hop (s t : List UInt8) : Prop where
 fn : ipHop_fn (s, ()) = some (t, ((0 : Int), ()))
 ends : EndOk t
 flow : flow t = flow s
 life : 2 <= (pk s).life /\ (pk t).life = (pk s).life - 1
 pk : pk t = { pk s with life := (pk s).life - 1 }
 len : t.length <= s.length
 all : t.length = alln s
 big : t.length <= 65535
theorem hop_ex {s : List UInt8} (h : EndOk s) (hl : s.length <= Lim) (h2 : 2 <= (pk s).life) : ∃ t, Hop s t := by
 obtain ⟨t, h3, h4, h5, h6, h7⟩ := hop_fnL h.ip hl h2
 have h8 := (end_len h).2.2.2.2.2.1
 have e9 : (t.getD 9 0).toNat = (s.getD 9 0).toNat := by
   have : (pk t).proto = (pk s).proto := by rw [h5]
   have : ((t.getD 9 0).toNat : Int) = ((s.getD 9 0).toNat : Int) := this
   omega
 have ed : (pk t).data = (pk s).data := by rw [h5]
 have ef : (pk t).from' = (pk s).from' := by rw [h5]
 have eb : (pk t).to = (pk s).to := by rw [h5]
 refine ⟨t, h3, ⟨h4, by rw [e9]; exact h.proto, by rw [h5]; exact h.whole, ?_, ?_⟩, ?_, ⟨h2, by rw [h5]⟩, h5, h6, h7, by omega⟩
 . rw [e9, ed, ef, eb]; exact h.tcp
 . rw [e9, ed, ef, eb]; exact h.udp
 . unfold X.flow; rw [ed, ef, eb, e9]
inductive Goes (h : Hs) (ins : Bool) (s : List UInt8) (now : Int) : Hs -> List UInt8 -> Int -> Prop
 | broken (h1 : ¬ EndOk s) : Goes h ins s now h [] 1
 | other (h1 : EndOk s) (h2 : ins = false) (h3 : (flow s).b ≠ h.out) : Goes h ins s now h [] 4
 | life (h1 : EndOk s) (h3 : (pk s).life < 2) : Goes h ins s now h [] 2
 | much (t : List UInt8) (h1 : EndOk s) (h2 : Hop s t) (h3 : mGo h (flow s).a now t.length = false) (h4 : ins = true \/ (flow s).b = h.out) : Goes h ins s now (mHs h (flow s).a now t.length) [] 3
 | leaves (t : List UInt8) (h' : Hs) (out : List UInt8) (why : Int) (h1 : EndOk s) (h2 : Hop s t) (h3 : mGo h (flow s).a now t.length = true) (h4 : ins = true) (h5 : Leaves (mHs h (flow s).a now t.length) (flow s) t now h' out why) : Goes h ins s now h' out why
 | enters (t : List UInt8) (h' : Hs) (out : List UInt8) (why : Int) (h1 : EndOk s) (h2 : Hop s t) (h3 : mGo h (flow s).a now t.length = true) (h4 : ins = false) (h5 : (flow s).b = h.out) (h6 : Enters (mHs h (flow s).a now t.length) (flow s) t now h' out why) : Goes h ins s now h' out why
theorem goes_ex {h : Hs} {now : Int} (k : Fine h now) (hn : now <= 1099511627776) (ins : Bool) {s : List UInt8} (hl : s.length <= Lim) (f0 : Fl) (d0 : List UInt8) :
   ∃ (h' : Hs) (out : List UInt8) (why : Int) (f' : Fl) (d' : List UInt8), wGoes_fn (ins, (s, wk h f0 d0 now)) = some (out, (why, wk h' f' d' now)) /\ Goes h ins s now h' out why /\ Fine h' now := by
 have hl' := hl
 unfold wGoes_fn
 by_cases hE : EndOk s
 case neg =>
   obtain ⟨e, he, h1⟩ := ends_bad hE hl'
   exact ⟨h, [], 1, ⟨0, 0, 0, 0, 0⟩, d0, ev_opt h1 (ev_t (by show (!decide (e = 0)) = true; rw [decide_eq_false he]; rfl) (ev_g (decide_eq_true rfl) (ev_r rfl))), .broken hE, k⟩
 have hends := ends_ok hE hl'
 by_cases hb : ins = false /\ (flow s).b ≠ h.out
 . obtain ⟨rfl, hb⟩ := hb
   exact ⟨h, [], 4, flow s, d0, ev_opt hends (ev_f rfl (ev_t rfl (ev_t (by show (!decide ((flow s).b = h.out)) = true; rw [decide_eq_false hb]; rfl) (ev_g (decide_eq_true rfl) (ev_r rfl))))), .other hE rfl hb, k⟩
 have hor : ins = true \/ (flow s).b = h.out := by
   cases ins with
   | true => exact .inl rfl
   | false => right; exact Classical.byContradiction fun q => hb ⟨rfl, q⟩
 by_cases hlife : (pk s).life < 2
 . have hh := hop_end hE.ip hl' hlife
   cases ins with
   | true => exact ⟨h, [], 2, flow s, [], ev_opt hends (ev_f rfl (ev_f rfl (ev_opt hh (ev_t rfl (ev_g (decide_eq_true rfl) (ev_r rfl)))))), .life hE hlife, k⟩
   | false =>
    have hq : (flow s).b = h.out := by rcases hor with q | q; (cases q); exact q
    exact ⟨h, [], 2, flow s, [], ev_opt hends (ev_f rfl (ev_t rfl (ev_f (by show (!decide ((flow s).b = h.out)) = false; rw [decide_eq_true hq]; rfl) (ev_opt hh (ev_t rfl (ev_g (decide_eq_true rfl) (ev_r rfl))))))), .life hE hlife, k⟩
 obtain ⟨t, ht⟩ := hop_ex hE hl' (by omega)
 have htl := ht.len
 have htb := ht.big
 have htl' : t.length <= Lim := Nat.le_trans htl hl'
 have hm := measured_fn k.1 (flow s) t k.2.2 hn (by omega)
 obtain ⟨m1, m2⟩ := mHs_ok (a := (flow s).a) (n := (t.length : Int)) k.1 k.2.2 hn ⟨by omega, by omega⟩
 have kM : Fine (mHs h (flow s).a now t.length) now := ⟨m1, ⟨k.2.1.out, k.2.1.adr⟩, m2⟩
 cases hg : mGo h (flow s).a now t.length with
 | false =>
   have ng : (!mGo h (flow s).a now t.length) = true := by rw [hg]; rfl
   cases ins with
   | true => exact ⟨_, [], 3, flow s, t, ev_opt hends (ev_f rfl (ev_f rfl (ev_opt ht.fn (ev_f rfl (ev_g (decide_eq_true rfl) (ev_opt hm (ev_t ng (ev_g (decide_eq_true rfl) (ev_r rfl))))))))), .much t hE ht hg hor, kM⟩
   | false =>
    have hq : (flow s).b = h.out := by rcases hor with q | q; (cases q); exact q
    exact ⟨_, [], 3, flow s, t, ev_opt hends (ev_f rfl (ev_t rfl (ev_f (by show (!decide ((flow s).b = h.out)) = false; rw [decide_eq_true hq]; rfl) (ev_opt ht.fn (ev_f rfl (ev_g (decide_eq_true rfl) (ev_opt hm (ev_t ng (ev_g (decide_eq_true rfl) (ev_r rfl)))))))))), .much t hE ht hg hor, kM⟩
 | true =>
   have ng : (!mGo h (flow s).a now t.length) = false := by rw [hg]; rfl
   cases ins with
   | true =>
    obtain ⟨h', out, why, q1, q2, q3⟩ := leaves_ex kM hn ht.ends htl'
    rw [ht.flow] at q1 q2
    exact ⟨h', out, why, flow s, t, ev_opt hends (ev_f rfl (ev_f rfl (ev_opt ht.fn (ev_f rfl (ev_g (decide_eq_true rfl) (ev_opt hm (ev_f ng (ev_t rfl (ev_g (decide_eq_true rfl) (ev_opt q1 (ev_g (decide_eq_true rfl) (ev_r rfl)))))))))))), .leaves t h' out why hE ht hg rfl q2, q3⟩
   | false =>
    have hq : (flow s).b = h.out := by rcases hor with q | q; (cases q); exact q
    obtain ⟨h', out, why, q1, q2, q3⟩ := enters_ex kM hn ht.ends htl'
    rw [ht.flow] at q1 q2
    exact ⟨h', out, why, flow s, t, ev_opt hends (ev_f rfl (ev_t rfl (ev_f (by show (!decide ((flow s).b = h.out)) = false; rw [decide_eq_true hq]; rfl) (ev_opt ht.fn (ev_f rfl (ev_g (decide_eq_true rfl) (ev_opt hm (ev_f ng (ev_f rfl (ev_g (decide_eq_true rfl) (ev_opt q1 (ev_g (decide_eq_true rfl) (ev_r rfl))))))))))))), .enters t h' out why hE ht hg rfl hq q2, q3⟩
theorem hear_ok {h : Hs} {now : Int} (k : Fine h now) (hn : now <= 1099511627776) (ins : Bool) {s : List UInt8} (hl : s.length <= Lim) :
  ∃ (h' : Hs) (out : List UInt8) (why : Int), hsHear_fn (h.t (ins, (s, (now, ())))) = some (h'.t (out, (why, ((0 : Int), ())))) /\ Goes h ins s now h' out why /\ Fine h' now := by
 obtain ⟨g1, g2, g3, g4, g5, g6⟩ := k.1.fits
 obtain ⟨c, hc, hq⟩ := hsCheck_ex h k.1.fits
 have hc0 := hq.2 k.1
 have hlast := hsLast_ok h k.1
 have ht := (till_iff k.1 now).2 k.2.2
 obtain ⟨h', out, why, f', d', q1, q2, q3⟩ := goes_ex k hn ins hl ⟨0, 0, 0, 0, 0⟩ []
 refine ⟨h', out, why, ?_, q2, q3⟩
 unfold hsHear_fn
 refine ev_g (decide_eq_true (by show (0 + h.rules.length) * 80 <= 140737488355328 /\ 0 + h.rules.length <= 9223372036854775807; omega)) (ev_g (decide_eq_true (by show (0 + h.met.length) * 40 <= 140737488355328 /\ 0 + h.met.length <= 9223372036854775807; omega)) (ev_g (decide_eq_true (by show (0 + h.trk.length) * 48 <= 140737488355328 /\ 0 + h.trk.length <= 9223372036854775807; omega)) (ev_g (decide_eq_true (by show (0 + h.maps.length) * 40 <= 140737488355328 /\ 0 + h.maps.length <= 9223372036854775807; omega)) ?_)))
 refine ev_opt hc (ev_f (by show (!decide (c = 0)) = false; rw [decide_eq_true hc0]; rfl) (ev_opt hlast (ev_f (decide_eq_false (by show ¬ now < lastH h; omega)) (ev_f (decide_eq_false (by show ¬ 1099511627776 < now; omega)) (ev_g (decide_eq_true rfl) (ev_opt q1 (ev_r rfl)))))))
theorem hear_no {h : Hs} (hf : Fits h) (ins : Bool) (s : List UInt8) {now : Int} (hbad : ¬ (HouseOk h /\ Till h now /\ now <= 1099511627776)) :
   ∃ e : Int, e ≠ 0 /\ hsHear_fn (h.t (ins, (s, (now, ())))) = some (h.t ([], ((0 : Int), (e, ())))) := by
 obtain ⟨g1, g2, g3, g4, g5, g6⟩ := hf
 obtain ⟨c, hc, hq⟩ := hsCheck_ex h ⟨g1, g2, g3, g4, g5, g6⟩
 unfold hsHear_fn
 have b1 : decide ((0 + h.rules.length) * 80 <= 140737488355328 /\ 0 + h.rules.length <= 9223372036854775807) = true := decide_eq_true (by omega)
 have b2 : decide ((0 + h.met.length) * 40 <= 140737488355328 /\ 0 + h.met.length <= 9223372036854775807) = true := decide_eq_true (by omega)
 have b3 : decide ((0 + h.trk.length) * 48 <= 140737488355328 /\ 0 + h.trk.length <= 9223372036854775807) = true := decide_eq_true (by omega)
 have b4 : decide ((0 + h.maps.length) * 40 <= 140737488355328 /\ 0 + h.maps.length <= 9223372036854775807) = true := decide_eq_true (by omega)
 by_cases hc0 : c = 0
 case neg => exact ⟨c, hc0, ev_g b1 (ev_g b2 (ev_g b3 (ev_g b4 (ev_opt hc (ev_t (by show (!decide (c = 0)) = true; rw [decide_eq_false hc0]; rfl) (ev_r rfl))))))⟩
 have k := hq.1 hc0
 have hlast := hsLast_ok h k
 have cf : (!decide (c = 0)) = false := by rw [decide_eq_true hc0]; rfl
 by_cases h1 : now < lastH h
 . exact ⟨1, by decide, ev_g b1 (ev_g b2 (ev_g b3 (ev_g b4 (ev_opt hc (ev_f cf (ev_opt hlast (ev_t (decide_eq_true h1) (ev_r rfl))))))))⟩
 by_cases h2 : 1099511627776 < now
 . exact ⟨1, by decide, ev_g b1 (ev_g b2 (ev_g b3 (ev_g b4 (ev_opt hc (ev_f cf (ev_opt hlast (ev_f (decide_eq_false h1) (ev_t (decide_eq_true h2) (ev_r rfl)))))))))⟩
 exact absurd ⟨k, (till_iff k now).1 (by omega), by omega⟩ hbad
structure Same8 (h h' : Hs) : Prop where
 out : h'.out = h.out
 lt : h'.lt = h.lt
 st : h'.st = h.st
 life : h'.life = h.life
 rate : h'.rate = h.rate
 most : h'.most = h.most
 rules : h'.rules = h.rules
 els : h'.els = h.els
theorem Same8.rfl' (h : Hs) : Same8 h h := ⟨rfl, rfl, rfl, rfl, rfl, rfl, rfl, rfl⟩
theorem Leaves.same {h : Hs} {f : Fl} {d : List UInt8} {now : Int} {h' : Hs} {out : List UInt8} {why : Int} (k : Leaves h f d now h' out why) : Same8 h h' /\ h'.met = h.met := by
 cases k <;> exact ⟨⟨rfl, rfl, rfl, rfl, rfl, rfl, rfl, rfl⟩, rfl⟩
theorem Enters.same {h : Hs} {f : Fl} {d : List UInt8} {now : Int} {h' : Hs} {out : List UInt8} {why : Int} (k : Enters h f d now h' out why) : Same8 h h' /\ h'.met = h.met := by
 cases k <;> exact ⟨⟨rfl, rfl, rfl, rfl, rfl, rfl, rfl, rfl⟩, rfl⟩
theorem Goes.same {h : Hs} {ins : Bool} {s : List UInt8} {now : Int} {h' : Hs} {out : List UInt8} {why : Int} (k : Goes h ins s now h' out why) : Same8 h h' := by
 cases k with
 | broken => exact .rfl' h
 | other => exact .rfl' h
 | life => exact .rfl' h
 | much => exact ⟨rfl, rfl, rfl, rfl, rfl, rfl, rfl, rfl⟩
 | leaves t _ _ _ h1 h2 h3 h4 h5 => exact ⟨h5.same.1.1, h5.same.1.2, h5.same.1.3, h5.same.1.4, h5.same.1.5, h5.same.1.6, h5.same.1.7, h5.same.1.8⟩
 | enters t _ _ _ h1 h2 h3 h4 h5 h6 => exact ⟨h6.same.1.1, h6.same.1.2, h6.same.1.3, h6.same.1.4, h6.same.1.5, h6.same.1.6, h6.same.1.7, h6.same.1.8⟩
theorem Same8.trans {a b c : Hs} (h : Same8 a b) (k : Same8 b c) : Same8 a c := ⟨k.1.trans h.1, k.2.trans h.2, k.3.trans h.3, k.4.trans h.4, k.5.trans h.5, k.6.trans h.6, k.7.trans h.7, k.8.trans h.8⟩
inductive StepR (h : Hs) (c : TCame) : Hs -> TWent -> Prop
 | no (e : Int) (he : e ≠ 0) : StepR h c h ⟨[], 0, e⟩
 | go (h' : Hs) (out : List UInt8) (why : Int) (h1 : Till h c.at') (h2 : c.at' <= 1099511627776) (h3 : Goes h c.inside c.data c.at' h' out why) : StepR h c h' ⟨out, why, 0⟩
theorem StepR.same {h : Hs} {c : TCame} {h' : Hs} {w : TWent} (k : StepR h c h' w) : Same8 h h' := by
 cases k with
 | no => exact .rfl' h
 | go _ _ _ h1 h2 h3 => exact h3.same
inductive RunR : Hs -> List TCame -> Hs -> List TWent -> Prop
 | nil (h : Hs) : RunR h [] h []
 | cons {h h1 h2 : Hs} {c : TCame} {cs : List TCame} {w : TWent} {ws : List TWent} (a : StepR h c h1 w) (b : RunR h1 cs h2 ws) : RunR h (c :: cs) h2 (w :: ws)
theorem RunR.states {h : Hs} {l : List TCame} {h' : Hs} {ws : List TWent} (k : RunR h l h' ws) : ws.length = l.length /\ ∃ H : Nat -> Hs, H 0 = h /\ H l.length = h' /\ ∀ (i : Nat) (c : TCame), l[i]? = some c -> ∃ w, ws[i]? = some w /\ StepR (H i) c (H (i + 1)) w := by
 induction k with
 | nil h => exact ⟨rfl, fun _ => h, rfl, rfl, fun i c hc => by simp at hc⟩
 | @cons h h1 h2 c cs w ws a b ih =>
  obtain ⟨e, H, e1, e2, e3⟩ := ih
  refine ⟨by simp [e], fun i => match i with | 0 => h | i + 1 => H i, rfl, e2, fun i x hx => ?_⟩
  cases i with
  | zero =>
   simp at hx
   subst hx
   exact ⟨w, rfl, by show StepR h c (H 0) w; rw [e1]; exact a⟩
  | succ i =>
   obtain ⟨w', g1, g2⟩ := e3 i x (by simpa using hx)
   exact ⟨w', by simpa using g1, g2⟩
theorem houseLives_ok : kHouseLives_fn () = some (true, ()) := by kernel_rfl
end Go.Proofs.YthkhikdglmaiaaaGreatDoor.X
