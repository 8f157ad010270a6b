/- rules: what its functions compute, in plain terms. Conditions: none. -/
import Derived.Test.YtlbmdkclbmcpdaaGRules
import Derived.Test.YtlbmdkclbmcpdaaPList
namespace Go.Proofs.Ytlbmdkclbmcpdaa.X
open Go Go.RowKit Go.Proofs.Ytlbmdkclbmcpdaa.Abs Go.Proofs.Ytlbmdkclbmcpdaa.Bits
set_option linter.unusedVariables false
set_option linter.unusedSimpArgs false

def netB (a l : Int) : Bool := decide ((0 : Int) ≤ l) && (decide (l ≤ (32 : Int)) && decide (IntKind.wrap IntKind.u32 (a * (2 : Int) ^ min (Int.toNat l) (32 : Nat)) = (0 : Int)))
theorem net_fn (a l : Int) : ruNet_fn (a, (l, ())) = some (netB a l, ()) := by
  unfold ruNet_fn ruNet_tree netB
  simp only [Tr.eval]
  cases h : decide ((0 : Int) ≤ l) <;> simp only [cond_true, cond_false, Bool.true_and, Bool.false_and]
  cases h2 : decide (l ≤ (32 : Int)) <;> rfl
def hasB (a l x : Int) : Bool := decide (Int.fdiv (IntKind.wrap IntKind.u64 (bits BinOp.xor IntKind.u32 x a)) ((2 : Int) ^ min (Int.toNat (IntKind.wrap IntKind.i64 ((32 : Int) - l))) (64 : Nat)) = (0 : Int))
theorem wrap_small (x : Int) (h : 0 ≤ x) (h2 : x ≤ 65536) : IntKind.i64.wrap x = x := by
  obtain ⟨n, rfl⟩ := Int.eq_ofNat_of_zero_le h
  exact wrap_nat .i64 n (by show n < 2 ^ 64; omega) (fun _ => by show n < 2 ^ 63; omega)
theorem has_fn (a l x : Int) (h : 0 ≤ l) (h2 : l ≤ 32) : ruHas_fn (a, (l, (x, ()))) = some (hasB a l x, ()) := by
  unfold ruHas_fn ruHas_tree hasB
  simp only [Tr.eval]
  rw [show decide ((0 : Int) ≤ IntKind.wrap IntKind.i64 ((32 : Int) - l)) = true by rw [wrap_small _ (by omega) (by omega)]; simp; omega]
  rfl
def bndB (a b : Int) : Bool := decide ((0 : Int) ≤ a) && (decide (a ≤ b) && decide (b ≤ (65535 : Int)))
theorem bnd_fn (a b : Int) : ruBounds_fn (a, (b, ())) = some (bndB a b, ()) := by
  simp only [ruBounds_fn, ruBounds_tree, bndB, Tr.eval, cond_and]
def rightB (r : TRule) : Bool := netB r.fromAddr r.fromLong && (netB r.toAddr r.toLong && (decide ((0 : Int) ≤ r.proto) && (decide (r.proto ≤ (255 : Int)) && (bndB r.fromLow r.fromHigh && bndB r.toLow r.toHigh))))
theorem right_fn (r : TRule) : ruRight_fn (r.fromAddr, (r.fromLong, (r.toAddr, (r.toLong, (r.proto, (r.fromLow, (r.fromHigh, (r.toLow, (r.toHigh, (r.pass, ())))))))))) = some (rightB r, ()) := by
  simp only [ruRight_fn, ruRight_tree, rightB, Tr.eval, net_fn, bnd_fn, Option.bind_some, cond_and]
theorem right_long {r : TRule} (h : rightB r = true) : 0 ≤ r.fromLong ∧ r.fromLong ≤ 32 ∧ 0 ≤ r.toLong ∧ r.toLong ≤ 32 := by
  simp only [rightB, netB, Bool.and_eq_true, decide_eq_true_eq] at h
  exact ⟨h.1.1, h.1.2.1, h.2.1.1, h.2.1.2.1⟩
def meetsB (f1 f2 f3 f4 f5 : Int) (r : TRule) : Bool := hasB r.fromAddr r.fromLong f1 && (hasB r.toAddr r.toLong f2 && ((decide (r.proto = (0 : Int)) || decide (r.proto = f3)) && (decide (r.fromLow ≤ f4) && (decide (f4 ≤ r.fromHigh) && (decide (r.toLow ≤ f5) && decide (f5 ≤ r.toHigh))))))
theorem meets_fn (f1 f2 f3 f4 f5 : Int) (r : TRule) (h : rightB r = true) : ruMeets_fn (r.fromAddr, (r.fromLong, (r.toAddr, (r.toLong, (r.proto, (r.fromLow, (r.fromHigh, (r.toLow, (r.toHigh, (r.pass, (f1, (f2, (f3, (f4, (f5, ()))))))))))))))) = some (meetsB f1 f2 f3 f4 f5 r, ()) := by
  obtain ⟨h1, h2, h3, h4⟩ := right_long h
  simp only [ruMeets_fn, ruMeets_tree, meetsB, Tr.eval, has_fn _ _ _ h1 h2, has_fn _ _ _ h3 h4, Option.bind_some, cond_and, cond_or]
def withinB (a al b bl : Int) : Bool := decide (al ≤ bl) && hasB a al b
def coversB (a b : TRule) : Bool := withinB a.fromAddr a.fromLong b.fromAddr b.fromLong && (withinB a.toAddr a.toLong b.toAddr b.toLong && ((decide (a.proto = (0 : Int)) || decide (a.proto = b.proto)) && (decide (a.fromLow ≤ b.fromLow) && (decide (b.fromHigh ≤ a.fromHigh) && (decide (a.toLow ≤ b.toLow) && decide (b.toHigh ≤ a.toHigh))))))
theorem covers0_fn (a b : TRule) (h : rightB a = true) : ruCovers0_fn (a.fromAddr, (a.fromLong, (a.toAddr, (a.toLong, (a.proto, (a.fromLow, (a.fromHigh, (a.toLow, (a.toHigh, (a.pass, (b.fromAddr, (b.fromLong, (b.toAddr, (b.toLong, (b.proto, (b.fromLow, (b.fromHigh, (b.toLow, (b.toHigh, (b.pass, ())))))))))))))))))))) = some (coversB a b, ()) := by
  obtain ⟨h1, h2, h3, h4⟩ := right_long h
  simp only [ruCovers0_fn, ruCovers0_tree, coversB, withinB, Tr.eval, has_fn _ _ _ h1 h2, has_fn _ _ _ h3 h4, Option.bind_some, cond_and, cond_or, cond_false]
  cases decide (a.fromLong ≤ b.fromLong) <;> simp only [cond_true, cond_false, Bool.true_and, Bool.false_and]
  cases hasB a.fromAddr a.fromLong b.fromAddr <;> simp only [cond_true, cond_false, Bool.true_and, Bool.false_and]
  cases decide (a.toLong ≤ b.toLong) <;> simp only [cond_true, cond_false, Bool.true_and, Bool.false_and]

def chk (l : List TRule) : Int := if 64 < l.length then 2 else if l.all rightB then 0 else 4
theorem chk_zero {l : List TRule} : chk l = 0 ↔ l.length ≤ 64 ∧ ∀ r ∈ l, rightB r = true := by
  unfold chk
  split
  · simp; omega
  · split
    · rename_i h1 h2; simp only [List.all_eq_true] at h2; exact ⟨fun _ => ⟨by omega, h2⟩, fun _ => rfl⟩
    · rename_i h1 h2; simp only [List.all_eq_true] at h2; exact ⟨fun h => by omega, fun h => (h2 h.2).elim⟩
theorem check_fn (l : List TRule) : ruCheck_fn (l, ()) = some (chk l, ()) := by
  unfold ruCheck_fn ruCheck_tree
  by_cases hl : 64 < l.length
  · exact ev_t (by simp; omega) (ev_r (by unfold chk; rw [if_pos hl]))
  · refine ev_f (by simp; omega) ?_
    have := loop_hit (tag := 270004) (f := fun x => (ruCheck_step27_4 x).eval) (l := l) (fun i => ((i : Int), (l, ((l.length : Int), ())))) (fun r => !rightB r)
      (fun o => match o with | some _ => Sum.inl ((4 : Int), ()) | none => Sum.inr ())
      (fun i x hx => by
        have hi := (List.getElem?_eq_some_iff.1 hx).1
        have e : (ruCheck_step27_4 ((i : Int), (l, ((l.length : Int), ())))).eval = match !rightB x with | true => some (.inr (Sum.inl ((4 : Int), ()))) | false => some (.inl (((i + 1 : Nat) : Int), (l, ((l.length : Int), ())))) := by
          unfold ruCheck_step27_4
          refine ev_t (by simp; omega) (ev_g (by simp) (ev_opt (show l[Int.toNat (i : Int)]? = some x by simpa using hx) (ev_opt (right_fn x) ?_)))
          cases rightB x with
          | true => exact ev_f rfl (ev_r (by rw [next_i64 i (by omega)]))
          | false => exact ev_t rfl (ev_r rfl)
        rw [e]; cases rightB x <;> rfl)
      (by show (ruCheck_step27_4 _).eval = _; exact ev_f (by simp) (ev_r rfl)) 18446744073709551616 (by omega)
    refine ev_opt (show ruCheck_loop27_4 ((0 : Int), (l, ((l.length : Int), ()))) = _ from this) ?_
    cases h : hit (fun r => !rightB r) l with
    | none =>
      have := hit_none.1 h
      have e : chk l = 0 := chk_zero.2 ⟨by omega, fun r hr => by simpa using this r hr⟩
      rw [e]; rfl
    | some q =>
      have h1 := (hit_at (i := q.1) (x := q.2) h)
      have e : chk l = 4 := by
        unfold chk
        rw [if_neg hl, if_neg]
        intro hall
        have := List.all_eq_true.1 hall q.2 (List.mem_of_getElem? h1.1)
        simp [this] at h1
      rw [e]; rfl
/-- What Decide answers. -/
def dec (l : List TRule) (m : TRule → Bool) (bad o : Bool) : Bool × (Int × (Int × Unit)) :=
  if chk l = 0 then if bad then (false, (0, (1, ()))) else match hit m l with | none => (o, (-1, (0, ()))) | some (i, r) => (r.pass, ((i : Int), (0, ()))) else (false, (0, (chk l, ())))
def badB (f3 f4 f5 : Int) : Bool := decide (f3 < (0 : Int)) || (decide ((255 : Int) < f3) || (!bndB f4 f4 || !bndB f5 f5))
theorem decide_fn (l : List TRule) (f1 f2 f3 f4 f5 : Int) (o : Bool) : ruDecide_fn (l, (f1, (f2, (f3, (f4, (f5, (o, ()))))))) = some (dec l (meetsB f1 f2 f3 f4 f5) (badB f3 f4 f5) o) := by
  unfold ruDecide_fn ruDecide_tree dec
  refine ev_opt (check_fn l) ?_
  by_cases hc : chk l = 0
  case neg =>
    rw [if_neg hc]
    exact ev_t (by simpa using hc) (ev_r rfl)
  rw [if_pos hc]
  refine ev_f (by simpa using hc) ?_
  unfold badB
  cases h1 : decide (f3 < (0 : Int)) with
  | true => exact ev_t rfl (ev_r rfl)
  | false =>
  refine ev_f rfl ?_
  cases h2 : decide ((255 : Int) < f3) with
  | true => exact ev_t rfl (ev_r rfl)
  | false =>
  refine ev_f rfl (ev_opt (bnd_fn f4 f4) ?_)
  cases h3 : bndB f4 f4 with
  | false => exact ev_t rfl (ev_r rfl)
  | true =>
  refine ev_f rfl (ev_opt (bnd_fn f5 f5) ?_)
  cases h4 : bndB f5 f5 with
  | false => exact ev_t rfl (ev_r rfl)
  | true =>
  refine ev_f rfl ?_
  obtain ⟨hlen, hall⟩ := chk_zero.1 hc
  have := loop_hit (tag := 290002) (f := fun x => (ruDecide_step29_2 x).eval) (l := l) (fun i => ((i : Int), (l, ((l.length : Int), (f1, (f2, (f3, (f4, (f5, ()))))))))) (meetsB f1 f2 f3 f4 f5)
      (fun q => match q with | some q => Sum.inl ((q.1 : Int), (f1, (f2, (f3, (f4, (f5, ())))))) | none => Sum.inr (f1, (f2, (f3, (f4, (f5, ()))))))
      (fun i x hx => by
        have hi := (List.getElem?_eq_some_iff.1 hx).1
        show (ruDecide_step29_2 ((i : Int), (l, ((l.length : Int), (f1, (f2, (f3, (f4, (f5, ()))))))))).eval = _
        unfold ruDecide_step29_2
        refine ev_t (by simp; omega) (ev_g (by simp) (ev_opt (show l[Int.toNat (i : Int)]? = some x by simpa using hx) (ev_opt (meets_fn f1 f2 f3 f4 f5 x (hall x (List.mem_of_getElem? hx))) ?_)))
        cases meetsB f1 f2 f3 f4 f5 x with
        | true => exact ev_t rfl (ev_r rfl)
        | false => exact ev_f rfl (ev_r (by rw [next_i64 i (by omega)])))
      (by show (ruDecide_step29_2 _).eval = _; exact ev_f (by simp) (ev_r rfl)) 18446744073709551616 (by omega)
  refine ev_opt (show ruDecide_loop29_2 ((0 : Int), (l, ((l.length : Int), (f1, (f2, (f3, (f4, (f5, ())))))))) = _ from this) ?_
  cases h : hit (meetsB f1 f2 f3 f4 f5) l with
  | none => rfl
  | some q =>
    obtain ⟨i, r⟩ := q
    have hi := hit_at h
    show (Tr.ite (decide ((i : Int) < 0)) _ _).eval = _
    exact ev_f (by simp) (ev_g (by simp) (ev_opt (show l[Int.toNat (i : Int)]? = some r by simpa using hi.1) (ev_r rfl)))
end Go.Proofs.Ytlbmdkclbmcpdaa.X
