/- The laws of rules, in plain terms. Conditions: none. -/
import Derived.Test.YtlbmdkclbmcpdaaPRules
import Derived.Test.YtlbmdkclbmcpdaaLRules
import Derived.Test.YtlbmdkclbmcpdaaAbsQ
import Derived.KernelRfl
namespace Go.Proofs.Ytlbmdkclbmcpdaa.X
open Go Go.RowKit Go.Proofs.Ytlbmdkclbmcpdaa.Abs Go.Proofs.Ytlbmdkclbmcpdaa.Bits
set_option linter.unusedVariables false
set_option linter.unusedSimpArgs false

theorem rulesLives_ok : rulesLives_fn () = some (true, ()) := by kernel_rfl
theorem len_ok {l : List TRule} (h : BndD 6 (D.st 10 l)) : l.length * 80 ≤ 140737488351232 := h.1

/-! ### Swap -/
theorem chk_app (a b : List TRule) (x y : TRule) : chk (a ++ x :: y :: b) = chk (a ++ y :: x :: b) := by
  unfold chk
  have e1 : (a ++ x :: y :: b).length = (a ++ y :: x :: b).length := by simp
  have e2 : (a ++ x :: y :: b).all rightB = (a ++ y :: x :: b).all rightB := by
    simp only [List.all_append, List.all_cons]
    cases rightB x <;> cases rightB y <;> rfl
  rw [e1, e2]
/-- What Decide says of who passes, and its error. -/
theorem dec_1 (l : List TRule) (m : TRule → Bool) (bad o : Bool) : (dec l m bad o).1 = (if chk l = 0 then if bad then false else ((fst m l).map TRule.pass).getD o else false) ∧ (dec l m bad o).2.2.1 = if chk l = 0 then if bad then 1 else 0 else chk l := by
  unfold dec fst
  split
  · split
    · exact ⟨rfl, rfl⟩
    · cases hit m l with
      | none => exact ⟨rfl, rfl⟩
      | some q => exact ⟨rfl, rfl⟩
  · exact ⟨rfl, rfl⟩
theorem split2 {α : Type} {l : List α} {n : Nat} {x y : α} (h1 : l[n]? = some x) (h2 : l[n + 1]? = some y) : l = l.take n ++ x :: y :: l.drop (n + 2) ∧ (l.set n y).set (n + 1) x = l.take n ++ y :: x :: l.drop (n + 2) := by
  obtain ⟨h3, rfl⟩ := List.getElem?_eq_some_iff.1 h1
  obtain ⟨h4, rfl⟩ := List.getElem?_eq_some_iff.1 h2
  have e : l = l.take n ++ l[n] :: l[n + 1] :: l.drop (n + 2) := by
    rw [← List.drop_eq_getElem_cons h4, ← List.drop_eq_getElem_cons h3, List.take_append_drop]
  refine ⟨e, ?_⟩
  generalize l[n] = x at e ⊢
  generalize l[n + 1] = y at e ⊢
  have hl : (l.take n).length = n := by simp; omega
  generalize l.take n = a at e hl ⊢
  generalize l.drop (n + 2) = b at e ⊢
  rw [e]
  subst hl
  rw [List.set_append_right _ _ (by omega), List.set_append_right _ _ (by omega)]
  simp
theorem rulesSwap_true {l : List TRule} {f1 f2 f3 f4 f5 n : Int} {o : Bool} (b0 : BndD 6 (D.st 10 l)) (b1 : 0 ≤ f1 ∧ f1 ≤ 4294967295) (b2 : 0 ≤ f2 ∧ f2 ≤ 4294967295) (b3 : -9223372036854775808 ≤ f3 ∧ f3 ≤ 9223372036854775807) (b4 : -9223372036854775808 ≤ f4 ∧ f4 ≤ 9223372036854775807) (b5 : -9223372036854775808 ≤ f5 ∧ f5 ≤ 9223372036854775807) (hn : -9223372036854775808 ≤ n ∧ n ≤ 9223372036854775807) :
    (rulesSwap_tree (l, (f1, (f2, (f3, (f4, (f5, (n, (o, ()))))))))).eval = some (true, ()) := by
  have hlen := len_ok b0
  unfold rulesSwap_tree
  refine ev_opt rulesLives_ok (ev_f rfl (ev_ite (fun _ => ev_opt rulesLives_ok (ev_r rfl)) fun hn0 => ?_))
  have hn1 : 0 ≤ n := by simpa using hn0
  obtain ⟨k, rfl⟩ := Int.eq_ofNat_of_zero_le hn1
  refine ev_ite (fun _ => ev_opt rulesLives_ok (ev_r rfl)) fun hn2 => ?_
  have hk : k + 1 < l.length := by
    have hn3 : ¬ IntKind.wrap IntKind.i64 ((l.length : Int) - 1) ≤ (k : Int) := by simpa using hn2
    by_cases h0 : l.length = 0
    · rw [h0] at hn3; exact absurd (by show IntKind.wrap IntKind.i64 (((0 : Nat) : Int) - 1) ≤ (k : Int); rw [show IntKind.wrap IntKind.i64 (((0 : Nat) : Int) - 1) = -1 by decide]; omega) hn3
    · rw [prev_i64 _ (by omega) (by omega)] at hn3; omega
  have hnx : IntKind.wrap IntKind.i64 ((k : Int) + 1) = ((k + 1 : Nat) : Int) := next_i64 k (by omega)
  have hx : l[k]? = some l[k] := List.getElem?_eq_getElem (by omega)
  have hy : l[k + 1]? = some l[k + 1] := List.getElem?_eq_getElem hk
  obtain ⟨e1, e2⟩ := split2 hx hy
  generalize l[k] = x at hx e1 e2
  generalize l[k + 1] = y at hy e1 e2
  rw [hnx]
  refine ev_g (by simp) (ev_opt (b := x) (by simpa using hx) (ev_g (by simp; omega) (ev_opt (b := y) (by simpa using hy) (ev_ite (fun _ => ev_opt rulesLives_ok (ev_r rfl)) fun hp => ?_))))
  have hpass : x.pass = y.pass := by cases h1 : x.pass <;> cases h2 : y.pass <;> simp [h1, h2] at hp ⊢
  refine ev_g (by simp; omega) (ev_g (by simp; omega) (ev_opt (b := y) (by simpa using hy) (ev_g (by simp; omega) (ev_opt (b := x) (by simpa using hx) (ev_g (by simp; omega) (ev_opt (b := x) (by simpa using hx) (ev_g (by simp; omega) (ev_opt (b := y) (by simpa using hy) (ev_opt (decide_fn l f1 f2 f3 f4 f5 o) (ev_opt (decide_fn _ f1 f2 f3 f4 f5 o) ?_))))))))))
  have e3 : List.set (List.set l (Int.toNat (k : Int)) (TRule.mk y.fromAddr y.fromLong y.toAddr y.toLong y.proto y.fromLow y.fromHigh y.toLow y.toHigh y.pass)) (Int.toNat ((k + 1 : Nat) : Int)) (TRule.mk x.fromAddr x.fromLong x.toAddr x.toLong x.proto x.fromLow x.fromHigh x.toLow x.toHigh x.pass) = l.take k ++ y :: x :: l.drop (k + 2) := by
    simpa using e2
  rw [e3]
  obtain ⟨p1, p2⟩ := dec_1 l (meetsB f1 f2 f3 f4 f5) (badB f3 f4 f5) o
  obtain ⟨q1, q2⟩ := dec_1 (l.take k ++ y :: x :: l.drop (k + 2)) (meetsB f1 f2 f3 f4 f5) (badB f3 f4 f5) o
  have ec : chk (l.take k ++ y :: x :: l.drop (k + 2)) = chk l := by rw [← chk_app, ← e1]
  have ef : (fst (meetsB f1 f2 f3 f4 f5) (l.take k ++ y :: x :: l.drop (k + 2))).map TRule.pass = (fst (meetsB f1 f2 f3 f4 f5) l).map TRule.pass := by
    conv => rhs; rw [e1]
    rw [fst_app, fst_app, fst_cons, fst_cons, fst_cons, fst_cons]
    cases fst (meetsB f1 f2 f3 f4 f5) (l.take k) with
    | some _ => rfl
    | none => cases meetsB f1 f2 f3 f4 f5 x <;> cases meetsB f1 f2 f3 f4 f5 y <;> simp [hpass]
  rw [ec, ef] at q1
  rw [ec] at q2
  exact ev_t (by rw [p1, q1]; simp) (ev_r (by rw [p2, q2]; simp))

/-! ### Front -/
theorem del_fn (l : List TRule) (i : Nat) (hi : i < l.length) : delRule_fn ((i : Int), (((i + 1 : Nat) : Int), (l, ()))) = some (l.take i ++ l.drop (i + 1), ()) := by
  unfold delRule_fn delRule_tree
  have hj : Int.toNat ((l.length : Int) - ((i + 1 : Nat) : Int)) = l.length - (i + 1) := by omega
  have hB : (List.take (l.length - (i + 1)) (List.drop (i + 1) l)).length = l.length - (i + 1) := by simp
  simp only [Int.toNat_natCast, hj]
  refine ev_g (by simp; omega) (ev_f (by simp; omega) (ev_g (by simp; omega) (ev_g (by simp; omega) (ev_g (by simp; omega) (ev_g (by rw [hB]; simp; omega) ?_)))))
  refine ev_g (by simp [hB]; omega) (ev_g (by simp [hB]; omega) (ev_g (by simp [hB]; omega) (ev_r ?_)))
  simp only [del_eq l i (i + 1) (by omega) (by omega)]
theorem rulesFront_true {l : List TRule} {r0 r1 r2 r3 r4 r5 r6 r7 r8 : Int} {r9 : Bool} {f1 f2 f3 f4 f5 n : Int} {o : Bool} (b0 : BndD 6 (D.st 10 l)) (c0 : 0 ≤ r0 ∧ r0 ≤ 4294967295) (c1 : -9223372036854775808 ≤ r1 ∧ r1 ≤ 9223372036854775807) (c2 : 0 ≤ r2 ∧ r2 ≤ 4294967295) (c3 : -9223372036854775808 ≤ r3 ∧ r3 ≤ 9223372036854775807) (c4 : -9223372036854775808 ≤ r4 ∧ r4 ≤ 9223372036854775807) (c5 : -9223372036854775808 ≤ r5 ∧ r5 ≤ 9223372036854775807) (c6 : -9223372036854775808 ≤ r6 ∧ r6 ≤ 9223372036854775807) (c7 : -9223372036854775808 ≤ r7 ∧ r7 ≤ 9223372036854775807) (c8 : -9223372036854775808 ≤ r8 ∧ r8 ≤ 9223372036854775807)
    (b1 : 0 ≤ f1 ∧ f1 ≤ 4294967295) (b2 : 0 ≤ f2 ∧ f2 ≤ 4294967295) (b3 : -9223372036854775808 ≤ f3 ∧ f3 ≤ 9223372036854775807) (b4 : -9223372036854775808 ≤ f4 ∧ f4 ≤ 9223372036854775807) (b5 : -9223372036854775808 ≤ f5 ∧ f5 ≤ 9223372036854775807) (hn : -9223372036854775808 ≤ n ∧ n ≤ 9223372036854775807) :
    (rulesFront_tree (l, (r0, (r1, (r2, (r3, (r4, (r5, (r6, (r7, (r8, (r9, (f1, (f2, (f3, (f4, (f5, (n, (o, ()))))))))))))))))))).eval = some (true, ()) := by
  have hlen := len_ok b0
  unfold rulesFront_tree
  refine ev_opt (decide_fn l f1 f2 f3 f4 f5 o) (ev_g (by simp; omega) (ev_g (by simp; omega) (ev_opt (decide_fn _ f1 f2 f3 f4 f5 o) (ev_opt rulesLives_ok (ev_f rfl ?_)))))
  obtain ⟨p1, p2⟩ := dec_1 l (meetsB f1 f2 f3 f4 f5) (badB f3 f4 f5) o
  obtain ⟨q1, q2⟩ := dec_1 (l ++ [TRule.mk r0 r1 r2 r3 r4 r5 r6 r7 r8 r9]) (meetsB f1 f2 f3 f4 f5) (badB f3 f4 f5) o
  refine ev_ite (fun _ => ev_opt rulesLives_ok (ev_r rfl)) fun he => ev_ite (fun _ => ev_opt rulesLives_ok (ev_r rfl)) fun hg => ev_ite (fun _ => ev_opt rulesLives_ok (ev_r rfl)) fun hn0 => ev_ite (fun _ => ev_opt rulesLives_ok (ev_r rfl)) fun hn1 => ?_
  have he : (dec l (meetsB f1 f2 f3 f4 f5) (badB f3 f4 f5) o).2.2.1 = 0 := by simpa using he
  have hg : (dec (l ++ [TRule.mk r0 r1 r2 r3 r4 r5 r6 r7 r8 r9]) (meetsB f1 f2 f3 f4 f5) (badB f3 f4 f5) o).2.2.1 = 0 := by simpa using hg
  have hn0 : 0 ≤ n := by simpa using hn0
  obtain ⟨k, rfl⟩ := Int.eq_ofNat_of_zero_le hn0
  have hk : k < l.length := by simp at hn1; omega
  have hcl : chk l = 0 ∧ badB f3 f4 f5 = false := by
    rw [p2] at he
    split at he
    · rename_i h; refine ⟨h, ?_⟩; cases hb : badB f3 f4 f5; rfl; rw [hb] at he; cases he
    · rename_i h; exact absurd he h
  have hcr : chk (l ++ [TRule.mk r0 r1 r2 r3 r4 r5 r6 r7 r8 r9]) = 0 := by
    rw [q2] at hg
    split at hg
    · assumption
    · rename_i h; exact absurd hg h
  obtain ⟨hc, hbad⟩ := hcl
  generalize hm : meetsB f1 f2 f3 f4 f5 = m at *
  rw [hbad] at p1 p2 q1 q2 he hg ⊢
  have d1 : dec l m false o = match hit m l with | none => (o, (-1, (0, ()))) | some (i, r) => (r.pass, ((i : Int), (0, ()))) := by unfold dec; rw [if_pos hc]; rfl
  have d2 : dec (l ++ [TRule.mk r0 r1 r2 r3 r4 r5 r6 r7 r8 r9]) m false o = match hit m (l ++ [TRule.mk r0 r1 r2 r3 r4 r5 r6 r7 r8 r9]) with | none => (o, (-1, (0, ()))) | some (i, r) => (r.pass, ((i : Int), (0, ()))) := by unfold dec; rw [if_pos hcr]; rfl
  -- what is left
  have hx : l[k]? = some l[k] := List.getElem?_eq_getElem hk
  have e1 : l = l.take k ++ l[k] :: l.drop (k + 1) := by rw [← List.drop_eq_getElem_cons hk, List.take_append_drop]
  have hcd : chk (l.take k ++ l.drop (k + 1)) = 0 := by
    rw [chk_zero] at hc ⊢
    refine ⟨by simp; omega, fun q hq => hc.2 q ?_⟩
    rcases List.mem_append.1 hq with h | h
    · exact List.mem_of_mem_take h
    · exact List.mem_of_mem_drop h
  have tail : ∀ (T : Tr (Bool × Unit)) , T = (.grd (decide (((0 : Nat) + List.length l) * (80 : Nat) ≤ (140737488355328 : Nat) ∧ (0 : Nat) + List.length l ≤ (9223372036854775807 : Nat))) (
             .grd (decide (List.length l = List.length l)) (
             .opt (β := ((List TRule) × Unit)) ((delRule_fn ((k : Int), (IntKind.wrap IntKind.i64 ((k : Int) + (1 : Int)), (l, ()))))) (fun r3 =>
             .opt (β := (Bool × (Int × (Int × Unit)))) ((ruDecide_fn (r3.1, (f1, (f2, (f3, (f4, (f5, (o, ()))))))))) (fun r4 =>
             .ite (decide (r4.2.2.1 = (0 : Int))) (
              .ite (decide ((k : Int) = (dec l m false o).2.1)) (
               .ret (true, ())) (
               .ret (r4.1 == (dec l m false o).1, ()))) (
              .ret (false, ()))))))) → T.eval = some (true, ()) := by
    rintro T rfl
    rw [next_i64 k (by omega)]
    refine ev_g (by simp; omega) (ev_g (by simp) (ev_opt (del_fn l k hk) (ev_opt (decide_fn _ f1 f2 f3 f4 f5 o) ?_)))
    obtain ⟨s1, s2⟩ := dec_1 (l.take k ++ l.drop (k + 1)) m false o
    rw [hm, hbad]
    refine ev_t (by rw [s2, if_pos hcd]; rfl) (ev_ite (fun _ => ev_r rfl) fun hne => ev_r ?_)
    rw [s1, p1, if_pos hc, if_pos hcd]
    have hkey : fst m (l.take k ++ l.drop (k + 1)) = fst m l := by
      conv => rhs; rw [e1]
      rw [fst_app, fst_app, fst_cons]
      cases h1 : fst m (l.take k) with
      | some _ => rfl
      | none =>
        cases h2 : m l[k] with
        | false => rfl
        | true =>
          exfalso
          have h3 : hit m (l.take k) = none := by unfold fst at h1; simpa using h1
          have h4 : hit m l = some (k, l[k]) := by
            conv => lhs; rw [e1]
            rw [hit_app, h3]
            simp only [hit, h2, Option.map_some, Option.none_or]
            simp; omega
          rw [d1, h4] at hne
          simp at hne
    rw [hkey]; simp
  cases h : hit m l with
  | some q =>
    obtain ⟨i, x⟩ := q
    rw [h] at d1
    have h2 : hit m (l ++ [TRule.mk r0 r1 r2 r3 r4 r5 r6 r7 r8 r9]) = some (i, x) := by rw [hit_app, h]; rfl
    rw [h2] at d2
    refine ev_t (by rw [d1]; simp) (ev_f (by rw [d1, d2]; simp) (ev_f (by rw [d1, d2]; simp) (ev_f (by rw [d1]; simp) (tail _ rfl))))
  | none =>
    rw [h] at d1
    refine ev_f (by rw [d1]; simp) (ev_t (by rw [d1]; simp) (ev_ite (fun hj => ev_f ?_ (tail _ rfl)) fun _ => tail _ rfl))
    rw [d2] at hj ⊢
    rw [hit_app, h] at hj ⊢
    cases h3 : hit m [TRule.mk r0 r1 r2 r3 r4 r5 r6 r7 r8 r9] with
    | none => rw [h3] at hj; simp at hj
    | some q =>
      have := hit_lt (i := q.1) (x := q.2) h3
      simp at this
      simp [this]
end Go.Proofs.Ytlbmdkclbmcpdaa.X
