/- The law of rules that are left out, in plain terms. Conditions: none. -/
import Derived.Test.YtlbmdkclbmcpdaaPRulesM
namespace Go.Proofs.Ytlbmdkclbmcpdaa.X
open Go Go.RowKit Go.Proofs.Ytlbmdkclbmcpdaa.Abs Go.Proofs.Ytlbmdkclbmcpdaa.Bits
set_option linter.unusedVariables false
set_option linter.unusedSimpArgs false

theorem ad_all {l : List TRule} (h : BndD 6 (D.st 10 l)) : ∀ r ∈ l, Ad r := fun r hr =>
  ⟨h.2 r hr (.i .u32 r.fromAddr) (by simp [enc]), h.2 r hr (.i .u32 r.toAddr) (by simp [enc])⟩
/-- One more, if none covers it. -/
def add1 (s : List TRule) (r : TRule) : List TRule := if s.any (coversB · r) then s else s ++ [r]
def slim (l : List TRule) : List TRule := l.foldl add1 []
theorem any_hit (s : List TRule) (r : TRule) : s.any (coversB · r) = (hit (coversB · r) s).isSome := by
  cases h : hit (coversB · r) s with
  | none => show _ = false; rw [Bool.eq_false_iff]; intro hh; obtain ⟨a, ha, h2⟩ := List.any_eq_true.1 hh; have := hit_none.1 h a ha; rw [this] at h2; cases h2
  | some q => have := hit_at (i := q.1) (x := q.2) h; exact List.any_eq_true.2 ⟨q.2, List.mem_of_getElem? this.1, this.2⟩
theorem inner_fn (s : List TRule) (r : TRule) (hs : ∀ a ∈ s, rightB a = true) (hlen : s.length < 4294967296) :
    ruSlim_loop29_2 ((0 : Int), (s, ((s.length : Int), (r.fromAddr, (r.fromLong, (r.toAddr, (r.toLong, (r.proto, (r.fromLow, (r.fromHigh, (r.toLow, (r.toHigh, (r.pass, ()))))))))))))) =
      some (match hit (coversB · r) s with | some q => Sum.inl ((q.1 : Int), (r.fromAddr, (r.fromLong, (r.toAddr, (r.toLong, (r.proto, (r.fromLow, (r.fromHigh, (r.toLow, (r.toHigh, (r.pass, ()))))))))))) | none => Sum.inr (r.fromAddr, (r.fromLong, (r.toAddr, (r.toLong, (r.proto, (r.fromLow, (r.fromHigh, (r.toLow, (r.toHigh, (r.pass, ()))))))))))) :=
  loop_hit (f := fun x => (ruSlim_step29_2 x).eval) (l := s) (fun i => ((i : Int), (s, ((s.length : Int), (r.fromAddr, (r.fromLong, (r.toAddr, (r.toLong, (r.proto, (r.fromLow, (r.fromHigh, (r.toLow, (r.toHigh, (r.pass, ())))))))))))))) (coversB · r)
      (fun q => match q with | some q => Sum.inl ((q.1 : Int), (r.fromAddr, (r.fromLong, (r.toAddr, (r.toLong, (r.proto, (r.fromLow, (r.fromHigh, (r.toLow, (r.toHigh, (r.pass, ()))))))))))) | none => Sum.inr (r.fromAddr, (r.fromLong, (r.toAddr, (r.toLong, (r.proto, (r.fromLow, (r.fromHigh, (r.toLow, (r.toHigh, (r.pass, ())))))))))))
      (fun i x hx => by
        have hi := (List.getElem?_eq_some_iff.1 hx).1
        show (ruSlim_step29_2 _).eval = _
        unfold ruSlim_step29_2
        refine ev_t (by simp; omega) (ev_g (by simp) (ev_opt (show s[Int.toNat (i : Int)]? = some x by simpa using hx) (ev_opt (covers0_fn x r (hs x (List.mem_of_getElem? hx))) ?_)))
        cases coversB x r with
        | true => exact ev_t rfl (ev_r rfl)
        | false => exact ev_f rfl (ev_r (by rw [next_i64 i (by omega)])))
      (by show (ruSlim_step29_2 _).eval = _; exact ev_f (by simp) (ev_r rfl)) 18446744073709551616 (by omega)
theorem slim_fn (l : List TRule) : ruSlim_fn (l, ()) = some (if chk l = 0 then slim l else [], (chk l, ())) := by
  unfold ruSlim_fn ruSlim_tree
  refine ev_opt (check_fn l) ?_
  by_cases hc : chk l = 0
  case neg => rw [if_neg hc]; exact ev_t (by simpa using hc) (ev_r rfl)
  rw [if_pos hc]
  refine ev_f (by simpa using hc) (ev_g rfl ?_)
  obtain ⟨hlen, hall⟩ := chk_zero.1 hc
  have := loop_fold (tag := 200006) (f := fun x => (ruSlim_step20_6 x).eval) (l := l) (fun i s => ((i : Int), (l, ((l.length : Int), (s, ()))))) (fun i s => s.length ≤ i ∧ ∀ a ∈ s, rightB a = true) add1 (fun s => (s, ()))
    (fun i x s hx hI => by
      have hi := (List.getElem?_eq_some_iff.1 hx).1
      have hxr := hall x (List.mem_of_getElem? hx)
      refine ⟨?_, ?_⟩
      · show (ruSlim_step20_6 _).eval = _
        unfold ruSlim_step20_6
        refine ev_t (by simp; omega) (ev_g (by simp) (ev_opt (show l[Int.toNat (i : Int)]? = some x by simpa using hx) (ev_opt (inner_fn s x hI.2 (by omega)) ?_)))
        unfold add1
        rw [any_hit]
        cases h : hit (coversB · x) s with
        | none => exact ev_t rfl (ev_g (by have := hI.1; simp; omega) (ev_g (by simp) (ev_r (by rw [next_i64 i (by omega)]; rfl))))
        | some q =>
          have := hit_lt (i := q.1) (x := q.2) h
          exact ev_f (by simp) (ev_g (by simp) (ev_r (by rw [next_i64 i (by omega)]; rfl)))
      · unfold add1
        split
        · exact ⟨by have := hI.1; omega, hI.2⟩
        · refine ⟨by have := hI.1; simp; omega, fun a ha => ?_⟩
          rcases List.mem_append.1 ha with h | h
          · exact hI.2 a h
          · have : a = x := by simpa using h
            rw [this]; exact hxr)
    (fun s hI => by show (ruSlim_step20_6 _).eval = _; exact ev_f (by simp) (ev_g (by simp) (ev_r rfl))) 18446744073709551616 [] ⟨by simp, by simp⟩ (by omega)
  refine ev_opt (show ruSlim_loop20_6 ((0 : Int), (l, ((l.length : Int), ([], ())))) = _ from this.1) (ev_r (by rw [hc]; rfl))

theorem slim_len : ∀ (l s : List TRule), (l.foldl add1 s).length ≤ s.length + l.length
  | [], s => by simp
  | x :: l, s => by
    simp only [List.foldl_cons, List.length_cons]
    have := slim_len l (add1 s x)
    have h : (add1 s x).length ≤ s.length + 1 := by unfold add1; split <;> simp
    omega
theorem slim_mem : ∀ (l s : List TRule) (r : TRule), r ∈ l.foldl add1 s → r ∈ s ∨ r ∈ l
  | [], s, r, h => .inl h
  | x :: l, s, r, h => by
    rcases slim_mem l (add1 s x) r h with h | h
    · unfold add1 at h
      split at h
      · exact .inl h
      · rcases List.mem_append.1 h with h | h
        · exact .inl h
        · exact .inr (by simp at h; simp [h])
    · exact .inr (List.mem_cons_of_mem _ h)
theorem slim_chk {l : List TRule} (h : chk l = 0) : chk (slim l) = 0 := by
  rw [chk_zero] at h ⊢
  have h1 := slim_len l []
  simp only [List.length_nil] at h1
  refine ⟨by unfold slim; omega, fun r hr => ?_⟩
  rcases slim_mem l [] r hr with h2 | h2
  · simp at h2
  · exact h.2 r h2
theorem slim_irr : ∀ (l s : List TRule), slim s = s → slim (l.foldl add1 s) = l.foldl add1 s
  | [], s, h => h
  | x :: l, s, h => by
    refine slim_irr l (add1 s x) ?_
    by_cases hc : s.any (coversB · x) = true
    · have : add1 s x = s := if_pos hc
      rw [this]; exact h
    · have : add1 s x = s ++ [x] := if_neg hc
      have e : slim (s ++ [x]) = add1 (slim s) x := by unfold slim; rw [List.foldl_append]; rfl
      rw [this, e, h, this]
theorem fst_slim (m : TRule → Bool) (hm : ∀ a b, rightB a = true → rightB b = true → Ad a → Ad b → coversB a b = true → m b = true → m a = true) : ∀ (l s : List TRule), (∀ r ∈ s ++ l, rightB r = true ∧ Ad r) → fst m (l.foldl add1 s) = fst m (s ++ l)
  | [], s, h => by simp
  | x :: l, s, h => by
    simp only [List.foldl_cons]
    by_cases hc : s.any (coversB · x) = true
    · rw [show add1 s x = s from if_pos hc]
      rw [fst_slim m hm l s (fun r hr => h r (by rcases List.mem_append.1 hr with h | h <;> simp [h])), fst_app, fst_app, fst_cons]
      cases hx : m x with
      | false => rfl
      | true =>
        obtain ⟨a, ha, hax⟩ := List.any_eq_true.1 hc
        have hma := hm a x (h a (by simp [ha])).1 (h x (by simp)).1 (h a (by simp [ha])).2 (h x (by simp)).2 hax hx
        cases hf : fst m s with
        | some _ => rfl
        | none =>
          exfalso
          have h3 : hit m s = none := by unfold fst at hf; simpa using hf
          have := hit_none.1 h3 a ha
          rw [this] at hma; cases hma
    · rw [show add1 s x = s ++ [x] from if_neg hc, fst_slim m hm l (s ++ [x]) (fun r hr => h r (by simpa using hr))]
      simp
theorem eqRule_self (l : List TRule) (hlen : l.length < 4294967296) : eqRule_fn (l, (l, ())) = some (true, ()) := by
  unfold eqRule_fn eqRule_tree
  have := loop_hit (tag := 210004) (f := fun x => (eqRule_step21_4 x).eval) (l := l) (fun i => ((i : Int), (l, (l, ((l.length : Int), ()))))) (fun _ => false)
      (fun q => match q with | some q => Sum.inl (false, ()) | none => Sum.inr ())
      (fun i x hx => by
        have hi := (List.getElem?_eq_some_iff.1 hx).1
        show (eqRule_step21_4 _).eval = _
        unfold eqRule_step21_4
        exact ev_t (by simp; omega) (ev_g (by simp) (ev_opt (show l[Int.toNat (i : Int)]? = some x by simpa using hx) (ev_g (by simp) (ev_opt (show l[Int.toNat (i : Int)]? = some x by simpa using hx) (ev_f (by simp) (ev_r (by rw [next_i64 i (by omega)]))))))))
      (by show (eqRule_step21_4 _).eval = _; exact ev_f (by simp) (ev_r rfl)) 18446744073709551616 (by omega)
  have h0 : hit (fun _ => false) l = none := hit_none.2 fun _ _ => rfl
  rw [h0] at this
  exact ev_f (by simp) (ev_opt (show eqRule_loop21_4 ((0 : Int), (l, (l, ((l.length : Int), ())))) = _ from this) rfl)

theorem rulesSame_true {l : List TRule} {f1 f2 f3 f4 f5 : Int} {o : Bool} (b0 : BndD 6 (D.st 10 l)) (b1 : 0 ≤ f1 ∧ f1 ≤ 4294967295) (b2 : 0 ≤ f2 ∧ f2 ≤ 4294967295) (b3 : -9223372036854775808 ≤ f3 ∧ f3 ≤ 9223372036854775807) (b4 : -9223372036854775808 ≤ f4 ∧ f4 ≤ 9223372036854775807) (b5 : -9223372036854775808 ≤ f5 ∧ f5 ≤ 9223372036854775807) :
    (rulesSame_tree (l, (f1, (f2, (f3, (f4, (f5, (o, ())))))))).eval = some (true, ()) := by
  have had := ad_all b0
  unfold rulesSame_tree
  refine ev_opt (slim_fn l) (ev_opt (decide_fn l f1 f2 f3 f4 f5 o) (ev_opt (decide_fn _ f1 f2 f3 f4 f5 o) (ev_opt rulesLives_ok (ev_f rfl ?_))))
  refine ev_ite (fun hne => ?_) fun he => ?_
  · have hc : ¬ chk l = 0 := by simpa using hne
    rw [if_neg hc]
    exact ev_opt rulesLives_ok (ev_t rfl (ev_r rfl))
  · have hc : chk l = 0 := by simpa using he
    rw [if_pos hc]
    have hcs := slim_chk hc
    have hss : slim (slim l) = slim l := slim_irr l [] rfl
    have hfs : fst (meetsB f1 f2 f3 f4 f5) (slim l) = fst (meetsB f1 f2 f3 f4 f5) l := by
      have := fst_slim (meetsB f1 f2 f3 f4 f5) (fun a b ha hb da db h1 h2 => covers_meets ha hb da db b1 b2 h1 h2) l [] (fun r hr => ⟨(chk_zero.1 hc).2 r (by simpa using hr), had r (by simpa using hr)⟩)
      exact this
    have hl := slim_len l []
    simp only [List.length_nil, Nat.zero_add] at hl
    obtain ⟨p1, p2⟩ := dec_1 l (meetsB f1 f2 f3 f4 f5) (badB f3 f4 f5) o
    obtain ⟨q1, q2⟩ := dec_1 (slim l) (meetsB f1 f2 f3 f4 f5) (badB f3 f4 f5) o
    rw [if_pos hc] at p1 p2
    rw [if_pos hcs, hfs] at q1
    rw [if_pos hcs] at q2
    have h2 := slim_fn (slim l)
    rw [if_pos hcs, hss, hcs] at h2
    have h64 := (chk_zero.1 hcs).1
    exact ev_opt h2 (ev_t (by rw [p1, q1]; simp) (ev_t (by rw [p2, q2]; simp) (ev_t (by simp; exact hl) (ev_t rfl (ev_opt (eqRule_self (slim l) (by omega)) (ev_r rfl))))))
end Go.Proofs.Ytlbmdkclbmcpdaa.X
