/- table: what is handed in stays as it was, and what is told shares nothing with it: the law TableOwn. Conditions: none. -/
import Derived.Test.YtgdlhdkofcicjaaOTable
import Derived.Test.YtgdlhdkofcicjaaPTableE
namespace Go.Proofs.Ytgdlhdkofcicjaa.X
open Go Go.RowKit Go.Proofs.Ytgdlhdkofcicjaa.Abs Go.Proofs.Ytgdlhdkofcicjaa.Bits
set_option linter.unusedVariables false
set_option linter.unnecessarySimpa false
set_option linter.unusedSimpArgs false
set_option maxRecDepth 100000

theorem putO_of (x : (List TSlot) × (Int × (Int × Unit))) {l : List TSlot} {e : Int} (h : taPut_fn x = some (l, (e, ()))) : taPutO_fn x = some (e, (l, ())) := by
  obtain ⟨a0, a1, a2, ⟨⟩⟩ := x
  unfold taPut_fn taPut_tree at h
  unfold taPutO_fn taPutO_tree
  simp only [Tr.eval] at h ⊢
  obtain ⟨r0, q0, h⟩ := Option.bind_eq_some_iff.1 h
  refine Option.bind_eq_some_iff.2 ⟨r0, q0, ?_⟩
  cases c0 : !decide (r0.1 = (0 : Int)) with
  | true =>
    rw [c0] at h
    cases h; rfl
  | false =>
    rw [c0] at h
    simp only [cond_false] at h ⊢
    cases c1 : decide (((0 : Nat) + List.length a0) * (24 : Nat) ≤ (140737488355328 : Nat) ∧ (0 : Nat) + List.length a0 ≤ (9223372036854775807 : Nat)) with
    | false => rw [c1] at h; cases h
    | true =>
      rw [c1] at h
      simp only [cond_true] at h ⊢
      obtain ⟨r1, q1, h⟩ := Option.bind_eq_some_iff.1 h
      refine Option.bind_eq_some_iff.2 ⟨r1, q1, ?_⟩
      cases c2 : decide ((0 : Int) ≤ r1.1 ∧ r1.1 < (↑(List.length a0) : Int)) with
      | false => rw [c2] at h; cases h
      | true =>
        rw [c2] at h
        simp only [cond_true, List.length_set, decide_true] at h ⊢
        obtain ⟨r2, q2, h⟩ := Option.bind_eq_some_iff.1 h
        refine Option.bind_eq_some_iff.2 ⟨r2, q2, ?_⟩
        cases c3 : !r2.used with
        | false =>
          rw [c3] at h
          simp only [cond_false, q2, Option.bind_some] at h ⊢
          cases h; rfl
        | true =>
          rw [c3] at h
          simp only [cond_true] at h ⊢
          obtain ⟨r3, q3, h⟩ := Option.bind_eq_some_iff.1 h
          refine Option.bind_eq_some_iff.2 ⟨r3, q3, ?_⟩
          cases c4 : decide (r3.1 = IntKind.wrap IntKind.i64 ((↑(List.length a0) : Int) - (1 : Int))) with
          | true => rw [c4] at h; cases h; rfl
          | false =>
            rw [c4] at h
            simp only [cond_false, q2, Option.bind_some] at h ⊢
            cases h; rfl
theorem remO_of (x : (List TSlot) × (Int × Unit)) {l : List TSlot} {e : Int} (h : taRemove_fn x = some (l, (e, ()))) : taRemoveO_fn x = some (e, (l, ())) := by
  obtain ⟨a0, a1, ⟨⟩⟩ := x
  unfold taRemove_fn taRemove_tree at h
  unfold taRemoveO_fn taRemoveO_tree
  simp only [Tr.eval] at h ⊢
  obtain ⟨r0, q0, h⟩ := Option.bind_eq_some_iff.1 h
  refine Option.bind_eq_some_iff.2 ⟨r0, q0, ?_⟩
  cases c0 : !decide (r0.1 = (0 : Int)) with
  | true =>
    rw [c0] at h
    cases h; rfl
  | false =>
    rw [c0] at h
    simp only [cond_false] at h ⊢
    cases c1 : decide (((0 : Nat) + List.length a0) * (24 : Nat) ≤ (140737488355328 : Nat) ∧ (0 : Nat) + List.length a0 ≤ (9223372036854775807 : Nat)) with
    | false => rw [c1] at h; cases h
    | true =>
      rw [c1] at h
      simp only [cond_true] at h ⊢
      obtain ⟨r1, q1, h⟩ := Option.bind_eq_some_iff.1 h
      refine Option.bind_eq_some_iff.2 ⟨r1, q1, ?_⟩
      cases c2 : decide ((0 : Int) ≤ r1.1 ∧ r1.1 < (↑(List.length a0) : Int)) with
      | false => rw [c2] at h; cases h
      | true =>
        rw [c2] at h
        simp only [cond_true, List.length_set, decide_true] at h ⊢
        obtain ⟨r2, q2, h⟩ := Option.bind_eq_some_iff.1 h
        refine Option.bind_eq_some_iff.2 ⟨r2, q2, ?_⟩
        cases c3 : !r2.used with
        | true => rw [c3] at h; cases h; rfl
        | false =>
          rw [c3] at h
          simp only [cond_false] at h ⊢
          cases c4 : decide ((↑(List.length a0) : Int) ≠ (0 : Int)) with
          | false => rw [c4] at h; cases h
          | true =>
            rw [c4] at h
            simp only [cond_true] at h ⊢
            obtain ⟨r3, q3, h⟩ := Option.bind_eq_some_iff.1 h
            refine Option.bind_eq_some_iff.2 ⟨r3, q3, ?_⟩
            cases c5 : decide ((0 : Int) ≤ r3.1 ∧ r3.1 < (↑(List.length r3.2.fst) : Int)) with
            | false => rw [c5] at h; cases h
            | true =>
              rw [c5] at h
              simp only [cond_true] at h ⊢
              obtain ⟨r4, q4, h⟩ := Option.bind_eq_some_iff.1 h
              refine Option.bind_eq_some_iff.2 ⟨r4, q4, ?_⟩
              cases h; rfl
theorem eqSlot_same (l : List TSlot) (hlen : l.length < 9223372036854775807) : eqSlot_fn (l, (l, ())) = some (true, ()) := by
  unfold eqSlot_fn eqSlot_tree
  have := loop_hit (tag := 330004) (f := fun x => (eqSlot_step33_4 x).eval) (l := l) (fun i => ((i : Int), (l, (l, ((l.length : Int), ()))))) (fun _ => false)
      (fun q => match q with | some q => Sum.inl (false, ()) | none => Sum.inr ())
      (fun i x hx => by
        have hi := (List.getElem?_eq_some_iff.1 hx).1
        show (eqSlot_step33_4 _).eval = _
        unfold eqSlot_step33_4
        exact ev_t (by simp; omega) (ev_g (by simp) (ev_opt (show l[Int.toNat (i : Int)]? = some x by simpa using hx) (ev_g (by simp) (ev_opt (show l[Int.toNat (i : Int)]? = some x by simpa using hx) (ev_f (by simp) (ev_r (by rw [next_i64 i (by omega)]))))))))
      (by show (eqSlot_step33_4 _).eval = _; exact ev_f (by simp) (ev_r rfl)) 18446744073709551616 (by omega)
  have h0 : hit (fun _ => false) l = none := hit_none.2 fun _ _ => rfl
  rw [h0] at this
  exact ev_f (by simp) (ev_opt (show eqSlot_loop33_4 ((0 : Int), (l, (l, ((l.length : Int), ())))) = _ from this) rfl)
theorem own_loop1 {k : Bool} {N : Nat} (hN : N ≤ 9223372036854775807) {r a b : List TSlot} : tableOwn_loop1010_10 ((0 : Int), (k, ((N : Int), (N, (r, (a, (b, ()))))))) = some (k, (r, (a, (b, ())))) := by
  have key : ∀ (d i n : Nat), i + d = N → d < n → loopO 10100010 (fun x => (tableOwn_step1010_10 x).eval) n ((i : Int), (k, ((N : Int), (N, (r, (a, (b, ()))))))) = some (k, (r, (a, (b, ())))) := by
    intro d
    induction d with
    | zero =>
      intro i n hi hn
      obtain ⟨n, rfl⟩ : ∃ m, n = m + 1 := ⟨n - 1, by omega⟩
      exact loopO_out (ev_f (by simp; omega) (ev_g (by simp) (ev_g (by simp) (ev_r rfl))))
    | succ d ih =>
      intro i n hi hn
      obtain ⟨n, rfl⟩ : ∃ m, n = m + 1 := ⟨n - 1, by omega⟩
      refine (loopO_in ?_).trans (ih (i + 1) n (by omega) (by omega))
      refine ev_t (by simp; omega) (ev_g (by simp; omega) (ev_g (by simp; omega) (ev_g (by simp) (ev_g (by simp) (ev_g (by simp) (ev_g (by simp) ?_))))))
      rw [next_i64 i (by omega)]
      rfl
  exact key N 0 _ (by omega) (by omega)
theorem own_loop2 {k : Bool} {N : Nat} (hN : N ≤ 9223372036854775807) {a b : List TSlot} : tableOwn_loop2010_10 ((0 : Int), (k, ((N : Int), (N, (a, (b, ())))))) = some (k, (a, (b, ()))) := by
  have key : ∀ (d i n : Nat), i + d = N → d < n → loopO 20100010 (fun x => (tableOwn_step2010_10 x).eval) n ((i : Int), (k, ((N : Int), (N, (a, (b, ())))))) = some (k, (a, (b, ()))) := by
    intro d
    induction d with
    | zero =>
      intro i n hi hn
      obtain ⟨n, rfl⟩ : ∃ m, n = m + 1 := ⟨n - 1, by omega⟩
      exact loopO_out (ev_f (by simp; omega) (ev_g (by simp) (ev_r rfl)))
    | succ d ih =>
      intro i n hi hn
      obtain ⟨n, rfl⟩ : ∃ m, n = m + 1 := ⟨n - 1, by omega⟩
      refine (loopO_in ?_).trans (ih (i + 1) n (by omega) (by omega))
      refine ev_t (by simp; omega) (ev_g (by simp; omega) (ev_g (by simp; omega) (ev_g (by simp) (ev_g (by simp) (ev_g (by simp) ?_)))))
      rw [next_i64 i (by omega)]
      rfl
  exact key N 0 _ (by omega) (by omega)
theorem put_some {l : List TSlot} {key value : Int} (hlen : l.length * 24 ≤ 140737488351232) : ∃ (l' : List TSlot) (f : Int), taPut_fn (l, (key, (value, ()))) = some (l', (f, ())) := by
  obtain ⟨c, hc, hc0⟩ := check_fn l
  by_cases h0 : c = 0
  case neg => exact ⟨[], c, by unfold taPut_fn taPut_tree; exact ev_opt hc (ev_t (by simpa using h0) (ev_r rfl))⟩
  have H := tb_of (hc0.1 h0)
  rcases put_book H key value with ⟨_, _, l', h, _⟩ | ⟨_, _, l', h, _⟩ | ⟨_, _, h⟩
  · exact ⟨_, _, h⟩
  · exact ⟨_, _, h⟩
  · exact ⟨_, _, h⟩
theorem rem_some {l : List TSlot} {key : Int} (hlen : l.length * 24 ≤ 140737488351232) : ∃ (l' : List TSlot) (f : Int), taRemove_fn (l, (key, ())) = some (l', (f, ())) := by
  obtain ⟨c, hc, hc0⟩ := check_fn l
  by_cases h0 : c = 0
  case neg => exact ⟨[], c, by unfold taRemove_fn taRemove_tree; exact ev_opt hc (ev_t (by simpa using h0) (ev_r rfl))⟩
  have H := tb_of (hc0.1 h0)
  rcases rem_book H key with ⟨_, _, l', h, _⟩ | ⟨_, h⟩
  · exact ⟨_, _, h⟩
  · exact ⟨_, _, h⟩
theorem tableOwn_true {l : List TSlot} {key : Int} (b0 : BndD 6 (D.st 7 l)) (b1 : 0 ≤ key ∧ key ≤ 18446744073709551615) : tableOwn.fn (l, (key, ())) = some (true, ()) := by
  have hb : l.length * 24 ≤ 140737488351232 := b0.1
  obtain ⟨lp, f, hp⟩ := put_some (key := key) (value := 1) hb
  obtain ⟨lr, g, hr⟩ := rem_some (key := key) hb
  have he := eqSlot_same l (by omega)
  refine jFS_true ?_
  show Holds (tableOwn_tree _)
  refine ⟨_, ev_g (by simp; omega) (ev_opt (putO_of _ hp) (ev_opt (remO_of _ hr) (ev_opt he (ev_t rfl (ev_r rfl))))), ?_⟩
  intro N hN
  refine ⟨_, ev_g (by simp) (ev_g (by simp) (ev_g (by simp) (ev_g (by simp) (ev_g (by simp) (ev_opt (own_loop1 hN) (ev_t rfl (ev_r rfl))))))), ?_⟩
  intro M hM
  exact ⟨_, ev_g (by simp) (ev_g (by simp) (ev_g (by simp) (ev_g (by simp) (ev_opt (own_loop2 hM) (ev_f rfl (ev_opt tableLives_ok (ev_t rfl (ev_t rfl (ev_opt he (ev_r rfl)))))))))), rfl⟩
end Go.Proofs.Ytgdlhdkofcicjaa.X
