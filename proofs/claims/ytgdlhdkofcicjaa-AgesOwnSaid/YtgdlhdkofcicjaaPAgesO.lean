/- ages: what is handed in stays as it was, and what is told shares nothing with it: the law AgesOwn. Conditions: none. -/
import Derived.Test.YtgdlhdkofcicjaaOAges
import Derived.Test.YtgdlhdkofcicjaaPAges
namespace Go.Proofs.Ytgdlhdkofcicjaa.X
open Go Go.RowKit Go.Proofs.Ytgdlhdkofcicjaa.Abs Go.Proofs.Ytgdlhdkofcicjaa.Bits
set_option linter.unusedVariables false
set_option linter.unnecessarySimpa false
set_option linter.unusedSimpArgs false
set_option maxRecDepth 100000

theorem eqStay_same (l : List TStay) (hlen : l.length < 9223372036854775807) : eqStay_fn (l, (l, ())) = some (true, ()) := by
  unfold eqStay_fn eqStay_tree
  have := loop_hit (tag := 400004) (f := fun x => (eqStay_step40_4 x).eval) (l := l) (fun i => ((i : Int), (l, (l, ((l.length : Int), ()))))) (fun _ => false)
      (fun q => match q with | some q => Sum.inl (false, ()) | none => Sum.inr ())
      (fun i x hx => by
        have hi := (List.getElem?_eq_some_iff.1 hx).1
        show (eqStay_step40_4 _).eval = _
        unfold eqStay_step40_4
        exact ev_t (by simp; omega) (ev_g (by simp) (ev_opt (show l[Int.toNat (i : Int)]? = some x by simpa using hx) (ev_g (by simp) (ev_opt (show l[Int.toNat (i : Int)]? = some x by simpa using hx) (ev_f (by simp) (ev_r (by rw [next_i64 i (by omega)]))))))))
      (by show (eqStay_step40_4 _).eval = _; exact ev_f (by simp) (ev_r rfl)) 18446744073709551616 (by omega)
  have h0 : hit (fun _ => false) l = none := hit_none.2 fun _ _ => rfl
  rw [h0] at this
  exact ev_f (by simp) (ev_opt (show eqStay_loop40_4 ((0 : Int), (l, (l, ((l.length : Int), ())))) = _ from this) rfl)
theorem ages_loop1 {k : Bool} {N : Nat} (hN : N ≤ 9223372036854775807) {r1 r2 r3 a : List TStay} {z : Int} {b : List TStay} : agesOwn_loop1012_12 ((0 : Int), (k, ((N : Int), (N, (r1, (r2, (r3, (a, (z, (b, ())))))))))) = some (k, (r1, (r2, (r3, (a, (z, (b, ()))))))) := by
  have key : ∀ (d i n : Nat), i + d = N → d < n → loopO 10120012 (fun x => (agesOwn_step1012_12 x).eval) n ((i : Int), (k, ((N : Int), (N, (r1, (r2, (r3, (a, (z, (b, ())))))))))) = some (k, (r1, (r2, (r3, (a, (z, (b, ()))))))) := by
    intro d
    induction d with
    | zero =>
      intro i n hi hn
      obtain ⟨n, rfl⟩ : ∃ m, n = m + 1 := ⟨n - 1, by omega⟩
      exact loopO_out (ev_f (by simp; omega) (ev_g (by simp) (ev_g (by simp) (ev_g (by simp) (ev_g (by simp) (ev_r rfl))))))
    | succ d ih =>
      intro i n hi hn
      obtain ⟨n, rfl⟩ : ∃ m, n = m + 1 := ⟨n - 1, by omega⟩
      refine (loopO_in ?_).trans (ih (i + 1) n (by omega) (by omega))
      refine ev_t (by simp; omega) (ev_g (by simp; omega) (ev_g (by simp; omega) (ev_g (by simp) (ev_g (by simp) (ev_g (by simp) (ev_g (by simp) (ev_g (by simp) (ev_g (by simp) ?_))))))))
      rw [next_i64 i (by omega)]
      rfl
  exact key N 0 _ (by omega) (by omega)
theorem ages_loop2 {k : Bool} {N : Nat} (hN : N ≤ 9223372036854775807) {r1 r2 a : List TStay} {z : Int} {b : List TStay} : agesOwn_loop2012_12 ((0 : Int), (k, ((N : Int), (N, (r1, (r2, (a, (z, (b, ()))))))))) = some (k, (r1, (r2, (a, (z, (b, ())))))) := by
  have key : ∀ (d i n : Nat), i + d = N → d < n → loopO 20120012 (fun x => (agesOwn_step2012_12 x).eval) n ((i : Int), (k, ((N : Int), (N, (r1, (r2, (a, (z, (b, ()))))))))) = some (k, (r1, (r2, (a, (z, (b, ())))))) := by
    intro d
    induction d with
    | zero =>
      intro i n hi hn
      obtain ⟨n, rfl⟩ : ∃ m, n = m + 1 := ⟨n - 1, by omega⟩
      exact loopO_out (ev_f (by simp; omega) (ev_g (by simp) (ev_g (by simp) (ev_g (by simp) (ev_r rfl)))))
    | succ d ih =>
      intro i n hi hn
      obtain ⟨n, rfl⟩ : ∃ m, n = m + 1 := ⟨n - 1, by omega⟩
      refine (loopO_in ?_).trans (ih (i + 1) n (by omega) (by omega))
      refine ev_t (by simp; omega) (ev_g (by simp; omega) (ev_g (by simp; omega) (ev_g (by simp) (ev_g (by simp) (ev_g (by simp) (ev_g (by simp) (ev_g (by simp) ?_)))))))
      rw [next_i64 i (by omega)]
      rfl
  exact key N 0 _ (by omega) (by omega)
theorem ages_loop3 {k : Bool} {N : Nat} (hN : N ≤ 9223372036854775807) {r1 a : List TStay} {z : Int} {b : List TStay} : agesOwn_loop3012_12 ((0 : Int), (k, ((N : Int), (N, (r1, (a, (z, (b, ())))))))) = some (k, (r1, (a, (z, (b, ()))))) := by
  have key : ∀ (d i n : Nat), i + d = N → d < n → loopO 30120012 (fun x => (agesOwn_step3012_12 x).eval) n ((i : Int), (k, ((N : Int), (N, (r1, (a, (z, (b, ())))))))) = some (k, (r1, (a, (z, (b, ()))))) := by
    intro d
    induction d with
    | zero =>
      intro i n hi hn
      obtain ⟨n, rfl⟩ : ∃ m, n = m + 1 := ⟨n - 1, by omega⟩
      exact loopO_out (ev_f (by simp; omega) (ev_g (by simp) (ev_g (by simp) (ev_r rfl))))
    | succ d ih =>
      intro i n hi hn
      obtain ⟨n, rfl⟩ : ∃ m, n = m + 1 := ⟨n - 1, by omega⟩
      refine (loopO_in ?_).trans (ih (i + 1) n (by omega) (by omega))
      refine ev_t (by simp; omega) (ev_g (by simp; omega) (ev_g (by simp; omega) (ev_g (by simp) (ev_g (by simp) (ev_g (by simp) (ev_g (by simp) ?_))))))
      rw [next_i64 i (by omega)]
      rfl
  exact key N 0 _ (by omega) (by omega)
theorem ages_loop4 {k : Bool} {N : Nat} (hN : N ≤ 9223372036854775807) {a : List TStay} {z : Int} {b : List TStay} : agesOwn_loop4012_12 ((0 : Int), (k, ((N : Int), (N, (a, (z, (b, ()))))))) = some (k, (a, (z, (b, ())))) := by
  have key : ∀ (d i n : Nat), i + d = N → d < n → loopO 40120012 (fun x => (agesOwn_step4012_12 x).eval) n ((i : Int), (k, ((N : Int), (N, (a, (z, (b, ()))))))) = some (k, (a, (z, (b, ())))) := by
    intro d
    induction d with
    | zero =>
      intro i n hi hn
      obtain ⟨n, rfl⟩ : ∃ m, n = m + 1 := ⟨n - 1, by omega⟩
      exact loopO_out (ev_f (by simp; omega) (ev_g (by simp) (ev_r rfl)))
    | succ d ih =>
      intro i n hi hn
      obtain ⟨n, rfl⟩ : ∃ m, n = m + 1 := ⟨n - 1, by omega⟩
      refine (loopO_in ?_).trans (ih (i + 1) n (by omega) (by omega))
      refine ev_t (by simp; omega) (ev_g (by simp; omega) (ev_g (by simp; omega) (ev_g (by simp) (ev_g (by simp) (ev_g (by simp) ?_)))))
      rw [next_i64 i (by omega)]
      rfl
  exact key N 0 _ (by omega) (by omega)
theorem ev_slA {α β γ : Type} {x : β} {f : β → Tr α} {g : γ → Tr α} {r : Option α} (h : (f x).eval = r) : (Tr.sum (.inl x) f g).eval = r := h
theorem ev_srA {α β γ : Type} {x : γ} {f : β → Tr α} {g : γ → Tr α} {r : Option α} (h : (g x).eval = r) : (Tr.sum (.inr x) f g).eval = r := h
theorem behindO_new (size : Int) (l : List TStay) (k now : Int) (hl : l.length * 16 ≤ 140737488351232) : agBehindO_fn (size, (l, (-1, (k, (now, ()))))) = some (size, (l ++ [⟨k, now⟩], ())) := by
  unfold agBehindO_fn agBehindO_tree
  exact ev_g (by simp; omega) (ev_f (by rfl) (ev_g (by simp; omega) (ev_g (by simp) (ev_r rfl))))
theorem behindO_at (size : Int) (l : List TStay) (i : Nat) (k now : Int) (hi : i < l.length) (hl : l.length * 16 ≤ 140737488351232) : agBehindO_fn (size, (l, ((i : Int), (k, (now, ()))))) = some (size, (l.take i ++ l.drop (i + 1) ++ [⟨k, now⟩], ())) := by
  unfold agBehindO_fn agBehindO_tree
  refine ev_g (by simp; omega) (ev_t (by simp) (ev_g (by simp) ?_))
  rw [next_i64 i (by omega)]
  refine ev_opt (delStay_ok l i hi) (ev_g (decide_eq_true ?_) (ev_g (by simp) (ev_r rfl)))
  show ((l.take i ++ l.drop (i + 1)).length + 1) * 16 ≤ 140737488355328 ∧ (l.take i ++ l.drop (i + 1)).length + 1 ≤ 9223372036854775807
  simp
  omega
theorem takeO_ex (size : Int) (l : List TStay) (now : Int) (hl : l.length * 16 ≤ 140737488351232) : ∃ r, agTakeO_fn (size, (l, (now, ()))) = some r := by
  have hl2 : l.length < 8796093022208 := by omega
  unfold agTakeO_fn agTakeO_tree
  have hc := checkA_fn size l hl2
  by_cases h0 : chkA size l = 0
  case neg => exact ⟨_, ev_opt hc (ev_t (by simpa using h0) (ev_g rfl (ev_r rfl)))⟩
  obtain ⟨h1, h64, s, hs⟩ := chkA_zero h0
  obtain ⟨b, hb⟩ := late_ok size l now hl2
  cases b with
  | false => exact ⟨_, ev_opt hc (ev_f (by simpa using h0) (ev_opt hb (ev_t rfl (ev_g rfl (ev_r rfl)))))⟩
  | true =>
    have ht := taken_fn size l h64 hl2
    have hloop : ∃ o, agTakeO_loop36_8 (now, ((0 : Int), ((takenR size l).1, (size, ((0 : Int), (size, (l, ()))))))) = some o ∧ True := by
      unfold agTakeO_loop36_8
      refine loopO_ex (fun x => ∃ i : Nat, (i : Int) ≤ size ∧ x = (now, ((i : Int), ((takenR size l).1, (size, ((0 : Int), (size, (l, ()))))))))  (fun _ => True) (fun x => (size - x.2.1).toNat) ?_ _ _ ⟨0, by omega, rfl⟩ (by simp; omega)
      rintro x ⟨i, hi, rfl⟩
      by_cases hlt : (i : Int) < size
      · by_cases hbit : bits BinOp.and IntKind.u64 (Int.fdiv (takenR size l).1 ((2 : Int) ^ min (Int.toNat (i : Int)) (64 : Nat))) (1 : Int) = (0 : Int)
        · exact .inl ⟨_, ev_t (decide_eq_true hlt) (ev_g (by simp) (ev_t (decide_eq_true hbit) (ev_opt (behindO_new size l i now hl) (ev_g (by simp) (ev_r rfl))))), trivial⟩
        · refine .inr ⟨(now, (((i + 1 : Nat) : Int), ((takenR size l).1, (size, ((0 : Int), (size, (l, ()))))))), ev_t (decide_eq_true hlt) (ev_g (by simp) (ev_f (decide_eq_false hbit) (ev_r (by rw [next_i64 i (by omega)])))), ⟨i + 1, by omega, rfl⟩, ?_⟩
          show (size - ((i + 1 : Nat) : Int)).toNat < (size - (i : Int)).toNat
          omega
      · exact .inl ⟨_, ev_f (decide_eq_false hlt) (ev_r rfl), trivial⟩
    obtain ⟨o, ho, _⟩ := hloop
    cases o with
    | inl r => exact ⟨_, ev_opt hc (ev_f (by simpa using h0) (ev_opt hb (ev_f rfl (ev_opt ht (ev_opt ho (ev_slA (ev_g (by simp) (ev_r rfl)))))))) ⟩
    | inr r => exact ⟨_, ev_opt hc (ev_f (by simpa using h0) (ev_opt hb (ev_f rfl (ev_opt ht (ev_opt ho (ev_srA (ev_g rfl (ev_r rfl)))))))) ⟩
theorem touchO_ex (size : Int) (l : List TStay) (room now : Int) (hl : l.length * 16 ≤ 140737488351232) : ∃ r, agTouchO_fn (size, (l, (room, (now, ())))) = some r := by
  have hl2 : l.length < 8796093022208 := by omega
  unfold agTouchO_fn agTouchO_tree
  have hc := checkA_fn size l hl2
  by_cases h0 : chkA size l = 0
  case neg => exact ⟨_, ev_opt hc (ev_t (by simpa using h0) (ev_g rfl (ev_r rfl)))⟩
  obtain ⟨b, hb⟩ := late_ok size l now hl2
  cases b with
  | false => exact ⟨_, ev_opt hc (ev_f (by simpa using h0) (ev_opt hb (ev_t rfl (ev_g rfl (ev_r rfl)))))⟩
  | true =>
    have hp := place_fn size l room hl2
    cases hh : hit (fun x => decide (x.room = room)) l with
    | none => rw [hh] at hp; exact ⟨_, ev_opt hc (ev_f (by simpa using h0) (ev_opt hb (ev_f rfl (ev_opt hp (ev_t (by rfl) (ev_g rfl (ev_r rfl)))))))⟩
    | some q =>
      rw [hh] at hp
      have hq := hit_lt (i := q.1) (x := q.2) hh
      exact ⟨_, ev_opt hc (ev_f (by simpa using h0) (ev_opt hb (ev_f rfl (ev_opt hp (ev_f (by simp) (ev_opt (behindO_at size l q.1 room now hq hl) (ev_g (by simp) (ev_r rfl))))))))⟩
theorem leaveO_ex (size : Int) (l : List TStay) (room : Int) (hl : l.length * 16 ≤ 140737488351232) : ∃ r, agLeaveO_fn (size, (l, (room, ()))) = some r := by
  have hl2 : l.length < 8796093022208 := by omega
  unfold agLeaveO_fn agLeaveO_tree
  have hc := checkA_fn size l hl2
  by_cases h0 : chkA size l = 0
  case neg => exact ⟨_, ev_opt hc (ev_t (by simpa using h0) (ev_g rfl (ev_r rfl)))⟩
  have hp := place_fn size l room hl2
  cases hh : hit (fun x => decide (x.room = room)) l with
  | none => rw [hh] at hp; exact ⟨_, ev_opt hc (ev_f (by simpa using h0) (ev_opt hp (ev_t (by rfl) (ev_g rfl (ev_r rfl)))))⟩
  | some q =>
    rw [hh] at hp
    have hq := hit_lt (i := q.1) (x := q.2) hh
    have hd := delStay_ok l q.1 hq
    rw [← next_i64 q.1 (by omega)] at hd
    exact ⟨_, ev_opt hc (ev_f (by simpa using h0) (ev_opt hp (ev_f (by simp) (ev_g (by simp; omega) (ev_g (by simp) (ev_opt hd (ev_g (by simp) (ev_r rfl))))))))⟩
theorem expireO_ex (size : Int) (l : List TStay) (now : Int) (hl : l.length * 16 ≤ 140737488351232) : ∃ r, agExpireO_fn (size, (l, (now, ()))) = some r := by
  have hl2 : l.length < 8796093022208 := by omega
  unfold agExpireO_fn agExpireO_tree
  have hc := checkA_fn size l hl2
  by_cases h0 : chkA size l = 0
  case neg => exact ⟨_, ev_opt hc (ev_t (by simpa using h0) (ev_g rfl (ev_g rfl (ev_r rfl))))⟩
  have hloop : ∃ o, agExpireO_loop39_6 ((0 : Int), (now, (l, ((l.length : Int), ((0 : Int), ([], (size, (l, ())))))))) = some o ∧ o.2.1.length ≤ l.length ∧ o.2.2.2.1 = l := by
    unfold agExpireO_loop39_6
    have hl3 := hl
    refine loopO_ex (fun x => ∃ (i : Nat) (g : List Int), i ≤ l.length ∧ g.length ≤ i ∧ x = ((i : Int), (now, (l, ((l.length : Int), ((0 : Int), (g, (size, (l, ())))))))))  (fun o : Int × ((List Int) × (Int × ((List TStay) × Unit))) => o.2.1.length ≤ l.length ∧ o.2.2.2.1 = l) (fun x => ((l.length : Int) - x.1).toNat) ?_ _ _ ⟨0, [], Nat.zero_le _, Nat.zero_le _, rfl⟩ (by simp; omega)
    rintro x ⟨i, g, hi, hg, rfl⟩
    by_cases hlt : i < l.length
    · have hx := List.getElem?_eq_getElem hlt
      generalize l[i] = y at hx
      by_cases hb : now ≤ y.at'
      · exact .inl ⟨_, ev_t (by simp; omega) (ev_g (by simp) (ev_opt (show l[Int.toNat (i : Int)]? = some y by simpa using hx) (ev_t (decide_eq_true hb) (ev_g (by simp) (ev_r rfl))))), by show g.length ≤ l.length; omega, rfl⟩
      · refine .inr ⟨(((i + 1 : Nat) : Int), (now, (l, ((l.length : Int), ((0 : Int), (g ++ [y.room], (size, (l, ())))))))), ev_t (by simp; omega) (ev_g (by simp) (ev_opt (show l[Int.toNat (i : Int)]? = some y by simpa using hx) (ev_f (decide_eq_false hb) (ev_g (by simp; omega) (ev_g (by simp) (ev_r (by rw [next_i64 i (by omega)]))))))), ⟨i + 1, g ++ [y.room], by omega, by simp; omega, rfl⟩, ?_⟩
        show ((l.length : Int) - ((i + 1 : Nat) : Int)).toNat < ((l.length : Int) - (i : Int)).toNat
        omega
    · exact .inl ⟨_, ev_f (by simp; omega) (ev_g (by simp) (ev_r rfl)), by show g.length ≤ l.length; omega, rfl⟩
  obtain ⟨o, ho, q1, q2⟩ := hloop
  obtain ⟨o0, o1, o2, o3, ⟨⟩⟩ := o
  have q2 : o3 = l := q2
  subst q2
  have q1 : o1.length ≤ o3.length := q1
  exact ⟨_, ev_opt hc (ev_f (by simpa using h0) (ev_g rfl (ev_opt ho (ev_g (by simp; omega) (ev_g (by simp; omega) (ev_g (by simp) (ev_g (by simp) (ev_r rfl))))))))⟩
theorem agesOwn_true {size : Int} {l : List TStay} {room now : Int} (b0 : -9223372036854775808 ≤ size ∧ size ≤ 9223372036854775807) (b1 : BndD 6 (D.st 8 l)) (b2 : -9223372036854775808 ≤ room ∧ room ≤ 9223372036854775807) (b3 : -9223372036854775808 ≤ now ∧ now ≤ 9223372036854775807) :
    agesOwn.fn (size, (l, (room, (now, ())))) = some (true, ()) := by
  have hb : l.length * 16 ≤ 140737488351232 := b1.1
  obtain ⟨r0, h0⟩ := takeO_ex size l now hb
  obtain ⟨r1, h1⟩ := touchO_ex size l room now hb
  obtain ⟨r2, h2⟩ := leaveO_ex size l room hb
  obtain ⟨r3, h3⟩ := expireO_ex size l now hb
  have he := eqStay_same l (by omega)
  refine jFS_true ?_
  show Holds (agesOwn_tree _)
  refine ⟨_, ev_g (by simp; omega) (ev_opt h0 (ev_opt h1 (ev_opt h2 (ev_opt h3 (ev_opt he (ev_t rfl (ev_r rfl))))))), ?_⟩
  intro N hN
  refine ⟨_, ev_g (by simp) (ev_g (by simp) (ev_g (by simp) (ev_g (by simp) (ev_g (by simp) (ev_g (by simp) (ev_g (by simp) (ev_opt (ages_loop1 hN) (ev_t rfl (ev_r rfl))))))))), ?_⟩
  intro N hN
  refine ⟨_, ev_g (by simp) (ev_g (by simp) (ev_g (by simp) (ev_g (by simp) (ev_g (by simp) (ev_g (by simp) (ev_opt (ages_loop2 hN) (ev_t rfl (ev_r rfl)))))))), ?_⟩
  intro N hN
  refine ⟨_, ev_g (by simp) (ev_g (by simp) (ev_g (by simp) (ev_g (by simp) (ev_g (by simp) (ev_opt (ages_loop3 hN) (ev_t rfl (ev_r rfl))))))), ?_⟩
  intro N hN
  exact ⟨_, ev_g (by simp) (ev_g (by simp) (ev_g (by simp) (ev_g (by simp) (ev_opt (ages_loop4 hN) (ev_f rfl (ev_opt agesLives_ok (ev_t rfl (ev_t rfl (ev_opt he (ev_r rfl)))))))))), rfl⟩
end Go.Proofs.Ytgdlhdkofcicjaa.X
