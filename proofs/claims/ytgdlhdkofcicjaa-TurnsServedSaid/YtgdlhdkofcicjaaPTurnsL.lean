/- turns: the laws TurnsFair and TurnsServed. Conditions: none. -/
import Derived.Test.YtgdlhdkofcicjaaPTurnsR
namespace Go.Proofs.Ytgdlhdkofcicjaa.X
open Go Go.RowKit Go.Proofs.Ytgdlhdkofcicjaa.Abs Go.Proofs.Ytgdlhdkofcicjaa.Bits
set_option linter.unusedVariables false
set_option linter.unnecessarySimpa false
set_option linter.unusedSimpArgs false
set_option maxRecDepth 100000

theorem lives_ok : turnsLives_fn () = some (true, ()) := by kernel_rfl
theorem q_len {Q : List TQueue} (h : BndD 6 (D.st 12 Q)) : Q.length < 1000000000000000 := by
  have h1 : Q.length * bsz 12 ≤ 140737488351232 := h.1
  have h2 : bsz 12 = 40 := rfl
  rw [h2] at h1; omega
theorem s_len {Q : List TQueue} (h : BndD 6 (D.st 12 Q)) : ∀ q ∈ Q, q.sizes.length < 1000000000000000 := fun q hq => by
  have h1 := h.2 q hq (.st 0 q.sizes) (by simp [enc])
  have h2 : q.sizes.length * bsz 0 ≤ 140737488351232 := h1.1
  have h3 : bsz 0 = 8 := rfl
  rw [h3] at h2; omega
/-! ### The greatest size -/
def mx (l : List Int) (a : Int) : Int := l.foldl (fun a x => if false = true then if x < a then x else a else if x > a then x else a) a
theorem mx_spec (B : Int) : ∀ (l : List Int) (a : Int), (∀ x ∈ l, x ≤ B) → a ≤ B → a ≤ mx l a ∧ mx l a ≤ B ∧ ∀ x ∈ l, x ≤ mx l a
  | [], a, h, ha => ⟨Int.le_refl _, ha, fun x hx => by cases hx⟩
  | y :: l, a, h, ha => by
    have hy := h y List.mem_cons_self
    have e : mx (y :: l) a = mx l (if y > a then y else a) := by
      show mx l (if false = true then _ else _) = _
      rw [if_neg (by simp)]
    rw [e]
    have hif : a ≤ (if y > a then y else a) ∧ y ≤ (if y > a then y else a) ∧ (if y > a then y else a) ≤ B := by split <;> omega
    generalize (if y > a then y else a) = c at hif ⊢
    obtain ⟨h1, h2, h3⟩ := mx_spec B l c (fun x hx => h x (List.mem_cons_of_mem _ hx)) hif.2.2
    refine ⟨by omega, h2, fun x hx => ?_⟩
    rcases List.mem_cons.1 hx with rfl | hx
    · omega
    · exact h3 x hx
def MX (Q : List TQueue) (a : Int) : Int := Q.foldl (fun a q => mx q.sizes a) a
theorem MX_spec (B : Int) : ∀ (Q : List TQueue) (a : Int), (∀ q ∈ Q, ∀ x ∈ q.sizes, x ≤ B) → a ≤ B → a ≤ MX Q a ∧ MX Q a ≤ B ∧ ∀ q ∈ Q, ∀ x ∈ q.sizes, x ≤ MX Q a
  | [], a, h, ha => ⟨Int.le_refl _, ha, fun x hx => by cases hx⟩
  | q :: Q, a, h, ha => by
    obtain ⟨g1, g2, g3⟩ := mx_spec B q.sizes a (h q List.mem_cons_self) ha
    obtain ⟨h1, h2, h3⟩ := MX_spec B Q (mx q.sizes a) (fun x hx => h x (List.mem_cons_of_mem _ hx)) g2
    refine ⟨Int.le_trans g1 h1, h2, fun p hp => ?_⟩
    rcases List.mem_cons.1 hp with rfl | hp
    · exact fun x hx => Int.le_trans (g3 x hx) h1
    · exact h3 p hp
theorem max_fn (Q : List TQueue) (h : TGood Q) (n : Int) : turnsFair_loop3_5 ((0 : Int), ((0 : Int), (Q, (Q, (n, ((Q.length : Int), ())))))) = some (Q, (MX Q 0, (n, ()))) := by
  have h16 := h.1
  have := loop_fold (tag := 30005) (f := fun x => (turnsFair_step3_5 x).eval) (l := Q) (fun i (a : Int) => (a, ((i : Int), (Q, (Q, (n, ((Q.length : Int), ())))))))
    (fun i a => True) (fun a q => mx q.sizes a) (fun a => (Q, (a, (n, ()))))
    (fun i q a hq _ => by
      have hil := (List.getElem?_eq_some_iff.1 hq).1
      have hl := (h.2 q (List.mem_iff_getElem?.2 ⟨i, hq⟩)).len
      refine ⟨?_, trivial⟩
      have inn := loop_fold (tag := 30008) (f := fun x => (turnsFair_step3_8 x).eval) (l := q.sizes) (fun j (a : Int) => ((j : Int), (a, (q.sizes, (Q, (Q, (n, ((Q.length : Int), ((i : Int), ((q.sizes.length : Int), ()))))))))))
        (fun i a => True) (fun a x => if false = true then if x < a then x else a else if x > a then x else a) (fun a => (a, (Q, (Q, (n, ((Q.length : Int), ((i : Int), ())))))))
        (fun j x a hx _ => by
          have hjl := (List.getElem?_eq_some_iff.1 hx).1
          refine ⟨?_, trivial⟩
          show (turnsFair_step3_8 _).eval = _
          unfold turnsFair_step3_8
          exact ev_t (by simp; omega) (ev_g (by simp) (ev_opt (show q.sizes[Int.toNat (j : Int)]? = some x by simpa using hx) (ev_r (by rw [next_i64 j (by omega)])))))
        (fun a _ => by show (turnsFair_step3_8 _).eval = _; exact ev_f (by simp) (ev_r rfl)) 18446744073709551616 a trivial (by omega)
      show (turnsFair_step3_5 _).eval = _
      unfold turnsFair_step3_5
      exact ev_t (by simp; omega) (ev_g (by simp) (ev_opt (show Q[Int.toNat (i : Int)]? = some q by simpa using hq) (ev_opt (show turnsFair_loop3_8 _ = _ from inn.1) (ev_r (by rw [next_i64 i (by omega)]; rfl))))))
    (fun a _ => by show (turnsFair_step3_5 _).eval = _; exact ev_f (by simp) (ev_r rfl)) 18446744073709551616 0 trivial (by omega)
  exact this.1
/-! ### Shares -/
theorem rndN_mem {q : TQueue} : ∀ (n : Nat) (x : Int), x ∈ (rndN n q).sizes → x ∈ q.sizes
  | 0, x, h => h
  | n + 1, x, h => by
    refine rndN_mem n x ?_
    rw [← goes_rnd (rndN n q)]
    exact List.mem_append_right _ h
theorem full0 {q : TQueue} : ∀ n, fullN n q = true → q.sizes ≠ []
  | 0, h => fun e => by
    have h' : decide (0 < (q.sizes.length : Int)) = true := h
    rw [e] at h'; cases h'
  | n + 1, h => by
    have h' : (fullN n q && decide (0 < ((rndN (n + 1) q).sizes.length : Int))) = true := h
    rw [Bool.and_eq_true] at h'
    exact full0 n h'.1
theorem saved_lt {q : TQueue} (h : QOk q) {M : Int} (hM : ∀ x ∈ q.sizes, x ≤ M) (n : Nat) (hne : (rndN n q).sizes ≠ []) : 0 ≤ (rndN n q).saved ∧ (rndN n q).saved ≤ M - 1 := by
  have ho := rndN_ok h n
  refine ⟨ho.v0, ?_⟩
  cases hs : (rndN n q).sizes with
  | nil => exact (hne hs).elim
  | cons x r =>
    have h1 := ho.v2 x (by rw [hs]; rfl)
    have h2 := hM x (rndN_mem n x (by rw [hs]; exact List.mem_cons_self))
    omega
theorem fair_key {p q : TQueue} (hp : QOk p) (hq : QOk q) {M : Int} (hMp : ∀ x ∈ p.sizes, x ≤ M) (hMq : ∀ x ∈ q.sizes, x ≤ M) {n : Nat} (fp : fullN n p = true) (fq : fullN n q = true) :
    -(M * (p.share + q.share)) < sumN n p * q.share - sumN n q * p.share ∧ sumN n p * q.share - sumN n q * p.share < M * (p.share + q.share) := by
  obtain ⟨ep, np⟩ := full_sum n fp
  obtain ⟨eq, nq⟩ := full_sum n fq
  have p0 := saved_lt hp hMp 0 (full0 n fp)
  have q0 := saved_lt hq hMq 0 (full0 n fq)
  have pn := saved_lt hp hMp n np
  have qn := saved_lt hq hMq n nq
  have hsp := hp.s0
  have hsq := hq.s0
  have p0' : 0 ≤ p.saved ∧ p.saved ≤ M - 1 := p0
  have q0' : 0 ≤ q.saved ∧ q.saved ≤ M - 1 := q0
  generalize (rndN n p).saved = u at *
  generalize (rndN n q).saved = v at *
  generalize p.saved = u0 at *
  generalize q.saved = v0 at *
  generalize p.share = a at *
  generalize q.share = b at *
  have e1 : sumN n p * b - sumN n q * a = (u0 - u) * b - (v0 - v) * a := by
    rw [ep, eq]
    have h1 : ((n : Int) * a + u0 - u) * b = (n : Int) * a * b + (u0 - u) * b := by rw [← Int.add_mul]; congr 1; omega
    have h2 : ((n : Int) * b + v0 - v) * a = (n : Int) * b * a + (v0 - v) * a := by rw [← Int.add_mul]; congr 1; omega
    have h3 : (n : Int) * b * a = (n : Int) * a * b := by rw [Int.mul_assoc, Int.mul_comm b a, ← Int.mul_assoc]
    rw [h1, h2, h3]; omega
  rw [e1]
  have m1 : (u0 - u) * b ≤ (M - 1) * b := Int.mul_le_mul_of_nonneg_right (by omega) (by omega)
  have m2 : (-(M - 1)) * b ≤ (u0 - u) * b := Int.mul_le_mul_of_nonneg_right (by omega) (by omega)
  have m3 : (v0 - v) * a ≤ (M - 1) * a := Int.mul_le_mul_of_nonneg_right (by omega) (by omega)
  have m4 : (-(M - 1)) * a ≤ (v0 - v) * a := Int.mul_le_mul_of_nonneg_right (by omega) (by omega)
  have eb : (M - 1) * b = M * b - b := by rw [Int.sub_mul, Int.one_mul]
  have ea : (M - 1) * a = M * a - a := by rw [Int.sub_mul, Int.one_mul]
  rw [Int.neg_mul] at m2 m4
  rw [eb] at m1 m2
  rw [ea] at m3 m4
  rw [Int.mul_add]
  omega
theorem prod_bound {x y A B : Int} (h1 : 0 ≤ x) (h2 : x ≤ A) (h3 : 0 ≤ y) (h4 : y ≤ B) : 0 ≤ x * y ∧ x * y ≤ A * B :=
  ⟨Int.mul_nonneg h1 h3, Int.le_trans (Int.mul_le_mul_of_nonneg_right h2 h3) (Int.mul_le_mul_of_nonneg_left h4 (Int.le_trans h1 h2))⟩
theorem turnsFair_true {Q : List TQueue} {n : Int} (b0 : BndD 6 (D.st 12 Q)) (h1 : -9223372036854775808 ≤ n ∧ n ≤ 9223372036854775807) : (turnsFair_tree (Q, (n, ()))).eval = some (true, ()) := by
  unfold turnsFair_tree
  obtain ⟨c, hc, hc0⟩ := check_fn Q (q_len b0) (s_len b0)
  refine ev_opt lives_ok (ev_f rfl (ev_opt hc ?_))
  by_cases hz : c = 0
  case neg => exact ev_t (by simpa using hz) (ev_opt lives_ok (ev_r rfl))
  have hg := hc0.1 hz
  refine ev_f (by simpa using hz) ?_
  by_cases n0 : n < 0
  · exact ev_t (by simpa using n0) (ev_opt lives_ok (ev_r rfl))
  refine ev_f (by simpa using n0) ?_
  by_cases n1 : 100 < n
  · exact ev_t (by simpa using n1) (ev_opt lives_ok (ev_r rfl))
  refine ev_f (by simpa using n1) ?_
  obtain ⟨m, rfl⟩ : ∃ m : Nat, n = (m : Int) := ⟨n.toNat, by omega⟩
  have h16 := hg.1
  have hm : m ≤ 100 := by omega
  refine ev_opt (max_fn Q hg (m : Int)) (ev_opt (rounds_fn Q m hg hm) ?_)
  obtain ⟨M0, M1, M2⟩ := MX_spec 1000000 Q 0 (fun q hq x hx => ((hg.2 q hq).sz x hx).2) (by omega)
  generalize MX Q 0 = M at M0 M1 M2 ⊢
  have gets : ∀ (i : Nat) (q : TQueue), Q[i]? = some q → (Q.map (sumN m))[Int.toNat (i : Int)]? = some (sumN m q) ∧ (Q.map (fullN m))[Int.toNat (i : Int)]? = some (fullN m q) ∧ Q[Int.toNat (i : Int)]? = some q := fun i q h => by
    rw [Int.toNat_natCast]
    exact ⟨by rw [List.getElem?_map, h]; rfl, by rw [List.getElem?_map, h]; rfl, h⟩
  have inner : ∀ (i : Nat) (p : TQueue), Q[i]? = some p → turnsFair_loop3_18 ((0 : Int), (Q, ((i : Int), (M, (Q.map (fullN m), (true, (Q.map (sumN m), ((Q.length : Int), ((i : Int), ((Q.length : Int), ())))))))))) = some (Sum.inr (Q, (M, (Q.map (fullN m), (true, (Q.map (sumN m), ((Q.length : Int), ((i : Int), ())))))))) := by
    intro i p hp
    have hil := (List.getElem?_eq_some_iff.1 hp).1
    have hpo := hg.2 p (List.mem_iff_getElem?.2 ⟨i, hp⟩)
    have hpM := M2 p (List.mem_iff_getElem?.2 ⟨i, hp⟩)
    obtain ⟨gp1, gp2, gp3⟩ := gets i p hp
    have := loop_all (tag := 30018) (f := fun x => (turnsFair_step3_18 x).eval) (l := Q) (fun k => ((k : Int), (Q, ((i : Int), (M, (Q.map (fullN m), (true, (Q.map (sumN m), ((Q.length : Int), ((i : Int), ((Q.length : Int), ())))))))))))
      (fun i q => True) (Sum.inl (false, ())) (Sum.inr (Q, (M, (Q.map (fullN m), (true, (Q.map (sumN m), ((Q.length : Int), ((i : Int), ()))))))))
      (fun k q hq => by
        have hkl := (List.getElem?_eq_some_iff.1 hq).1
        have hqo := hg.2 q (List.mem_iff_getElem?.2 ⟨k, hq⟩)
        have hqM := M2 q (List.mem_iff_getElem?.2 ⟨k, hq⟩)
        obtain ⟨gq1, gq2, gq3⟩ := gets k q hq
        have en := next_i64 k (by omega)
        refine ⟨fun _ => ?_, fun h => (h trivial).elim⟩
        show (turnsFair_step3_18 _).eval = _
        unfold turnsFair_step3_18
        refine ev_t (by simp; omega) (ev_g (by simp) (ev_opt gp1 (ev_g (by simp) (ev_opt gq3 (ev_g (by simp) (ev_opt gq1 (ev_g (by simp) (ev_opt gp3 (ev_t rfl (ev_g (by simp) (ev_opt gp2 ?_)))))))))))
        rcases Bool.eq_false_or_eq_true (fullN m p) with hfp | hfp
        case inr => exact ev_f hfp (ev_r (by rw [en]))
        refine ev_t hfp (ev_g (by simp) (ev_opt gq2 ?_))
        rcases Bool.eq_false_or_eq_true (fullN m q) with hfq | hfq
        case inr => exact ev_f hfq (ev_r (by rw [en]))
        obtain ⟨k1, k2⟩ := fair_key hpo hqo hpM hqM hfp hfq
        have s1 := sumN_bound hpo m
        have s2 := sumN_bound hqo m
        have z1 := hpo.s0
        have z2 := hpo.s1
        have z3 := hqo.s0
        have z4 := hqo.s1
        have w1 := prod_bound s1.1 s1.2 (show 0 ≤ q.share by omega) z4
        have w2 := prod_bound s2.1 s2.2 (show 0 ≤ p.share by omega) z2
        have w3 := prod_bound M0 M1 (show 0 ≤ p.share + q.share by omega) (show p.share + q.share ≤ 2000000 by omega)
        have v0 : IntKind.wrap IntKind.i64 (p.share + q.share) = p.share + q.share := wi _ (by omega)
        have v1 : IntKind.wrap IntKind.i64 (sumN m p * q.share) = sumN m p * q.share := wi _ (by omega)
        have v2 : IntKind.wrap IntKind.i64 (sumN m q * p.share) = sumN m q * p.share := wi _ (by omega)
        have v3 : IntKind.wrap IntKind.i64 (M * (p.share + q.share)) = M * (p.share + q.share) := wi _ (by omega)
        have v4 : IntKind.wrap IntKind.i64 (sumN m p * q.share - sumN m q * p.share) = sumN m p * q.share - sumN m q * p.share := wi _ (by omega)
        have v5 : IntKind.wrap IntKind.i64 ((0 : Int) - (sumN m p * q.share - sumN m q * p.share)) = (0 : Int) - (sumN m p * q.share - sumN m q * p.share) := wi _ (by omega)
        refine ev_t hfq (ev_g (by simp) (ev_opt gp3 (ev_g (by simp) (ev_opt gq3 (ev_f ?_ (ev_g (by simp) (ev_opt gp3 (ev_g (by simp) (ev_opt gq3 (ev_f ?_ (ev_r (by rw [en]))))))))))))
        · rw [v0, v1, v2, v3, v4, decide_eq_false_iff_not]; omega
        · rw [v0, v1, v2, v3, v4, v5, decide_eq_false_iff_not]; omega)
      (by show (turnsFair_step3_18 _).eval = _; exact ev_f (by simp) (ev_r rfl)) 18446744073709551616 (by omega)
    rcases this with ⟨_, h⟩ | ⟨h, _⟩
    · exact h
    · exact (h fun _ _ _ => trivial).elim
  have outer := loop_idx (tag := 30015) (f := fun x => (turnsFair_step3_15 x).eval) Q.length (fun i => (Q, (M, (Q.map (fullN m), (true, (Q.map (sumN m), ((i : Int), ((Q.length : Int), ())))))))) (Sum.inr (true, ()))
    (fun i hi => by
      have hp : Q[i]? = some Q[i] := List.getElem?_eq_getElem hi
      show (turnsFair_step3_15 _).eval = _
      unfold turnsFair_step3_15
      exact ev_t (by simp; omega) (ev_opt (inner i _ hp) (ev_r (by rw [next_i64 i (by omega)]))))
    (by show (turnsFair_step3_15 _).eval = _; exact ev_f (by simp) (ev_r rfl)) 18446744073709551616 (by omega)
  exact ev_opt (show turnsFair_loop3_15 _ = _ from outer) (ev_r rfl)

/-! ### Served -/
theorem served_key {q : TQueue} (h : QOk q) {x : Int} (hx : q.sizes[0]? = some x) {n : Nat} (hle : Int.tdiv (x - q.saved + q.share - 1) q.share ≤ (n : Int)) : sumN n q ≠ 0 := by
  intro hs
  have hne : q.sizes ≠ [] := fun e => by rw [e] at hx; cases hx
  obtain ⟨e1, e2⟩ := none_sent h hne n hs
  have hv := (rndN_ok h n).v2 x (by rw [e1]; exact hx)
  rw [e2] at hv
  have hsh := h.s0
  have hxs := h.v2 x hx
  have hmul : ((n : Int) + 1) * q.share ≤ x - q.saved + q.share - 1 := by rw [Int.add_mul, Int.one_mul]; omega
  rw [Int.tdiv_eq_ediv_of_nonneg (by omega)] at hle
  have := Int.le_ediv_of_mul_le (show 0 < q.share by omega) hmul
  omega
theorem turnsServed_true {Q : List TQueue} {n : Int} (b0 : BndD 6 (D.st 12 Q)) (h1 : -9223372036854775808 ≤ n ∧ n ≤ 9223372036854775807) : (turnsServed_tree (Q, (n, ()))).eval = some (true, ()) := by
  unfold turnsServed_tree
  obtain ⟨c, hc, hc0⟩ := check_fn Q (q_len b0) (s_len b0)
  refine ev_opt lives_ok (ev_f rfl (ev_opt hc ?_))
  by_cases hz : c = 0
  case neg => exact ev_t (by simpa using hz) (ev_opt lives_ok (ev_r rfl))
  have hg := hc0.1 hz
  refine ev_f (by simpa using hz) ?_
  by_cases n0 : n < 0
  · exact ev_t (by simpa using n0) (ev_opt lives_ok (ev_r rfl))
  refine ev_f (by simpa using n0) ?_
  by_cases n1 : 100 < n
  · exact ev_t (by simpa using n1) (ev_opt lives_ok (ev_r rfl))
  refine ev_f (by simpa using n1) ?_
  obtain ⟨m, rfl⟩ : ∃ m : Nat, n = (m : Int) := ⟨n.toNat, by omega⟩
  have h16 := hg.1
  have hm : m ≤ 100 := by omega
  refine ev_opt (rounds_fn Q m hg hm) (ev_f rfl (ev_f (by simp) ?_))
  have lp := loop_all (tag := 40007) (f := fun x => (turnsServed_step4_7 x).eval) (l := Q) (fun i => ((i : Int), (Q.map (sumN m), ((m : Int), (Q.map (rndN m), (Q.map (fullN m), (Q, ((Q.length : Int), ()))))))))
    (fun i q => True) (Sum.inl (false, ())) (Sum.inr ())
    (fun i q hq => by
      have hil := (List.getElem?_eq_some_iff.1 hq).1
      have hqo := hg.2 q (List.mem_iff_getElem?.2 ⟨i, hq⟩)
      have en := next_i64 i (by omega)
      have g1 : (Q.map (sumN m))[Int.toNat (i : Int)]? = some (sumN m q) := by rw [Int.toNat_natCast, List.getElem?_map, hq]; rfl
      have g2 : (Q.map (fullN m))[Int.toNat (i : Int)]? = some (fullN m q) := by rw [Int.toNat_natCast, List.getElem?_map, hq]; rfl
      have g3 : (Q.map (rndN m))[Int.toNat (i : Int)]? = some (rndN m q) := by rw [Int.toNat_natCast, List.getElem?_map, hq]; rfl
      have g4 : Q[Int.toNat (i : Int)]? = some q := by simpa using hq
      have z1 := hqo.s0
      have z2 := hqo.s1
      have z3 := hqo.v0
      have z4 := hqo.v1'
      have z5 := (rndN_ok hqo m).v0
      have z6 := (rndN_ok hqo m).v1'
      refine ⟨fun _ => ?_, fun h => (h trivial).elim⟩
      have tail : ∀ (T : Tr ((Int × ((List Int) × (Int × ((List TQueue) × ((List Bool) × ((List TQueue) × (Int × Unit))))))) ⊕ ((Bool × Unit) ⊕ Unit))), T = (
         .ite (decide ((0 : Int) < (↑(List.length q.sizes) : Int))) (
          .grd (true) (
          .opt (β := Int) (q.sizes[(0 : Nat)]?) (fun r4 =>
          .grd (decide (q.share ≠ (0 : Int))) (
          .ite (decide (IntKind.wrap IntKind.i64 (Int.tdiv (IntKind.wrap IntKind.i64 (IntKind.wrap IntKind.i64 (IntKind.wrap IntKind.i64 (r4 - q.saved) + q.share) - (1 : Int))) q.share) ≤ (m : Int))) (
           .grd (decide ((0 : Int) ≤ (i : Int))) (
           .opt (β := Int) ((Q.map (sumN m))[Int.toNat (i : Int)]?) (fun r5 =>
           .ite (decide (r5 = (0 : Int))) (
            .ret (Sum.inr (Sum.inl (false, ())))) (
            .ret (Sum.inl (IntKind.wrap IntKind.i64 ((i : Int) + (1 : Int)), (Q.map (sumN m), ((m : Int), (Q.map (rndN m), (Q.map (fullN m), (Q, ((Q.length : Int), ())))))))))))) (
           .ret (Sum.inl (IntKind.wrap IntKind.i64 ((i : Int) + (1 : Int)), (Q.map (sumN m), ((m : Int), (Q.map (rndN m), (Q.map (fullN m), (Q, ((Q.length : Int), ()))))))))))))) (
          .ret (Sum.inl (IntKind.wrap IntKind.i64 ((i : Int) + (1 : Int)), (Q.map (sumN m), ((m : Int), (Q.map (rndN m), (Q.map (fullN m), (Q, ((Q.length : Int), ())))))))))) →
          T.eval = some (.inl (((i + 1 : Nat) : Int), (Q.map (sumN m), ((m : Int), (Q.map (rndN m), (Q.map (fullN m), (Q, ((Q.length : Int), ())))))))) := by
        rintro T rfl
        cases hs : q.sizes with
        | nil => exact ev_f rfl (ev_r (by rw [en]))
        | cons x r =>
          have hx : q.sizes[0]? = some x := by rw [hs]; rfl
          have hxz := hqo.sz x (by rw [hs]; exact List.mem_cons_self)
          have hxs := hqo.v2 x hx
          have v1 : IntKind.wrap IntKind.i64 (x - q.saved) = x - q.saved := wi _ (by omega)
          have v2 : IntKind.wrap IntKind.i64 (x - q.saved + q.share) = x - q.saved + q.share := wi _ (by omega)
          have v3 : IntKind.wrap IntKind.i64 (x - q.saved + q.share - (1 : Int)) = x - q.saved + q.share - 1 := wi _ (by omega)
          have hd0 : 0 ≤ Int.tdiv (x - q.saved + q.share - 1) q.share ∧ Int.tdiv (x - q.saved + q.share - 1) q.share ≤ x - q.saved + q.share - 1 := by
            rw [Int.tdiv_eq_ediv_of_nonneg (by omega)]
            exact ⟨Int.ediv_nonneg (by omega) (by omega), Int.ediv_le_self _ (by omega)⟩
          have v4 : IntKind.wrap IntKind.i64 (Int.tdiv (x - q.saved + q.share - 1) q.share) = Int.tdiv (x - q.saved + q.share - 1) q.share := wi _ (by omega)
          refine ev_t (by simp <;> omega) (ev_g rfl (ev_opt (b := x) rfl (ev_g (by simp; omega) ?_)))
          rw [v1, v2, v3, v4]
          refine ev_ite (fun hle => ?_) (fun _ => ev_r (by rw [en]))
          have hk := served_key hqo hx (of_decide_eq_true hle)
          exact ev_g (by simp) (ev_opt g1 (ev_f (by simpa using hk) (ev_r (by rw [en]))))
      show (turnsServed_step4_7 _).eval = _
      unfold turnsServed_step4_7
      refine ev_t (by simp; omega) (ev_g (by simp) (ev_opt g4 (ev_g (by simp) (ev_opt g2 ?_))))
      rcases Bool.eq_false_or_eq_true (fullN m q) with hf | hf
      case inr => exact ev_f hf (tail _ rfl)
      refine ev_t hf (ev_g (by simp) (ev_opt g1 (ev_g (by simp) (ev_opt g3 (ev_f ?_ (tail _ rfl))))))
      obtain ⟨es, _⟩ := full_sum m hf
      have w := prod_bound (show 0 ≤ (m : Int) by omega) (show (m : Int) ≤ 100 by omega) (show 0 ≤ q.share by omega) z2
      have v1 : IntKind.wrap IntKind.i64 ((m : Int) * q.share) = (m : Int) * q.share := wi _ (by omega)
      have v2 : IntKind.wrap IntKind.i64 ((m : Int) * q.share + q.saved) = (m : Int) * q.share + q.saved := wi _ (by omega)
      have v3 : IntKind.wrap IntKind.i64 ((m : Int) * q.share + q.saved - (rndN m q).saved) = (m : Int) * q.share + q.saved - (rndN m q).saved := wi _ (by omega)
      rw [v1, v2, v3, es]
      simp)
    (by show (turnsServed_step4_7 _).eval = _; exact ev_f (by simp) (ev_r rfl)) 18446744073709551616 (by omega)
  have lp' : turnsServed_loop4_7 ((0 : Int), (Q.map (sumN m), ((m : Int), (Q.map (rndN m), (Q.map (fullN m), (Q, ((Q.length : Int), ()))))))) = some (Sum.inr ()) := by
    rcases lp with ⟨_, h⟩ | ⟨h, _⟩
    · exact h
    · exact (h fun _ _ _ => trivial).elim
  exact ev_opt lp' (ev_r rfl)
end Go.Proofs.Ytgdlhdkofcicjaa.X
