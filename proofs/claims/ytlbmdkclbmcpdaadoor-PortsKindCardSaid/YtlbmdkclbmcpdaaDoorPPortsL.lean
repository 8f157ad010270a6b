/- ports: the laws PortsKind and PortsOnce, in plain terms. Conditions: none. -/
import Derived.Test.YtlbmdkclbmcpdaaDoorPPorts
import Derived.Test.YtlbmdkclbmcpdaaDoorPMap
import Derived.Test.YtlbmdkclbmcpdaaDoorAbsQ
namespace Go.Proofs.YtlbmdkclbmcpdaaDoor.X
open Go Go.RowKit Go.Proofs.YtlbmdkclbmcpdaaDoor.Abs Go.Proofs.YtlbmdkclbmcpdaaDoor.Bits
set_option linter.unusedVariables false
set_option linter.unusedSimpArgs false

theorem wi (x : Int) (h : 0 ≤ x ∧ x ≤ 9223372036854775807) : IntKind.wrap IntKind.i64 x = x := by
  simp only [IntKind.wrap, IntKind.bits, IntKind.signed]
  simp
  omega
theorem kind_step (i t : Nat) (w b port xb xt : Int) (self same : Bool) (hi : i < 64) (ht : t < 2 ^ 64) (hb : baseOk b) (hw : 0 ≤ w ∧ w ≤ 65535) :
    (portsKind_step3_6 ((i : Int), (w, (self, (same, (port, (b, ((t : Int), (xb, (xt, ()))))))))) ).eval =
      some (.inl (((i + 1 : Nat) : Int), (w, ((self || (!t.testBit i && decide (b + (i : Int) = w))), ((same || (!t.testBit i && decide ((b + (i : Int)) % 2 = w % 2))), (port, (b, ((t : Int), (xb, (xt, ())))))))))) := by
  have hb1 := hb.1
  have hb2 := hb.2.1
  have e1 : decide ((i : Int) < 64) = true := decide_eq_true (by omega)
  have e2 : decide ((0 : Int) ≤ (i : Int)) = true := decide_eq_true (by omega)
  have e3 := bit_eq t i ht hi
  have e4 : IntKind.wrap IntKind.i64 ((i : Int) + (1 : Int)) = ((i + 1 : Nat) : Int) := wi _ (by omega)
  have e5 : IntKind.wrap IntKind.i64 (b + (i : Int)) = b + (i : Int) := wi _ (by omega)
  have e6 : Int.tmod (b + (i : Int)) 2 = (b + (i : Int)) % 2 := Int.tmod_eq_emod_of_nonneg (by omega)
  have e7 : Int.tmod w 2 = w % 2 := Int.tmod_eq_emod_of_nonneg hw.1
  unfold portsKind_step3_6
  simp only [Tr.eval, e1, e2, e3, e4, e5, e6, e7, cond_true]
  cases self <;> cases same <;> cases t.testBit i <;> rfl
theorem portsKind_true {b t w : Int} (hb0 : -9223372036854775808 ≤ b ∧ b ≤ 9223372036854775807) (ht0 : 0 ≤ t ∧ t ≤ 18446744073709551615) (hw0 : -9223372036854775808 ≤ w ∧ w ≤ 9223372036854775807) :
    (portsKind_tree (b, (t, (w, ())))).eval = some (true, ()) := by
  by_cases h : baseOk b ∧ (0 ≤ w ∧ w ≤ 65535) ∧ t ≠ 18446744073709551615
  case neg =>
    obtain ⟨e, he, hl⟩ := let_no b t w h
    exact ev_opt hl (ev_opt lives_eq (ev_f rfl (ev_t (by simpa using he) (ev_opt lives_eq (ev_t rfl rfl)))))
  obtain ⟨hb, hw, hf⟩ := h
  obtain ⟨t, rfl⟩ := Int.eq_ofNat_of_zero_le ht0.1
  have ht : t < 2 ^ 64 := by omega
  obtain ⟨k, k1, k2, k3, k4, k5⟩ := let_ok b w t hb ht (by omega) hw
  refine ev_opt k3 (ev_opt lives_eq (ev_f rfl (ev_f rfl ?_)))
  have loop : ∃ r, portsKind_loop3_6 ((0 : Int), (w, (false, (false, (b + (k : Int), (b, ((t : Int), (b, (((t ||| 2 ^ k : Nat) : Int), ()))))))))) = some r ∧
      ∃ self same : Bool, r = (w, (b + (k : Int), (self, (same, (b, ((t : Int), (b, (((t ||| 2 ^ k : Nat) : Int), ())))))))) ∧ (self = true → ∃ j : Nat, j < 64 ∧ t.testBit j = false ∧ b + (j : Int) = w) ∧ (same = true → ∃ j : Nat, j < 64 ∧ t.testBit j = false ∧ (b + (j : Int)) % 2 = w % 2) := by
    refine loopO_ex (f := fun x => (portsKind_step3_6 x).eval)
      (fun x => ∃ (i : Nat) (self same : Bool), i ≤ 64 ∧ x = ((i : Int), (w, (self, (same, (b + (k : Int), (b, ((t : Int), (b, (((t ||| 2 ^ k : Nat) : Int), ()))))))))) ∧ (self = true → ∃ j : Nat, j < 64 ∧ t.testBit j = false ∧ b + (j : Int) = w) ∧ (same = true → ∃ j : Nat, j < 64 ∧ t.testBit j = false ∧ (b + (j : Int)) % 2 = w % 2))
      _ (fun x => (64 - x.1).toNat) ?_ _ _ ⟨0, false, false, by omega, rfl, by simp, by simp⟩ (by show (64 - (0 : Int)).toNat < _; decide)
    rintro _ ⟨i, self, same, hi, rfl, h1, h2⟩
    by_cases hi2 : i < 64
    · right
      refine ⟨_, kind_step i t w b _ _ _ self same hi2 ht hb hw, ⟨i + 1, _, _, by omega, rfl, fun h => ?_, fun h => ?_⟩, by show (64 - ((i + 1 : Nat) : Int)).toNat < (64 - (i : Int)).toNat; omega⟩
      · rcases Bool.or_eq_true_iff.1 h with h | h
        · exact h1 h
        · obtain ⟨q1, q2⟩ := Bool.and_eq_true_iff.1 h
          exact ⟨i, hi2, by simpa using q1, of_decide_eq_true q2⟩
      · rcases Bool.or_eq_true_iff.1 h with h | h
        · exact h2 h
        · obtain ⟨q1, q2⟩ := Bool.and_eq_true_iff.1 h
          exact ⟨i, hi2, by simpa using q1, of_decide_eq_true q2⟩
    · left
      have : i = 64 := by omega
      subst this
      exact ⟨_, ev_f rfl rfl, self, same, rfl, h1, h2⟩
  obtain ⟨_, hl, self, same, rfl, h1, h2⟩ := loop
  have he := end_ok b (t ||| 2 ^ k) k hb (or_lt t k ht k1) k1 (by rw [or_bit]; simp)
  rw [or_xor t k k2] at he
  refine ev_opt hl (ev_opt he ?_)
  have hb1 := hb.1
  have m1 : Int.tmod (b + (k : Int)) 2 = (b + (k : Int)) % 2 := Int.tmod_eq_emod_of_nonneg (by omega)
  have m2 : Int.tmod w 2 = w % 2 := Int.tmod_eq_emod_of_nonneg hw.1
  simp only [Tr.eval, m1, m2]
  have hs : self = true → b + (k : Int) = w := fun h => by
    obtain ⟨j, j1, j2, j3⟩ := h1 h
    have := k5 j j1 j2 j3
    subst this; exact j3
  have hk : same = true → (b + (k : Int)) % 2 = w % 2 := fun h => k4 (h2 h)
  cases self
  · cases same
    · simp
    · simp [hk rfl]
  · cases same
    · simp [hs rfl]
    · simp [hs rfl, hk rfl]

/-! ### PortsOnce -/
/-- What the map of ports holds. -/
def SeenOk (b : Int) (t0 T : Nat) (m : List (Int × Int)) : Prop := ∀ k : Nat, k < 64 → (mGet 0 (b + (k : Int) : Int) m).getD 0 = if T.testBit k = true ∧ t0.testBit k = false then 1 else 0
theorem bits_lt (x i : Nat) (hx : x < 2 ^ 64) (hi : 64 ≤ i) : x.testBit i = false := Nat.testBit_lt_two_pow (Nat.lt_of_lt_of_le hx (Nat.pow_le_pow_right (by decide) hi))
theorem full_bit (k : Nat) (hk : k < 64) : Nat.testBit (2 ^ 64 - 1) k = true := by rw [Nat.testBit_two_pow_sub_one]; exact decide_eq_true hk
theorem once_let (b want : Int) (t0 T i : Nat) (m : List (Int × Int)) (hb : baseOk b) (ht0 : t0 < 2 ^ 64) (hT : T < 2 ^ 64) (hc : pcn 64 T = pcn 64 t0 + i) (hi : i + pcn 64 t0 < 64) (hsub : ∀ k, t0.testBit k = true → T.testBit k = true) (hm : SeenOk b t0 T m) (hw : 0 ≤ want ∧ want ≤ 65535) :
    ∃ (k : Nat), k < 64 ∧ portsLet_fn (b, ((T : Int), (want, ()))) = some (b, (((T ||| 2 ^ k : Nat) : Int), (b + (k : Int), ((0 : Int), ())))) ∧ pcn 64 (T ||| 2 ^ k) = pcn 64 t0 + (i + 1) ∧ (∀ j, t0.testBit j = true → (T ||| 2 ^ k).testBit j = true) ∧
      (mGet 0 (b + (k : Int) : Int) m).getD 0 = 0 ∧ SeenOk b t0 (T ||| 2 ^ k) (mPut 0 (b + (k : Int) : Int) 1 m) := by
  have hne : T ≠ 2 ^ 64 - 1 := by
    intro e
    have h64 : pcn 64 (2 ^ 64 - 1) = 64 := by decide +kernel
    rw [e, h64] at hc
    omega
  obtain ⟨k, k1, k2, k3, _, _⟩ := let_ok b want T hb hT hne hw
  have h0 : t0.testBit k = false := by
    cases h : t0.testBit k with
    | false => rfl
    | true => rw [hsub k h] at k2; cases k2
  refine ⟨k, k1, k3, ?_, ?_, ?_, ?_⟩
  · rw [or_add T k k2, pcn_set 64 k T k1 k2, hc]; omega
  · intro j hj; rw [or_bit, hsub j hj]; rfl
  · rw [hm k k1, if_neg]; rintro ⟨h, _⟩; rw [k2] at h; cases h
  · intro j hj
    by_cases hjk : j = k
    · subst hjk
      refine (congrArg (fun o : Option Int => o.getD 0) (gp_same _ 1 m)).trans ?_
      rw [or_bit]
      simp [h0]
    · have hne : (b + (j : Int) : Int) ≠ b + (k : Int) := by omega
      refine (congrArg (fun o : Option Int => o.getD 0) (gp_ne hne 1 m)).trans ((hm j hj).trans ?_)
      rw [or_bit]
      simp [show ¬ k = j from fun e => hjk e.symm]
def OnceI (b : Int) (wants : List Int) (n t0 : Nat) (x : (Int × ((List Int) × (Int × ((List (Int × Int)) × (Int × (Int × (Int × (Int × Unit))))))))) : Prop :=
  ∃ (i T : Nat) (m : List (Int × Int)), i ≤ n ∧ T < 2 ^ 64 ∧ pcn 64 T = pcn 64 t0 + i ∧ (∀ j, t0.testBit j = true → T.testBit j = true) ∧ SeenOk b t0 T m ∧ x = ((i : Int), (wants, ((n : Int), (m, (b, ((T : Int), (b, ((t0 : Int), ()))))))))
def onceTail (want a0 : Int) (a1 : List Int) (a2 : Int) (a3 : List (Int × Int)) (a4 a5 a6 a7 : Int) : Tr ((Int × ((List Int) × (Int × ((List (Int × Int)) × (Int × (Int × (Int × (Int × Unit)))))))) ⊕ ((Bool × Unit) ⊕ (Int × (Int × ((List (Int × Int)) × (Int × (Int × Unit))))))) :=
    .opt (β := (Int × (Int × (Int × (Int × Unit))))) ((portsLet_fn (a4, (a5, (want, ()))))) (fun r1 =>
    .ite (!decide (r1.2.2.2.1 = (0 : Int))) (
     .ret (Sum.inr (Sum.inl (false, ())))) (
     .ite (decide (r1.2.2.1 < r1.1)) (
      .ret (Sum.inr (Sum.inl (false, ())))) (
      .ite (decide (IntKind.wrap IntKind.i64 (r1.1 + (63 : Int)) < r1.2.2.1)) (
       .ret (Sum.inr (Sum.inl (false, ())))) (
       .ite (decide ((1 : Int) < Option.getD (mGet (0 : Nat) r1.2.2.1 (mPut (0 : Nat) r1.2.2.1 (IntKind.wrap IntKind.i64 (Option.getD (mGet (0 : Nat) r1.2.2.1 a3) (0 : Int) + (1 : Int))) a3)) (0 : Int))) (
        .ret (Sum.inr (Sum.inl (false, ())))) (
        .ret (Sum.inl (IntKind.wrap IntKind.i64 (a0 + (1 : Int)), (a1, (a2, (mPut (0 : Nat) r1.2.2.1 (IntKind.wrap IntKind.i64 (Option.getD (mGet (0 : Nat) r1.2.2.1 a3) (0 : Int) + (1 : Int))) a3, (r1.1, (r1.2.1, (a6, (a7, ()))))))))))))))
theorem once_tail {b want : Int} {wants : List Int} {n t0 i T : Nat} {m : List (Int × Int)} (hb : baseOk b) (ht0 : t0 < 2 ^ 64) (hn : n + pcn 64 t0 = 64) (hi : i < n) (hT : T < 2 ^ 64) (hc : pcn 64 T = pcn 64 t0 + i) (hsub : ∀ k, t0.testBit k = true → T.testBit k = true) (hm : SeenOk b t0 T m) (hw : 0 ≤ want ∧ want ≤ 65535) (a7 a6 : Int) (h6 : a6 = b) (h7 : a7 = (t0 : Int)) :
    ∃ a', (onceTail want (i : Int) wants (n : Int) m b (T : Int) a6 a7).eval = some (.inl a') ∧ OnceI b wants n t0 a' ∧ (64 - a'.1).toNat < (64 - (i : Int)).toNat := by
  subst h6; subst h7
  obtain ⟨k, k1, k2, k3, k4, k5, k6⟩ := once_let a6 want t0 T i m hb ht0 hT hc (by omega) hsub hm hw
  have hb1 := hb.1
  have hb2 := hb.2.1
  have e1 : IntKind.wrap IntKind.i64 (a6 + (63 : Int)) = a6 + 63 := wi _ (by omega)
  have e2 : IntKind.wrap IntKind.i64 ((i : Int) + (1 : Int)) = ((i + 1 : Nat) : Int) := wi _ (by omega)
  have e3 : IntKind.wrap IntKind.i64 ((0 : Int) + (1 : Int)) = 1 := by decide
  refine ⟨(((i + 1 : Nat) : Int), (wants, ((n : Int), (mPut (0 : Nat) (a6 + (k : Int) : Int) 1 m, (a6, (((T ||| 2 ^ k : Nat) : Int), (a6, ((t0 : Int), ())))))))), ?_, ⟨i + 1, T ||| 2 ^ k, _, by omega, or_lt T k hT k1, k3, k4, k6, rfl⟩, by show (64 - ((i + 1 : Nat) : Int)).toNat < _; omega⟩
  refine ev_opt k2 (ev_f rfl (ev_f (decide_eq_false (show ¬ (a6 + (k : Int) < a6) by omega)) (ev_f ?_ (ev_f ?_ ?_))))
  · show decide (IntKind.wrap IntKind.i64 (a6 + 63) < a6 + (k : Int)) = false
    rw [e1]; exact decide_eq_false (by omega)
  · show decide ((1 : Int) < Option.getD (mGet (0 : Nat) (a6 + (k : Int) : Int) (mPut (0 : Nat) (a6 + (k : Int) : Int) (IntKind.wrap IntKind.i64 (Option.getD (mGet (0 : Nat) (a6 + (k : Int) : Int) m) (0 : Int) + (1 : Int))) m)) (0 : Int)) = false
    rw [k5, e3]
    refine decide_eq_false ?_
    rw [show (mGet (0 : Nat) (a6 + (k : Int) : Int) (mPut (0 : Nat) (a6 + (k : Int) : Int) 1 m)) = some 1 from gp_same _ 1 m]
    decide
  · show (Tr.ret (Sum.inl (IntKind.wrap IntKind.i64 ((i : Int) + (1 : Int)), (wants, ((n : Int), (mPut (0 : Nat) (a6 + (k : Int) : Int) (IntKind.wrap IntKind.i64 (Option.getD (mGet (0 : Nat) (a6 + (k : Int) : Int) m) (0 : Int) + (1 : Int))) m, (a6, (((T ||| 2 ^ k : Nat) : Int), (a6, ((t0 : Int), ()))))))))) : Tr ((Int × ((List Int) × (Int × ((List (Int × Int)) × (Int × (Int × (Int × (Int × Unit)))))))) ⊕ ((Bool × Unit) ⊕ (Int × (Int × ((List (Int × Int)) × (Int × (Int × Unit)))))))).eval = _
    rw [k5, e3, e2]
    rfl
theorem once_loop1 (b : Int) (wants : List Int) (n t0 : Nat) (hb : baseOk b) (ht0 : t0 < 2 ^ 64) (hn : n + pcn 64 t0 = 64) :
    ∃ r, portsOnce_loop4_7 ((0 : Int), (wants, ((n : Int), ([], (b, ((t0 : Int), (b, ((t0 : Int), ())))))))) = some r ∧ ∃ m : List (Int × Int), SeenOk b t0 (2 ^ 64 - 1) m ∧ r = .inr (b, (((2 ^ 64 - 1 : Nat) : Int), (m, (b, ((t0 : Int), ()))))) := by
  have start : OnceI b wants n t0 ((0 : Int), (wants, ((n : Int), ([], (b, ((t0 : Int), (b, ((t0 : Int), ())))))))) := by
    refine ⟨0, t0, [], Nat.zero_le _, ht0, (Nat.add_zero _).symm, fun _ h => h, fun k hk => ?_, rfl⟩
    show (none : Option Int).getD 0 = _
    rw [if_neg]
    · rfl
    · rintro ⟨h1, h2⟩; rw [h1] at h2; cases h2
  refine loopO_ex (f := fun x => (portsOnce_step4_7 x).eval) (OnceI b wants n t0) _ (fun x => (64 - x.1).toNat) ?_ _ _ start (by show (64 - (0 : Int)).toNat < _; decide)
  · rintro _ ⟨i, T, m, hi, hT, hc, hsub, hm, rfl⟩
    by_cases hin : i < n
    · right
      by_cases hl : (i : Int) < (wants.length : Int)
      · have hl' : i < wants.length := by omega
        have hget : wants[Int.toNat (i : Int)]? = some (wants[i]'hl') := by rw [Int.toNat_natCast, List.getElem?_eq_getElem hl']
        generalize wants[i]'hl' = v at hget
        have hwant : ∃ want : Int, want = (if false = true then if (if true = true then if (65535 : Int) < v then (65535 : Int) else v else if (65535 : Int) > v then (65535 : Int) else v) < (0 : Int) then if true = true then if (65535 : Int) < v then (65535 : Int) else v else if (65535 : Int) > v then (65535 : Int) else v else (0 : Int) else if (if true = true then if (65535 : Int) < v then (65535 : Int) else v else if (65535 : Int) > v then (65535 : Int) else v) > (0 : Int) then if true = true then if (65535 : Int) < v then (65535 : Int) else v else if (65535 : Int) > v then (65535 : Int) else v else (0 : Int)) ∧ (0 ≤ want ∧ want ≤ 65535) := by
          refine ⟨_, rfl, ?_⟩
          simp only [Bool.false_eq_true, if_false, if_true]
          split <;> split <;> omega
        obtain ⟨want, hwe, hwb⟩ := hwant
        obtain ⟨a', q1, q2, q3⟩ := once_tail (wants := wants) hb ht0 hn hin hT hc hsub hm hwb (t0 : Int) b rfl rfl
        refine ⟨a', ev_t (decide_eq_true (by omega)) (ev_g rfl (ev_t (decide_eq_true hl) (ev_g (decide_eq_true (by omega)) (ev_opt hget ?_)))), q2, q3⟩
        rw [hwe] at q1
        exact q1
      · have e7 : IntKind.wrap IntKind.i64 ((i : Int) * (7 : Int)) = (i : Int) * 7 := wi _ (by omega)
        have e8 : Int.tmod ((i : Int) * 7) 65536 = (i : Int) * 7 % 65536 := Int.tmod_eq_emod_of_nonneg (by omega)
        obtain ⟨a', q1, q2, q3⟩ := once_tail (want := Int.tmod (IntKind.wrap IntKind.i64 ((i : Int) * (7 : Int))) (65536 : Int)) (wants := wants) hb ht0 hn hin hT hc hsub hm (by rw [e7, e8]; omega) (t0 : Int) b rfl rfl
        exact ⟨a', ev_t (decide_eq_true (by omega)) (ev_g rfl (ev_f (decide_eq_false hl) q1)), q2, q3⟩
    · left
      have : i = n := by omega
      subst this
      have hfull := pcn_full 64 T hT (by omega)
      have hout : (portsOnce_step4_7 ((i : Int), (wants, ((i : Int), (m, (b, ((T : Int), (b, ((t0 : Int), ()))))))))).eval = some (.inr (.inr (b, ((T : Int), (m, (b, ((t0 : Int), ()))))))) := ev_f (decide_eq_false (Int.lt_irrefl _)) rfl
      rw [hfull] at hm hout
      rw [hfull]
      exact ⟨_, hout, m, hm, rfl⟩
theorem once_loop2 (b : Int) (t0 : Nat) (m : List (Int × Int)) (hb : baseOk b) (ht0 : t0 < 2 ^ 64) (hm : SeenOk b t0 (2 ^ 64 - 1) m) :
    portsOnce_loop4_24 (b, (b, (((2 ^ 64 - 1 : Nat) : Int), (m, (b, ((t0 : Int), ())))))) = some (.inr (b, ((t0 : Int), (b, ((t0 : Int), ()))))) := by
  have hb1 := hb.1
  have hb2 := hb.2.1
  have e1 : IntKind.wrap IntKind.i64 (b + (64 : Int)) = b + 64 := wi _ (by omega)
  have key : ∃ r, portsOnce_loop4_24 (b, (b, (((2 ^ 64 - 1 : Nat) : Int), (m, (b, ((t0 : Int), ())))))) = some r ∧ r = .inr (b, ((t0 : Int), (b, ((t0 : Int), ())))) := by
    refine loopO_ex (f := fun x => (portsOnce_step4_24 x).eval)
      (fun x => ∃ (j T : Nat), j ≤ 64 ∧ T < 2 ^ 64 ∧ (∀ k, k < 64 → T.testBit k = if k < j then t0.testBit k else true) ∧ x = (b + (j : Int), (b, ((T : Int), (m, (b, ((t0 : Int), ())))))))
      _ (fun x => (b + 64 - x.1).toNat) ?_ _ _ ⟨0, 2 ^ 64 - 1, by omega, by decide, fun k hk => by rw [if_neg (by omega)]; exact full_bit k hk, by simp⟩ (by show (b + 64 - b).toNat < _; omega)
    rintro _ ⟨j, T, hj, hT, hbit, rfl⟩
    by_cases hj2 : j < 64
    · right
      have hs := hm j hj2
      have e2 : IntKind.wrap IntKind.i64 (b + (j : Int) + (1 : Int)) = b + ((j + 1 : Nat) : Int) := by rw [wi _ (by omega)]; omega
      have htj : T.testBit j = true := by rw [hbit j hj2, if_neg (by omega)]
      show ∃ a', (portsOnce_step4_24 _).eval = some (.inl a') ∧ _
      unfold portsOnce_step4_24
      simp only [e1, e2]
      cases h0 : t0.testBit j with
      | false =>
        rw [if_pos ⟨full_bit j hj2, h0⟩] at hs
        have he := end_ok b T j hb hT hj2 htj
        refine ⟨_, ev_t (decide_eq_true (by omega)) (ev_t (decide_eq_true hs) (ev_opt he (ev_f rfl rfl))), ⟨j + 1, T ^^^ 2 ^ j, by omega, xor_lt T j hT hj2, fun k hk => ?_, rfl⟩, by show (b + 64 - (b + ((j + 1 : Nat) : Int))).toNat < (b + 64 - (b + (j : Int))).toNat; omega⟩
        rw [xor_bit, hbit k hk]
        by_cases hkj : j = k
        · subst hkj
          rw [if_neg (by omega), if_pos (by omega), h0]; simp
        · rw [decide_eq_false hkj]
          by_cases hlt : k < j
          · rw [if_pos hlt, if_pos (by omega)]; simp
          · rw [if_neg hlt, if_neg (by omega)]; simp
      | true =>
        rw [if_neg (by rintro ⟨_, h⟩; rw [h0] at h; cases h)] at hs
        refine ⟨_, ev_t (decide_eq_true (by omega)) (ev_f (decide_eq_false (by rw [hs]; decide)) rfl), ⟨j + 1, T, by omega, hT, fun k hk => ?_, rfl⟩, by show (b + 64 - (b + ((j + 1 : Nat) : Int))).toNat < (b + 64 - (b + (j : Int))).toNat; omega⟩
        rw [hbit k hk]
        by_cases hkj : k = j
        · subst hkj
          rw [if_neg (by omega), if_pos (by omega), h0]
        · by_cases hlt : k < j
          · rw [if_pos hlt, if_pos (by omega)]
          · rw [if_neg hlt, if_neg (by omega)]
    · left
      have : j = 64 := by omega
      subst this
      have hTe : T = t0 := by
        apply Nat.eq_of_testBit_eq
        intro i
        by_cases hi : i < 64
        · rw [hbit i hi, if_pos hi]
        · rw [bits_lt T i hT (by omega), bits_lt t0 i ht0 (by omega)]
      subst hTe
      refine ⟨_, ev_f ?_ rfl, rfl⟩
      rw [e1]; exact decide_eq_false (by omega)
  obtain ⟨r, h1, rfl⟩ := key
  exact h1
theorem portsOnce_true {b t : Int} {wants : List Int} (hb0 : -9223372036854775808 ≤ b ∧ b ≤ 9223372036854775807) (ht0 : 0 ≤ t ∧ t ≤ 18446744073709551615) (hw : BndD 6 (D.st 0 wants)) :
    (portsOnce_tree (b, (t, (wants, ())))).eval = some (true, ()) := by
  by_cases hb : baseOk b
  case neg => exact ev_opt (free_no b t hb) (ev_opt lives_eq (ev_f rfl (ev_t rfl (ev_opt lives_eq (ev_t rfl rfl)))))
  obtain ⟨t, rfl⟩ := Int.eq_ofNat_of_zero_le ht0.1
  have ht : t < 2 ^ 64 := by omega
  have hle := pcn_le 64 t
  have hfree := free_ok b t hb ht
  rw [show (64 : Int) - ((pcn 64 t : Nat) : Int) = ((64 - pcn 64 t : Nat) : Int) by omega] at hfree
  obtain ⟨_, h1, m, hm, rfl⟩ := once_loop1 b wants (64 - pcn 64 t) t hb ht (by omega)
  refine ev_opt hfree (ev_opt lives_eq (ev_f rfl (ev_f rfl (ev_opt h1 ?_))))
  have hl := let_full b 80 hb (by omega)
  refine ev_opt hl (ev_f rfl (ev_opt (once_loop2 b t m hb ht hm) ?_))
  show (Tr.ret (decide (b = b) && (decide ((t : Int) = (t : Int)) && true), ())).eval = _
  simp [Tr.eval]
end Go.Proofs.YtlbmdkclbmcpdaaDoor.X
