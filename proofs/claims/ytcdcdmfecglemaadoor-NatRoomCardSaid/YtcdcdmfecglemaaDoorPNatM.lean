/- nat: the law NatRoom, in plain terms. Conditions: none. -/
import Derived.Test.YtcdcdmfecglemaaDoorMNat
import Derived.Test.YtcdcdmfecglemaaDoorPNatR
namespace Go.Proofs.YtcdcdmfecglemaaDoor.X
open Go Go.RowKit Go.Proofs.YtcdcdmfecglemaaDoor.Abs Go.Proofs.YtcdcdmfecglemaaDoor.Bits
set_option linter.unusedVariables false
set_option linter.unusedSimpArgs false

theorem NatOk.len {life lb : Int} {L : Nat} {sb : Int} {S : Nat} {l : List TMap} (hN : NatOk life lb L sb S l) : (outs 17 l).length ≤ 64 ∧ (outs 6 l).length ≤ 64 ∧ l.length ≤ 128 := by
  have c1 := cov_len hN.covL
  have c2 := cov_len hN.covS
  have b1 := ks_len (fun k => L.testBit k) lb 64
  have b2 := ks_len (fun k => S.testBit k) sb 64
  have := outs_len hN.ok
  omega
/-- How many young ones of a protocol. -/
def yg (life now : Int) (m : TMap) : Bool := decide (now - m.at' ≤ life)
def cy (p life now : Int) (l : List TMap) : Nat := (outs p (l.filter (yg life now))).length
theorem cy_perm {p life now : Int} {Y l : List TMap} (hk : l.Pairwise (fun x y => ¬ same x y)) (hY : Y.Pairwise (fun x y => ¬ same x y)) (h : ∀ m, m ∈ Y ↔ m ∈ l ∧ now - m.at' ≤ life) : cy p life now l = (outs p Y).length := by
  have nd : ∀ z : List TMap, z.Pairwise (fun x y => ¬ same x y) → z.Nodup := fun z hz => hz.imp fun h e => h (by rw [e]; exact ⟨rfl, rfl, rfl⟩)
  have hp : (l.filter (yg life now)).Perm Y := (List.perm_ext_iff_of_nodup ((nd l hk).filter _) (nd Y hY)).2 fun m => by
    rw [List.mem_filter, h m]
    unfold yg
    rw [decide_eq_true_eq]
  exact ((hp.filter _).map _).length_eq
structure J (life now : Int) (R k6 k17 L S : Nat) (l : List TMap) : Prop where
  ok : NatOk life 1024 L 4096 S l
  at' : ∀ m ∈ l, m.at' ≤ now
  c6 : cy 6 life now l = min k6 64
  c17 : cy 17 life now l = min k17 64
  a6 : ∀ m ∈ l, now - m.at' ≤ life → m.proto = 6 → m.addr < 1000 * R + k6
  a17 : ∀ m ∈ l, now - m.at' ≤ life → m.proto = 17 → m.addr < 1000 * R + k17
theorem lastAt_le {l : List TMap} {now : Int} (h0 : 0 ≤ now) (h : ∀ m ∈ l, m.at' ≤ now) : lastAt l ≤ now := by
  unfold lastAt
  cases hg : l.getLast? with
  | none => exact h0
  | some m => exact h m (List.mem_of_getLast? hg)
theorem outs_one (p q a r o t : Int) : outs p [(⟨q, a, r, o, t⟩ : TMap)] = if q = p then [o] else [] := by
  rw [outs_cons]; rfl
theorem sub_len : ∀ (a os : List Int), a.Nodup → (∀ x ∈ a, x ∈ os) → a.length ≤ os.length
  | [], os, _, _ => Nat.zero_le _
  | x :: r, os, hn, h => by
    obtain ⟨h1, h2⟩ := List.nodup_cons.1 hn
    have hx := h x List.mem_cons_self
    have ih := sub_len r (os.erase x) h2 fun y hy => (List.mem_erase_of_ne (fun e => h1 (by rw [← e]; exact hy))).2 (h y (List.mem_cons_of_mem _ hy))
    rw [List.length_erase_of_mem hx] at ih
    have := List.length_pos_of_mem hx
    simp only [List.length_cons]
    omega
theorem cover_len {b : Int} {os : List Int} (h : ∀ k : Nat, k < 64 → b + (k : Int) ∈ os) : 64 ≤ os.length := by
  have := sub_len (ks (fun _ => true) b 64) os (ks_nodup _ _ _) fun o ho => by
    obtain ⟨k, k1, _, rfl⟩ := (ks_mem _ _ _ _).1 ho
    exact h k k1
  have e : (ks (fun _ => true) b 64).length = 64 := by
    unfold ks
    rw [List.length_map, List.filter_eq_self.2 (fun _ _ => rfl), List.length_range]
  omega
theorem room_step {life now want : Int} {R k6 k17 L S : Nat} {l : List TMap} (p : Int) (k : Nat) (hp : p = 6 ∧ k = k6 ∨ p = 17 ∧ k = k17) (hJ : J life now R k6 k17 L S l) (hw : 0 ≤ want ∧ want ≤ 65535) (hnow : 0 ≤ now ∧ now ≤ 1099511627776) :
    ∃ (L2 S2 : Nat) (l2 : List TMap) (out e : Int), natOut_fn (life, ((1024 : Int), ((L : Int), ((4096 : Int), ((S : Int), (l, (p, (((1000 * R + k : Nat) : Int), (want, (now, ())))))))))) = some (life, ((1024 : Int), ((L2 : Int), ((4096 : Int), ((S2 : Int), (l2, (out, (e, ())))))))) ∧
      (k < 64 ∧ e = 0 ∨ ¬ k < 64 ∧ e = 6) ∧ J life now R (if p = 6 then k6 + 1 else k6) (if p = 17 then k17 + 1 else k17) L2 S2 l2 := by
  have hN := hJ.ok
  have hlen := hN.len
  have hlife := hN.life
  have hpp : p = 17 ∨ p = 6 := by omega
  have hA : ArgOk l p want now := ⟨hpp, hw, lastAt_le hnow.1 hJ.at', hnow.1, hnow.2⟩
  obtain ⟨Y, ⟨t, ht⟩, hY, hcase⟩ := out_ok (addr := ((1000 * R + k : Nat) : Int)) hN hA (by omega) (by unfold Big; omega)
  have hYk : Y.Pairwise (fun x y => ¬ same x y) := by rw [ht]; exact hN.keys.sublist (List.drop_sublist _ _)
  have hno : ∀ m ∈ Y, kb p ((1000 * R + k : Nat) : Int) want m = false := by
    intro m hm
    obtain ⟨h1, h2⟩ := (hY m).1 hm
    cases hb : kb p ((1000 * R + k : Nat) : Int) want m with
    | false => rfl
    | true =>
      exfalso
      obtain ⟨g1, g2, _⟩ := kb_iff.1 hb
      rcases hp with ⟨e1, e2⟩ | ⟨e1, e2⟩
      · have := hJ.a6 m h1 h2 (by omega); omega
      · have := hJ.a17 m h1 h2 (by omega); omega
  have q6 := cy_perm (p := 6) hN.keys hYk hY
  have q17 := cy_perm (p := 17) hN.keys hYk hY
  rw [hJ.c6] at q6
  rw [hJ.c17] at q17
  rcases hcase with ⟨out, L2, S2, Z, ho, hN2, _, _, _, hZY⟩ | ⟨ho, _, b, hb, hfull⟩
  · have hZ := hZY hno
    subst hZ
    have hl2 := hN2.len
    have e6 : outs 6 (Z ++ [⟨p, ((1000 * R + k : Nat) : Int), want, out, now⟩]) = outs 6 Z ++ (if p = 6 then [out] else []) := by rw [outs_app, outs_one]
    have e17 : outs 17 (Z ++ [⟨p, ((1000 * R + k : Nat) : Int), want, out, now⟩]) = outs 17 Z ++ (if p = 17 then [out] else []) := by rw [outs_app, outs_one]
    have n6 := hl2.2.1
    have n17 := hl2.1
    rw [e6, List.length_append] at n6
    rw [e17, List.length_append] at n17
    have ymem : ∀ m, m ∈ Z ++ [⟨p, ((1000 * R + k : Nat) : Int), want, out, now⟩] ↔ m ∈ (Z ++ [(⟨p, ((1000 * R + k : Nat) : Int), want, out, now⟩ : TMap)]) ∧ now - m.at' ≤ life := by
      intro m
      refine ⟨fun hm => ⟨hm, ?_⟩, fun h => h.1⟩
      rcases List.mem_append.1 hm with hm | hm
      · exact ((hY m).1 hm).2
      · rw [List.mem_singleton] at hm; subst hm; show now - now ≤ life; omega
    have r6 := cy_perm (p := 6) hN2.keys hN2.keys ymem
    have r17 := cy_perm (p := 17) hN2.keys hN2.keys ymem
    rw [e6, List.length_append] at r6
    rw [e17, List.length_append] at r17
    have hk : k < 64 := by
      rcases hp with ⟨e1, e2⟩ | ⟨e1, e2⟩
      · rw [if_pos e1] at n6; simp only [List.length_singleton] at n6; omega
      · rw [if_pos e1] at n17; simp only [List.length_singleton] at n17; omega
    refine ⟨L2, S2, _, out, 0, ho, .inl ⟨hk, rfl⟩, hN2, ?_, ?_, ?_, ?_, ?_⟩
    · intro m hm
      rcases List.mem_append.1 hm with hm | hm
      · exact hJ.at' m ((hY m).1 hm).1
      · rw [List.mem_singleton] at hm; subst hm; exact Int.le_refl _
    · rw [r6, ← q6]
      by_cases h6 : p = 6
      · rw [if_pos h6, if_pos h6]; simp only [List.length_singleton]; omega
      · rw [if_neg h6, if_neg h6]; simp
    · rw [r17, ← q17]
      by_cases h17 : p = 17
      · rw [if_pos h17, if_pos h17]; simp only [List.length_singleton]; omega
      · rw [if_neg h17, if_neg h17]; simp
    · intro m hm hy hmp
      rcases List.mem_append.1 hm with hm | hm
      · obtain ⟨h1, h2⟩ := (hY m).1 hm
        have := hJ.a6 m h1 h2 hmp
        split <;> omega
      · rw [List.mem_singleton] at hm; subst hm
        have hmp : p = 6 := hmp
        rw [if_pos hmp]
        show ((1000 * R + k : Nat) : Int) < _
        omega
    · intro m hm hy hmp
      rcases List.mem_append.1 hm with hm | hm
      · obtain ⟨h1, h2⟩ := (hY m).1 hm
        have := hJ.a17 m h1 h2 hmp
        split <;> omega
      · rw [List.mem_singleton] at hm; subst hm
        have hmp : p = 17 := hmp
        rw [if_pos hmp]
        show ((1000 * R + k : Nat) : Int) < _
        omega
  · have hge := cover_len hfull
    have hk : ¬ k < 64 := by
      rcases hp with ⟨e1, e2⟩ | ⟨e1, e2⟩ <;> subst e1 <;> omega
    refine ⟨L, S, l, 0, 6, ho, .inr ⟨hk, rfl⟩, hN, hJ.at', ?_, ?_, fun m hm hy hmp => ?_, fun m hm hy hmp => ?_⟩
    · rw [hJ.c6]; split <;> omega
    · rw [hJ.c17]; split <;> omega
    · have := hJ.a6 m hm hy hmp; split <;> omega
    · have := hJ.a17 m hm hy hmp; split <;> omega
theorem u32w (x : Int) (h : 0 ≤ x ∧ x ≤ 4294967295) : IntKind.wrap IntKind.u32 x = x := by
  simp only [IntKind.wrap, IntKind.bits, IntKind.signed]
  simp
  omega
/-- Both protocols, at one number. -/
theorem room_two {life now want : Int} {R k L S : Nat} {l : List TMap} (x8 x9 : Int) (ports : List Int) (hR : R ≤ 1) (hk : k ≤ 64) (hJ : J life now R k k L S l) (hw : 0 ≤ want ∧ want ≤ 65535) (hnow : 0 ≤ now ∧ now ≤ 1099511627776) :
    ∃ (L2 S2 : Nat) (l2 : List TMap), J life now R (k + 1) (k + 1) L2 S2 l2 ∧
      natRoom_loop4_14 ((0 : Int), ((k : Int), (now, (want, ((R : Int), ((6 : Int), ((17 : Int), (ports, (x8, (x9, ((k : Int), (life, ((1024 : Int), ((L : Int), ((4096 : Int), ((S : Int), (l, ()))))))))))))))))) =
      some (.inr (now, ((R : Int), (ports, (x8, (x9, ((k : Int), (life, ((1024 : Int), ((L2 : Int), ((4096 : Int), ((S2 : Int), (l2, ()))))))))))))) := by
  have ha : IntKind.wrap IntKind.u32 (IntKind.wrap IntKind.i64 (IntKind.wrap IntKind.i64 ((1000 : Int) * (R : Int)) + (k : Int))) = ((1000 * R + k : Nat) : Int) := by
    rw [wi ((1000 : Int) * (R : Int)) (by omega), wi _ (by omega), u32w _ (by omega)]; omega
  have step : ∀ (i : Nat) (p : Int) (L S L2 S2 : Nat) (l l2 : List TMap) (out e : Int), i < 2 → [(6 : Int), 17][i]? = some p → natOut_fn (life, ((1024 : Int), ((L : Int), ((4096 : Int), ((S : Int), (l, (p, (((1000 * R + k : Nat) : Int), (want, (now, ())))))))))) = some (life, ((1024 : Int), ((L2 : Int), ((4096 : Int), ((S2 : Int), (l2, (out, (e, ())))))))) → (k < 64 ∧ e = 0 ∨ ¬ k < 64 ∧ e = 6) →
      (natRoom_step4_14 ((i : Int), ((k : Int), (now, (want, ((R : Int), ((6 : Int), ((17 : Int), (ports, (x8, (x9, ((k : Int), (life, ((1024 : Int), ((L : Int), ((4096 : Int), ((S : Int), (l, ())))))))))))))))))).eval =
      some (.inl (((i + 1 : Nat) : Int), ((k : Int), (now, (want, ((R : Int), ((6 : Int), ((17 : Int), (ports, (x8, (x9, ((k : Int), (life, ((1024 : Int), ((L2 : Int), ((4096 : Int), ((S2 : Int), (l2, ())))))))))))))))))) := by
    intro i p L S L2 S2 l l2 out e hi hp ho he
    have e1 : IntKind.wrap IntKind.i64 ((i : Int) + (1 : Int)) = ((i + 1 : Nat) : Int) := wi _ (by omega)
    refine ev_t (decide_eq_true (by omega)) (ev_g (decide_eq_true (by omega)) (ev_opt (show [(6 : Int), 17][Int.toNat (i : Int)]? = some p by rw [Int.toNat_natCast]; exact hp) ?_))
    refine ev_opt (b := (life, ((1024 : Int), ((L2 : Int), ((4096 : Int), ((S2 : Int), (l2, (out, (e, ())))))))) ) (by rw [ha]; exact ho) ?_
    rcases he with ⟨h1, rfl⟩ | ⟨h1, rfl⟩
    · exact ev_f (by show (!decide ((0 : Int) = 0) == decide ((k : Int) < 64)) = false; rw [decide_eq_true (show (k : Int) < 64 by omega)]; rfl) (ev_f rfl (ev_r (by rw [e1])))
    · exact ev_f (by show (!decide ((6 : Int) = 0) == decide ((k : Int) < 64)) = false; rw [decide_eq_false (show ¬ (k : Int) < 64 by omega)]; rfl) (ev_t rfl (ev_f rfl (ev_r (by rw [e1]))))
  obtain ⟨La, Sa, la, oa, ea, h1, h2, hJa⟩ := room_step (want := want) 6 k (.inl ⟨rfl, rfl⟩) hJ hw hnow
  rw [if_pos rfl, if_neg (by decide)] at hJa
  obtain ⟨Lb, Sb, lb, ob, eb, h3, h4, hJb⟩ := room_step (want := want) 17 k (.inr ⟨rfl, rfl⟩) hJa hw hnow
  rw [if_neg (by decide), if_pos rfl] at hJb
  have s0 := step 0 6 L S La Sa l la oa ea (by omega) rfl h1 h2
  have s1 := step 1 17 La Sa Lb Sb la lb ob eb (by omega) rfl h3 h4
  refine ⟨Lb, Sb, lb, hJb, ?_⟩
  have g : ∀ n : Nat, n = 18446744073709551616 → natRoom_loop4_14 ((0 : Int), ((k : Int), (now, (want, ((R : Int), ((6 : Int), ((17 : Int), (ports, (x8, (x9, ((k : Int), (life, ((1024 : Int), ((L : Int), ((4096 : Int), ((S : Int), (l, ()))))))))))))))))) = loopO 40014 (fun x => (natRoom_step4_14 x).eval) n ((0 : Int), ((k : Int), (now, (want, ((R : Int), ((6 : Int), ((17 : Int), (ports, (x8, (x9, ((k : Int), (life, ((1024 : Int), ((L : Int), ((4096 : Int), ((S : Int), (l, ()))))))))))))))))) := fun n hn => by rw [hn]; rfl
  rw [g (18446744073709551613 + 1 + 1 + 1) rfl]
  refine (loopO_in (f := fun x => (natRoom_step4_14 x).eval) s0).trans ((loopO_in (f := fun x => (natRoom_step4_14 x).eval) s1).trans (loopO_out ?_))
  exact ev_f rfl rfl
theorem room_round {life now : Int} {R L S : Nat} {l : List TMap} (ports : List Int) (hR : R ≤ 1) (hJ : J life now R 0 0 L S l) (hnow : 0 ≤ now ∧ now ≤ 1099511627776) :
    ∃ (L2 S2 : Nat) (l2 : List TMap), J life now R 65 65 L2 S2 l2 ∧
      natRoom_loop4_8 (now, ((R : Int), ((0 : Int), (ports, (life, ((R : Int), (life, ((1024 : Int), ((L : Int), ((4096 : Int), ((S : Int), (l, ())))))))))))) = some (.inr (ports, (life, ((R : Int), (now, (life, ((1024 : Int), ((L2 : Int), ((4096 : Int), ((S2 : Int), (l2, ()))))))))))) := by
  have key : ∃ r, natRoom_loop4_8 (now, ((R : Int), ((0 : Int), (ports, (life, ((R : Int), (life, ((1024 : Int), ((L : Int), ((4096 : Int), ((S : Int), (l, ())))))))))))) = some r ∧ ∃ (L2 S2 : Nat) (l2 : List TMap), J life now R 65 65 L2 S2 l2 ∧ r = .inr (ports, (life, ((R : Int), (now, (life, ((1024 : Int), ((L2 : Int), ((4096 : Int), ((S2 : Int), (l2, ())))))))))) := by
    refine loopO_ex (f := fun x => (natRoom_step4_8 x).eval)
      (fun x => ∃ (k L2 S2 : Nat) (l2 : List TMap), k ≤ 65 ∧ J life now R k k L2 S2 l2 ∧ x = (now, ((R : Int), ((k : Int), (ports, (life, ((R : Int), (life, ((1024 : Int), ((L2 : Int), ((4096 : Int), ((S2 : Int), (l2, ()))))))))))))) _
      (fun x => (65 - x.2.2.1).toNat) ?_ _ _ ⟨0, L, S, l, by omega, hJ, rfl⟩ (by show (65 - (0 : Int)).toNat < _; decide)
    rintro _ ⟨k, L2, S2, l2, hk, hJ2, rfl⟩
    by_cases hk2 : k < 65
    · right
      have e1 : IntKind.wrap IntKind.i64 ((k : Int) + (1 : Int)) = ((k + 1 : Nat) : Int) := wi _ (by omega)
      by_cases hl : (k : Int) < (ports.length : Int)
      · have hl' : k < ports.length := by omega
        have hget : ports[Int.toNat (k : Int)]? = some ports[k] := by rw [Int.toNat_natCast, List.getElem?_eq_getElem hl']
        generalize ports[k] = v at hget
        obtain ⟨want, hwe, hwb⟩ : ∃ want : Int, want = (if false = true then if (if true = true then if (65535 : Int) < v then (65535 : Int) else v else if (65535 : Int) > v then (65535 : Int) else v) < (0 : Int) then if true = true then if (65535 : Int) < v then (65535 : Int) else v else if (65535 : Int) > v then (65535 : Int) else v else (0 : Int) else if (if true = true then if (65535 : Int) < v then (65535 : Int) else v else if (65535 : Int) > v then (65535 : Int) else v) > (0 : Int) then if true = true then if (65535 : Int) < v then (65535 : Int) else v else if (65535 : Int) > v then (65535 : Int) else v else (0 : Int)) ∧ (0 ≤ want ∧ want ≤ 65535) := by
          refine ⟨_, rfl, ?_⟩
          simp only [Bool.false_eq_true, if_false, if_true]
          split <;> split <;> omega
        obtain ⟨L3, S3, l3, hJ3, hlp⟩ := room_two (want := want) life (R : Int) ports hR (by omega) hJ2 hwb hnow
        rw [hwe] at hlp
        refine ⟨(now, ((R : Int), (((k + 1 : Nat) : Int), (ports, (life, ((R : Int), (life, ((1024 : Int), ((L3 : Int), ((4096 : Int), ((S3 : Int), (l3, ())))))))))))), ev_t (decide_eq_true (by omega)) (ev_t (decide_eq_true hl) (ev_g (decide_eq_true (by omega)) (ev_opt hget (ev_opt hlp ?_)))), ⟨k + 1, L3, S3, l3, by omega, hJ3, rfl⟩, by show (65 - ((k + 1 : Nat) : Int)).toNat < (65 - (k : Int)).toNat; omega⟩
        show (Tr.ret _).eval = _
        exact ev_r (by rw [← e1])
      · obtain ⟨L3, S3, l3, hJ3, hlp⟩ := room_two (want := 80) life (R : Int) ports hR (by omega) hJ2 (by omega) hnow
        refine ⟨(now, ((R : Int), (((k + 1 : Nat) : Int), (ports, (life, ((R : Int), (life, ((1024 : Int), ((L3 : Int), ((4096 : Int), ((S3 : Int), (l3, ())))))))))))), ev_t (decide_eq_true (by omega)) (ev_f (decide_eq_false hl) (ev_opt hlp ?_)), ⟨k + 1, L3, S3, l3, by omega, hJ3, rfl⟩, by show (65 - ((k + 1 : Nat) : Int)).toNat < (65 - (k : Int)).toNat; omega⟩
        show (Tr.ret _).eval = _
        exact ev_r (by rw [← e1])
    · left
      have : k = 65 := by omega
      subst this
      exact ⟨_, ev_f rfl rfl, L2, S2, l2, hJ2, rfl⟩
  obtain ⟨_, h1, L2, S2, l2, h2, rfl⟩ := key
  exact ⟨L2, S2, l2, h2, h1⟩
theorem J.next {life now : Int} {R R2 k6 k17 L S : Nat} {l : List TMap} (hJ : J life now R k6 k17 L S l) : J life (now + (life + 1)) R2 0 0 L S l := by
  have hlife := hJ.ok.life
  have old : ∀ m ∈ l, ¬ now + (life + 1) - m.at' ≤ life := fun m hm => by have := hJ.at' m hm; omega
  have hf : l.filter (yg life (now + (life + 1))) = [] := List.filter_eq_nil_iff.2 fun m hm => by
    unfold yg; rw [decide_eq_true_eq]; exact old m hm
  refine ⟨hJ.ok, fun m hm => by have := hJ.at' m hm; omega, ?_, ?_, fun m hm h => absurd h (old m hm), fun m hm h => absurd h (old m hm)⟩
  · unfold cy; rw [hf]; rfl
  · unfold cy; rw [hf]; rfl
theorem natRoom_true {life now : Int} {ports : List Int} (h0 : -9223372036854775808 ≤ life ∧ life ≤ 9223372036854775807) (h1 : -9223372036854775808 ≤ now ∧ now ≤ 9223372036854775807) (h2 : BndD 6 (D.st 0 ports)) :
    (natRoom_tree (life, (now, (ports, ())))).eval = some (true, ()) := by
  refine ev_opt nat_lives (ev_f rfl ?_)
  have lv : ∀ r : Option (Bool × Unit), r = some (true, ()) → (Tr.opt (β := (Bool × Unit)) (natLives_fn ()) (fun r1 => .ret (r1.1, ()))).eval = some (true, ()) := fun _ _ => ev_opt nat_lives rfl
  by_cases hN : NatOk life 1024 0 4096 0 []
  case neg =>
    obtain ⟨e, he, hc⟩ := natCheck_no hN (by decide) (by decide) (by unfold Big; decide)
    exact ev_opt hc (ev_t (by show (!decide (e = 0)) = true; rw [decide_eq_false he]; rfl) (lv _ rfl))
  have hlife := hN.life
  refine ev_opt (natCheck_yes hN (by unfold Big; decide)) (ev_f rfl ?_)
  refine ev_ite (fun _ => lv _ rfl) fun c1 => ev_ite (fun _ => lv _ rfl) fun c2 => ?_
  have c1 := of_decide_eq_false c1
  have c2 := of_decide_eq_false c2
  have hJ0 : J life now 0 0 0 0 0 [] := ⟨hN, (fun m hm => by cases hm), rfl, rfl, (fun m hm => by cases hm), (fun m hm => by cases hm)⟩
  obtain ⟨La, Sa, la, hJa, ha⟩ := room_round ports (by omega) hJ0 ⟨by omega, by omega⟩
  have hJb : J life (now + (life + 1)) 1 0 0 La Sa la := hJa.next
  obtain ⟨Lb, Sb, lb, hJc, hb⟩ := room_round ports (by omega) hJb ⟨by omega, by omega⟩
  have w1 : IntKind.wrap IntKind.i64 (life + (1 : Int)) = life + 1 := wi _ (by omega)
  have w2 : IntKind.wrap IntKind.i64 (now + (life + 1)) = now + (life + 1) := wi _ (by omega)
  have w3 : IntKind.wrap IntKind.i64 (now + (life + 1) + (life + 1)) = now + (life + 1) + (life + 1) := wi _ (by omega)
  have s0 : (natRoom_step4_5 (now, (ports, ((0 : Int), (life, (life, ((1024 : Int), ((0 : Int), ((4096 : Int), ((0 : Int), ([], ()))))))))))).eval = some (.inl (now + (life + 1), (ports, ((1 : Int), (life, (life, ((1024 : Int), ((La : Int), ((4096 : Int), ((Sa : Int), (la, ()))))))))))) := by
    refine ev_t rfl (ev_opt ha ?_)
    show (Tr.ret (Sum.inl (IntKind.wrap IntKind.i64 (now + IntKind.wrap IntKind.i64 (life + (1 : Int))), _))).eval = _
    rw [w1, w2]; rfl
  have s1 : (natRoom_step4_5 (now + (life + 1), (ports, ((1 : Int), (life, (life, ((1024 : Int), ((La : Int), ((4096 : Int), ((Sa : Int), (la, ()))))))))))).eval = some (.inl (now + (life + 1) + (life + 1), (ports, ((2 : Int), (life, (life, ((1024 : Int), ((Lb : Int), ((4096 : Int), ((Sb : Int), (lb, ()))))))))))) := by
    refine ev_t rfl (ev_opt hb ?_)
    show (Tr.ret (Sum.inl (IntKind.wrap IntKind.i64 (now + (life + 1) + IntKind.wrap IntKind.i64 (life + (1 : Int))), _))).eval = _
    rw [w1, w3]; rfl
  have g : ∀ n : Nat, n = 18446744073709551616 → natRoom_loop4_5 (now, (ports, ((0 : Int), (life, (life, ((1024 : Int), ((0 : Int), ((4096 : Int), ((0 : Int), ([], ())))))))))) = loopO 40005 (fun x => (natRoom_step4_5 x).eval) n (now, (ports, ((0 : Int), (life, (life, ((1024 : Int), ((0 : Int), ((4096 : Int), ((0 : Int), ([], ())))))))))) := fun n hn => by rw [hn]; rfl
  have hlp : natRoom_loop4_5 (now, (ports, ((0 : Int), (life, (life, ((1024 : Int), ((0 : Int), ((4096 : Int), ((0 : Int), ([], ())))))))))) = some (.inr (life, ((1024 : Int), ((Lb : Int), ((4096 : Int), ((Sb : Int), (lb, ()))))))) := by
    rw [g (18446744073709551613 + 1 + 1 + 1) rfl]
    refine (loopO_in (f := fun x => (natRoom_step4_5 x).eval) s0).trans ((loopO_in (f := fun x => (natRoom_step4_5 x).eval) s1).trans (loopO_out ?_))
    exact ev_f rfl rfl
  exact ev_opt hlp (ev_opt (natRight_yes hJc.ok) rfl)
end Go.Proofs.YtcdcdmfecglemaaDoor.X
