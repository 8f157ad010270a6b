/- nat: NatRight of the house's own reference, in plain terms. Conditions: none. -/
import Derived.Test.YtcdcdmfecglemaaDoorPNatL
import Derived.Test.YtcdcdmfecglemaaDoorPMap
namespace Go.Proofs.YtcdcdmfecglemaaDoor.X
open Go Go.RowKit Go.Proofs.YtcdcdmfecglemaaDoor.Abs Go.Proofs.YtcdcdmfecglemaaDoor.Bits
set_option linter.unusedVariables false
set_option linter.unusedSimpArgs false

theorem btw (n lo hi : Int) : rBetween_fn (n, (lo, (hi, ()))) = some (decide (lo ≤ n) && decide (n ≤ hi), ()) := by
  show (rBetween_tree _).eval = _
  unfold rBetween_tree
  cases h : decide (lo ≤ n) with
  | true => exact ev_t h rfl
  | false => exact ev_f h rfl
theorem btw_yes {n lo hi : Int} (h : lo ≤ n ∧ n ≤ hi) : rBetween_fn (n, (lo, (hi, ()))) = some (true, ()) := by rw [btw, decide_eq_true h.1, decide_eq_true h.2]; rfl
theorem portsRight_yes {b : Int} (t : Int) (h : baseOk b) : portsRight_fn (b, (t, ())) = some ((0 : Int), ()) := by
  have e : Int.tmod b 64 = b % 64 := Int.tmod_eq_emod_of_nonneg (by have := h.1; omega)
  exact ev_opt (btw_yes ⟨h.1, h.2.1⟩) (ev_f rfl (ev_g rfl (ev_f (by rw [e, decide_eq_true h.2.2]; rfl) rfl)))
/-! ### Ports that are let, and that are free -/
def ks (p : Nat → Bool) (b : Int) (n : Nat) : List Int := ((List.range n).filter p).map fun k : Nat => b + (k : Int)
theorem ks_succ (p : Nat → Bool) (b : Int) (n : Nat) : ks p b (n + 1) = if p n = true then ks p b n ++ [b + (n : Int)] else ks p b n := by
  unfold ks
  rw [List.range_succ, List.filter_append, List.map_append]
  by_cases h : p n = true
  · rw [if_pos h, List.filter_cons_of_pos h]; rfl
  · rw [if_neg h, List.filter_cons_of_neg h]; simp
theorem ks_len (p : Nat → Bool) (b : Int) (n : Nat) : (ks p b n).length ≤ n := by
  unfold ks
  rw [List.length_map]
  exact Nat.le_trans (List.length_filter_le _ _) (by simp)
theorem ks_mem (p : Nat → Bool) (b : Int) (n : Nat) (o : Int) : o ∈ ks p b n ↔ ∃ k : Nat, k < n ∧ p k = true ∧ o = b + (k : Int) := by
  unfold ks
  simp only [List.mem_map, List.mem_filter, List.mem_range]
  constructor
  · rintro ⟨k, ⟨h1, h2⟩, h3⟩; exact ⟨k, h1, h2, h3.symm⟩
  · rintro ⟨k, h1, h2, h3⟩; exact ⟨k, ⟨h1, h2⟩, h3.symm⟩
theorem ks_nodup (p : Nat → Bool) (b : Int) (n : Nat) : (ks p b n).Nodup := by
  unfold ks
  exact List.pairwise_map.2 (((List.nodup_range (n := n)).filter _).imp fun h e => h (by omega))
theorem grd8 (Y : List Int) (m : Int) (h : Y.length ≤ 64) : decide ((List.length Y + List.length [m]) * (8 : Nat) ≤ (140737488355328 : Nat) ∧ List.length Y + List.length [m] ≤ (9223372036854775807 : Nat)) = true := by
  apply decide_eq_true
  simp only [List.length_singleton]
  omega
theorem free_fn (b : Int) (t : Nat) (hb : baseOk b) (ht : t < 2 ^ 64) : freePorts_fn (b, ((t : Int), ())) = some (ks (fun k => !t.testBit k) b 64, ()) := by
  have hb1 := hb.1
  have hb2 := hb.2.1
  have key : ∃ r, freePorts_loop30_4 ((0 : Int), ((t : Int), (b, ((t : Int), ([], ()))))) = some r ∧ r = (ks (fun k => !t.testBit k) b 64, ()) := by
    refine loopO_ex (f := fun x => (freePorts_step30_4 x).eval)
      (fun x => ∃ i : Nat, i ≤ 64 ∧ x = ((i : Int), (((t / 2 ^ i : Nat) : Int), (b, ((t : Int), (ks (fun k => !t.testBit k) b i, ())))))) _
      (fun x => (64 - x.1).toNat) ?_ _ _ ⟨0, by omega, by simp [ks]⟩ (by show (64 - (0 : Int)).toNat < _; decide)
    rintro _ ⟨i, hi, rfl⟩
    by_cases hi2 : i < 64
    · right
      have e1 : IntKind.wrap IntKind.i64 ((i : Int) + (1 : Int)) = ((i + 1 : Nat) : Int) := wi _ (by omega)
      have e2 : IntKind.wrap IntKind.i64 (b + (i : Int)) = b + (i : Int) := wi _ (by omega)
      have e3 : Int.tmod ((t / 2 ^ i : Nat) : Int) 2 = ((t / 2 ^ i % 2 : Nat) : Int) := by rw [Int.tmod_eq_emod_of_nonneg (Int.natCast_nonneg _)]; norm_cast
      have e4 : IntKind.wrap IntKind.u64 (Int.tdiv ((t / 2 ^ i : Nat) : Int) 2) = ((t / 2 ^ (i + 1) : Nat) : Int) := by
        rw [Int.tdiv_eq_ediv_of_nonneg (Int.natCast_nonneg _), show (((t / 2 ^ i : Nat) : Int) / 2) = ((t / 2 ^ i / 2 : Nat) : Int) by norm_cast, Nat.div_div_eq_div_mul, ← Nat.pow_succ]
        exact w64 _ (Nat.lt_of_le_of_lt (Nat.div_le_self _ _) ht)
      have hlen := ks_len (fun k => !t.testBit k) b i
      have hs := ks_succ (fun k => !t.testBit k) b i
      have hbit : t.testBit i = decide (t / 2 ^ i % 2 = 1) := Nat.testBit_eq_decide_div_mod_eq
      have g0 : decide ((i : Int) < 64) = true := decide_eq_true (by omega)
      by_cases h0 : t / 2 ^ i % 2 = 0
      · have hf : (!t.testBit i) = true := by rw [hbit, decide_eq_false (by omega)]; rfl
        rw [if_pos hf] at hs
        refine ⟨(((i + 1 : Nat) : Int), (((t / 2 ^ (i + 1) : Nat) : Int), (b, ((t : Int), (ks (fun k => !t.testBit k) b (i + 1), ()))))), ?_, ⟨i + 1, by omega, rfl⟩, by show (64 - ((i + 1 : Nat) : Int)).toNat < (64 - (i : Int)).toNat; omega⟩
        refine ev_t g0 (ev_g rfl (ev_t (by rw [e3, h0]; rfl) (ev_g (grd8 _ _ (by omega)) (ev_g rfl (ev_g (decide_eq_true rfl) (ev_r ?_))))))
        rw [e1, e2, e4, hs]
      · have hf : ¬ (!t.testBit i) = true := by rw [hbit, decide_eq_true (by omega)]; simp
        rw [if_neg hf] at hs
        refine ⟨(((i + 1 : Nat) : Int), (((t / 2 ^ (i + 1) : Nat) : Int), (b, ((t : Int), (ks (fun k => !t.testBit k) b (i + 1), ()))))), ?_, ⟨i + 1, by omega, rfl⟩, by show (64 - ((i + 1 : Nat) : Int)).toNat < (64 - (i : Int)).toNat; omega⟩
        refine ev_t g0 (ev_g rfl (ev_f (by rw [e3]; exact decide_eq_false (by omega)) (ev_g rfl (ev_g (decide_eq_true rfl) (ev_r ?_)))))
        rw [e1, e4, hs]
    · left
      have : i = 64 := by omega
      subst this
      exact ⟨_, ev_f rfl (ev_g (decide_eq_true rfl) rfl), rfl⟩
  obtain ⟨r, h1, rfl⟩ := key
  exact ev_g rfl (ev_opt h1 rfl)
theorem index_fn (l : List Int) (v : Int) (hl : l.length < Big) : indexInt_fn (l, (v, ())) = some ((match hit (fun x => decide (v = x)) l with | some r => (r.1 : Int) | none => -1), ()) := by
  unfold Big at hl
  have lp := loop_hit (tag := 310002) (f := fun x => (indexInt_step31_2 x).eval) (l := l) (fun i => ((i : Int), (l, (v, ((l.length : Int), ())))))
      (fun x => decide (v = x)) (fun r => match r with | some r => Sum.inl ((r.1 : Int), ()) | none => Sum.inr ())
      (fun i x hx => by
        have hi := (List.getElem?_eq_some_iff.1 hx).1
        have e1 : IntKind.wrap IntKind.i64 ((i : Int) + (1 : Int)) = ((i + 1 : Nat) : Int) := wi _ (by omega)
        show (indexInt_step31_2 _).eval = _
        refine ev_t (by simp; omega) (ev_g (by simp) (ev_opt (show l[Int.toNat (i : Int)]? = some x by simpa using hx) ?_))
        cases h1 : decide (v = x) with
        | false => exact ev_f rfl (ev_r (by rw [e1]))
        | true => exact ev_t rfl (ev_r rfl))
      (by show (indexInt_step31_2 _).eval = _; exact ev_f (by simp) (ev_r rfl)) 18446744073709551616 (by omega)
  refine ev_opt (show indexInt_loop31_2 ((0 : Int), (l, (v, ((l.length : Int), ())))) = _ from lp) ?_
  cases hit (fun x => decide (v = x)) l <;> rfl
theorem contains_fn (l : List Int) (v : Int) (hl : l.length < Big) : containsInt_fn (l, (v, ())) = some (decide (v ∈ l), ()) := by
  refine ev_opt (index_fn l v hl) (ev_r ?_)
  cases h : hit (fun x => decide (v = x)) l with
  | none =>
    have hn := hit_none.1 h
    rw [decide_eq_false (show ¬ v ∈ l from fun hm => by have := hn v hm; simp at this)]
    rfl
  | some z =>
    obtain ⟨i, x⟩ := z
    obtain ⟨h1, h2⟩ := hit_at h
    have hx : v = x := of_decide_eq_true h2
    rw [decide_eq_true (show v ∈ l by rw [hx]; exact List.mem_of_getElem? h1)]
    show (decide ((0 : Int) ≤ (i : Int)), ()) = _
    rw [decide_eq_true (by omega)]
theorem taken_fn (b : Int) (t : Nat) (hb : baseOk b) (ht : t < 2 ^ 64) : natTaken_fn (b, ((t : Int), ())) = some (ks (fun k => t.testBit k) b 64, ()) := by
  have hb1 := hb.1
  have hb2 := hb.2.1
  have key : ∃ r, natTaken_loop23_3 ((0 : Int), (b, ((t : Int), ([], ())))) = some r ∧ r = (ks (fun k => t.testBit k) b 64, ()) := by
    refine loopO_ex (f := fun x => (natTaken_step23_3 x).eval)
      (fun x => ∃ i : Nat, i ≤ 64 ∧ x = ((i : Int), (b, ((t : Int), (ks (fun k => t.testBit k) b i, ()))))) _
      (fun x => (64 - x.1).toNat) ?_ _ _ ⟨0, by omega, by simp [ks]⟩ (by show (64 - (0 : Int)).toNat < _; decide)
    rintro _ ⟨i, hi, rfl⟩
    by_cases hi2 : i < 64
    · right
      have e1 : IntKind.wrap IntKind.i64 ((i : Int) + (1 : Int)) = ((i + 1 : Nat) : Int) := wi _ (by omega)
      have e2 : IntKind.wrap IntKind.i64 (b + (i : Int)) = b + (i : Int) := wi _ (by omega)
      have hlen := ks_len (fun k => t.testBit k) b i
      have hs := ks_succ (fun k => t.testBit k) b i
      have hc := contains_fn (ks (fun k => !t.testBit k) b 64) (b + (i : Int)) (by have := ks_len (fun k => !t.testBit k) b 64; unfold Big; omega)
      have hd : decide (b + (i : Int) ∈ ks (fun k => !t.testBit k) b 64) = !t.testBit i := by
        rw [Bool.eq_iff_iff, decide_eq_true_eq, ks_mem]
        constructor
        · rintro ⟨k, k1, k2, k3⟩
          have : k = i := by omega
          subst this; exact k2
        · intro h; exact ⟨i, hi2, h, rfl⟩
      rw [hd] at hc
      have g0 : decide ((i : Int) < 64) = true := decide_eq_true (by omega)
      cases hbit : t.testBit i with
      | true =>
        rw [if_pos hbit] at hs
        rw [hbit] at hc
        refine ⟨(((i + 1 : Nat) : Int), (b, ((t : Int), (ks (fun k => t.testBit k) b (i + 1), ())))), ?_, ⟨i + 1, by omega, rfl⟩, by show (64 - ((i + 1 : Nat) : Int)).toNat < (64 - (i : Int)).toNat; omega⟩
        refine ev_t g0 (ev_opt (free_fn b t hb ht) (ev_opt (b := (false, ())) (by show containsInt_fn (_, (IntKind.wrap IntKind.i64 (b + (i : Int)), ())) = _; rw [e2]; exact hc) (ev_t rfl (ev_g (grd8 _ _ (by omega)) (ev_g (decide_eq_true rfl) (ev_r ?_))))))
        rw [e1, e2, hs]
      | false =>
        rw [if_neg (by rw [hbit]; simp)] at hs
        rw [hbit] at hc
        refine ⟨(((i + 1 : Nat) : Int), (b, ((t : Int), (ks (fun k => t.testBit k) b (i + 1), ())))), ?_, ⟨i + 1, by omega, rfl⟩, by show (64 - ((i + 1 : Nat) : Int)).toNat < (64 - (i : Int)).toNat; omega⟩
        refine ev_t g0 (ev_opt (free_fn b t hb ht) (ev_opt (b := (true, ())) (by show containsInt_fn (_, (IntKind.wrap IntKind.i64 (b + (i : Int)), ())) = _; rw [e2]; exact hc) (ev_f rfl (ev_g (decide_eq_true rfl) (ev_r ?_)))))
        rw [e1, hs]
    · left
      have : i = 64 := by omega
      subst this
      exact ⟨_, ev_f rfl (ev_g (decide_eq_true rfl) rfl), rfl⟩
  obtain ⟨r, h1, rfl⟩ := key
  exact ev_g rfl (ev_opt h1 rfl)
theorem cov_len {b : Int} {t : Nat} {os : List Int} (hc : Cov b t os) : os.length = (ks (fun k => t.testBit k) b 64).length := by
  refine List.Perm.length_eq ((List.perm_ext_iff_of_nodup hc.1 (ks_nodup _ _ _)).2 fun o => ?_)
  rw [hc.2 o, ks_mem]
/-! ### The map of ports -/
def ent (l : List TMap) : List (TMap × Int) := l.map fun m => (⟨m.proto, 0, 0, m.out, 0⟩, 1)
theorem key17 (a b : τ 17) : keyEq 17 a b = true ↔ a = b := by
  show decide (keyL 17 a = keyL 17 b) = true ↔ a = b
  rw [decide_eq_true_eq]
  obtain ⟨a1, a2, a3, a4, a5⟩ := a
  obtain ⟨b1, b2, b3, b4, b5⟩ := b
  constructor
  · intro h
    simp only [keyL, List.cons.injEq, and_true] at h
    obtain ⟨rfl, rfl, rfl, rfl, rfl⟩ := h
    rfl
  · intro h; rw [h]
theorem put_new (k : TMap) (v : Int) : ∀ es : List (TMap × Int), (∀ e ∈ es, e.1 ≠ k) → mPut 17 k v es = (es ++ [(k, v)] : List (TMap × Int))
  | [], _ => rfl
  | e :: r, h => by
    have h1 : ¬ keyEq 17 k e.1 = true := fun hq => h e List.mem_cons_self ((key17 _ _).1 hq).symm
    have := mPut_cons 17 k v e r
    rw [if_neg h1, put_new k v r fun x hx => h x (List.mem_cons_of_mem _ hx)] at this
    exact this
theorem get_one (k : TMap) : ∀ es : List (TMap × Int), (∀ e ∈ es, e.2 = 1) → (∃ e ∈ es, e.1 = k) → mGet 17 k es = some 1
  | [], _, h => by obtain ⟨_, h, _⟩ := h; cases h
  | e :: r, h1, h2 => by
    have := mGet_cons 17 k e r
    by_cases hq : keyEq 17 k e.1 = true
    · rw [if_pos hq, h1 e List.mem_cons_self] at this
      exact this
    · rw [if_neg hq] at this
      refine this.trans (get_one k r (fun x hx => h1 x (List.mem_cons_of_mem _ hx)) ?_)
      obtain ⟨x, hx, hk⟩ := h2
      rcases List.mem_cons.1 hx with rfl | hx
      · exact absurd ((key17 _ _).2 hk.symm) hq
      · exact ⟨x, hx, hk⟩
theorem ent_one {l : List TMap} : ∀ e ∈ ent l, e.2 = 1 := by
  intro e he
  obtain ⟨m, _, rfl⟩ := List.mem_map.1 he
  rfl
theorem ent_get {l : List TMap} {m : TMap} (hm : m ∈ l) : mGet 17 (⟨m.proto, 0, 0, m.out, 0⟩ : TMap) (ent l) = some 1 :=
  get_one _ _ ent_one ⟨_, List.mem_map.2 ⟨m, hm, rfl⟩, rfl⟩
theorem outs_mem {p o : Int} {l : List TMap} : o ∈ outs p l ↔ ∃ m ∈ l, m.proto = p ∧ m.out = o := by
  unfold outs
  simp only [List.mem_map, List.mem_filter, decide_eq_true_eq]
  constructor
  · rintro ⟨m, ⟨h1, h2⟩, h3⟩; exact ⟨m, h1, h2, h3⟩
  · rintro ⟨m, h1, h2, h3⟩; exact ⟨m, ⟨h1, h2⟩, h3⟩
/-- Outs of one protocol are apart. -/
theorem NatOk.apart {life lb : Int} {L : Nat} {sb : Int} {S : Nat} {l : List TMap} (hN : NatOk life lb L sb S l) : l.Pairwise (fun x y => ¬ (x.proto = y.proto ∧ x.out = y.out)) := by
  have one : ∀ (p : Int) (l : List TMap), (outs p l).Nodup → l.Pairwise (fun x y => x.proto = p → ¬ (x.proto = y.proto ∧ x.out = y.out)) := by
    intro p l
    induction l with
    | nil => intro _; exact List.Pairwise.nil
    | cons m r ih =>
      intro h
      rw [outs_cons] at h
      by_cases hp : m.proto = p
      · rw [if_pos hp] at h
        obtain ⟨h1, h2⟩ := List.nodup_cons.1 h
        refine List.pairwise_cons.2 ⟨fun y hy _ hs => h1 ?_, ih h2⟩
        exact outs_mem.2 ⟨y, hy, hs.1.symm.trans hp, hs.2.symm⟩
      · rw [if_neg hp] at h
        exact List.pairwise_cons.2 ⟨fun y hy hq => absurd hq hp, ih h⟩
  have h17 := one 17 l hN.covL.1
  have h6 := one 6 l hN.covS.1
  have hok := hN.ok
  clear hN
  induction l with
  | nil => exact List.Pairwise.nil
  | cons m r ih =>
    obtain ⟨a1, a2⟩ := List.pairwise_cons.1 h17
    obtain ⟨b1, b2⟩ := List.pairwise_cons.1 h6
    refine List.pairwise_cons.2 ⟨fun y hy => ?_, ih a2 b2 fun x hx => hok x (List.mem_cons_of_mem _ hx)⟩
    rcases (hok m List.mem_cons_self).1 with h | h
    · exact a1 y hy h
    · exact b1 y hy h
theorem nr_inner (a1 : List TMap) (a2 : List TMap) (a3 : Int) (a4 : Int) (a6 : Int) (a7 : Int) (a8 : Int) (a9 : Int) (a10 : Int) (a11 : List (TMap × Int)) (a12 : Int) (a13 : Int) (a14 : Int) (a15 : Int) (a16 : Int) (a17 : List TMap) (hl : a1.length < Big) (h : ∀ x ∈ a1, x.at' ≤ a10 ∧ ¬ (x.proto = a6 ∧ x.out = a9) ∧ ¬ (x.proto = a6 ∧ x.addr = a7 ∧ x.port = a8)) :
    natRight_loop10_10 ((0 : Int), (a1, (a2, (a3, (a4, ((a1.length : Int), (a6, (a7, (a8, (a9, (a10, (a11, (a12, (a13, (a14, (a15, (a16, (a17, ())))))))))))))))))) = some (.inr (a2, (a3, (a4, (a11, (a12, (a13, (a14, (a15, (a16, (a17, (a6, (a7, (a8, (a9, (a10, ())))))))))))))))) := by
  unfold Big at hl
  have lp := loop_hit (tag := 100010) (f := fun x => (natRight_step10_10 x).eval) (l := a1) (fun i => ((i : Int), (a1, (a2, (a3, (a4, ((a1.length : Int), (a6, (a7, (a8, (a9, (a10, (a11, (a12, (a13, (a14, (a15, (a16, (a17, ()))))))))))))))))))) (fun _ => false) (fun _ => .inr (a2, (a3, (a4, (a11, (a12, (a13, (a14, (a15, (a16, (a17, (a6, (a7, (a8, (a9, (a10, ()))))))))))))))))
      (fun i x hx => by
        have hi := (List.getElem?_eq_some_iff.1 hx).1
        obtain ⟨q1, q2, q3⟩ := h x (List.mem_of_getElem? hx)
        have e1 : IntKind.wrap IntKind.i64 ((i : Int) + (1 : Int)) = ((i + 1 : Nat) : Int) := wi _ (by omega)
        refine ev_t (decide_eq_true (by omega)) (ev_g (decide_eq_true (by omega)) (ev_opt (show a1[Int.toNat (i : Int)]? = some x by simpa using hx) (ev_f (decide_eq_false (by omega)) ?_)))
        refine ev_ite (fun c1 => ev_f (decide_eq_false fun c2 => q2 ⟨of_decide_eq_true c1, c2⟩) (ev_ite (fun c3 => ev_f (decide_eq_false fun c4 => q3 ⟨of_decide_eq_true c1, of_decide_eq_true c3, c4⟩) ?_) (fun _ => ?_))) (fun _ => ?_)
        · exact ev_r (by rw [e1])
        · exact ev_r (by rw [e1])
        · exact ev_r (by rw [e1]))
      (ev_f (decide_eq_false (by omega)) (ev_r rfl)) 18446744073709551616 (by omega)
  exact lp
theorem nr_outer {life lb : Int} {L : Nat} {sb : Int} {S : Nat} {l : List TMap} (hN : NatOk life lb L sb S l) (hl : l.length < Big) :
    natRight_loop10_5 ((0 : Int), (l, ((l.length : Int), ([], (life, (lb, ((L : Int), (sb, ((S : Int), (l, ())))))))))) = some (.inr (ent l, (life, (lb, ((L : Int), (sb, ((S : Int), (l, ())))))))) := by
  have hl0 := hl
  unfold Big at hl
  have hap := hN.apart
  have lf := loop_fold (tag := 100005) (f := fun x => (natRight_step10_5 x).eval) (l := l) (S := List (TMap × Int)) (fun i s => ((i : Int), (l, ((l.length : Int), (s, (life, (lb, ((L : Int), (sb, ((S : Int), (l, ()))))))))))) (fun i s => s = ent (l.take i)) (fun s m => s ++ [(⟨m.proto, 0, 0, m.out, 0⟩, 1)]) (fun s => .inr (s, (life, (lb, ((L : Int), (sb, ((S : Int), (l, ()))))))))
      (fun i m s hx hs => by
        have hi := (List.getElem?_eq_some_iff.1 hx).1
        have hmem := List.mem_of_getElem? hx
        have hok := hN.ok m hmem
        have e1 : IntKind.wrap IntKind.i64 ((i : Int) + (1 : Int)) = ((i + 1 : Nat) : Int) := wi _ (by omega)
        have hsp : l = l.take i ++ m :: l.drop (i + 1) := by
          have : l[i] = m := by rw [List.getElem?_eq_getElem hi] at hx; exact Option.some.inj hx
          conv => lhs; rw [← List.take_append_drop i l, drop_cons l i hi, this]
        have hso := hN.sorted
        have hk := hN.keys
        have ha := hap
        rw [hsp] at hso hk ha
        have pso := (List.pairwise_append.1 hso).2.2
        have pk := (List.pairwise_append.1 hk).2.2
        have pa := (List.pairwise_append.1 ha).2.2
        have htl : List.drop (0 : Nat) (List.take (Int.toNat (i : Int)) l) = l.take i := by rw [Int.toNat_natCast, List.drop_zero]
        have inner := nr_inner (l.take i) l (l.length : Int) (i : Int) m.proto m.addr m.port m.out m.at' s life lb (L : Int) sb (S : Int) l (by unfold Big; simp; omega) (fun x hx => ⟨pso x hx m List.mem_cons_self, pa x hx m List.mem_cons_self, pk x hx m List.mem_cons_self⟩)
        have hnew : mPut 17 (⟨m.proto, 0, 0, m.out, 0⟩ : TMap) 1 s = (s ++ [(⟨m.proto, 0, 0, m.out, 0⟩, 1)] : List (TMap × Int)) := by
          refine put_new _ _ _ fun e he hek => ?_
          rw [hs] at he
          obtain ⟨y, hy, rfl⟩ := List.mem_map.1 he
          injection hek with g1 _ _ g4 _
          exact pa y hy m List.mem_cons_self ⟨g1, g4⟩
        refine ⟨?_, by rw [hs]; unfold ent; rw [(List.take_append_getElem hi).symm, List.map_append]; rw [show l[i] = m by rw [List.getElem?_eq_getElem hi] at hx; exact Option.some.inj hx]; rfl⟩
        have fin : (Tr.opt (β := (Bool × Unit)) ((rBetween_fn (m.port, ((0 : Int), ((65535 : Int), ()))))) (fun r1 =>
           .ite (!r1.1) (
            .ret (Sum.inr (Sum.inl ((4 : Int), ())))) (
            .opt (β := (Bool × Unit)) ((rBetween_fn (m.at', ((0 : Int), ((1099511627776 : Int), ()))))) (fun r2 =>
            .ite (!r2.1) (
             .ret (Sum.inr (Sum.inl ((4 : Int), ())))) (
             .grd (decide ((0 : Int) ≤ (0 : Int) ∧ (0 : Int) ≤ (i : Int) ∧ (i : Int) ≤ (↑(List.length l) : Int))) (
             .opt (β := ((Int × Unit) ⊕ ((List TMap) × (Int × (Int × ((List (TMap × Int)) × (Int × (Int × (Int × (Int × (Int × ((List TMap) × (Int × (Int × (Int × (Int × (Int × Unit))))))))))))))))) ((natRight_loop10_10 ((0 : Int), (List.drop (0 : Nat) (List.take (Int.toNat (i : Int)) l), (l, ((l.length : Int), ((i : Int), ((↑(List.length (List.drop (0 : Nat) (List.take (Int.toNat (i : Int)) l))) : Int), (m.proto, (m.addr, (m.port, (m.out, (m.at', (s, (life, (lb, ((L : Int), (sb, ((S : Int), (l, ())))))))))))))))))))) (fun r3 =>
             .sum (β := (Int × Unit)) (γ := ((List TMap) × (Int × (Int × ((List (TMap × Int)) × (Int × (Int × (Int × (Int × (Int × ((List TMap) × (Int × (Int × (Int × (Int × (Int × Unit)))))))))))))))) (r3) (fun r4 =>
              .ret (Sum.inr (Sum.inl (r4.1, ())))) (fun r4 =>
              .ret ((Sum.inl (IntKind.wrap IntKind.i64 (r4.2.2.1 + (1 : Int)), (r4.1, (r4.2.1, (mPut (17 : Nat) (TMap.mk r4.2.2.2.2.2.2.2.2.2.2.1 (0 : Int) (0 : Int) r4.2.2.2.2.2.2.2.2.2.2.2.2.2.1 (0 : Int)) (1 : Int) r4.2.2.2.1, (r4.2.2.2.2.1, (r4.2.2.2.2.2.1, (r4.2.2.2.2.2.2.1, (r4.2.2.2.2.2.2.2.1, (r4.2.2.2.2.2.2.2.2.1, (r4.2.2.2.2.2.2.2.2.2.1, ()))))))))))) : (Int × ((List TMap) × (Int × ((List (TMap × Int)) × (Int × (Int × (Int × (Int × (Int × ((List TMap) × Unit)))))))))) ⊕ ((Int × Unit) ⊕ ((List (TMap × Int)) × (Int × (Int × (Int × (Int × (Int × ((List TMap) × Unit))))))))))))))))).eval = some (.inl (((i + 1 : Nat) : Int), (l, ((l.length : Int), (s ++ [(⟨m.proto, 0, 0, m.out, 0⟩, 1)], (life, (lb, ((L : Int), (sb, ((S : Int), (l, ()))))))))))) := by
          rw [htl]
          refine ev_opt (btw_yes ⟨hok.2.1, hok.2.2.1⟩) (ev_f rfl (ev_opt (btw_yes ⟨hok.2.2.2.1, hok.2.2.2.2⟩) (ev_f rfl (ev_g (decide_eq_true (by omega)) (ev_opt inner ?_)))))
          show (Tr.ret _).eval = _
          refine ev_r ?_
          rw [← hnew, ← e1]
        refine ev_t (decide_eq_true (by omega)) (ev_g (decide_eq_true (by omega)) (ev_opt (show l[Int.toNat (i : Int)]? = some m by simpa using hx) ?_))
        rcases hok.1 with p | p
        · exact ev_f (by rw [decide_eq_true p]; rfl) fin
        · exact ev_t (by rw [decide_eq_false (by omega)]; rfl) (ev_f (by rw [decide_eq_true p]; rfl) fin))
      (fun s hs => ev_f (decide_eq_false (by omega)) (ev_r rfl)) 18446744073709551616 [] rfl (by omega)
  obtain ⟨h1, h2⟩ := lf
  rw [h2, List.take_length] at h1
  exact h1
theorem nr_21 (q q2 : List Int) (es : List (TMap × Int)) (hl : q.length < Big) (h : ∀ o ∈ q, mGet 17 (⟨17, 0, 0, o, 0⟩ : TMap) es = some 1) :
    natRight_loop10_21 ((0 : Int), (q, (q2, ((q.length : Int), (es, ()))))) = some (.inr (q2, (es, ()))) := by
  unfold Big at hl
  have lp := loop_hit (tag := 100021) (f := fun x => (natRight_step10_21 x).eval) (l := q) (fun i => ((i : Int), (q, (q2, ((q.length : Int), (es, ())))))) (fun _ => false) (fun _ => .inr (q2, (es, ())))
      (fun i x hx => by
        have hi := (List.getElem?_eq_some_iff.1 hx).1
        have e1 : IntKind.wrap IntKind.i64 ((i : Int) + (1 : Int)) = ((i + 1 : Nat) : Int) := wi _ (by omega)
        have hg := h x (List.mem_of_getElem? hx)
        refine ev_t (decide_eq_true (by omega)) (ev_g (decide_eq_true (by omega)) (ev_opt (show q[Int.toNat (i : Int)]? = some x by simpa using hx) (ev_f ?_ (ev_r (by rw [e1])))))
        show (!decide (Option.getD (mGet (17 : Nat) (TMap.mk (17 : Int) (0 : Int) (0 : Int) x (0 : Int)) es) (0 : Int) = (1 : Int))) = false
        rw [show mGet (17 : Nat) (TMap.mk (17 : Int) (0 : Int) (0 : Int) x (0 : Int)) es = some 1 from hg]
        rfl)
      (ev_f (decide_eq_false (by omega)) (ev_r rfl)) 18446744073709551616 (by omega)
  exact lp
theorem nr_27 (q : List Int) (es : List (TMap × Int)) (hl : q.length < Big) (h : ∀ o ∈ q, mGet 17 (⟨6, 0, 0, o, 0⟩ : TMap) es = some 1) :
    natRight_loop10_27 ((0 : Int), (q, ((q.length : Int), (es, ())))) = some (.inr ()) := by
  unfold Big at hl
  have lp := loop_hit (tag := 100027) (f := fun x => (natRight_step10_27 x).eval) (l := q) (fun i => ((i : Int), (q, ((q.length : Int), (es, ()))))) (fun _ => false) (fun _ => .inr ())
      (fun i x hx => by
        have hi := (List.getElem?_eq_some_iff.1 hx).1
        have e1 : IntKind.wrap IntKind.i64 ((i : Int) + (1 : Int)) = ((i + 1 : Nat) : Int) := wi _ (by omega)
        have hg := h x (List.mem_of_getElem? hx)
        refine ev_t (decide_eq_true (by omega)) (ev_g (decide_eq_true (by omega)) (ev_opt (show q[Int.toNat (i : Int)]? = some x by simpa using hx) (ev_f ?_ (ev_r (by rw [e1])))))
        show (!decide (Option.getD (mGet (17 : Nat) (TMap.mk (6 : Int) (0 : Int) (0 : Int) x (0 : Int)) es) (0 : Int) = (1 : Int))) = false
        rw [show mGet (17 : Nat) (TMap.mk (6 : Int) (0 : Int) (0 : Int) x (0 : Int)) es = some 1 from hg]
        rfl)
      (ev_f (decide_eq_false (by omega)) (ev_r rfl)) 18446744073709551616 (by omega)
  exact lp
theorem outs_len {l : List TMap} (h : ∀ m ∈ l, okm m) : l.length = (outs 17 l).length + (outs 6 l).length := by
  induction l with
  | nil => rfl
  | cons m r ih =>
    have := ih fun x hx => h x (List.mem_cons_of_mem _ hx)
    rw [outs_cons, outs_cons]
    rcases (h m List.mem_cons_self).1 with p | p
    · rw [if_pos p, if_neg (by omega)]; simp; omega
    · rw [if_neg (by omega), if_pos p]; simp; omega
theorem natRight_yes {life lb : Int} {L : Nat} {sb : Int} {S : Nat} {l : List TMap} (hN : NatOk life lb L sb S l) : natRight_fn (life, (lb, ((L : Int), (sb, ((S : Int), (l, ())))))) = some ((0 : Int), ()) := by
  have c1 := cov_len hN.covL
  have c2 := cov_len hN.covS
  have b1 := ks_len (fun k => L.testBit k) lb 64
  have b2 := ks_len (fun k => S.testBit k) sb 64
  have hlen := outs_len hN.ok
  have hl : l.length < Big := by unfold Big; omega
  have hent : (ent l).length = l.length := by simp [ent]
  refine ev_opt (btw_yes hN.life) (ev_f rfl (ev_opt (portsRight_yes _ hN.bl) (ev_f rfl (ev_opt (portsRight_yes _ hN.bs) (ev_f rfl (ev_opt (nr_outer hN hl) ?_))))))
  refine ev_opt (taken_fn lb L hN.bl hN.ltL) (ev_opt (taken_fn sb S hN.bs hN.ltS) ?_)
  have ew : IntKind.wrap IntKind.i64 (((ks (fun k => L.testBit k) lb 64).length : Int) + ((ks (fun k => S.testBit k) sb 64).length : Int)) = ((ks (fun k => L.testBit k) lb 64).length : Int) + ((ks (fun k => S.testBit k) sb 64).length : Int) := wi _ (by omega)
  refine ev_f ?_ (ev_f ?_ ?_)
  · show (!decide (((ent l).length : Int) = IntKind.wrap IntKind.i64 (((ks (fun k => L.testBit k) lb 64).length : Int) + ((ks (fun k => S.testBit k) sb 64).length : Int)))) = false
    rw [ew, decide_eq_true (by rw [hent]; omega)]; rfl
  · show (!decide ((l.length : Int) = ((ent l).length : Int))) = false
    rw [hent, decide_eq_true rfl]; rfl
  · have g1 : ∀ o ∈ ks (fun k => L.testBit k) lb 64, mGet 17 (⟨17, 0, 0, o, 0⟩ : TMap) (ent l) = some 1 := fun o ho => by
      have := (hN.covL.2 o).2 ((ks_mem _ _ _ _).1 ho)
      obtain ⟨m, hm, hp, ho⟩ := outs_mem.1 this
      have := ent_get hm
      rw [hp, ho] at this; exact this
    have g2 : ∀ o ∈ ks (fun k => S.testBit k) sb 64, mGet 17 (⟨6, 0, 0, o, 0⟩ : TMap) (ent l) = some 1 := fun o ho => by
      have := (hN.covS.2 o).2 ((ks_mem _ _ _ _).1 ho)
      obtain ⟨m, hm, hp, ho⟩ := outs_mem.1 this
      have := ent_get hm
      rw [hp, ho] at this; exact this
    exact ev_opt (nr_21 (ks (fun k => L.testBit k) lb 64) (ks (fun k => S.testBit k) sb 64) (ent l) (by unfold Big; omega) g1) (ev_opt (nr_27 (ks (fun k => S.testBit k) sb 64) (ent l) (by unfold Big; omega) g2) rfl)
end Go.Proofs.YtcdcdmfecglemaaDoor.X
