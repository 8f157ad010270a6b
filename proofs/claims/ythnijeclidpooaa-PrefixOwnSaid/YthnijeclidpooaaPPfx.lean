/- prefix: what is read is what was laid; the law PrefixAny. Conditions: none. -/
import Derived.Test.YthnijeclidpooaaGPfx
import Derived.Test.YthnijeclidpooaaPList
import Derived.Test.YthnijeclidpooaaAbsQ
import Derived.KernelRfl
namespace Go.Proofs.Ythnijeclidpooaa.X
open Go Go.RowKit Go.Proofs.Ythnijeclidpooaa.Abs Go.Proofs.Ythnijeclidpooaa.Bits
set_option linter.unusedVariables false
set_option linter.unnecessarySimpa false
set_option linter.unusedSimpArgs false
set_option maxRecDepth 100000
theorem eqNode_self (l : List TNode) (hlen : l.length ≤ 600) : eqNode_fn (l, (l, ())) = some (true, ()) := by
  unfold eqNode_fn eqNode_tree
  have := loop_hit (tag := 280004) (f := fun x => (eqNode_step28_4 x).eval) (l := l) (fun i => ((i : Int), (l, (l, ((l.length : Int), ()))))) (fun _ => false)
      (fun q => match q with | some q => Sum.inl (false, ()) | none => Sum.inr ())
      (fun i x hx => by
        have hi := (List.getElem?_eq_some_iff.1 hx).1
        show (eqNode_step28_4 _).eval = _
        unfold eqNode_step28_4
        exact ev_t (by simp; omega) (ev_g (by simp) (ev_opt (show l[Int.toNat (i : Int)]? = some x by simpa using hx) (ev_g (by simp) (ev_opt (show l[Int.toNat (i : Int)]? = some x by simpa using hx) (ev_f (by simp) (ev_r (by rw [next_i64 i (by omega)]))))))))
      (by show (eqNode_step28_4 _).eval = _; exact ev_f (by simp) (ev_r rfl)) 18446744073709551616 (by omega)
  have h0 : hit (fun _ => false) l = none := hit_none.2 fun _ _ => rfl
  rw [h0] at this
  exact ev_f (by simp) (ev_opt (show eqNode_loop28_4 ((0 : Int), (l, (l, ((l.length : Int), ())))) = _ from this) rfl)
theorem same_self (l : List TNode) (hlen : l.length ≤ 600) : sameTrie_fn (l, (l, ())) = some (true, ()) := by
  unfold sameTrie_fn sameTrie_tree
  exact ev_opt (eqNode_self l hlen) (ev_r rfl)
theorem pLives : prefixLives_fn () = some (true, ()) := by kernel_rfl
/-! ### What is read is what was laid -/
theorem num_zero {t : TT} {n : Nat} (h : 0 < n) : num t n = 0 ↔ t = .nil := by
  unfold num
  cases t with
  | nil => simp [TT.isNil]
  | node => simp [TT.isNil]; omega
theorem bad_flat : ∀ (b : Nat) (t : TT), (flatL b t).any badN = false ↔ Can t
  | _, .nil => by simp [flatL, Can]
  | b, .node l r s v => by
    rw [flatL, List.any_cons, List.any_append, Bool.or_eq_false_iff, Bool.or_eq_false_iff, bad_flat, bad_flat]
    have e1 := num_zero (t := l) (n := b + 1) (by omega)
    have e2 := num_zero (t := r) (n := b + 1 + l.size) (by omega)
    have : badN ⟨num l (b + 1), num r (b + 1 + l.size), s, v⟩ = false ↔ (s = false → v = 0 ∧ ¬ (l = .nil ∧ r = .nil)) := by
      unfold badN
      cases s
      · have d1 : decide (num l (b + 1) = 0) = decide (l.isNil = true) := by cases l <;> simp [num, TT.isNil]; omega
        have d2 : decide (num r (b + 1 + l.size) = 0) = decide (r.isNil = true) := by cases r <;> simp [num, TT.isNil]; omega
        show (!false && (decide (v ≠ 0) || (decide (num l (b + 1) = 0) && decide (num r (b + 1 + l.size) = 0)))) = false ↔ _
        rw [d1, d2]
        by_cases hv : v = 0 <;> cases l <;> cases r <;> simp [hv, TT.isNil]
      · simp
    rw [this]
    constructor
    · rintro ⟨h1, h2, h3⟩; exact ⟨h2, h3, h1⟩
    · rintro ⟨h1, h2, h3⟩; exact ⟨h3, h1, h2⟩
theorem bare_can {t : TT} (h : Can t) : bareT t = false := by
  cases hb : bareT t with
  | false => rfl
  | true =>
    obtain ⟨v, rfl⟩ := bare_is hb
    exact absurd ⟨rfl, rfl⟩ (h.2.2 rfl).2
/-- A right tree. -/
structure OkT (t : TT) : Prop where
  can : Can t
  dep : t.dep ≤ 33
  size : t.size ≤ 500
theorem read_flat {t : TT} (h : OkT t) : readT (flatL 0 t) = (t, 0) := by
  have hl := flatL_len 0 t
  by_cases hn : t = .nil
  · subst hn; rfl
  · have hp := size_pos hn
    unfold readT
    rw [if_neg (by omega), if_neg (by have := h.size; omega), grow_flat 32 hn h.dep (at_self _)]
    dsimp only
    rw [if_pos ⟨by rw [hl]; omega, bare_can h.can, (bad_flat 0 t).2 h.can⟩]
theorem read_is {ns : List TNode} (h : (readT ns).2 = 0) : ns = flatL 0 (readT ns).1 ∧ OkT (readT ns).1 := by
  unfold readT at h ⊢
  by_cases h0 : ns.length = 0
  · rw [if_pos h0] at h ⊢
    exact ⟨List.eq_nil_of_length_eq_zero h0, trivial, by simp [TT.dep], by simp [TT.size]⟩
  · rw [if_neg h0] at h ⊢
    by_cases h5 : 500 < ns.length
    · rw [if_pos h5] at h; cases h
    · rw [if_neg h5] at h ⊢
      cases hg : growT ns 32 0 with
      | none => rw [hg] at h; cases h
      | some r =>
        obtain ⟨t, j⟩ := r
        rw [hg] at h
        dsimp only at h ⊢
        by_cases hc : j + 1 = ns.length ∧ bareT t = false ∧ ns.any badN = false
        · rw [if_pos hc]
          obtain ⟨g1, g2, g3, g4⟩ := grow_is 32 hg
          have e : ns = flatL 0 t := at_whole g3 (by rw [flatL_len]; omega)
          refine ⟨e, ?_, g4, ?_⟩
          · rw [← bad_flat 0, ← e]; exact hc.2.2
          · show t.size ≤ 500; omega
        · rw [if_neg hc] at h; cases h
/-! ### The bits of a net -/
theorem bitsN_eq {a b : Int} : ∀ (k d : Nat), bitsN a k d = bitsN b k d → ∀ i, d ≤ i → i < d + k → bitB a i = bitB b i
  | 0, d, _, i, h1, h2 => by omega
  | k + 1, d, h, i, h1, h2 => by
    injection h with e1 e2
    by_cases hi : i = d
    · rw [hi]; exact e1
    · exact bitsN_eq k (d + 1) e2 i (by omega) (by omega)
theorem div_of_bits {a b : Int} (ha : 0 ≤ a ∧ a ≤ 4294967295) (hb : 0 ≤ b ∧ b ≤ 4294967295) : ∀ (k : Nat), k ≤ 32 → (∀ i, i < k → bitB a i = bitB b i) → a / 2 ^ (32 - k) = b / 2 ^ (32 - k)
  | 0, _, _ => by
    show a / 4294967296 = b / 4294967296
    omega
  | k + 1, hk, h => by
    have ih := div_of_bits ha hb k (by omega) fun i hi => h i (by omega)
    have hbit := h k (by omega)
    unfold bitB at hbit
    rw [show 32 - (k + 1) = 31 - k by omega]
    rw [show 32 - k = (31 - k) + 1 by omega, Int.pow_succ, ← Int.ediv_ediv_of_nonneg (Int.le_of_lt (Int.pow_pos (by decide))), ← Int.ediv_ediv_of_nonneg (Int.le_of_lt (Int.pow_pos (by decide)))] at ih
    generalize a / 2 ^ (31 - k) = x at *
    generalize b / 2 ^ (31 - k) = y at *
    by_cases hx : x % 2 = 1 <;> by_cases hy : y % 2 = 1 <;> simp [hx, hy] at hbit <;> omega
theorem net_low {a L : Int} (h : netB a L = true) : 0 ≤ L ∧ L ≤ 32 ∧ a % 2 ^ (32 - L.toNat) = 0 := by
  unfold netB at h
  simp only [Bool.and_eq_true, decide_eq_true_eq] at h
  refine ⟨h.1.1, h.1.2, ?_⟩
  have h2 := h.2
  have hL : L.toNat ≤ 32 := by omega
  generalize L.toNat = k at *
  have e : (4294967296 : Int) = 2 ^ (32 - k) * 2 ^ k := by rw [← Int.pow_add, show 32 - k + k = 32 by omega]; rfl
  rw [e, Int.mul_comm a, Int.mul_comm (2 ^ (32 - k)), Int.mul_emod_mul_of_pos _ _ (Int.pow_pos (by decide))] at h2
  have : (0 : Int) < 2 ^ k := Int.pow_pos (by decide)
  rcases Int.mul_eq_zero.1 h2 with h3 | h3
  · omega
  · exact h3
theorem net_inj {a L b M : Int} (ha : 0 ≤ a ∧ a ≤ 4294967295) (hb : 0 ≤ b ∧ b ≤ 4294967295) (h1 : netB a L = true) (h2 : netB b M = true) (h : bitsN a L.toNat 0 = bitsN b M.toNat 0) : a = b ∧ L = M := by
  obtain ⟨p1, p2, p3⟩ := net_low h1
  obtain ⟨q1, q2, q3⟩ := net_low h2
  have hl : L.toNat = M.toNat := by rw [← bitsN_len a L.toNat 0, h, bitsN_len]
  have e := div_of_bits ha hb L.toNat (by omega) fun i hi => by
    rw [← hl] at h
    exact bitsN_eq L.toNat 0 h i (by omega) (by omega)
  rw [← hl] at q3
  refine ⟨?_, by omega⟩
  rw [Int.emod_def] at p3 q3
  rw [e] at p3
  omega
/-! ### What Put and Remove tell of right trees -/
theorem put_ok {t : TT} (h : OkT t) {a L : Int} (v : Int) (hn : netB a L = true) (hs : (putN a v L.toNat 0 t).size ≤ 500) : OkT (putN a v L.toNat 0 t) := by
  obtain ⟨p1, p2, _⟩ := net_low hn
  refine ⟨can_put v _ h.can, ?_, hs⟩
  have := dep_put v (bitsN a L.toNat 0) t
  rw [bitsN_len] at this
  have := h.dep
  unfold putN; omega
theorem rem_ok {t : TT} (h : OkT t) (a : Int) (k d : Nat) : OkT (remN a k d t).1 :=
  ⟨can_rem _ h.can, Nat.le_trans (dep_rem _ _) h.dep, Nat.le_trans (size_rem _ _) h.size⟩
theorem putT_ok {ns : List TNode} {a L x : Int} (h : (putT ns a L x).2 = 0) : ∃ t, ns = flatL 0 t ∧ OkT t ∧ netB a L = true ∧ OkT (putN a x L.toNat 0 t) ∧ (putT ns a L x).1 = flatL 0 (putN a x L.toNat 0 t) := by
  unfold putT at h ⊢
  by_cases h1 : (readT ns).2 ≠ 0
  · rw [if_pos h1] at h; exact absurd h h1
  · rw [if_neg h1] at h ⊢
    obtain ⟨e, hok⟩ := read_is (Decidable.not_not.1 h1)
    by_cases h2 : netB a L = false
    · rw [if_pos h2] at h; cases h
    · rw [if_neg h2] at h ⊢
      have h2' : netB a L = true := by simpa using h2
      by_cases h3 : 500 < (putN a x L.toNat 0 (readT ns).1).size
      · rw [if_pos h3] at h; cases h
      · rw [if_neg h3]
        exact ⟨_, e, hok, h2', put_ok hok x h2' (by omega), rfl⟩
theorem putT_flat {t : TT} (h : OkT t) {a L : Int} (x : Int) (hn : netB a L = true) (hs : (putN a x L.toNat 0 t).size ≤ 500) : putT (flatL 0 t) a L x = (flatL 0 (putN a x L.toNat 0 t), 0) := by
  unfold putT
  rw [read_flat h, if_neg (by simp), if_neg (by simp [hn]), if_neg (by show ¬ 500 < (putN a x L.toNat 0 t).size; omega)]
theorem remT_flat {t : TT} (h : OkT t) {a L : Int} (hn : netB a L = true) : remT (flatL 0 t) a L = if (remN a L.toNat 0 t).2 = true then (flatL 0 (remN a L.toNat 0 t).1, 0) else ([], 7) := by
  unfold remT
  rw [read_flat h, if_neg (by simp)]
  by_cases h1 : (remN a L.toNat 0 t).2 = true
  · rw [if_pos ⟨hn, h1⟩, if_pos h1]
  · rw [if_neg (fun q => h1 q.2), if_neg h1]
theorem rem_put {t : TT} (h : Can t) (a v : Int) (k d : Nat) (hg : getL (bitsN a k d) t = none) : (remN a k d (putN a v k d t)).1 = t := by
  refine can_ext (can_rem _ (can_put v _ h)) h fun cs => ?_
  unfold remN putN
  rw [getL_rem, getL_put]
  by_cases e : cs = bitsN a k d
  · rw [if_pos e, e, hg]
  · rw [if_neg e, if_neg e]
theorem rem_put_had (t : TT) (a v : Int) (k d : Nat) : (remN a k d (putN a v k d t)).2 = true := by
  unfold remN putN
  rw [rem_had, getL_put, if_pos rfl]; rfl
theorem put_comm {t : TT} (h : Can t) (v w : Int) {bs cs : List Bool} (hne : bs ≠ cs) : putL v bs (putL w cs t) = putL w cs (putL v bs t) := by
  refine can_ext (can_put _ _ (can_put _ _ h)) (can_put _ _ (can_put _ _ h)) fun ds => ?_
  rw [getL_put, getL_put, getL_put, getL_put]
  by_cases h1 : ds = bs
  · rw [if_pos h1, if_neg (fun e => hne (h1.symm.trans e)), if_pos h1]
  · rw [if_neg h1, if_neg h1]
theorem any_law (ns : List TNode) (a L b M v w : Int) (ha : 0 ≤ a ∧ a ≤ 4294967295) (hL : -9223372036854775808 ≤ L ∧ L ≤ 9223372036854775807) (hb : 0 ≤ b ∧ b ≤ 4294967295) (hM : -9223372036854775808 ≤ M ∧ M ≤ 9223372036854775807) :
    (prefixAny_tree (ns, (a, (L, (b, (M, (v, (w, ())))))))).eval = some (true, ()) := by
  have g1 : (okA a && okL L) = true := by simp [okA, okL]; omega
  have g2 : (okA b && okL M) = true := by simp [okA, okL]; omega
  unfold prefixAny_tree
  refine ev_g g1 (ev_opt pLives (ev_f rfl ?_))
  by_cases he : (putT ns a L v).2 = 0
  · obtain ⟨t, rfl, ht, hn, hp, e1⟩ := putT_ok he
    have e2 : remT (putT (flatL 0 t) a L v).1 a L = (flatL 0 (remN a L.toNat 0 (putN a v L.toNat 0 t)).1, 0) := by rw [e1, remT_flat hp hn, if_pos (rem_put_had t a v _ _)]
    have hend : ∀ T : Tr (Bool × Unit), T = (Tr.grd (okA b && okL M) (
      .grd (okA b && okL M) (
      .ite (!decide ((putT (putT (flatL 0 t) a L v).fst b M w).snd = (0 : Int))) (
       .ret (true, ())) (
       .ite (!decide ((putT (flatL 0 t) b M w).snd = (0 : Int))) (
        .ret (true, ())) (
        .ite (decide (a = b) && (decide (L = M) && true)) (
         .ret (true, ())) (
         .grd (okA a && okL L) (
         .ite (decide ((putT (putT (flatL 0 t) b M w).fst a L v).snd = (0 : Int))) (
          .opt (β := (Bool × Unit)) ((sameTrie_fn ((putT (putT (flatL 0 t) a L v).fst b M w).fst, ((putT (putT (flatL 0 t) b M w).fst a L v).fst, ())))) (fun r1 =>
          .ret (r1.1, ()))) (
          .ret (false, ()))))))))) → T.eval = some (true, ()) := by
      rintro T rfl
      refine ev_g g2 (ev_g g2 ?_)
      by_cases h1 : (putT (putT (flatL 0 t) a L v).1 b M w).2 = 0
      · refine ev_f (by rw [decide_eq_true h1]; rfl) ?_
        by_cases h2 : (putT (flatL 0 t) b M w).2 = 0
        · refine ev_f (by rw [decide_eq_true h2]; rfl) ?_
          by_cases h3 : a = b ∧ L = M
          · exact ev_t (by rw [decide_eq_true h3.1, decide_eq_true h3.2]; rfl) (ev_r rfl)
          · refine ev_f (by cases q1 : decide (a = b) <;> cases q2 : decide (L = M) <;> simp_all) (ev_g g1 ?_)
            obtain ⟨t1, q1, q2, q3, q4, q5⟩ := putT_ok h1
            rw [e1] at q1
            have et1 : t1 = putN a v L.toNat 0 t := by
              have := congrArg (fun l => (readT l).1) q1
              simpa [read_flat hp, read_flat q2] using this.symm
            subst et1
            obtain ⟨t2, r1, r2, r3, r4, r5⟩ := putT_ok h2
            have et2 : t2 = t := by
              have := congrArg (fun l => (readT l).1) r1
              simpa [read_flat ht, read_flat r2] using this.symm
            subst et2
            have hne : bitsN b M.toNat 0 ≠ bitsN a L.toNat 0 := fun e => h3 (net_inj ha hb hn q3 e.symm)
            have hc : putN a v L.toNat 0 (putN b w M.toNat 0 t2) = putN b w M.toNat 0 (putN a v L.toNat 0 t2) := put_comm ht.can v w hne.symm
            have e3 : putT (putT (flatL 0 t2) b M w).1 a L v = (flatL 0 (putN b w M.toNat 0 (putN a v L.toNat 0 t2)), 0) := by
              rw [r5, putT_flat r4 v hn (by rw [hc]; exact q4.size), hc]
            rw [e3, q5]
            refine ev_t rfl (ev_opt (same_self _ ?_) (ev_r rfl))
            rw [flatL_len]; have := q4.size; omega
        · exact ev_t (by rw [decide_eq_false h2]; rfl) (ev_r rfl)
      · exact ev_t (by rw [decide_eq_false h1]; rfl) (ev_r rfl)
    refine ev_f (by rw [decide_eq_true he]; rfl) (ev_g g1 (ev_g g1 (ev_f (by rw [e2]; rfl) ?_)))
    by_cases h7 : (remT (flatL 0 t) a L).2 = 7
    · refine ev_t (decide_eq_true h7) (ev_opt (b := (true, ())) ?_ (ev_f rfl (hend _ rfl)))
      rw [e2]
      have hno : getL (bitsN a L.toNat 0) t = none := by
        rw [remT_flat ht hn] at h7
        by_cases hh : (remN a L.toNat 0 t).2 = true
        · rw [if_pos hh] at h7; cases h7
        · have := rem_had (bitsN a L.toNat 0) t
          unfold remN at hh
          rw [this] at hh
          simpa using hh
      rw [show (remN a L.toNat 0 (putN a v L.toNat 0 t)).1 = t from rem_put ht.can a v _ _ hno]
      exact same_self _ (by rw [flatL_len]; have := ht.size; omega)
    · exact ev_f (decide_eq_false h7) (hend _ rfl)
  · exact ev_t (by rw [decide_eq_false he]; rfl) (ev_opt pLives (ev_r rfl))
theorem prefixAny_true {ns : List TNode} {a L b M v w : Int} (b0 : BndD 6 (D.st 9 ns)) (b1 : 0 ≤ a ∧ a ≤ 4294967295) (b2 : -9223372036854775808 ≤ L ∧ L ≤ 9223372036854775807) (b3 : 0 ≤ b ∧ b ≤ 4294967295) (b4 : -9223372036854775808 ≤ M ∧ M ≤ 9223372036854775807) (b5 : -9223372036854775808 ≤ v ∧ v ≤ 9223372036854775807) (b6 : -9223372036854775808 ≤ w ∧ w ≤ 9223372036854775807) :
    (prefixAny_tree (ns, (a, (L, (b, (M, (v, (w, ())))))))).eval = some (true, ()) := any_law ns a L b M v w b1 b2 b3 b4
end Go.Proofs.Ythnijeclidpooaa.X
