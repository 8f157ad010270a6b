/- prefix: the laws PrefixOrder and PrefixLongest. Conditions: none. -/
import Derived.Test.YthnijeclidpooaaPPfxB
namespace Go.Proofs.Ythnijeclidpooaa.X
open Go Go.RowKit Go.Proofs.Ythnijeclidpooaa.Abs Go.Proofs.Ythnijeclidpooaa.Bits
set_option linter.unusedVariables false
set_option linter.unnecessarySimpa false
set_option linter.unusedSimpArgs false
set_option maxRecDepth 100000
theorem mem_rowsP (v : Int) : ∀ (t : TT) (p q : List Bool), (q, v) ∈ rowsP p t ↔ ∃ bs, q = p ++ bs ∧ getL bs t = some v := by
  intro t
  induction t with
  | nil => intro p q; simp [rowsP, getL_nil]
  | node l r s x ihl ihr =>
    intro p q
    simp only [rowsP, List.mem_append, ihl, ihr]
    constructor
    · rintro (h | ⟨bs, rfl, h⟩ | ⟨bs, rfl, h⟩)
      · cases s with
        | false => simp at h
        | true => simp at h; exact ⟨[], by simp [h.1], by simp [getL, h.2]⟩
      · exact ⟨false :: bs, by simp, h⟩
      · exact ⟨true :: bs, by simp, h⟩
    · rintro ⟨bs, rfl, h⟩
      match bs, h with
      | [], h =>
        cases s with
        | false => simp [getL] at h
        | true => simp [getL] at h; exact .inl (by simp [h])
      | false :: bs, h => exact .inr (.inl ⟨bs, by simp, h⟩)
      | true :: bs, h => exact .inr (.inr ⟨bs, by simp, h⟩)
theorem mem_rows {t : TT} {q : List Bool} {v : Int} : (q, v) ∈ rowsP [] t ↔ getL q t = some v := by
  rw [mem_rowsP]
  constructor
  · rintro ⟨bs, rfl, h⟩; exact h
  · intro h; exact ⟨q, rfl, h⟩
theorem getL_dep : ∀ (bs : List Bool) (t : TT) (v : Int), getL bs t = some v → bs.length + 1 ≤ t.dep
  | bs, .nil, v, h => by rw [getL_nil] at h; cases h
  | [], .node l r s x, v, h => by simp [TT.dep]
  | true :: bs, .node l r s x, v, h => by have := getL_dep bs r v h; simp [TT.dep]; omega
  | false :: bs, .node l r s x, v, h => by have := getL_dep bs l v h; simp [TT.dep]; omega
theorem bitsN_adr : ∀ (bs : List Bool) (d : Nat) (q : Int), d + bs.length ≤ 32 → bitsN (q * 2 ^ (32 - d) + adr d bs) bs.length d = bs
  | [], d, q, h => rfl
  | b :: bs, d, q, h => by
    rw [List.length_cons] at h
    obtain ⟨h1, h2⟩ := adr_bound bs (d + 1) (by omega)
    have hp : (0 : Int) < 2 ^ (31 - d) := Int.pow_pos (by decide)
    have hp2 : (0 : Int) < 2 ^ (32 - (d + 1 + bs.length)) := Int.pow_pos (by decide)
    have e : (2 : Int) ^ (32 - d) = 2 ^ (31 - d) + 2 ^ (31 - d) := by rw [show 32 - d = (31 - d) + 1 by omega]; exact pow_two _
    rw [show 32 - (d + 1) = 31 - d by omega] at h2
    have hx : q * 2 ^ (32 - d) + adr d (b :: bs) = (2 * q + (if b then 1 else 0)) * 2 ^ (31 - d) + adr (d + 1) bs := by
      rw [e, Int.add_mul, Int.mul_add, Int.two_mul, Int.add_mul]
      cases b
      · show _ + adr (d + 1) bs = _ + _ + (0 : Int) * _ + _; omega
      · show _ + (2 ^ (31 - d) + adr (d + 1) bs) = _ + _ + (1 : Int) * _ + _; omega
    have hb : bitB (q * 2 ^ (32 - d) + adr d (b :: bs)) d = b := by
      unfold bitB
      rw [hx, Int.add_comm, Int.add_mul_ediv_right _ _ (by omega), Int.ediv_eq_zero_of_lt h1 (by omega)]
      cases b
      · exact decide_eq_false (by simp)
      · exact decide_eq_true (by simp)
    show bitB _ d :: bitsN _ bs.length (d + 1) = b :: bs
    rw [hb, hx, show (31 - d) = 32 - (d + 1) by omega, bitsN_adr bs (d + 1) _ (by omega)]
theorem bitsN_path (bs : List Bool) (h : bs.length ≤ 32) : bitsN (adr 0 bs) bs.length 0 = bs := by
  have := bitsN_adr bs 0 0 (by omega)
  rwa [Int.zero_mul, Int.zero_add] at this
theorem adr_u32 (bs : List Bool) (h : bs.length ≤ 32) : 0 ≤ adr 0 bs ∧ adr 0 bs ≤ 4294967295 := by
  obtain ⟨h1, h2⟩ := adr_bound bs 0 (by omega)
  have hp2 : (0 : Int) < 2 ^ (32 - (0 + bs.length)) := Int.pow_pos (by decide)
  have e0 : (2 : Int) ^ (32 - 0) = 4294967296 := rfl
  omega
theorem net_path (bs : List Bool) (h : bs.length ≤ 32) : netB (adr 0 bs) (bs.length : Int) = true := by
  unfold netB
  obtain ⟨q, hq⟩ := adr_low bs 0 (by omega)
  rw [Nat.zero_add] at hq
  rw [decide_eq_true (show (0 : Int) ≤ (bs.length : Int) ∧ (bs.length : Int) ≤ 32 by omega), Int.toNat_natCast, hq, Int.mul_assoc, ← Int.pow_add, show 32 - bs.length + bs.length = 32 by omega]
  simp
/-! ### All nets, put in from the last to the first -/
def insT (rows : List (List Bool × Int)) : TT := rows.foldr (fun q t => putL q.2 q.1 t) .nil
theorem insT_cons (q : List Bool × Int) (rows : List (List Bool × Int)) : insT (q :: rows) = putL q.2 q.1 (insT rows) := rfl
theorem can_ins : ∀ (rows : List (List Bool × Int)), Can (insT rows)
  | [] => trivial
  | q :: rows => can_put _ _ (can_ins rows)
theorem getL_ins (cs : List Bool) : ∀ (rows : List (List Bool × Int)), getL cs (insT rows) = (rows.find? fun q => decide (q.1 = cs)).map (·.2)
  | [] => by simp [insT, getL_nil]
  | q :: rows => by
    rw [insT_cons, getL_put, getL_ins cs rows, List.find?_cons]
    by_cases h : cs = q.1
    · rw [if_pos h, decide_eq_true h.symm]; rfl
    · rw [if_neg h, decide_eq_false (fun e => h e.symm)]
theorem ins_sub {t : TT} {rows : List (List Bool × Int)} (h : ∀ q ∈ rows, getL q.1 t = some q.2) {cs : List Bool} {v : Int} (hg : getL cs (insT rows) = some v) : getL cs t = some v := by
  rw [getL_ins, Option.map_eq_some_iff] at hg
  obtain ⟨q, h1, h2⟩ := hg
  have h3 := List.find?_some h1
  have h4 := h q (List.mem_of_find?_eq_some h1)
  simp only [decide_eq_true_eq] at h3
  rw [← h3, h4, h2]
theorem sub_size : ∀ (t' t : TT), Can t' → (∀ cs, (getL cs t').isSome = true → (getL cs t).isSome = true) → t'.size ≤ t.size
  | .nil, t, _, _ => Nat.zero_le _
  | .node l' r' s' v', .nil, hc, h => by
    obtain ⟨bs, x, hx⟩ := can_some hc (fun e => by cases e)
    have := h bs (by rw [hx]; rfl)
    rw [getL_nil] at this; cases this
  | .node l' r' s' v', .node l r s v, hc, h => by
    have h1 := sub_size l' l hc.1 fun cs hcs => h (false :: cs) hcs
    have h2 := sub_size r' r hc.2.1 fun cs hcs => h (true :: cs) hcs
    simp only [TT.size]; omega
theorem ins_dep {rows : List (List Bool × Int)} (h : ∀ q ∈ rows, q.1.length ≤ 32) : (insT rows).dep ≤ 33 := by
  induction rows with
  | nil => simp [insT, TT.dep]
  | cons q rows ih =>
    rw [insT_cons]
    have h1 := dep_put q.2 q.1 (insT rows)
    have h2 := ih fun q hq => h q (by simp [hq])
    have h3 := h q (by simp)
    omega
theorem ins_ok {t : TT} (ht : OkT t) {rows : List (List Bool × Int)} (h : ∀ q ∈ rows, getL q.1 t = some q.2) : OkT (insT rows) := by
  refine ⟨can_ins rows, ins_dep fun q hq => ?_, Nat.le_trans (sub_size _ t (can_ins rows) fun cs hcs => ?_) ht.size⟩
  · have := getL_dep _ _ _ (h q hq); have := ht.dep; omega
  · obtain ⟨v, hv⟩ := Option.isSome_iff_exists.1 hcs
    rw [ins_sub h hv]; rfl
theorem ins_all {t : TT} (ht : OkT t) : insT (rowsP [] t) = t := by
  have hall : ∀ q ∈ rowsP [] t, getL q.1 t = some q.2 := fun q hq => mem_rows.1 hq
  refine can_ext (can_ins _) ht.can fun cs => ?_
  cases hg : getL cs t with
  | none =>
    cases hi : getL cs (insT (rowsP [] t)) with
    | none => rfl
    | some v => rw [ins_sub hall hi] at hg; cases hg
  | some v =>
    have hm := mem_rows.2 hg
    cases hi : getL cs (insT (rowsP [] t)) with
    | some w => rw [ins_sub hall hi] at hg; exact hg
    | none =>
      rw [getL_ins, Option.map_eq_none_iff, List.find?_eq_none] at hi
      have := hi _ hm
      simp at this
/-- Nets in order. -/
def Lt (a b : List Bool × Int) : Prop := adr 0 a.1 < adr 0 b.1 ∨ adr 0 a.1 = adr 0 b.1 ∧ a.1.length < b.1.length
theorem rows_range : ∀ (t : TT) (p : List Bool), t.dep + p.length ≤ 33 → ∀ q ∈ rowsP p t, p.length ≤ q.1.length ∧ adr 0 p ≤ adr 0 q.1 ∧ adr 0 q.1 < adr 0 p + 2 ^ (32 - p.length) := by
  intro t
  induction t with
  | nil => intro p _ q hq; simp [rowsP] at hq
  | node l r s x ihl ihr =>
    intro p hd q hq
    simp only [TT.dep] at hd
    have hp : (0 : Int) < 2 ^ (32 - p.length) := Int.pow_pos (by decide)
    simp only [rowsP, List.mem_append] at hq
    have two : ∀ c : TT, c ≠ .nil → c.dep + (p.length + 1) ≤ 33 → (2 : Int) ^ (32 - p.length) = 2 ^ (31 - p.length) + 2 ^ (31 - p.length) := fun c hc hcd => by
      have : 0 < c.dep := by cases c with | nil => exact absurd rfl hc | node => simp [TT.dep]; omega
      rw [show 32 - p.length = (31 - p.length) + 1 by omega]; exact pow_two _
    rcases hq with hq | hq | hq
    · cases s with
      | false => simp at hq
      | true => simp at hq; rw [hq]; exact ⟨Nat.le_refl _, Int.le_refl _, by show adr 0 p < _; omega⟩
    · have hn : l ≠ .nil := fun e => by subst e; simp [rowsP] at hq
      obtain ⟨h1, h2, h3⟩ := ihl (p ++ [false]) (by simp; omega) q hq
      have e := two l hn (by omega)
      rw [adr_app] at h2 h3
      simp only [List.length_append, List.length_singleton, Bool.false_eq_true, if_false, Int.add_zero] at h1 h2 h3
      rw [show 32 - (p.length + 1) = 31 - p.length by omega] at h3
      have : (0 : Int) < 2 ^ (31 - p.length) := Int.pow_pos (by decide)
      exact ⟨by omega, h2, by omega⟩
    · have hn : r ≠ .nil := fun e => by subst e; simp [rowsP] at hq
      obtain ⟨h1, h2, h3⟩ := ihr (p ++ [true]) (by simp; omega) q hq
      have e := two r hn (by omega)
      rw [adr_app] at h2 h3
      simp only [List.length_append, List.length_singleton, if_true, Nat.zero_add] at h1 h2 h3
      rw [show 32 - (p.length + 1) = 31 - p.length by omega] at h3
      have : (0 : Int) < 2 ^ (31 - p.length) := Int.pow_pos (by decide)
      exact ⟨by omega, by omega, by omega⟩
theorem rows_sorted : ∀ (t : TT) (p : List Bool), t.dep + p.length ≤ 33 → (rowsP p t).Pairwise Lt := by
  intro t
  induction t with
  | nil => intro p _; exact List.Pairwise.nil
  | node l r s x ihl ihr =>
    intro p hd
    simp only [TT.dep] at hd
    have hl := ihl (p ++ [false]) (by simp; omega)
    have hr := ihr (p ++ [true]) (by simp; omega)
    have ml := rows_range l (p ++ [false]) (by simp; omega)
    have mr := rows_range r (p ++ [true]) (by simp; omega)
    rw [adr_app] at ml mr
    simp only [List.length_append, List.length_singleton, Bool.false_eq_true, if_false, if_true, Int.add_zero, Nat.zero_add] at ml mr
    have hp : (0 : Int) < 2 ^ (31 - p.length) := Int.pow_pos (by decide)
    have hlr : (rowsP (p ++ [false]) l ++ rowsP (p ++ [true]) r).Pairwise Lt := by
      refine List.pairwise_append.2 ⟨hl, hr, fun a ha b hb => .inl ?_⟩
      obtain ⟨_, _, h3⟩ := ml a ha
      obtain ⟨_, h2, _⟩ := mr b hb
      rw [show 32 - (p.length + 1) = 31 - p.length by omega] at h3
      omega
    show ((if s = true then [(p, x)] else []) ++ _).Pairwise Lt
    cases s with
    | false => simpa using hlr
    | true =>
      refine List.pairwise_append.2 ⟨by simp, hlr, fun a ha b hb => ?_⟩
      have : a = (p, x) := by simpa using ha
      subst this
      rcases List.mem_append.1 hb with hb | hb
      · obtain ⟨h1, h2, _⟩ := ml b hb
        show adr 0 p < adr 0 b.1 ∨ adr 0 p = adr 0 b.1 ∧ p.length < b.1.length
        rcases Int.lt_or_eq_of_le h2 with h | h
        · exact .inl h
        · exact .inr ⟨h, by omega⟩
      · obtain ⟨h1, h2, _⟩ := mr b hb
        exact .inl (by show adr 0 p < adr 0 b.1; omega)
theorem putT_path {t : TT} (ht : OkT t) {rows : List (List Bool × Int)} {q : List Bool × Int} (h : ∀ x ∈ q :: rows, getL x.1 t = some x.2) :
    putT (flatL 0 (insT rows)) (adr 0 q.1) (q.1.length : Int) q.2 = (flatL 0 (insT (q :: rows)), 0) := by
  have hq : q.1.length ≤ 32 := by have := getL_dep _ _ _ (h q (by simp)); have := ht.dep; omega
  have e : putN (adr 0 q.1) q.2 (q.1.length : Int).toNat 0 (insT rows) = insT (q :: rows) := by
    unfold putN
    rw [Int.toNat_natCast, bitsN_path q.1 hq]; rfl
  have := putT_flat (ins_ok ht (rows := rows) fun x hx => h x (List.mem_cons_of_mem _ hx)) q.2 (net_path q.1 hq) (by rw [e]; exact (ins_ok ht h).size)
  rw [e] at this
  exact this
/-- The law's loop. -/
theorem order_loop {t : TT} (ht : OkT t) (ns : List TNode) : ∀ (c i n : Nat), i + c = (rowsP [] t).length → c < n →
    loopO (10000 * 6 + 6) (fun x => (prefixOrder_step6_6 x).eval) n ((i : Int), ((rowsP [] t).map (·.2), ((rowsP [] t).map netP, (((rowsP [] t).length : Int), (flatL 0 (insT ((rowsP [] t).drop c)), (ns, ())))))) = some (Sum.inr (ns, (flatL 0 t, ()))) := by
  have hlen : (rowsP [] t).length ≤ 500 := Nat.le_trans (rowsP_len [] t) ht.size
  have hsort := List.pairwise_iff_getElem.1 (rows_sorted t [] (by simpa using ht.dep))
  have hall : ∀ q ∈ rowsP [] t, getL q.1 t = some q.2 := fun q hq => mem_rows.1 hq
  intro c
  induction c with
  | zero =>
    intro i n hi hn
    obtain ⟨n, rfl⟩ : ∃ m, n = m + 1 := ⟨n - 1, by omega⟩
    refine loopO_out (ev_f (by simp; omega) (ev_r ?_))
    rw [List.drop_zero, ins_all ht]
  | succ c ih =>
    intro i n hi hn
    obtain ⟨n, rfl⟩ : ∃ m, n = m + 1 := ⟨n - 1, by omega⟩
    have hc : c < (rowsP [] t).length := by omega
    obtain ⟨q, hq⟩ : ∃ q, (rowsP [] t)[c]? = some q := ⟨_, List.getElem?_eq_getElem hc⟩
    have hqe : (rowsP [] t)[c] = q := (List.getElem?_eq_some_iff.1 hq).2
    have hdrop : (rowsP [] t).drop c = q :: (rowsP [] t).drop (c + 1) := by rw [List.drop_eq_getElem_cons hc, hqe]
    have hput := putT_path ht (rows := (rowsP [] t).drop (c + 1)) (q := q) (fun x hx => hall x (by rw [← hdrop] at hx; exact List.mem_of_mem_drop hx))
    rw [← hdrop] at hput
    have hql : q.1.length ≤ 32 := by have := getL_dep _ _ _ (hall q (List.mem_of_getElem? hq)); have := ht.dep; omega
    have hk : IntKind.wrap IntKind.i64 (IntKind.wrap IntKind.i64 ((((rowsP [] t).map netP).length : Int) - (1 : Int)) - (i : Int)) = (c : Int) := by
      rw [List.length_map, wrapI (((rowsP [] t).length : Int) - 1) (by omega), wrapI (((rowsP [] t).length : Int) - 1 - (i : Int)) (by omega)]; omega
    have hn2 : ((rowsP [] t).map netP)[Int.toNat (c : Int)]? = some (netP q) := by rw [Int.toNat_natCast, List.getElem?_map, hq]; rfl
    have hv2 : ((rowsP [] t).map (·.2))[Int.toNat (c : Int)]? = some q.2 := by rw [Int.toNat_natCast, List.getElem?_map, hq]; rfl
    have ho : (okA (netP q).addr && okL (netP q).long) = true := by
      have h1 := adr_u32 q.1 hql
      have h2 : okA (adr 0 q.1) = true := decide_eq_true h1
      have h3 : okL (q.1.length : Int) = true := decide_eq_true (by omega)
      show (okA (adr 0 q.1) && okL (q.1.length : Int)) = true
      rw [h2, h3]; rfl
    have hfin : ∀ T : Tr ((Int × ((List Int) × ((List TNet) × (Int × ((List TNode) × ((List TNode) × Unit)))))) ⊕ ((Bool × Unit) ⊕ ((List TNode) × ((List TNode) × Unit)))),
        T = (.grd (okA (netP q).addr && okL (netP q).long) (
    .ite (!decide ((putT (flatL 0 (insT ((rowsP [] t).drop (c + 1)))) (netP q).addr (netP q).long q.2).snd = (0 : Int))) (
     .ret (Sum.inr (Sum.inl (false, ())))) (
     .ret (Sum.inl (IntKind.wrap IntKind.i64 ((i : Int) + (1 : Int)), ((rowsP [] t).map (·.2), ((rowsP [] t).map netP, (((rowsP [] t).length : Int), ((putT (flatL 0 (insT ((rowsP [] t).drop (c + 1)))) (netP q).addr (netP q).long q.2).fst, (ns, ())))))))))) →
        T.eval = some (Sum.inl (((i + 1 : Nat) : Int), ((rowsP [] t).map (·.2), ((rowsP [] t).map netP, (((rowsP [] t).length : Int), (flatL 0 (insT ((rowsP [] t).drop c)), (ns, ()))))))) := by
      rintro T rfl
      have hput' : putT (flatL 0 (insT ((rowsP [] t).drop (c + 1)))) (netP q).addr (netP q).long q.2 = (flatL 0 (insT ((rowsP [] t).drop c)), 0) := hput
      refine ev_g ho (ev_f (by rw [hput']; rfl) (ev_r ?_))
      rw [hput', next_i64 i (by omega)]
    refine (loopO_in ?_).trans (ih (i + 1) n (by omega) (by omega))
    show (prefixOrder_step6_6 _).eval = _
    unfold prefixOrder_step6_6
    dsimp only
    rw [hk]
    refine ev_t (by simp; omega) ?_
    by_cases hc0 : c = 0
    · refine ev_f (by simp [hc0]) (ev_g (by simp) (ev_opt hn2 (ev_g (by simp) (ev_opt hv2 (hfin _ rfl)))))
    · have hc1 : c - 1 < (rowsP [] t).length := by omega
      obtain ⟨q0, hq0⟩ : ∃ q, (rowsP [] t)[c - 1]? = some q := ⟨_, List.getElem?_eq_getElem hc1⟩
      have hq0e : (rowsP [] t)[c - 1] = q0 := (List.getElem?_eq_some_iff.1 hq0).2
      have hlt : Lt q0 q := by
        have := hsort (c - 1) c hc1 hc (by omega)
        rwa [hq0e, hqe] at this
      have hk1 : IntKind.wrap IntKind.i64 ((c : Int) - (1 : Int)) = ((c - 1 : Nat) : Int) := by rw [wrapI _ (by omega)]; omega
      have hn0 : ((rowsP [] t).map netP)[Int.toNat ((c - 1 : Nat) : Int)]? = some (netP q0) := by rw [Int.toNat_natCast, List.getElem?_map, hq0]; rfl
      rw [hk1]
      refine ev_t (by simp; omega) (ev_g (by simp) (ev_opt hn0 (ev_g (by simp) (ev_opt hn2 ?_))))
      refine ev_f (decide_eq_false (by rcases hlt with h | h <;> simp only [netP] <;> omega)) (ev_g (by simp) (ev_opt hn0 (ev_g (by simp) (ev_opt hn2 ?_))))
      by_cases he : adr 0 q0.1 = adr 0 q.1
      · refine ev_t (decide_eq_true he) (ev_g (by simp) (ev_opt hn0 (ev_g (by simp) (ev_opt hn2 (ev_f (decide_eq_false ?_) (ev_g (by simp) (ev_opt hn2 (ev_g (by simp) (ev_opt hv2 (hfin _ rfl))))))))))
        simp only [netP]
        rcases hlt with h | h
        · omega
        · have := h.2; omega
      · exact ev_f (decide_eq_false he) (ev_g (by simp) (ev_opt hn2 (ev_g (by simp) (ev_opt hv2 (hfin _ rfl)))))
theorem prefixOrder_true {ns : List TNode} (b0 : BndD 6 (D.st 9 ns)) : (prefixOrder_tree (ns, ())).eval = some (true, ()) := by
  unfold prefixOrder_tree
  by_cases h : (readT ns).2 = 0
  · obtain ⟨hns, hok⟩ := read_is h
    refine ev_opt (all_ok h) (ev_opt pLives (ev_f rfl (ev_f rfl (ev_f (by simp) (ev_opt (b := Sum.inr (ns, (flatL 0 (readT ns).1, ()))) ?_ ?_)))))
    · have := order_loop hok ns (rowsP [] (readT ns).1).length 0 18446744073709551616 (by omega) (by have := rowsP_len [] (readT ns).1; have := hok.size; omega)
      rw [List.drop_length] at this
      rw [List.length_map]
      exact this
    · refine ev_opt (b := (true, ())) ?_ (ev_r rfl)
      rw [← hns]
      exact same_self ns (by rw [hns, flatL_len]; have := hok.size; omega)
  · exact ev_opt (all_no h) (ev_opt pLives (ev_f rfl (ev_t (by rw [decide_eq_false h]; rfl) (ev_opt pLives (ev_t rfl (ev_r (by rw [decide_eq_false h]; rfl)))))))
end Go.Proofs.Ythnijeclidpooaa.X
