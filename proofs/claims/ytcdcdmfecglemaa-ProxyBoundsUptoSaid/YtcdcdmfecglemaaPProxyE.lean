/- proxy: the law ProxyBounds. Conditions: none. -/
import Derived.Test.YtcdcdmfecglemaaPProxyN
namespace Go.Proofs.Ytcdcdmfecglemaa.X
open Go Go.RowKit Go.Proofs.Ytcdcdmfecglemaa.Abs Go.Proofs.Ytcdcdmfecglemaa.Bits
set_option linter.unusedVariables false
set_option linter.unnecessarySimpa false
set_option linter.unusedSimpArgs false
set_option maxRecDepth 100000

theorem at_last {l : List TGuarded} (hg : GoodG l) {x : TGuarded} (hx : x ∈ l) : x.at' ≤ lastG l := by
  obtain ⟨i, hi, rfl⟩ := List.getElem_of_mem hx
  obtain ⟨m, hm⟩ : ∃ m, l.length = m + 1 := ⟨l.length - 1, by omega⟩
  have e : lastG l = (l[m]'(by omega)).at' := by
    unfold lastG; simp only [hm, prevG]; rw [List.getElem?_eq_getElem (by omega)]; rfl
  rw [e]
  by_cases him : i = m
  · subst him; exact Int.le_refl _
  · exact ((List.pairwise_iff_getElem.1 hg.2.2) i m hi (by omega) (by omega)).1
theorem good_addG {a : List TGuarded} {x : TGuarded} (hg : GoodG a) (hl : a.length < 64) (hf : formG x) (h0 : 0 ≤ x.at') (h1 : ∀ y ∈ a, y.at' ≤ x.at') (h2 : ∀ y ∈ a, onR (rwOf x) y = false) : GoodG (a ++ [x]) := by
  refine ⟨by simp; omega, fun y hy => ?_, ?_⟩
  · rcases List.mem_append.1 hy with h | h
    · exact hg.2.1 y h
    · rw [List.mem_singleton.1 h]; exact ⟨hf, h0⟩
  · rw [List.pairwise_append]
    refine ⟨hg.2.2, List.pairwise_singleton _ _, fun y hy z hz => ?_⟩
    rw [List.mem_singleton.1 hz]
    refine ⟨h1 y hy, ?_⟩
    cases h : onR (rwOf y) x with
    | false => rfl
    | true => have := h2 y hy; rw [onR_iff.2 (onR_iff.1 h).symm] at this; cases this
theorem cut_sub (y : List TGuarded) (i : Nat) : (cut y i).Sublist y := by
  unfold cut
  have : (y.take i ++ y.drop (i + 1)).Sublist (y.take i ++ y.drop i) := (List.Sublist.refl _).append (by rw [← List.drop_drop]; exact List.drop_sublist _ _)
  rwa [List.take_append_drop] at this
theorem cut_none {w : Rw} {y : List TGuarded} {i : Nat} {t : TGuarded} (hg : GoodG y) (hx : y[i]? = some t) (ht : onR w t = true) : ∀ z ∈ cut y i, onR w z = false := by
  obtain ⟨hi, rfl⟩ := List.getElem?_eq_some_iff.1 hx
  have hw := onR_iff.1 ht
  intro z hz
  have hp := List.pairwise_iff_getElem.1 hg.2.2
  rcases List.mem_append.1 hz with h | h
  · obtain ⟨j, hj, rfl⟩ := List.getElem_of_mem h
    have hj2 : j < i := by simp at hj; omega
    rw [List.getElem_take]
    have := (hp j i (by omega) hi hj2).2
    cases hh : onR w y[j] with
    | false => rfl
    | true => rw [onR_iff.1 hh, ← hw, onR_self] at this; cases this
  · obtain ⟨j, hj, rfl⟩ := List.getElem_of_mem h
    rw [List.getElem_drop]
    simp at hj
    have := (hp i (i + 1 + j) hi (by omega) (by omega)).2
    rw [hw] at this
    exact this
/-- What comes of a segment is right. -/
structure Fine (l : List TGuarded) (r : Rp) : Prop where
  good : GoodG r.l
  one : r.c.length + r.s.length ≤ 1
  segs : ∀ x ∈ r.c ++ r.s, werr x = 0 ∧ x.options.length ≤ 1048576
  len : r.l.length ≤ l.length + 1
theorem mssO_ok (n : Int) : (mssO n).all okO = true ∧ (obs (mssO n)).length ≤ 40 := by
  refine ⟨?_, ?_⟩
  · show (okO ⟨2, [byteOf (n / 256), byteOf n]⟩ && true) = true
    unfold okO; simp
  · show (ob ⟨2, [byteOf (n / 256), byteOf n]⟩ ++ []).length ≤ 40
    unfold ob; simp
theorem askS_ok {t : TGuarded} (n : Int) (h : formG t) : werr (askS t n) = 0 := by
  have := mssO_ok n
  exact werr_of (portG_iff.1 h.1) (portG_iff.1 h.2.1) (show (0 : Int) ≤ 65535 ∧ (65535 : Int) ≤ 65535 by decide) (show (0 : Int) ≤ 0 ∧ (0 : Int) ≤ 65535 by decide) (show (0 : Int) ≤ 2 ∧ (2 : Int) ≤ 255 by decide) this.1 this.2 (by show 0 ≤ _; omega)
theorem bare_ok {p q : Int} (s a f w : Int) (o : List TOption) (hp : portG p = true) (hq : portG q = true) (hf : 0 ≤ f ∧ f ≤ 255) (hw : 0 ≤ w ∧ w ≤ 65535) (h1 : o.all okO = true) (h2 : (obs o).length ≤ 40) : werr ⟨p, q, s, a, f, w, 0, o, []⟩ = 0 :=
  werr_of (portG_iff.1 hp) (portG_iff.1 hq) hw (show (0 : Int) ≤ 0 ∧ (0 : Int) ≤ 65535 by decide) hf h1 h2 (by show 0 ≤ _; omega)
theorem fine_now {l y : List TGuarded} {i : Nat} {t : TGuarded} {w : Rw} {now : Int} {x : TGuarded} (hy : GoodG y) (hyl : y.length ≤ l.length) (hx : y[i]? = some t) (ht : onR w t = true) (hn : ∀ z ∈ y, z.at' ≤ now) (h0 : 0 ≤ now) (hxa : x.at' = now) (hxw : rwOf x = rwOf t) (hxf : formG x) :
    GoodG (cut y i ++ [x]) ∧ (cut y i ++ [x]).length ≤ l.length + 1 := by
  have hi := (List.getElem?_eq_some_iff.1 hx).1
  have hc := cut_len hi
  have h64 := hy.1
  refine ⟨good_addG (hy.sub (cut_sub y i)) (by omega) hxf (by rw [hxa]; exact h0) (fun z hz => by rw [hxa]; exact hn z ((cut_sub y i).subset hz)) (fun z hz => ?_), by simp; omega⟩
  rw [hxw, onR_iff.1 ht]
  exact cut_none hy hx ht z hz
theorem fine_cli (k0 k1 sz : Int) (l : List TGuarded) (w : Rw) (g : TSegment) (now : Int) (hg : SegOk g) (hok : OkP sz l w g now) (he : (cliF k0 k1 sz l w g now).e = 0) : Fine l (cliF k0 k1 sz l w g now) := by
  obtain ⟨⟨hz, hgl⟩, hp, hq, hla, hn, hfp, hfq, hwr⟩ := hok
  have hy : GoodG (yng now l) := hgl.sub List.filter_sublist
  have hyl := yng_len now l
  have hnow : ∀ z ∈ yng now l, z.at' ≤ now := fun z hz => Int.le_trans (at_last hgl (List.mem_filter.1 hz).1) hla
  have h0 : 0 ≤ now := by
    have : 0 ≤ lastG l := by
      cases hl : l with
      | nil => exact Int.le_refl _
      | cons x r => have hx : x ∈ l := by rw [hl]; exact List.mem_cons_self
                    have := at_last hgl hx; have := (hgl.2.1 x hx).2; rw [hl] at *; omega
    omega
  have hgo := hg.opts
  unfold cliF at he ⊢
  cases hh : hit (onR w) (yng now l) with
  | some q =>
    obtain ⟨i, t⟩ := q
    obtain ⟨hx, ht⟩ := hit_at hh
    have hi := hit_lt hh
    have htf := (hy.2.1 t (List.mem_of_getElem? hx)).1
    have hcl := cut_len hi
    have hcg := hy.sub (cut_sub (yng now l) i)
    have hmw : ∀ a b, werr (mv g a b) = 0 ∧ (mv g a b).options.length ≤ 1048576 := fun a b => ⟨by rw [werr_mv]; exact hwr, (mv_opts g a b hg.opts hg.data).1⟩
    have hfn := fine_now (x := nowT t now) hy hyl hx ht hnow h0 rfl rfl ⟨htf.1, htf.2.1, hn, htf.2.2.2⟩
    have hak := askS_ok 536 htf
    have hak2 : (askS t 536).options.length ≤ 1048576 := by simp [askS, mssO]
    show Fine l (cliT (yng now l) i t g now)
    generalize yng now l = y at *
    unfold cliT
    cases hasF g 4 <;> cases hasF g 2 <;> cases ho : t.open' <;> cases hasF g 16 <;> simp only [] <;>
      first
        | exact ⟨hcg, (by simp; done), (by simp [hmw]; done), by simp only []; omega⟩
        | exact ⟨hy, (by simp; done), (by simp [hak, hak2]; done), by simp only []; omega⟩
        | exact ⟨hfn.1, (by simp; done), (by simp [hmw]; done), hfn.2⟩
  | none =>
    rw [hh] at he
    have hno := hit_none.1 hh
    have hm := mssO_ok sz
    have hsyn : werr (synS k0 k1 sz w g now) = 0 := bare_ok _ _ 18 65535 (mssO sz) (by rw [hfq]; exact hq) (by rw [hfp]; exact hp) (by decide) (by decide) hm.1 hm.2
    have hrst : werr (rstS g) = 0 := bare_ok _ _ 4 0 [] (by rw [hfq]; exact hq) (by rw [hfp]; exact hp) (by decide) (by decide) rfl (by show 0 ≤ 40; decide)
    have hnf : formG (newT w g now) := ⟨hp, hq, hn, .inr rfl⟩
    have hak := askS_ok (opV k0 k1 w (less1 g.seq) (less1 g.ack) (cntOf now)).1 hnf
    have hnw : (yng now l).length ≠ 64 → GoodG (yng now l ++ [newT w g now]) := fun h64 => good_addG hy (by have := hy.1; omega) hnf h0 hnow (fun z hz => by rw [show rwOf (newT w g now) = w from rfl]; exact hno z hz)
    show Fine l (cliS k0 k1 sz l (yng now l) w g now)
    replace he : (cliS k0 k1 sz l (yng now l) w g now).e = 0 := he
    generalize yng now l = y at *
    have hO : (cliO k0 k1 l y w g now).e = 0 → Fine l (cliO k0 k1 l y w g now) := by
      intro he
      unfold cliO at he ⊢
      by_cases c1 : (opV k0 k1 w (less1 g.seq) (less1 g.ack) (cntOf now)).2 = 0
      · rw [decide_eq_true c1] at he ⊢
        by_cases c2 : (y.length : Int) = 64
        · rw [decide_eq_true c2] at he; cases he
        · rw [decide_eq_false c2]
          exact ⟨hnw (by omega), by simp, by simp [hak]; simp [askS, mssO], by simp; omega⟩
      · rw [decide_eq_false c1]
        exact ⟨hy, by simp, by simp [hrst]; simp [rstS], by simp only []; omega⟩
    unfold cliS at he ⊢
    cases f2 : decide (fl23 g = 2) with
    | true => exact ⟨hy, by simp, by simp [hsyn]; simp [synS, mssO], by simp only []; omega⟩
    | false =>
    rw [f2] at he
    cases f16 : decide (fl23 g = 16) with
    | true => rw [f16] at he; exact hO he
    | false =>
    rw [f16] at he
    cases f17 : decide (fl23 g = 17) with
    | true => rw [f17] at he; exact hO he
    | false => exact ⟨hy, by simp, by simp, by simp only []; omega⟩
theorem fine_srv (l : List TGuarded) (sz : Int) (w : Rw) (g : TSegment) (now : Int) (hg : SegOk g) (hok : OkP sz l w g now) : Fine l (srvF l w g now) := by
  obtain ⟨⟨hz, hgl⟩, hp, hq, hla, hn, hfp, hfq, hwr⟩ := hok
  have hy : GoodG (yng now l) := hgl.sub List.filter_sublist
  have hyl := yng_len now l
  have hnow : ∀ z ∈ yng now l, z.at' ≤ now := fun z hz => Int.le_trans (at_last hgl (List.mem_filter.1 hz).1) hla
  have h0 : 0 ≤ now := by
    have : 0 ≤ lastG l := by
      cases hl : l with
      | nil => exact Int.le_refl _
      | cons x r => have hx : x ∈ l := by rw [hl]; exact List.mem_cons_self
                    have := at_last hgl hx; have := (hgl.2.1 x hx).2; rw [hl] at *; omega
    omega
  unfold srvF
  cases hh : hit (onR (tn w)) (yng now l) with
  | none => exact ⟨hy, by simp, by simp, by simp only []; omega⟩
  | some q =>
    obtain ⟨i, t⟩ := q
    obtain ⟨hx, ht⟩ := hit_at hh
    have hi := hit_lt hh
    have htf := (hy.2.1 t (List.mem_of_getElem? hx)).1
    have hcl := cut_len hi
    have hcg := hy.sub (cut_sub (yng now l) i)
    have hmw : ∀ a b, werr (mv g a b) = 0 ∧ (mv g a b).options.length ≤ 1048576 := fun a b => ⟨by rw [werr_mv]; exact hwr, (mv_opts g a b hg.opts hg.data).1⟩
    have hfn := fine_now (x := nowT t now) hy hyl hx ht hnow h0 rfl rfl ⟨htf.1, htf.2.1, hn, htf.2.2.2⟩
    have hfo := fine_now (x := opnT t g now) hy hyl hx ht hnow h0 rfl rfl ⟨htf.1, htf.2.1, hn, .inl rfl⟩
    have hend : werr (endS t g) = 0 := bare_ok _ _ 4 0 [] (by rw [hfp]; exact hp) (by rw [hfq]; exact hq) (by decide) (by decide) rfl (by show 0 ≤ 40; decide)
    have hack : werr (ackS g) = 0 := bare_ok _ _ 16 65535 [] (by rw [hfq]; exact hq) (by rw [hfp]; exact hp) (by decide) (by decide) rfl (by show 0 ≤ 40; decide)
    have hend2 : (endS t g).options.length ≤ 1048576 := by simp [endS]
    have hack2 : (ackS g).options.length ≤ 1048576 := by simp [ackS]
    show Fine l (srvT (yng now l) i t g now)
    generalize yng now l = y at *
    unfold srvT
    cases hasF g 4 <;> cases ho : t.open' <;> cases hasF g 2 <;> cases hasF g 16 <;> cases decide (g.ack = more1 t.seq) <;> simp only [Bool.and_true, Bool.true_and, Bool.and_false, Bool.false_and] <;>
      first
        | exact ⟨hy, (by simp; done), (by simp; done), by simp only []; omega⟩
        | exact ⟨hcg, (by simp; done), (by simp [hmw, hend, hend2]; done), by simp only []; omega⟩
        | exact ⟨hfn.1, (by simp; done), (by simp [hmw]; done), hfn.2⟩
        | exact ⟨hfo.1, (by simp; done), (by simp [hack, hack2]; done), hfo.2⟩
def bTail (k0 k1 sz : Int) (l : List TGuarded) (r : (Int × (Int × (Int × ((List TGuarded) × ((List TSegment) × ((List TSegment) × (Int × Unit)))))))) : Tr (Bool × Unit) :=
   .opt (β := (Bool × Unit)) ((kProxyLives_fn ())) (fun r2 =>
   .ite (!r2.1) (
    .opt (β := (Bool × Unit)) ((kProxyLives_fn ())) (fun r3 =>
    .ite (r3.1) (
     .ret (decide (IntKind.wrap IntKind.i64 ((↑(List.length r.2.2.2.2.1) : Int) + (↑(List.length r.2.2.2.2.2.1) : Int)) = (0 : Int)), ())) (
     .ret (false, ())))) (
    .ite (!decide (r.2.2.2.2.2.2.1 = (0 : Int))) (
     .opt (β := (Bool × Unit)) ((kProxyLives_fn ())) (fun r3 =>
     .ite (r3.1) (
      .ret (decide (IntKind.wrap IntKind.i64 ((↑(List.length r.2.2.2.2.1) : Int) + (↑(List.length r.2.2.2.2.2.1) : Int)) = (0 : Int)), ())) (
      .ret (false, ())))) (
     .grd (decide (((0 : Nat) + List.length r.2.2.2.2.1) * (88 : Nat) ≤ (140737488355328 : Nat) ∧ (0 : Nat) + List.length r.2.2.2.2.1 ≤ (9223372036854775807 : Nat))) (
     .grd (decide ((List.length r.2.2.2.2.1 + List.length r.2.2.2.2.2.1) * (88 : Nat) ≤ (140737488355328 : Nat) ∧ List.length r.2.2.2.2.1 + List.length r.2.2.2.2.2.1 ≤ (9223372036854775807 : Nat))) (
     .grd (decide (List.length (r.2.2.2.2.1 ++ r.2.2.2.2.2.1) = List.length (r.2.2.2.2.1 ++ r.2.2.2.2.2.1))) (
     .opt (β := ((Bool × Unit) ⊕ ((List TSegment) × ((List TSegment) × (Int × (Int × (Int × ((List TGuarded) × (Int × (Int × (Int × ((List TGuarded) × Unit)))))))))))) ((kBounds_loop10_7 ((0 : Int), (r.2.2.2.2.2.1, (r.2.2.2.2.1, ((↑(List.length (r.2.2.2.2.1 ++ r.2.2.2.2.2.1)) : Int), (r.2.2.2.2.1 ++ r.2.2.2.2.2.1, (k0, (k1, (sz, (l, (r.1, (r.2.1, (r.2.2.1, (r.2.2.2.1, ()))))))))))))))) (fun r3 =>
     .sum (β := (Bool × Unit)) (γ := ((List TSegment) × ((List TSegment) × (Int × (Int × (Int × ((List TGuarded) × (Int × (Int × (Int × ((List TGuarded) × Unit))))))))))) (r3) (fun r4 =>
      .ret (r4.1, ())) (fun r4 =>
      .opt (β := (Int × Unit)) ((rProxyRight_fn (r4.2.2.2.2.2.2.1, (r4.2.2.2.2.2.2.2.1, (r4.2.2.2.2.2.2.2.2.1, (r4.2.2.2.2.2.2.2.2.2.1, ())))))) (fun r5 =>
      .ite (decide (r5.1 = (0 : Int))) (
       .ite (decide (IntKind.wrap IntKind.i64 ((↑(List.length r4.2.1) : Int) + (↑(List.length r4.1) : Int)) ≤ (1 : Int))) (
        .ite (decide ((↑(List.length r4.2.2.2.2.2.2.2.2.2.1) : Int) ≤ IntKind.wrap IntKind.i64 ((↑(List.length r4.2.2.2.2.2.1) : Int) + (1 : Int)))) (
         .ite (decide (r4.2.2.2.2.2.2.1 = r4.2.2.1) && (decide (r4.2.2.2.2.2.2.2.1 = r4.2.2.2.1) && true)) (
          .ret (decide (r4.2.2.2.2.2.2.2.2.1 = r4.2.2.2.2.1), ())) (
          .ret (false, ()))) (
         .ret (false, ()))) (
        .ret (false, ()))) (
       .ret (false, ())))))))))))
theorem b_bad (k0 k1 sz : Int) (l : List TGuarded) (e : Int) (he : e ≠ 0) (a : List TGuarded) : (bTail k0 k1 sz l (rpT k0 k1 sz ⟨a, [], [], e⟩)).eval = some (true, ()) :=
  ev_opt pLives_ok (ev_f rfl (ev_t (nd_t he) (ev_opt pLives_ok (ev_t rfl (ev_r rfl)))))
theorem b_ok (k0 k1 sz : Int) (l : List TGuarded) (r : Rp) (hz : portG sz = true) (hl : l.length ≤ 64) (he : r.e = 0) (hf : Fine l r) : (bTail k0 k1 sz l (rpT k0 k1 sz r)).eval = some (true, ()) := by
  obtain ⟨h1, h2, h3, h4⟩ := hf
  refine ev_opt pLives_ok (ev_f rfl (ev_f (nd_f he) (ev_g (decide_eq_true (show (0 + r.c.length) * 88 ≤ 140737488355328 ∧ 0 + r.c.length ≤ 9223372036854775807 by omega)) (ev_g (decide_eq_true (show (r.c.length + r.s.length) * 88 ≤ 140737488355328 ∧ r.c.length + r.s.length ≤ 9223372036854775807 by omega)) (ev_g (by simp) ?_)))))
  have := loop_all (tag := 100007) (f := fun x => (kBounds_step10_7 x).eval) (l := r.c ++ r.s) (fun i => ((i : Int), (r.s, (r.c, (((r.c ++ r.s).length : Int), (r.c ++ r.s, (k0, (k1, (sz, (l, (k0, (k1, (sz, (r.l, ())))))))))))))) (fun _ _ => True) (Sum.inl (false, ())) (Sum.inr (r.s, (r.c, (k0, (k1, (sz, (l, (k0, (k1, (sz, (r.l, ())))))))))))
      (fun i x hx => by
        have hi := (List.getElem?_eq_some_iff.1 hx).1
        refine ⟨fun _ => ?_, fun h => absurd trivial h⟩
        obtain ⟨w1, w2⟩ := h3 x (List.mem_of_getElem? hx)
        obtain ⟨s, hs⟩ := segText_ok x w1 w2
        have hlen : (r.c ++ r.s).length ≤ 1 := by rw [List.length_append]; exact h2
        show (kBounds_step10_7 _).eval = _
        unfold kBounds_step10_7
        exact ev_t (by simp at hi ⊢; omega) (ev_g (by simp at hi ⊢; omega) (ev_opt (show (r.c ++ r.s)[Int.toNat (i : Int)]? = some x by simpa using hx) (ev_opt hs (ev_f rfl (ev_g (by simp) (ev_r (by rw [next_i64 i (by omega)]))))))))
      (by show (kBounds_step10_7 _).eval = _; exact ev_f (by simp) (ev_r rfl)) 18446744073709551616 (by rw [List.length_append]; omega)
  have hlp : kBounds_loop10_7 ((0 : Int), (r.s, (r.c, (((r.c ++ r.s).length : Int), (r.c ++ r.s, (k0, (k1, (sz, (l, (k0, (k1, (sz, (r.l, ()))))))))))))) = some (Sum.inr (r.s, (r.c, (k0, (k1, (sz, (l, (k0, (k1, (sz, (r.l, ()))))))))))) := by
    rcases this with ⟨_, h⟩ | ⟨h, _⟩
    · exact h
    · exact (h fun _ _ _ => trivial).elim
  refine ev_opt hlp ?_
  show (Tr.opt (rProxyRight_fn (k0, (k1, (sz, (r.l, ()))))) _).eval = _
  have e1 : IntKind.wrap IntKind.i64 ((r.c.length : Int) + (r.s.length : Int)) = (r.c.length : Int) + (r.s.length : Int) := wrap_midG _ (by omega)
  have e2 : IntKind.wrap IntKind.i64 ((l.length : Int) + 1) = (l.length : Int) + 1 := wrap_midG _ (by omega)
  refine ev_opt (right_ok k0 k1 sz r.l hz h1) (ev_t rfl (ev_t ?_ (ev_t ?_ (ev_t ?_ (ev_r ?_)))))
  · show decide (IntKind.wrap IntKind.i64 ((r.c.length : Int) + (r.s.length : Int)) ≤ 1) = true
    rw [e1]; simp; omega
  · show decide ((r.l.length : Int) ≤ IntKind.wrap IntKind.i64 ((l.length : Int) + 1)) = true
    rw [e2]; simp; omega
  · show (decide (k0 = k0) && (decide (k1 = k1) && true)) = true
    simp
  · show (decide (sz = sz), ()) = (true, ())
    simp
theorem bounds_law (k0 k1 sz : Int) (l : List TGuarded) (w : Rw) (g : TSegment) (now : Int) (b : Bool) (hl : l.length ≤ 1048576) (hg : SegOk g) (ha : U32 w.a) (hb : U32 w.b) :
    (kBounds_tree (argP k0 k1 sz l w (g9 g (now, (b, ()))))).eval = some (true, ()) := by
  rcases cli_ex k0 k1 sz l w g now hl hg ha hb with ⟨e, he, _, hc, hs⟩ | ⟨hok, hc, hs⟩
  · refine ev_opt hc ?_
    cases b with
    | true => exact ev_t rfl (ev_opt hs (b_bad k0 k1 sz l e he l))
    | false => exact ev_f rfl (b_bad k0 k1 sz l e he l)
  · refine ev_opt hc ?_
    have hlen := hok.1.2.1
    cases b with
    | true =>
      have he : (srvF l w g now).e = 0 := by
        unfold srvF
        cases hit (onR (tn w)) (yng now l) with
        | none => rfl
        | some q =>
          simp only []
          unfold srvT
          cases hasF g 4 <;> cases q.2.open' <;> cases hasF g 2 <;> cases hasF g 16 <;> cases decide (g.ack = more1 q.2.seq) <;> rfl
      exact ev_t rfl (ev_opt hs (b_ok k0 k1 sz l _ hok.1.1 hlen he (fine_srv l sz w g now hg hok)))
    | false =>
      refine ev_f rfl ?_
      by_cases he : (cliF k0 k1 sz l w g now).e = 0
      · exact b_ok k0 k1 sz l _ hok.1.1 hlen he (fine_cli k0 k1 sz l w g now hg hok he)
      · have : ∃ a e, cliF k0 k1 sz l w g now = ⟨a, [], [], e⟩ := by
          unfold cliF at he ⊢
          cases hh : hit (onR w) (yng now l) with
          | some q =>
            rw [hh] at he
            simp only [] at he ⊢
            unfold cliT at he
            revert he
            cases hasF g 4 <;> cases hasF g 2 <;> cases q.2.open' <;> cases hasF g 16 <;> exact fun he => absurd rfl he
          | none =>
            rw [hh] at he
            simp only [] at he ⊢
            unfold cliS cliO at he ⊢
            revert he
            cases decide (fl23 g = 2) <;> cases decide (fl23 g = 16) <;> cases decide (fl23 g = 17) <;> cases decide ((opV k0 k1 w (less1 g.seq) (less1 g.ack) (cntOf now)).2 = 0) <;> cases decide (((yng now l).length : Int) = 64) <;> first | exact fun he => absurd rfl he | exact fun _ => ⟨_, _, rfl⟩
        obtain ⟨a, e, heq⟩ := this
        rw [heq] at he ⊢
        exact b_bad k0 k1 sz l e he a
theorem kBounds_true {k0 k1 sz : Int} {l : List TGuarded} {wa wb wp wq a0 a1 a2 a3 a4 a5 a6 : Int} {o : List TOption} {e : List UInt8} {now : Int} {b : Bool} (c0 : 0 ≤ k0 ∧ k0 ≤ 18446744073709551615) (c1 : 0 ≤ k1 ∧ k1 ≤ 18446744073709551615) (c2 : I64 sz) (c3 : BndD 6 (D.st 18 l)) (u3 : l.length ≤ 1048576)
    (d0 : 0 ≤ wa ∧ wa ≤ 4294967295) (d1 : 0 ≤ wb ∧ wb ≤ 4294967295) (d2 : I64 wp) (d3 : I64 wq) (b0 : I64 a0) (b1 : I64 a1) (b2 : 0 ≤ a2 ∧ a2 ≤ 4294967295) (b3 : 0 ≤ a3 ∧ a3 ≤ 4294967295) (b4 : I64 a4) (b5 : I64 a5) (b6 : I64 a6) (b7 : BndD 6 (D.st 4 o)) (u7 : o.length ≤ 1048576) (b8 : e.length ≤ 140737488351232) (h : I64 now) :
    (kBounds_tree (k0, (k1, (sz, (l, (wa, (wb, (wp, (wq, (a0, (a1, (a2, (a3, (a4, (a5, (a6, (o, (e, (now, (b, ())))))))))))))))))))).eval = some (true, ()) :=
  bounds_law k0 k1 sz l ⟨wa, wb, wp, wq⟩ ⟨a0, a1, a2, a3, a4, a5, a6, o, e⟩ now b u3 (segOk_of b2 b3 b7 u7) d0 d1
end Go.Proofs.Ytcdcdmfecglemaa.X
