/- proxy: the laws ProxyApart and ProxyBlind. Conditions: none. -/
import Derived.Test.YtcdcdmfecglemaaPProxyS
namespace Go.Proofs.Ytcdcdmfecglemaa.X
open Go Go.RowKit Go.Proofs.Ytcdcdmfecglemaa.Abs Go.Proofs.Ytcdcdmfecglemaa.Bits
set_option linter.unusedVariables false
set_option linter.unnecessarySimpa false
set_option linter.unusedSimpArgs false
set_option maxRecDepth 100000

theorem wrap_midG (x : Int) (h : -4611686018427387904 ≤ x ∧ x ≤ 4611686018427387904) : IntKind.wrap IntKind.i64 x = x := by
  simp [IntKind.wrap, IntKind.bits, IntKind.signed]
  split <;> omega
theorem tlk_fst (l : List TGuarded) (w : Rw) : tlk l w = match fst (onR w) l with | some x => gT x true | none => gT zG false := by
  unfold tlk fst
  cases hit (onR w) l <;> rfl
theorem onR_other {w v : Rw} {x : TGuarded} (hx : onR w x = true) (h : v ≠ w) : onR v x = false := by
  cases hv : onR v x with
  | false => rfl
  | true => exact absurd ((onR_iff.1 hv).symm.trans (onR_iff.1 hx)) h
theorem fst_outG {p : TGuarded → Bool} {l : List TGuarded} {i : Nat} {x : TGuarded} (hx : l[i]? = some x) (hp : p x = false) : fst p (cut l i) = fst p l := by
  obtain ⟨hi, rfl⟩ := List.getElem?_eq_some_iff.1 hx
  have e1 : l = l.take i ++ l[i] :: l.drop (i + 1) := by rw [← List.drop_eq_getElem_cons hi, List.take_append_drop]
  have : fst p l = fst p (l.take i ++ l[i] :: l.drop (i + 1)) := congrArg _ e1
  rw [this, cut, fst_app, fst_app, fst_cons, hp]
theorem fst_oneG {p : TGuarded → Bool} (a : List TGuarded) {x : TGuarded} (hp : p x = false) : fst p (a ++ [x]) = fst p a := by
  rw [fst_app, fst_cons, hp]
  show (fst p a).or none = fst p a
  cases fst p a <;> rfl
theorem fst_yng (w : Rw) (now : Int) : ∀ {l : List TGuarded}, l.Pairwise (fun x y => x.at' ≤ y.at' ∧ onR (rwOf x) y = false) → fst (onR w) (yng now l) = match fst (onR w) l with | none => none | some x => if oldG now x = true then none else some x
  | [], _ => rfl
  | x :: r, h => by
    obtain ⟨h1, h2⟩ := List.pairwise_cons.1 h
    have ih := fst_yng w now h2
    rw [fst_cons]
    unfold yng
    cases hx : onR w x with
    | true =>
      have hw : rwOf x = w := onR_iff.1 hx
      have hn : fst (onR w) (r.filter (keepG now)) = none := by
        unfold fst
        rw [hit_none.2 fun y hy => by have := (h1 y (List.mem_filter.1 hy).1).2; rw [hw] at this; exact this]; rfl
      cases ho : oldG now x with
      | true => rw [List.filter_cons_of_neg (by simp [keepG, ho]), hn]; simp [ho]
      | false => rw [List.filter_cons_of_pos (by simp [keepG, ho]), fst_cons, hx]; simp [ho]
    | false =>
      cases ho : oldG now x with
      | true => rw [List.filter_cons_of_neg (by simp [keepG, ho])]; exact ih
      | false => rw [List.filter_cons_of_pos (by simp [keepG, ho]), fst_cons, hx]; exact ih
theorem cliT_same {y : List TGuarded} {i : Nat} {t : TGuarded} (g : TSegment) (now : Int) {w v : Rw} (hx : y[i]? = some t) (ht : onR w t = true) (hv : v ≠ w) : fst (onR v) (cliT y i t g now).l = fst (onR v) y := by
  have ho := onR_other ht hv
  have hn : onR v (nowT t now) = false := ho
  unfold cliT
  cases hasF g 4 <;> cases hasF g 2 <;> cases t.open' <;> cases hasF g 16 <;> first | rfl | exact fst_outG hx ho | exact (fst_oneG _ hn).trans (fst_outG hx ho)
theorem srvT_same {y : List TGuarded} {i : Nat} {t : TGuarded} (g : TSegment) (now : Int) {w v : Rw} (hx : y[i]? = some t) (ht : onR w t = true) (hv : v ≠ w) : fst (onR v) (srvT y i t g now).l = fst (onR v) y := by
  have ho := onR_other ht hv
  have hn : onR v (nowT t now) = false := ho
  have hp : onR v (opnT t g now) = false := ho
  unfold srvT
  cases hasF g 4 <;> cases t.open' <;> cases hasF g 2 <;> cases hasF g 16 <;> cases decide (g.ack = more1 t.seq) <;> first | rfl | exact fst_outG hx ho | exact (fst_oneG _ hn).trans (fst_outG hx ho) | exact (fst_oneG _ hp).trans (fst_outG hx ho)
theorem cliO_same (k0 k1 : Int) (l y : List TGuarded) (w : Rw) (g : TSegment) (now : Int) {v : Rw} (hv : v ≠ w) (he : (cliO k0 k1 l y w g now).e = 0) : fst (onR v) (cliO k0 k1 l y w g now).l = fst (onR v) y := by
  have hn : onR v (newT w g now) = false := onR_other (onR_iff.2 rfl) hv
  unfold cliO at he ⊢
  cases h1 : decide ((opV k0 k1 w (less1 g.seq) (less1 g.ack) (cntOf now)).2 = 0) <;> cases h2 : decide ((y.length : Int) = 64) <;> simp only [h1, h2] at he ⊢ <;> first | exact fst_oneG _ hn | (cases he; done)
theorem cliF_same (k0 k1 sz : Int) (l : List TGuarded) (w : Rw) (g : TSegment) (now : Int) {v : Rw} (hv : v ≠ w) (he : (cliF k0 k1 sz l w g now).e = 0) : fst (onR v) (cliF k0 k1 sz l w g now).l = fst (onR v) (yng now l) := by
  unfold cliF at he ⊢
  cases hh : hit (onR w) (yng now l) with
  | some q => exact cliT_same g now (hit_at (i := q.1) (x := q.2) hh).1 (hit_at (i := q.1) (x := q.2) hh).2 hv
  | none =>
    rw [hh] at he
    simp only [] at he ⊢
    unfold cliS at he ⊢
    cases f2 : decide (fl23 g = 2) <;> cases f16 : decide (fl23 g = 16) <;> cases f17 : decide (fl23 g = 17) <;> simp only [f2, f16, f17] at he ⊢ <;> first | exact cliO_same _ _ _ _ _ _ _ hv he | rfl
theorem srvF_same (l : List TGuarded) (w : Rw) (g : TSegment) (now : Int) {v : Rw} (hv : v ≠ tn w) : fst (onR v) (srvF l w g now).l = fst (onR v) (yng now l) := by
  unfold srvF
  cases hh : hit (onR (tn w)) (yng now l) with
  | some q => exact srvT_same g now (hit_at (i := q.1) (x := q.2) hh).1 (hit_at (i := q.1) (x := q.2) hh).2 hv
  | none => rfl
theorem cliT_len (y : List TGuarded) (i : Nat) (t : TGuarded) (g : TSegment) (now : Int) (hi : i < y.length) : (cliT y i t g now).l.length ≤ y.length := by
  have hcl := cut_len hi
  unfold cliT
  cases hasF g 4 <;> cases hasF g 2 <;> cases t.open' <;> cases hasF g 16 <;> simp <;> omega
theorem srvT_len (y : List TGuarded) (i : Nat) (t : TGuarded) (g : TSegment) (now : Int) (hi : i < y.length) : (srvT y i t g now).l.length ≤ y.length := by
  have hcl := cut_len hi
  unfold srvT
  cases hasF g 4 <;> cases t.open' <;> cases hasF g 2 <;> cases hasF g 16 <;> cases decide (g.ack = more1 t.seq) <;> simp <;> omega
theorem cliO_len (k0 k1 : Int) (l y : List TGuarded) (w : Rw) (g : TSegment) (now : Int) (hy : y.length ≤ l.length) : (cliO k0 k1 l y w g now).l.length ≤ l.length + 1 := by
  unfold cliO
  cases h1 : decide ((opV k0 k1 w (less1 g.seq) (less1 g.ack) (cntOf now)).2 = 0) <;> cases h2 : decide ((y.length : Int) = 64) <;> simp <;> omega
theorem cliF_len (k0 k1 sz : Int) (l : List TGuarded) (w : Rw) (g : TSegment) (now : Int) : (cliF k0 k1 sz l w g now).l.length ≤ l.length + 1 := by
  have hy := yng_len now l
  unfold cliF
  cases hh : hit (onR w) (yng now l) with
  | some q => have := cliT_len (yng now l) q.1 q.2 g now (hit_lt (i := q.1) (x := q.2) hh); simp only []; omega
  | none =>
    simp only []
    unfold cliS
    have := cliO_len k0 k1 l (yng now l) w g now hy
    cases f2 : decide (fl23 g = 2) <;> cases f16 : decide (fl23 g = 16) <;> cases f17 : decide (fl23 g = 17) <;> simp only [] <;> omega
theorem srvF_len (l : List TGuarded) (w : Rw) (g : TSegment) (now : Int) : (srvF l w g now).l.length ≤ l.length := by
  have hy := yng_len now l
  unfold srvF
  cases hh : hit (onR (tn w)) (yng now l) with
  | some q => have := srvT_len (yng now l) q.1 q.2 g now (hit_lt (i := q.1) (x := q.2) hh); simp only []; omega
  | none => exact hy
theorem same_ok (k0 k1 sz : Int) (l : List TGuarded) (hl : l.length ≤ 1048576) : kSameProxy_fn (k0, (k1, (sz, (l, (k0, (k1, (sz, (l, ())))))))) = some (true, ()) := by
  unfold kSameProxy_fn kSameProxy_tree
  have := loop_all (tag := 670004) (f := fun x => (kSameProxy_step67_4 x).eval) (l := l) (fun i => ((i : Int), (l, (l, ((l.length : Int), ()))))) (fun _ _ => True) (Sum.inl (false, ())) (Sum.inr ())
      (fun i x hx => by
        have hi := (List.getElem?_eq_some_iff.1 hx).1
        refine ⟨fun _ => ?_, fun h => absurd trivial h⟩
        show (kSameProxy_step67_4 _).eval = _
        unfold kSameProxy_step67_4
        refine ev_t (by simp; omega) (ev_g (by simp) (ev_opt (show l[Int.toNat (i : Int)]? = some x by simpa using hx) (ev_g (by simp) (ev_opt (show l[Int.toNat (i : Int)]? = some x by simpa using hx) (ev_f (by simp) (ev_r (by rw [next_i64 i (by omega)])))))))
        )
      (by show (kSameProxy_step67_4 _).eval = _; exact ev_f (by simp) (ev_r rfl)) 18446744073709551616 (by omega)
  refine ev_t (by simp) (ev_t (by simp) (ev_f (by simp) ?_))
  rcases this with ⟨h1, h2⟩ | ⟨h1, h2⟩
  · exact ev_opt (show kSameProxy_loop67_4 ((0 : Int), (l, (l, ((l.length : Int), ())))) = _ from h2) (ev_r rfl)
  · exact (h1 fun _ _ _ => trivial).elim

/-! ### Apart -/
def apTail (k0 k1 sz : Int) (l : List TGuarded) (w v : Rw) (now : Int) (t : GT) (r : (Int × (Int × (Int × ((List TGuarded) × ((List TSegment) × ((List TSegment) × (Int × Unit)))))))) : Tr (Bool × Unit) :=
   .opt (β := (Bool × Unit)) ((kProxyLives_fn ())) (fun r3 =>
   .ite (!r3.1) (
    .opt (β := (Bool × Unit)) ((kProxyLives_fn ())) (fun r4 =>
    .ite (r4.1) (
     .ite (decide (r.2.2.2.2.2.2.1 = (0 : Int))) (
      .ret (true, ())) (
      .opt (β := (Bool × Unit)) ((kSameProxy_fn (r.1, (r.2.1, (r.2.2.1, (r.2.2.2.1, (k0, (k1, (sz, (l, ())))))))))) (fun r5 =>
      .ret (r5.1, ())))) (
     .ret (false, ())))) (
    .ite (!decide (r.2.2.2.2.2.2.1 = (0 : Int))) (
     .opt (β := (Bool × Unit)) ((kProxyLives_fn ())) (fun r4 =>
     .ite (r4.1) (
      .ite (decide (r.2.2.2.2.2.2.1 = (0 : Int))) (
       .ret (true, ())) (
       .opt (β := (Bool × Unit)) ((kSameProxy_fn (r.1, (r.2.1, (r.2.2.1, (r.2.2.2.1, (k0, (k1, (sz, (l, ())))))))))) (fun r5 =>
       .ret (r5.1, ())))) (
      .ret (false, ())))) (
     .ite (!t.2.2.2.2.2.2.2.2.2.1) (
      .opt (β := (Bool × Unit)) ((kProxyLives_fn ())) (fun r4 =>
      .ite (r4.1) (
       .ite (decide (r.2.2.2.2.2.2.1 = (0 : Int))) (
        .ret (true, ())) (
        .opt (β := (Bool × Unit)) ((kSameProxy_fn (r.1, (r.2.1, (r.2.2.1, (r.2.2.2.1, (k0, (k1, (sz, (l, ())))))))))) (fun r5 =>
        .ret (r5.1, ())))) (
       .ret (false, ())))) (
      .ite (decide (w.a = v.a) && (decide (w.b = v.b) && (decide (w.p = v.p) && (decide (w.q = v.q) && true)))) (
       .opt (β := (Bool × Unit)) ((kProxyLives_fn ())) (fun r4 =>
       .ite (r4.1) (
        .ite (decide (r.2.2.2.2.2.2.1 = (0 : Int))) (
         .ret (true, ())) (
         .opt (β := (Bool × Unit)) ((kSameProxy_fn (r.1, (r.2.1, (r.2.2.1, (r.2.2.2.1, (k0, (k1, (sz, (l, ())))))))))) (fun r5 =>
         .ret (r5.1, ())))) (
        .ret (false, ())))) (
       .opt (β := (Int × (Int × (Int × (Int × Unit))))) ((kTurn_fn (w.a, (w.b, (w.p, (w.q, ())))))) (fun r4 =>
       .ite (decide (r4.1 = v.a) && (decide (r4.2.1 = v.b) && (decide (r4.2.2.1 = v.p) && (decide (r4.2.2.2.1 = v.q) && true)))) (
        .opt (β := (Bool × Unit)) ((kProxyLives_fn ())) (fun r5 =>
        .ite (r5.1) (
         .ite (decide (r.2.2.2.2.2.2.1 = (0 : Int))) (
          .ret (true, ())) (
          .opt (β := (Bool × Unit)) ((kSameProxy_fn (r.1, (r.2.1, (r.2.2.1, (r.2.2.2.1, (k0, (k1, (sz, (l, ())))))))))) (fun r6 =>
          .ret (r6.1, ())))) (
         .ret (false, ())))) (
        .ite (t.2.2.2.2.2.2.2.1) (
         .opt (β := (Int × (Int × (Int × (Int × (Int × (Int × (Int × (Bool × (Int × (Bool × Unit))))))))))) ((kTalkOf_fn (r.1, (r.2.1, (r.2.2.1, (r.2.2.2.1, (v.a, (v.b, (v.p, (v.q, ())))))))))) (fun r5 =>
         .ite (r5.2.2.2.2.2.2.2.2.2.1 == decide (IntKind.wrap IntKind.i64 (now - t.2.2.2.2.2.2.2.2.1) ≤ (3000 : Int))) (
          .ite (!r5.2.2.2.2.2.2.2.2.2.1) (
           .ret (true, ())) (
           .ret (decide (r5.1 = t.1) && (decide (r5.2.1 = t.2.1) && (decide (r5.2.2.1 = t.2.2.1) && (decide (r5.2.2.2.1 = t.2.2.2.1) && true))) && (decide (r5.2.2.2.2.1 = t.2.2.2.2.1) && (decide (r5.2.2.2.2.2.1 = t.2.2.2.2.2.1) && (decide (r5.2.2.2.2.2.2.1 = t.2.2.2.2.2.2.1) && (r5.2.2.2.2.2.2.2.1 == t.2.2.2.2.2.2.2.1 && (decide (r5.2.2.2.2.2.2.2.2.1 = t.2.2.2.2.2.2.2.2.1) && true))))), ()))) (
          .ret (false, ())))) (
         .opt (β := (Int × (Int × (Int × (Int × (Int × (Int × (Int × (Bool × (Int × (Bool × Unit))))))))))) ((kTalkOf_fn (r.1, (r.2.1, (r.2.2.1, (r.2.2.2.1, (v.a, (v.b, (v.p, (v.q, ())))))))))) (fun r5 =>
         .ite (r5.2.2.2.2.2.2.2.2.2.1 == decide (IntKind.wrap IntKind.i64 (now - t.2.2.2.2.2.2.2.2.1) ≤ (30 : Int))) (
          .ite (!r5.2.2.2.2.2.2.2.2.2.1) (
           .ret (true, ())) (
           .ret (decide (r5.1 = t.1) && (decide (r5.2.1 = t.2.1) && (decide (r5.2.2.1 = t.2.2.1) && (decide (r5.2.2.2.1 = t.2.2.2.1) && true))) && (decide (r5.2.2.2.2.1 = t.2.2.2.2.1) && (decide (r5.2.2.2.2.2.1 = t.2.2.2.2.2.1) && (decide (r5.2.2.2.2.2.2.1 = t.2.2.2.2.2.2.1) && (r5.2.2.2.2.2.2.2.1 == t.2.2.2.2.2.2.2.1 && (decide (r5.2.2.2.2.2.2.2.2.1 = t.2.2.2.2.2.2.2.2.1) && true))))), ()))) (
          .ret (false, ())))))))))))
theorem ap_bad (k0 k1 sz : Int) (l : List TGuarded) (w v : Rw) (now : Int) (t : GT) (r : Rp) (hl : l.length ≤ 1048576) (h : r.e ≠ 0) (hr : r.l = l) : (apTail k0 k1 sz l w v now t (rpT k0 k1 sz r)).eval = some (true, ()) := by
  refine ev_opt pLives_ok (ev_f rfl (ev_t (nd_t h) (ev_opt pLives_ok (ev_t rfl (ev_f (decide_eq_false h) (ev_opt (b := (true, ())) ?_ (ev_r rfl)))))))
  show kSameProxy_fn (k0, (k1, (sz, (r.l, _)))) = _
  rw [hr]; exact same_ok k0 k1 sz l hl
theorem eqG (x : TGuarded) : (decide (x.from' = x.from') && (decide (x.to = x.to) && (decide (x.fromPort = x.fromPort) && (decide (x.toPort = x.toPort) && true))) && (decide (x.seq = x.seq) && (decide (x.cookie = x.cookie) && (decide (x.delta = x.delta) && (x.open' == x.open' && (decide (x.at' = x.at') && true)))))) = true := by simp
theorem ap_ok (k0 k1 sz : Int) (l : List TGuarded) (w v : Rw) (now : Int) (r : Rp) (h : r.e = 0) (hg : GoodG l) (hla : lastG l ≤ now) (hn : now ≤ 1099511627776) (hrl : r.l.length ≤ 1048576) (hs : v ≠ w → v ≠ tn w → fst (onR v) r.l = fst (onR v) (yng now l)) :
    (apTail k0 k1 sz l w v now (tlk l v) (rpT k0 k1 sz r)).eval = some (true, ()) := by
  refine ev_opt pLives_ok (ev_f rfl (ev_f (nd_f h) ?_))
  have ht2 := talkOf_ok k0 k1 sz r.l v hrl
  rw [tlk_fst] at ht2 ⊢
  have hyf := fst_yng v now hg.2.2
  cases hf : fst (onR v) l with
  | none => exact ev_t rfl (ev_opt pLives_ok (ev_t rfl (ev_t (decide_eq_true h) (ev_r rfl))))
  | some x =>
  rw [hf] at hyf
  replace hyf : fst (onR v) (yng now l) = if oldG now x = true then none else some x := hyf
  refine ev_f rfl ?_
  have ew : (decide (w.a = v.a) && (decide (w.b = v.b) && (decide (w.p = v.p) && (decide (w.q = v.q) && true)))) = decide (w = v) := rw_eq ⟨w.a, w.b, w.p, w.q, 0, 0, 0, false, 0⟩ v
  have et : (decide (w.b = v.a) && (decide (w.a = v.b) && (decide (w.q = v.p) && (decide (w.p = v.q) && true)))) = decide (tn w = v) := rw_eq ⟨w.b, w.a, w.q, w.p, 0, 0, 0, false, 0⟩ v
  by_cases h1 : w = v
  · exact ev_t (ew.trans (decide_eq_true h1)) (ev_opt pLives_ok (ev_t rfl (ev_t (decide_eq_true h) (ev_r rfl))))
  refine ev_f (ew.trans (decide_eq_false h1)) (ev_opt (b := (w.b, (w.a, (w.q, (w.p, ()))))) rfl ?_)
  by_cases h2 : tn w = v
  · exact ev_t (et.trans (decide_eq_true h2)) (ev_opt pLives_ok (ev_t rfl (ev_t (decide_eq_true h) (ev_r rfl))))
  refine ev_f (et.trans (decide_eq_false h2)) ?_
  rw [hs (fun e => h1 e.symm) (fun e => h2 e.symm), hyf] at ht2
  have hxl : x ∈ l := by
    have : (hit (onR v) l).map (·.2) = some x := hf
    cases hh : hit (onR v) l with
    | none => rw [hh] at this; cases this
    | some q => rw [hh] at this; cases this; exact List.mem_of_getElem? (hit_at (i := q.1) (x := q.2) hh).1
  have hx0 := hg.2.1 x hxl
  have hxn : x.at' ≤ now := by
    have hlast : x.at' ≤ lastG l := by
      obtain ⟨i, hi, rfl⟩ := List.getElem_of_mem hxl
      obtain ⟨m, hm⟩ : ∃ m, l.length = m + 1 := ⟨l.length - 1, by omega⟩
      have e : lastG l = (l[m]'(by omega)).at' := by
        unfold lastG; simp only [hm, prevG]; rw [List.getElem?_eq_getElem (by omega)]; rfl
      rw [e]
      by_cases him : i = m
      · subst him; exact Int.le_refl _
      · exact ((List.pairwise_iff_getElem.1 hg.2.2) i m hi (by omega) (by omega)).1
    omega
  have hx1 := hx0.1.2.2.1
  have hw : IntKind.wrap IntKind.i64 (now - x.at') = now - x.at' := wrap_midG _ (by have := hx0.2; omega)
  unfold oldG at ht2
  rw [hw] at ht2
  show (Tr.ite x.open' _ _).eval = _
  cases ho : x.open' with
  | true =>
    rw [ho, if_pos rfl] at ht2
    by_cases hc : 3000 < now - x.at'
    · rw [decide_eq_true hc, if_pos rfl] at ht2
      exact ev_t rfl (ev_opt ht2 (ev_t (by show (false == decide (IntKind.wrap IntKind.i64 (now - x.at') ≤ 3000)) = true; rw [hw]; simp; omega) (ev_t rfl (ev_r rfl))))
    · rw [decide_eq_false hc, if_neg (by decide)] at ht2
      exact ev_t rfl (ev_opt ht2 (ev_t (by show (true == decide (IntKind.wrap IntKind.i64 (now - x.at') ≤ 3000)) = true; rw [hw]; simp; omega) (ev_f rfl (ev_r (congrArg (fun b : Bool => (b, ())) (eqG x))))))
  | false =>
    simp only [ho, Bool.false_eq_true, if_false] at ht2
    by_cases hc : 30 < now - x.at'
    · rw [decide_eq_true hc, if_pos rfl] at ht2
      exact ev_f rfl (ev_opt ht2 (ev_t (by show (false == decide (IntKind.wrap IntKind.i64 (now - x.at') ≤ 30)) = true; rw [hw]; simp; omega) (ev_t rfl (ev_r rfl))))
    · rw [decide_eq_false hc, if_neg (by decide)] at ht2
      exact ev_f rfl (ev_opt ht2 (ev_t (by show (true == decide (IntKind.wrap IntKind.i64 (now - x.at') ≤ 30)) = true; rw [hw]; simp; omega) (ev_f rfl (ev_r (congrArg (fun b : Bool => (b, ())) (eqG x))))))
theorem apart_law (k0 k1 sz : Int) (l : List TGuarded) (w v : Rw) (g : TSegment) (now : Int) (b : Bool) (hl : l.length ≤ 1048576) (hg : SegOk g) (ha : U32 w.a) (hb : U32 w.b) :
    (kApart_tree (k0, (k1, (sz, (l, (w.a, (w.b, (w.p, (w.q, (v.a, (v.b, (v.p, (v.q, (g9 g (now, (b, ())))))))))))))))).eval = some (true, ()) := by
  refine ev_opt (talkOf_ok k0 k1 sz l v hl) ?_
  rcases cli_ex k0 k1 sz l w g now hl hg ha hb with ⟨e, he, _, hc, hs⟩ | ⟨hok, hc, hs⟩
  · refine ev_opt hc ?_
    have := ap_bad k0 k1 sz l w v now (tlk l v) ⟨l, [], [], e⟩ hl he rfl
    cases b with
    | true => exact ev_t rfl (ev_opt hs this)
    | false => exact ev_f rfl this
  · refine ev_opt hc ?_
    obtain ⟨⟨hz, hgd⟩, _, _, hla, hn, _⟩ := hok
    have hlen := hgd.1
    have hcl := cliF_len k0 k1 sz l w g now
    have hsl := srvF_len l w g now
    cases b with
    | true =>
      refine ev_t rfl (ev_opt hs ?_)
      have he : (srvF l w g now).e = 0 := by
        unfold srvF
        cases hit (onR (tn w)) (yng now l) with
        | none => rfl
        | some q =>
          simp only []
          unfold srvT
          cases hasF g 4 <;> cases q.2.open' <;> cases hasF g 2 <;> cases hasF g 16 <;> cases decide (g.ack = more1 q.2.seq) <;> rfl
      exact ap_ok k0 k1 sz l w v now _ he hgd hla hn (by omega) fun _ h2 => srvF_same l w g now h2
    | false =>
      refine ev_f rfl ?_
      by_cases he : (cliF k0 k1 sz l w g now).e = 0
      · exact ap_ok k0 k1 sz l w v now _ he hgd hla hn (by omega) fun h1 _ => cliF_same k0 k1 sz l w g now h1 he
      · refine ap_bad k0 k1 sz l w v now (tlk l v) _ hl he ?_
        unfold cliF at he ⊢
        cases hh : hit (onR w) (yng now l) with
        | some q =>
          rw [hh] at he
          simp only [] at he ⊢
          unfold cliT at he
          revert he
          cases hasF g 4 <;> cases hasF g 2 <;> cases q.2.open' <;> cases hasF g 16 <;> exact fun he => absurd rfl he
        | none =>
          rw [hh] at he
          simp only [] at he ⊢
          unfold cliS cliO at he ⊢
          revert he
          cases decide (fl23 g = 2) <;> cases decide (fl23 g = 16) <;> cases decide (fl23 g = 17) <;> cases decide ((opV k0 k1 w (less1 g.seq) (less1 g.ack) (cntOf now)).2 = 0) <;> cases decide (((yng now l).length : Int) = 64) <;> first | exact fun he => absurd rfl he | exact fun _ => rfl
theorem kApart_true {k0 k1 sz : Int} {l : List TGuarded} {wa wb wp wq va vb vp vq a0 a1 a2 a3 a4 a5 a6 : Int} {o : List TOption} {e : List UInt8} {now : Int} {b : Bool} (c0 : 0 ≤ k0 ∧ k0 ≤ 18446744073709551615) (c1 : 0 ≤ k1 ∧ k1 ≤ 18446744073709551615) (c2 : I64 sz) (c3 : BndD 6 (D.st 18 l)) (u3 : l.length ≤ 1048576)
    (d0 : 0 ≤ wa ∧ wa ≤ 4294967295) (d1 : 0 ≤ wb ∧ wb ≤ 4294967295) (d2 : I64 wp) (d3 : I64 wq) (e0 : 0 ≤ va ∧ va ≤ 4294967295) (e1 : 0 ≤ vb ∧ vb ≤ 4294967295) (e2 : I64 vp) (e3 : I64 vq) (b0 : I64 a0) (b1 : I64 a1) (b2 : 0 ≤ a2 ∧ a2 ≤ 4294967295) (b3 : 0 ≤ a3 ∧ a3 ≤ 4294967295) (b4 : I64 a4) (b5 : I64 a5) (b6 : I64 a6) (b7 : BndD 6 (D.st 4 o)) (u7 : o.length ≤ 1048576) (b8 : e.length ≤ 140737488351232) (h : I64 now) :
    (kApart_tree (k0, (k1, (sz, (l, (wa, (wb, (wp, (wq, (va, (vb, (vp, (vq, (a0, (a1, (a2, (a3, (a4, (a5, (a6, (o, (e, (now, (b, ())))))))))))))))))))))))).eval = some (true, ()) :=
  apart_law k0 k1 sz l ⟨wa, wb, wp, wq⟩ ⟨va, vb, vp, vq⟩ ⟨a0, a1, a2, a3, a4, a5, a6, o, e⟩ now b u3 (segOk_of b2 b3 b7 u7) d0 d1
end Go.Proofs.Ytcdcdmfecglemaa.X
