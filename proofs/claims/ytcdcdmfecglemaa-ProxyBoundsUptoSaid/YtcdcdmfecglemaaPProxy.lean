/- proxy: what its functions compute, in plain terms (1). Conditions: none. -/
import Derived.Test.YtcdcdmfecglemaaGProxy
import Derived.Test.YtcdcdmfecglemaaPTcpMA
import Derived.Test.YtcdcdmfecglemaaPCookJ
import Derived.Test.YtcdcdmfecglemaaPCook
import Derived.Test.YtcdcdmfecglemaaPDel
namespace Go.Proofs.Ytcdcdmfecglemaa.X
open Go Go.RowKit Go.Proofs.Ytcdcdmfecglemaa.Abs Go.Proofs.Ytcdcdmfecglemaa.Bits
set_option linter.unusedVariables false
set_option linter.unnecessarySimpa false
set_option linter.unusedSimpArgs false
set_option maxRecDepth 100000

structure Rw where (a b p q : Int) deriving DecidableEq
def tn (w : Rw) : Rw := ⟨w.b, w.a, w.q, w.p⟩
def rwOf (x : TGuarded) : Rw := ⟨x.from', x.to, x.fromPort, x.toPort⟩
def onR (w : Rw) (x : TGuarded) : Bool := decide (rwOf x = w)
theorem rw_eq (x : TGuarded) (w : Rw) : (decide (x.from' = w.a) && (decide (x.to = w.b) && (decide (x.fromPort = w.p) && (decide (x.toPort = w.q) && true)))) = onR w x := by
  obtain ⟨a, b, p, q⟩ := w
  unfold onR
  rw [Bool.eq_iff_iff]
  simp [rwOf]
theorem onR_iff {w : Rw} {x : TGuarded} : onR w x = true ↔ rwOf x = w := by simp [onR]
theorem onR_self (x : TGuarded) : onR (rwOf x) x = true := onR_iff.2 rfl
abbrev BigP : Nat := 1048577
def plc (w : Rw) (l : List TGuarded) : Int := match hit (onR w) l with | some q => (q.1 : Int) | none => -1
theorem place_ok (k0 k1 sz : Int) (l : List TGuarded) (w : Rw) (hl : l.length < BigP) : prPlace_fn (k0, (k1, (sz, (l, (w.a, (w.b, (w.p, (w.q, ())))))))) = some (plc w l, ()) := by
  unfold BigP at hl
  unfold prPlace_fn prPlace_tree plc
  have := loop_hit (tag := 500002) (f := fun x => (prPlace_step50_2 x).eval) (l := l) (fun i => ((i : Int), (l, ((l.length : Int), (w.a, (w.b, (w.p, (w.q, ())))))))) (onR w)
      (fun q => match q with | some q => Sum.inl ((q.1 : Int), (w.a, (w.b, (w.p, (w.q, ()))))) | none => Sum.inr (w.a, (w.b, (w.p, (w.q, ())))))
      (fun i x hx => by
        have hi := (List.getElem?_eq_some_iff.1 hx).1
        show (prPlace_step50_2 _).eval = _
        unfold prPlace_step50_2
        refine ev_t (by simp; omega) (ev_g (by simp) (ev_opt (show l[Int.toNat (i : Int)]? = some x by simpa using hx) ?_))
        cases h1 : onR w x with
        | true => exact ev_t (by rw [rw_eq x w]; exact h1) (ev_r rfl)
        | false => exact ev_f (by rw [rw_eq x w]; exact h1) (ev_r (by rw [next_i64 i (by omega)])))
      (by show (prPlace_step50_2 _).eval = _; exact ev_f (by simp) (ev_r rfl)) 18446744073709551616 (by omega)
  refine ev_opt (show prPlace_loop50_2 ((0 : Int), (l, ((l.length : Int), (w.a, (w.b, (w.p, (w.q, ()))))))) = _ from this) ?_
  cases hit (onR w) l <;> rfl
def portG (x : Int) : Bool := decide ((0 : Int) ≤ x) && decide (x ≤ (65535 : Int))
theorem portG_ok (x : Int) : prPort_fn (x, ()) = some (portG x, ()) := by
  simp only [prPort_fn, prPort_tree, portG, Tr.eval, cond_and]
theorem turned_ok (w : Rw) : prTurned_fn (w.a, (w.b, (w.p, (w.q, ())))) = some ((tn w).a, ((tn w).b, ((tn w).p, ((tn w).q, ())))) := rfl
def oldG (now : Int) (x : TGuarded) : Bool := if x.open' = true then decide ((3000 : Int) < IntKind.wrap IntKind.i64 (now - x.at')) else decide ((30 : Int) < IntKind.wrap IntKind.i64 (now - x.at'))
theorem oldG_fn (now : Int) (x : TGuarded) : prOld_fn (x.from', (x.to, (x.fromPort, (x.toPort, (x.seq, (x.cookie, (x.delta, (x.open', (x.at', (now, ())))))))))) = some (oldG now x, ()) := by
  unfold prOld_fn prOld_tree oldG
  cases h : x.open' with
  | true => exact ev_t rfl (ev_r (by simp))
  | false => exact ev_f rfl (ev_r (by simp))
/-! ### The young ones -/
abbrev keepG (now : Int) (x : TGuarded) : Bool := !oldG now x
theorem compactP (now : Int) (l : List TGuarded) (hl : l.length < BigP) : ∀ (c j i : Nat) (L : List TGuarded) (n : Nat), j + c = l.length → c < n → L.length = l.length → i ≤ j → L.take i = (l.take j).filter (keepG now) → L.drop j = l.drop j →
    ∃ (i' : Nat) (L' : List TGuarded), loopO 740005 (fun x => (dfGuard_step74_5 x).eval) n ((j : Int), ((i : Int), (L, (now, ())))) = some ((i' : Int), (L', (now, ()))) ∧ L'.length = l.length ∧ i' ≤ l.length ∧ L'.take i' = l.filter (keepG now) := by
  unfold BigP at hl
  intro c
  induction c with
  | zero =>
    intro j i L n hj hn hL hij ht hd
    obtain ⟨n, rfl⟩ : ∃ m, n = m + 1 := ⟨n - 1, by omega⟩
    have : j = l.length := by omega
    subst this
    refine ⟨i, L, loopO_out (ev_f (by simp; omega) (ev_g (by simp) (ev_r rfl))), hL, hij, ?_⟩
    rw [ht, List.take_length]
  | succ c ih =>
    intro j i L n hj hn hL hij ht hd
    obtain ⟨n, rfl⟩ : ∃ m, n = m + 1 := ⟨n - 1, by omega⟩
    have hjl : j < l.length := by omega
    have hx : L[j]? = l[j]? := by have := congrArg (·[0]?) hd; simpa using this
    have hxl : l[j]? = some l[j] := List.getElem?_eq_getElem hjl
    generalize hxx : l[j] = x at hxl
    rw [hxl] at hx
    have hi : L[i]? = some L[i] := List.getElem?_eq_getElem (by omega)
    have hfil : (l.take (j + 1)).filter (keepG now) = (l.take j).filter (keepG now) ++ [x].filter (keepG now) := by
      rw [List.take_add_one, hxl, List.filter_append]; rfl
    have hdd : L.drop (j + 1) = l.drop (j + 1) := by rw [← List.drop_drop, hd, List.drop_drop]
    cases ho : oldG now x with
    | true =>
      have hs : (dfGuard_step74_5 ((j : Int), ((i : Int), (L, (now, ()))))).eval = some (.inl (((j + 1 : Nat) : Int), ((i : Int), (L, (now, ()))))) := by
        unfold dfGuard_step74_5
        exact ev_t (by simp; omega) (ev_g (by simp; omega) (ev_opt (b := x) (by simpa using hx) (ev_opt (oldG_fn now x) (ev_f (by simp [ho]) (ev_g (by simp) (ev_r (by rw [next_i64 j (by omega)])))))))
      rw [loopO_in hs]
      refine ih (j + 1) i L n (by omega) (by omega) hL (by omega) ?_ hdd
      rw [hfil, ht]; simp [keepG, ho]
    | false =>
      have hs : (dfGuard_step74_5 ((j : Int), ((i : Int), (L, (now, ()))))).eval = some (.inl (((j + 1 : Nat) : Int), (((i + 1 : Nat) : Int), (L.set i x, (now, ()))))) := by
        unfold dfGuard_step74_5
        exact ev_t (by simp; omega) (ev_g (by simp; omega) (ev_opt (b := x) (by simpa using hx) (ev_opt (oldG_fn now x) (ev_t (by simp [ho]) (ev_g (by simp; omega) (ev_opt (b := L[i]) (by simpa using hi) (ev_g (by simp) (ev_r (by rw [next_i64 j (by omega), next_i64 i (by omega)]; rfl)))))))))
      rw [loopO_in hs]
      refine ih (j + 1) (i + 1) (L.set i x) n (by omega) (by omega) (by simpa using hL) (by omega) ?_ ?_
      · rw [hfil, ← ht, List.take_add_one, List.take_set_of_le (Nat.le_refl i), List.getElem?_set_self (by omega)]
        simp [keepG, ho]
      · rw [List.drop_set_of_lt (by omega), hdd]
theorem youngP (now : Int) (l : List TGuarded) (hl : l.length < BigP) : dfGuard_fn (now, (l, ())) = some (now, (l.filter (keepG now), ())) := by
  have hl' := hl
  unfold BigP at hl'
  unfold dfGuard_fn dfGuard_tree
  have := loop_hit (tag := 500002) (f := fun x => (dfGuard_step50_2 x).eval) (l := l) (fun i => ((i : Int), (l, ((l.length : Int), (now, ()))))) (oldG now)
      (fun q => match q with | some q => Sum.inl ((q.1 : Int), (now, ())) | none => Sum.inr (now, ()))
      (fun i x hx => by
        have hi := (List.getElem?_eq_some_iff.1 hx).1
        show (dfGuard_step50_2 _).eval = _
        unfold dfGuard_step50_2
        refine ev_t (by simp; omega) (ev_g (by simp) (ev_opt (show l[Int.toNat (i : Int)]? = some x by simpa using hx) (ev_opt (oldG_fn now x) ?_)))
        cases oldG now x with
        | true => exact ev_t rfl (ev_r rfl)
        | false => exact ev_f rfl (ev_r (by rw [next_i64 i (by omega)])))
      (by show (dfGuard_step50_2 _).eval = _; exact ev_f (by simp) (ev_r rfl)) 18446744073709551616 (by omega)
  refine ev_opt (show dfGuard_loop50_2 ((0 : Int), (l, ((l.length : Int), (now, ())))) = _ from this) ?_
  cases h : hit (oldG now) l with
  | none =>
    have hall := hit_none.1 h
    have e : l.filter (keepG now) = l := List.filter_eq_self.2 fun x hx => by simp [keepG, hall x hx]
    rw [e]
    exact ev_t rfl (ev_g (by simp) (ev_r rfl))
  | some q =>
    obtain ⟨i, x⟩ := q
    have hi := hit_lt h
    have hx := hit_at h
    have e1 : l = l.take i ++ x :: l.drop (i + 1) := by
      obtain ⟨_, rfl⟩ := List.getElem?_eq_some_iff.1 hx.1
      rw [← List.drop_eq_getElem_cons hi, List.take_append_drop]
    have hpre : ∀ y ∈ l.take i, oldG now y = false := by
      have : hit (oldG now) l = hit (oldG now) (l.take i ++ x :: l.drop (i + 1)) := congrArg _ e1
      rw [hit_app] at this
      cases h3 : hit (oldG now) (l.take i) with
      | none => exact hit_none.1 h3
      | some q =>
        have h4 := hit_lt (i := q.1) (x := q.2) h3
        rw [h, h3] at this
        simp at this h4
        have := congrArg Prod.fst this
        simp at this; omega
    have ht : l.take i = (l.take (i + 1)).filter (keepG now) := by
      rw [List.take_add_one, hx.1, List.filter_append, List.filter_eq_self.2 fun y hy => by simp [keepG, hpre y hy]]
      simp [keepG, hx.2]
    obtain ⟨i', L', hlp, h1, h2, h3⟩ := compactP now l hl (l.length - (i + 1)) (i + 1) i l 18446744073709551616 (by omega) (by omega) rfl (by omega) ht rfl
    show (Tr.ite (decide ((i : Int) = -1)) _ _).eval = _
    refine ev_f (by simp) (ev_g (by simp) ?_)
    rw [next_i64 i (by omega)]
    refine ev_opt (show dfGuard_loop74_5 _ = _ from hlp) ?_
    have e4 : ∀ (Y Z : List TGuarded), List.take i' (List.take i' L' ++ Y ++ Z) = List.take i' L' := fun Y Z => by
      rw [List.append_assoc, List.take_append_of_le_length (by simp; omega), List.take_take, Nat.min_self]
    simp only [Int.toNat_natCast, e4]
    simp only [h3]
    have hfl : (l.filter (keepG now)).length = i' := by rw [← h3]; simp; omega
    exact ev_g (by simp; omega) (ev_g (by simp; omega) (ev_g (by simp; omega) (ev_g (by simp [hfl]) (ev_r rfl))))
theorem delGuard_ok (l : List TGuarded) (i : Nat) (hi : i < l.length) : delGuard_fn ((i : Int), (((i + 1 : Nat) : Int), (l, ()))) = some (l.take i ++ l.drop (i + 1), ()) := by
  unfold delGuard_fn delGuard_tree
  have hj : Int.toNat ((l.length : Int) - ((i + 1 : Nat) : Int)) = l.length - (i + 1) := by omega
  have hB : (List.take (l.length - (i + 1)) (List.drop (i + 1) l)).length = l.length - (i + 1) := by simp
  simp only [Int.toNat_natCast, hj]
  refine ev_g (by simp; omega) (ev_f (by simp; omega) (ev_g (by simp; omega) (ev_g (by simp; omega) (ev_g (by simp; omega) (ev_g (by rw [hB]; simp; omega) ?_)))))
  refine ev_g (by simp [hB]; omega) (ev_g (by simp [hB]; omega) (ev_g (by simp [hB]; omega) (ev_r ?_)))
  simp only [del_eq l i (i + 1) (by omega) (by omega)]


/-! ### Right proxies -/
def formG (x : TGuarded) : Prop := portG x.fromPort = true ∧ portG x.toPort = true ∧ x.at' ≤ 1099511627776 ∧ (x.open' = true ∨ x.delta = 0)
def GoodG (l : List TGuarded) : Prop := l.length ≤ 64 ∧ (∀ x ∈ l, formG x ∧ 0 ≤ x.at') ∧ l.Pairwise (fun x y => x.at' ≤ y.at' ∧ onR (rwOf x) y = false)
theorem GoodG.sub {l l' : List TGuarded} (h : GoodG l) (hs : l'.Sublist l) : GoodG l' :=
  ⟨Nat.le_trans hs.length_le h.1, fun x hx => h.2.1 x (hs.subset hx), h.2.2.sublist hs⟩
/-- The time ahead of a place. -/
def prevG (l : List TGuarded) : Nat → Int
  | 0 => 0
  | j + 1 => (l[j]?.map (·.at')).getD 0
def AtG (l : List TGuarded) (i : Nat) (x : TGuarded) : Prop := formG x ∧ prevG l i ≤ x.at' ∧ plc (rwOf x) l = i
theorem goodG_at {l : List TGuarded} : (l.length ≤ 64 ∧ ∀ i x, l[i]? = some x → AtG l i x) ↔ GoodG l := by
  constructor
  · rintro ⟨h1, h2⟩
    have key : ∀ d, ∀ (i k : Nat) (hi : i < l.length) (hk : k < l.length), k = i + d → l[i].at' ≤ l[k].at' := by
      intro d
      induction d with
      | zero => intro i k hi hk e; subst e; exact Int.le_refl _
      | succ d ih =>
        intro i k hi hk e
        have := (h2 k _ (List.getElem?_eq_getElem hk)).2.1
        obtain ⟨k', rfl⟩ : ∃ m, k = m + 1 := ⟨k - 1, by omega⟩
        simp only [prevG, List.getElem?_eq_getElem (show k' < l.length by omega), Option.map_some, Option.getD_some] at this
        exact Int.le_trans (ih i k' hi (by omega) (by omega)) this
    have zero : ∀ (k : Nat) (hk : k < l.length), 0 ≤ l[k].at' := by
      intro k hk
      have h0 := (h2 0 _ (List.getElem?_eq_getElem (by omega))).2.1
      exact Int.le_trans h0 (key k 0 k (by omega) hk (by omega))
    refine ⟨h1, fun x hx => ?_, ?_⟩
    · obtain ⟨i, hi, rfl⟩ := List.getElem_of_mem hx
      exact ⟨(h2 i _ (List.getElem?_eq_getElem hi)).1, zero i hi⟩
    · rw [List.pairwise_iff_getElem]
      intro i j hi hj hij
      refine ⟨key (j - i) i j hi hj (by omega), ?_⟩
      cases hm : onR (rwOf l[i]) l[j] with
      | false => rfl
      | true =>
        have h3 := (h2 j _ (List.getElem?_eq_getElem hj)).2.2
        have h4 : onR (rwOf l[j]) l[i] = true := onR_iff.2 (onR_iff.1 hm).symm
        have e : l = l.take i ++ l[i] :: l.drop (i + 1) := by rw [← List.drop_eq_getElem_cons hi, List.take_append_drop]
        exfalso
        unfold plc at h3
        rw [show hit (onR (rwOf l[j])) l = hit (onR (rwOf l[j])) (l.take i ++ l[i] :: l.drop (i + 1)) from congrArg _ e, hit_app] at h3
        simp only [hit, h4, Option.map_some] at h3
        cases h5 : hit (onR (rwOf l[j])) (l.take i) with
        | none => rw [h5] at h3; simp at h3; omega
        | some q =>
          rw [h5] at h3
          have := hit_lt (i := q.1) (x := q.2) h5
          simp at h3 this; omega
  · rintro ⟨h1, h2, h3⟩
    refine ⟨h1, fun i x hx => ⟨(h2 x (List.mem_of_getElem? hx)).1, ?_, ?_⟩⟩
    · obtain ⟨hi', rfl⟩ := List.getElem?_eq_some_iff.1 hx
      cases i with
      | zero => exact (h2 _ (List.getElem_mem _)).2
      | succ i =>
        simp only [prevG, List.getElem?_eq_getElem (show i < l.length by omega), Option.map_some, Option.getD_some]
        exact ((List.pairwise_iff_getElem.1 h3) i (i + 1) (by omega) hi' (by omega)).1
    · obtain ⟨hi', rfl⟩ := List.getElem?_eq_some_iff.1 hx
      have e : l = l.take i ++ l[i] :: l.drop (i + 1) := by rw [← List.drop_eq_getElem_cons hi', List.take_append_drop]
      have hn : hit (onR (rwOf l[i])) (l.take i) = none := hit_none.2 fun y hy => by
        obtain ⟨j, hj, rfl⟩ := List.getElem_of_mem hy
        have hj2 : j < i := by simp at hj; omega
        rw [List.getElem_take]
        have := ((List.pairwise_iff_getElem.1 h3) j i (by omega) hi' hj2).2
        cases hm : onR (rwOf l[i]) l[j] with
        | false => rfl
        | true => rw [onR_iff.2 (onR_iff.1 hm).symm] at this; cases this
      generalize hx : l[i] = x at *
      unfold plc
      rw [show hit (onR (rwOf x)) l = hit (onR (rwOf x)) (l.take i ++ x :: l.drop (i + 1)) from congrArg _ e, hit_app, hn]
      simp only [hit, onR_self, Option.map_some, Option.none_or]
      simp; omega
theorem check_ok (k0 k1 sz : Int) (l : List TGuarded) : ∃ c : Int, prCheck_fn (k0, (k1, (sz, (l, ())))) = some (c, ()) ∧ (c = 0 ↔ portG sz = true ∧ GoodG l) := by
  unfold prCheck_fn prCheck_tree
  cases hz : portG sz with
  | false => exact ⟨1, ev_opt (portG_ok sz) (ev_t (by rw [hz]; rfl) (ev_r rfl)), ⟨fun h => (by cases h), fun h => by cases h.1⟩⟩
  | true =>
  by_cases hl : 64 < l.length
  · exact ⟨2, ev_opt (portG_ok sz) (ev_f (by rw [hz]; rfl) (ev_t (by simp; omega) (ev_r rfl))), ⟨fun h => (by cases h), fun h => by have := h.2.1; omega⟩⟩
  have := loop_all (tag := 270007) (f := fun x => (prCheck_step27_7 x).eval) (l := l) (fun i => ((i : Int), (prevG l i, (l, ((l.length : Int), (k0, (k1, (sz, (l, ())))))))))
      (AtG l) (Sum.inl ((4 : Int), ())) (Sum.inr ())
      (fun i x hx => by
        have hi := (List.getElem?_eq_some_iff.1 hx).1
        have hp := place_ok k0 k1 sz l (rwOf x) (by unfold BigP; omega)
        have hnx : prevG l (i + 1) = x.at' := by simp only [prevG, hx, Option.map_some, Option.getD_some]
        have last : ∀ (T : Tr ((Int × (Int × ((List TGuarded) × (Int × (Int × (Int × (Int × ((List TGuarded) × Unit)))))))) ⊕ ((Int × Unit) ⊕ Unit))), T = (.opt (β := (Int × Unit)) ((prPlace_fn (k0, (k1, (sz, (l, (x.from', (x.to, (x.fromPort, (x.toPort, ())))))))))) (fun r3 =>
             .ite (!decide (r3.1 = (i : Int))) (
              .ret (Sum.inr (Sum.inl ((4 : Int), ())))) (
              .ret (Sum.inl (IntKind.wrap IntKind.i64 ((i : Int) + (1 : Int)), (x.at', (l, ((l.length : Int), (k0, (k1, (sz, (l, ()))))))))))) ) →
             (plc (rwOf x) l = i → T.eval = some (.inl (((i + 1 : Nat) : Int), (prevG l (i + 1), (l, ((l.length : Int), (k0, (k1, (sz, (l, ())))))))))) ∧ (¬ plc (rwOf x) l = i → T.eval = some (.inr (Sum.inl ((4 : Int), ())))) := by
          rintro T rfl
          refine ⟨fun h => ?_, fun h => ?_⟩
          · exact ev_opt hp (ev_f (by simp [h]) (ev_r (by rw [next_i64 i (by omega), hnx])))
          · exact ev_opt hp (ev_t (by simpa using h) (ev_r rfl))
        show (AtG l i x → (prCheck_step27_7 _).eval = _) ∧ (¬ AtG l i x → (prCheck_step27_7 _).eval = _)
        unfold prCheck_step27_7
        refine ⟨fun hA => ?_, fun hA => ?_⟩
        · obtain ⟨⟨a1, a2, a3, a4⟩, a5, a6⟩ := hA
          refine ev_t (by simp; omega) (ev_g (by simp) (ev_opt (show l[Int.toNat (i : Int)]? = some x by simpa using hx) (ev_opt (portG_ok _) (ev_f (by simp [a1]) (ev_opt (portG_ok _) (ev_f (by simp [a2]) (ev_f (by simp; omega) (ev_f (by simp; omega) ?_))))))))
          cases ho : x.open' with
          | true => exact ev_f (by simp [ho]) ((last _ rfl).1 a6)
          | false => exact ev_t (by simp [ho]) (ev_f (by rw [ho] at a4; simpa using a4) ((last _ rfl).1 a6))
        · refine ev_t (by simp; omega) (ev_g (by simp) (ev_opt (show l[Int.toNat (i : Int)]? = some x by simpa using hx) (ev_opt (portG_ok _) ?_)))
          cases a1 : portG x.fromPort with
          | false => exact ev_t rfl (ev_r rfl)
          | true =>
          refine ev_f rfl (ev_opt (portG_ok _) ?_)
          cases a2 : portG x.toPort with
          | false => exact ev_t rfl (ev_r rfl)
          | true =>
          refine ev_f rfl ?_
          by_cases a5 : x.at' < prevG l i
          · exact ev_t (by simpa using a5) (ev_r rfl)
          refine ev_f (by simpa using a5) ?_
          by_cases a3 : 1099511627776 < x.at'
          · exact ev_t (by simpa using a3) (ev_r rfl)
          refine ev_f (by simpa using a3) ?_
          cases ho : x.open' with
          | true => exact ev_f (by simp [ho]) ((last _ rfl).2 fun h => hA ⟨⟨a1, a2, by omega, .inl ho⟩, by omega, h⟩)
          | false =>
            refine ev_t (by simp [ho]) ?_
            by_cases a4 : x.delta = 0
            · exact ev_f (by simpa using a4) ((last _ rfl).2 fun h => hA ⟨⟨a1, a2, by omega, .inr a4⟩, by omega, h⟩)
            · exact ev_t (by simpa using a4) (ev_r rfl))
      (by show (prCheck_step27_7 _).eval = _; exact ev_f (by simp) (ev_r rfl)) 18446744073709551616 (by omega)
  rcases this with ⟨h1, h2⟩ | ⟨h1, h2⟩
  · exact ⟨0, ev_opt (portG_ok sz) (ev_f (by rw [hz]; rfl) (ev_f (by simp; omega) (ev_opt (show prCheck_loop27_7 ((0 : Int), ((0 : Int), (l, ((l.length : Int), (k0, (k1, (sz, (l, ())))))))) = _ from h2) rfl))), ⟨fun _ => ⟨rfl, goodG_at.1 ⟨by omega, h1⟩⟩, fun _ => rfl⟩⟩
  · exact ⟨4, ev_opt (portG_ok sz) (ev_f (by rw [hz]; rfl) (ev_f (by simp; omega) (ev_opt (show prCheck_loop27_7 ((0 : Int), ((0 : Int), (l, ((l.length : Int), (k0, (k1, (sz, (l, ())))))))) = _ from h2) rfl))), ⟨fun h => (by cases h), fun h => (h1 (goodG_at.2 h.2).2).elim⟩⟩
end Go.Proofs.Ytcdcdmfecglemaa.X
