/- track: what its functions compute, in plain terms. Conditions: none. -/
import Derived.Test.YtcdcdmfecglemaaGTrack
import Derived.Test.YtcdcdmfecglemaaPList
import Derived.Test.YtcdcdmfecglemaaAbsQ
import Derived.KernelRfl
namespace Go.Proofs.Ytcdcdmfecglemaa.X
open Go Go.RowKit Go.Proofs.Ytcdcdmfecglemaa.Abs Go.Proofs.Ytcdcdmfecglemaa.Bits
set_option linter.unusedVariables false
set_option linter.unnecessarySimpa false
set_option linter.unusedSimpArgs false

structure Rd4 where (a b p q : Int) deriving DecidableEq
def turn (w : Rd4) : Rd4 := ⟨w.b, w.a, w.q, w.p⟩
def rdOf (x : TTalk) : Rd4 := ⟨x.from', x.to, x.fromPort, x.toPort⟩
def meet (w : Rd4) (x : TTalk) : Bool := decide (rdOf x = w) || decide (rdOf x = turn w)
theorem turn_turn (w : Rd4) : turn (turn w) = w := rfl
theorem rd_eq (x : TTalk) (w : Rd4) : (decide (x.from' = w.a) && (decide (x.to = w.b) && (decide (x.fromPort = w.p) && (decide (x.toPort = w.q) && true)))) = decide (rdOf x = w) := by
  obtain ⟨a, b, p, q⟩ := w
  rw [Bool.eq_iff_iff]
  simp [rdOf]
theorem meet_iff {w : Rd4} {x : TTalk} : meet w x = true ↔ rdOf x = w ∨ rdOf x = turn w := by simp [meet]
theorem meet_turn (w : Rd4) (x : TTalk) : meet (turn w) x = meet w x := by
  unfold meet; rw [turn_turn, Bool.or_comm]
theorem meet_same {w : Rd4} {x y : TTalk} (hx : meet w x = true) (hy : meet w y = true) : meet (rdOf x) y = true := by
  rw [meet_iff] at *
  rcases hx with h | h <;> rcases hy with k | k <;> rw [h, k] <;> simp [turn_turn]
theorem meet_other {w v : Rd4} {x : TTalk} (hx : meet w x = true) (h1 : v ≠ w) (h2 : v ≠ turn w) : meet v x = false := by
  cases h : meet v x with
  | false => rfl
  | true =>
    rw [meet_iff] at hx h
    rcases hx with hx | hx <;> rcases h with h | h <;> rw [hx] at h
    · exact absurd h.symm h1
    · exact absurd (by rw [h]; rfl) h2
    · exact absurd h.symm h2
    · have := congrArg turn h; rw [turn_turn, turn_turn] at this; exact absurd this.symm h1
theorem meet_self (x : TTalk) : meet (rdOf x) x = true := meet_iff.2 (.inl rfl)
theorem turned_fn (w : Rd4) : trTurned_fn (w.a, (w.b, (w.p, (w.q, ())))) = some ((turn w).a, ((turn w).b, ((turn w).p, ((turn w).q, ())))) := rfl
abbrev Big : Nat := 8796093022208
theorem placeT_fn (l : List TTalk) (w : Rd4) (hl : l.length < Big) : trPlace_fn (l, (w.a, (w.b, (w.p, (w.q, ()))))) = some ((match hit (meet w) l with | some q => (q.1 : Int) | none => -1), ()) := by
  unfold Big at hl
  unfold trPlace_fn trPlace_tree
  have := loop_hit (tag := 430002) (f := fun x => (trPlace_step43_2 x).eval) (l := l) (fun i => ((i : Int), (l, ((l.length : Int), (w.a, (w.b, (w.p, (w.q, ())))))))) (meet w)
      (fun q => match q with | some q => Sum.inl ((q.1 : Int), (w.a, (w.b, (w.p, (w.q, ()))))) | none => Sum.inr (w.a, (w.b, (w.p, (w.q, ())))))
      (fun i x hx => by
        have hi := (List.getElem?_eq_some_iff.1 hx).1
        show (trPlace_step43_2 _).eval = _
        unfold trPlace_step43_2
        refine ev_t (by simp; omega) (ev_g (by simp) (ev_opt (show l[Int.toNat (i : Int)]? = some x by simpa using hx) ?_))
        unfold meet
        cases h1 : decide (rdOf x = w) with
        | true => exact ev_t (by rw [rd_eq x w]; exact h1) (ev_t rfl (ev_r rfl))
        | false =>
          refine ev_f (by rw [rd_eq x w]; exact h1) (ev_opt (turned_fn w) ?_)
          cases h2 : decide (rdOf x = turn w) with
          | true => exact ev_t (show _ = true from (rd_eq x (turn w)).trans h2) (ev_r rfl)
          | false => exact ev_f (show _ = false from (rd_eq x (turn w)).trans h2) (ev_r (by rw [next_i64 i (by omega)])))
      (by show (trPlace_step43_2 _).eval = _; exact ev_f (by simp) (ev_r rfl)) 18446744073709551616 (by omega)
  refine ev_opt (show trPlace_loop43_2 ((0 : Int), (l, ((l.length : Int), (w.a, (w.b, (w.p, (w.q, ()))))))) = _ from this) ?_
  cases hit (meet w) l <;> rfl
def portB (x : Int) : Bool := decide ((0 : Int) ≤ x) && decide (x ≤ (65535 : Int))
theorem port_fn (x : Int) : trPort_fn (x, ()) = some (portB x, ()) := by
  simp only [trPort_fn, trPort_tree, portB, Tr.eval, cond_and]
def roadB (w : Rd4) : Bool := portB w.p && (portB w.q && !decide (w = turn w))
theorem road_fn (w : Rd4) : trRoad_fn (w.a, (w.b, (w.p, (w.q, ())))) = some (roadB w, ()) := by
  have e : (decide (w.a = (turn w).a) && (decide (w.b = (turn w).b) && (decide (w.p = (turn w).p) && (decide (w.q = (turn w).q) && true)))) = decide (w = turn w) := rd_eq ⟨w.a, w.b, w.p, w.q, 0, 0, 0⟩ (turn w)
  unfold trRoad_fn trRoad_tree roadB
  refine ev_opt (port_fn w.p) ?_
  cases portB w.p with
  | false => exact ev_f rfl (ev_r rfl)
  | true =>
    refine ev_t rfl (ev_opt (port_fn w.q) ?_)
    cases portB w.q with
    | false => exact ev_f rfl (ev_r rfl)
    | true => exact ev_t rfl (ev_opt (turned_fn w) (ev_r (by rw [← e]; rfl)))
def stB (x : TTalk) : Bool := if x.state = 1 then decide (x.over = 0) else if x.state = 2 then decide (x.over = 0) else if x.state = 3 then decide ((0 : Int) ≤ x.over) && decide (x.over ≤ (2 : Int)) else if x.state = 4 then decide (x.over = 3) else false
def formB (x : TTalk) : Bool := roadB (rdOf x) && (decide (0 ≤ x.at') && (decide (x.at' ≤ 1099511627776) && stB x))
theorem form_fn (x : TTalk) : trForm_fn (x.from', (x.to, (x.fromPort, (x.toPort, (x.state, (x.over, (x.at', ()))))))) = some (formB x, ()) := by
  unfold trForm_fn trForm_tree formB
  refine ev_opt (road_fn (rdOf x)) ?_
  cases roadB (rdOf x) with
  | false => exact ev_t rfl (ev_r rfl)
  | true =>
    refine ev_f rfl ?_
    by_cases h1 : x.at' < 0
    · exact ev_t (by simpa using h1) (ev_r (by simp; omega))
    refine ev_f (by simpa using h1) ?_
    by_cases h2 : 1099511627776 < x.at'
    · exact ev_t (by simpa using h2) (ev_r (by simp; omega))
    refine ev_f (by simpa using h2) ?_
    rw [show decide (0 ≤ x.at') = true by simp; omega, show decide (x.at' ≤ 1099511627776) = true by simp; omega]
    unfold stB
    by_cases g1 : x.state = 1
    · exact ev_t (by simpa using g1) (ev_r (by rw [if_pos g1]; simp))
    refine ev_f (by simpa using g1) ?_
    by_cases g2 : x.state = 2
    · exact ev_t (by simpa using g2) (ev_r (by rw [if_neg g1, if_pos g2]; simp))
    refine ev_f (by simpa using g2) ?_
    by_cases g3 : x.state = 3
    · refine ev_t (by simpa using g3) ?_
      rw [if_neg g1, if_neg g2, if_pos g3]
      by_cases k : 0 ≤ x.over
      · exact ev_t (by simpa using k) (ev_r (by simp [k]))
      · exact ev_f (by simpa using k) (ev_r (by simp [k]))
    refine ev_f (by simpa using g3) ?_
    by_cases g4 : x.state = 4
    · exact ev_t (by simpa using g4) (ev_r (by rw [if_neg g1, if_neg g2, if_neg g3, if_pos g4]; simp))
    · exact ev_f (by simpa using g4) (ev_r (by rw [if_neg g1, if_neg g2, if_neg g3, if_neg g4]; simp))
def oldB (now : Int) (x : TTalk) : Bool := if x.state = 3 then decide ((3000 : Int) < IntKind.wrap IntKind.i64 (now - x.at')) else if x.state = 4 then decide ((60 : Int) < IntKind.wrap IntKind.i64 (now - x.at')) else decide ((30 : Int) < IntKind.wrap IntKind.i64 (now - x.at'))
theorem old_fn (now : Int) (x : TTalk) : trOld_fn (x.from', (x.to, (x.fromPort, (x.toPort, (x.state, (x.over, (x.at', (now, ())))))))) = some (oldB now x, ()) := by
  unfold trOld_fn trOld_tree oldB
  by_cases g3 : x.state = 3
  · exact ev_t (by simpa using g3) (ev_r (by rw [if_pos g3]))
  refine ev_f (by simpa using g3) ?_
  by_cases g4 : x.state = 4
  · exact ev_t (by simpa using g4) (ev_r (by rw [if_neg g3, if_pos g4]))
  · exact ev_f (by simpa using g4) (ev_r (by rw [if_neg g3, if_neg g4]))

/-! ### Right tracks -/
def Good (l : List TTalk) : Prop := l.length ≤ 64 ∧ (∀ x ∈ l, formB x = true) ∧ l.Pairwise (fun x y => x.at' ≤ y.at' ∧ meet (rdOf x) y = false)
theorem Good.sub {l l' : List TTalk} (h : Good l) (hs : l'.Sublist l) : Good l' :=
  ⟨Nat.le_trans hs.length_le h.1, fun x hx => h.2.1 x (hs.subset hx), h.2.2.sublist hs⟩
/-- What the check asks of the one at a place. -/
def At (l : List TTalk) (i : Nat) (x : TTalk) : Prop := formB x = true ∧ (∀ y, 0 < i → l[i - 1]? = some y → y.at' ≤ x.at') ∧ (hit (meet (rdOf x)) l).map (·.1) = some i
theorem good_at {l : List TTalk} : (l.length ≤ 64 ∧ ∀ i x, l[i]? = some x → At l i x) ↔ Good l := by
  constructor
  · rintro ⟨h1, h2⟩
    refine ⟨h1, fun x hx => ?_, ?_⟩
    · obtain ⟨i, hi, rfl⟩ := List.getElem_of_mem hx
      exact (h2 i _ (List.getElem?_eq_getElem hi)).1
    · rw [List.pairwise_iff_getElem]
      intro i j hi hj hij
      refine ⟨?_, ?_⟩
      · have key : ∀ d, ∀ (k : Nat) (hk : k < l.length), k = i + d → l[i].at' ≤ l[k].at' := by
          intro d
          induction d with
          | zero => intro k hk e; subst e; exact Int.le_refl _
          | succ d ih =>
            intro k hk e
            have := (h2 k _ (List.getElem?_eq_getElem hk)).2.1 l[k - 1] (by omega) (List.getElem?_eq_getElem (by omega))
            exact Int.le_trans (ih (k - 1) (by omega) (by omega)) this
        exact key (j - i) j hj (by omega)
      · cases hm : meet (rdOf l[i]) l[j] with
        | false => rfl
        | true =>
          have h3 := (h2 j _ (List.getElem?_eq_getElem hj)).2.2
          have h4 : meet (rdOf l[j]) l[i] = true := meet_same (w := rdOf l[i]) hm (meet_self _)
          have e : l = l.take i ++ l[i] :: l.drop (i + 1) := by rw [← List.drop_eq_getElem_cons hi, List.take_append_drop]
          exfalso
          rw [show hit (meet (rdOf l[j])) l = hit (meet (rdOf l[j])) (l.take i ++ l[i] :: l.drop (i + 1)) from congrArg _ e, hit_app] at h3
          simp only [hit, h4, Option.map_some] at h3
          cases h5 : hit (meet (rdOf l[j])) (l.take i) with
          | none => rw [h5] at h3; simp at h3; omega
          | some q =>
            rw [h5] at h3
            have := hit_lt (i := q.1) (x := q.2) h5
            simp at h3 this; omega
  · rintro ⟨h1, h2, h3⟩
    refine ⟨h1, fun i x hx => ⟨h2 x (List.mem_of_getElem? hx), fun y hi hy => ?_, ?_⟩⟩
    · obtain ⟨hi', rfl⟩ := List.getElem?_eq_some_iff.1 hx
      obtain ⟨hj', rfl⟩ := List.getElem?_eq_some_iff.1 hy
      exact ((List.pairwise_iff_getElem.1 h3) (i - 1) i hj' hi' (by omega)).1
    · obtain ⟨hi', rfl⟩ := List.getElem?_eq_some_iff.1 hx
      have e : l = l.take i ++ l[i] :: l.drop (i + 1) := by rw [← List.drop_eq_getElem_cons hi', List.take_append_drop]
      have hn : hit (meet (rdOf l[i])) (l.take i) = none := hit_none.2 fun y hy => by
        obtain ⟨j, hj, rfl⟩ := List.getElem_of_mem hy
        have hj2 : j < i := by simp at hj; omega
        rw [List.getElem_take]
        have := ((List.pairwise_iff_getElem.1 h3) j i (by omega) hi' hj2).2
        cases hm : meet (rdOf l[i]) l[j] with
        | false => rfl
        | true => rw [meet_same hm (meet_self _)] at this; cases this
      generalize hx : l[i] = x at *
      conv => lhs; rw [e]
      rw [hit_app, hn]
      simp only [hit, meet_self, Option.map_some, Option.none_or]
      simp; omega
/-- A loop that asks something of each. -/
theorem loop_all {A B T : Type} {tag : Nat} {f : A → Option (A ⊕ B)} {l : List T} (st : Nat → A) (p : Nat → T → Prop) (bad good : B)
    (h1 : ∀ (i : Nat) (x : T), l[i]? = some x → (p i x → f (st i) = some (.inl (st (i + 1)))) ∧ (¬ p i x → f (st i) = some (.inr bad)))
    (h2 : f (st l.length) = some (.inr good)) (n : Nat) (hn : l.length < n) : ((∀ i x, l[i]? = some x → p i x) ∧ loopO tag f n (st 0) = some good) ∨ ((¬ ∀ i x, l[i]? = some x → p i x) ∧ loopO tag f n (st 0) = some bad) := by
  have key : ∀ (c k n : Nat), k + c = l.length → c < n → ((∀ i x, k ≤ i → l[i]? = some x → p i x) ∧ loopO tag f n (st k) = some good) ∨ ((¬ ∀ i x, l[i]? = some x → p i x) ∧ loopO tag f n (st k) = some bad) := by
    intro c
    induction c with
    | zero =>
      intro k n hk hn
      obtain ⟨n, rfl⟩ : ∃ m, n = m + 1 := ⟨n - 1, by omega⟩
      have : k = l.length := by omega
      subst this
      refine .inl ⟨fun i x hi hx => ?_, loopO_out h2⟩
      have := (List.getElem?_eq_some_iff.1 hx).1
      omega
    | succ c ih =>
      intro k n hk hn
      obtain ⟨n, rfl⟩ : ∃ m, n = m + 1 := ⟨n - 1, by omega⟩
      have hkl : k < l.length := by omega
      obtain ⟨g1, g2⟩ := h1 k l[k] (List.getElem?_eq_getElem hkl)
      by_cases hp : p k l[k]
      · rcases ih (k + 1) n (by omega) (by omega) with ⟨a1, a2⟩ | ⟨a1, a2⟩
        · refine .inl ⟨fun i x hi hx => ?_, by rw [loopO_in (g1 hp)]; exact a2⟩
          by_cases e : i = k
          · subst e; rw [List.getElem?_eq_getElem hkl] at hx; cases hx; exact hp
          · exact a1 i x (by omega) hx
        · exact .inr ⟨a1, by rw [loopO_in (g1 hp)]; exact a2⟩
      · exact .inr ⟨fun hall => hp (hall k _ (List.getElem?_eq_getElem hkl)), loopO_out (g2 hp)⟩
  rcases key l.length 0 n (by omega) hn with ⟨a1, a2⟩ | h
  · exact .inl ⟨fun i x hx => a1 i x (by omega) hx, a2⟩
  · exact .inr h
theorem checkT_fn (l : List TTalk) : ∃ c : Int, trCheck_fn (l, ()) = some (c, ()) ∧ (c = 0 ↔ Good l) := by
  unfold trCheck_fn trCheck_tree
  by_cases hl : 64 < l.length
  · exact ⟨2, ev_t (by simp; omega) (ev_r rfl), ⟨fun h => (by cases h), fun h => by have := h.1; omega⟩⟩
  have := loop_all (tag := 340004) (f := fun x => (trCheck_step34_4 x).eval) (l := l) (fun i => ((i : Int), (l, (l, ((l.length : Int), ()))))) (At l) (Sum.inl ((4 : Int), ())) (Sum.inr ())
      (fun i x hx => by
        have hi := (List.getElem?_eq_some_iff.1 hx).1
        have hp := placeT_fn l (rdOf x) (by unfold Big; omega)
        -- the last question
        have last : ∀ (T : Tr ((Int × ((List TTalk) × ((List TTalk) × (Int × Unit)))) ⊕ ((Int × Unit) ⊕ Unit))), T = (.opt (β := (Int × Unit)) ((trPlace_fn (l, (x.from', (x.to, (x.fromPort, (x.toPort, ()))))))) (fun r2 =>
             .ite (!decide (r2.1 = (i : Int))) (
              .ret (Sum.inr (Sum.inl ((4 : Int), ())))) (
              .ret (Sum.inl (IntKind.wrap IntKind.i64 ((i : Int) + (1 : Int)), (l, (l, ((l.length : Int), ())))))))) →
             ((hit (meet (rdOf x)) l).map (·.1) = some i → T.eval = some (.inl (((i + 1 : Nat) : Int), (l, (l, ((l.length : Int), ())))))) ∧ (¬ (hit (meet (rdOf x)) l).map (·.1) = some i → T.eval = some (.inr (Sum.inl ((4 : Int), ())))) := by
          rintro T rfl
          refine ⟨fun h => ?_, fun h => ?_⟩
          · refine ev_opt hp ?_
            cases h2 : hit (meet (rdOf x)) l with
            | none => rw [h2] at h; cases h
            | some q =>
              rw [h2] at h
              have : q.1 = i := by simpa using h
              exact ev_f (by simp [this]) (ev_r (by rw [next_i64 i (by omega)]))
          · refine ev_opt hp ?_
            cases h2 : hit (meet (rdOf x)) l with
            | none => exact ev_t (by simp <;> omega) (ev_r rfl)
            | some q =>
              rw [h2] at h
              have : ¬ q.1 = i := by simpa using h
              exact ev_t (by simp <;> omega) (ev_r rfl)
        show (At l i x → (trCheck_step34_4 _).eval = _) ∧ (¬ At l i x → (trCheck_step34_4 _).eval = _)
        unfold trCheck_step34_4
        by_cases h0 : 0 < i
        · have hy : l[i - 1]? = some l[i - 1] := List.getElem?_eq_getElem (by omega)
          refine ⟨fun hA => ?_, fun hA => ?_⟩
          · refine ev_t (by simp; omega) (ev_g (by simp) (ev_opt (show l[Int.toNat (i : Int)]? = some x by simpa using hx) (ev_opt (form_fn x) (ev_f (by simp [hA.1]) (ev_t (by simp; omega) ?_)))))
            rw [prev_i64 i h0 (by omega)]
            refine ev_g (by simp) (ev_opt (b := l[i - 1]) (by simpa using hy) (ev_f (by simp; exact hA.2.1 _ h0 hy) ((last _ rfl).1 hA.2.2)))
          · refine ev_t (by simp; omega) (ev_g (by simp) (ev_opt (show l[Int.toNat (i : Int)]? = some x by simpa using hx) (ev_opt (form_fn x) ?_)))
            cases hf : formB x with
            | false => exact ev_t rfl (ev_r rfl)
            | true =>
              refine ev_f rfl (ev_t (by simp; omega) ?_)
              rw [prev_i64 i h0 (by omega)]
              refine ev_g (by simp) (ev_opt (b := l[i - 1]) (by simpa using hy) ?_)
              by_cases hlt : x.at' < l[i - 1].at'
              · exact ev_t (by simpa using hlt) (ev_r rfl)
              · refine ev_f (by simpa using hlt) ((last _ rfl).2 fun h => hA ⟨hf, fun y _ hy2 => ?_, h⟩)
                rw [hy] at hy2; cases hy2; omega
        · have h00 : i = 0 := by omega
          subst h00
          refine ⟨fun hA => ?_, fun hA => ?_⟩
          · exact ev_t (by simp; omega) (ev_g (by simp) (ev_opt (show l[Int.toNat ((0 : Nat) : Int)]? = some x by simpa using hx) (ev_opt (form_fn x) (ev_f (by simp [hA.1]) (ev_f (by simp) ((last _ rfl).1 hA.2.2))))))
          · refine ev_t (by simp; omega) (ev_g (by simp) (ev_opt (show l[Int.toNat ((0 : Nat) : Int)]? = some x by simpa using hx) (ev_opt (form_fn x) ?_)))
            cases hf : formB x with
            | false => exact ev_t rfl (ev_r rfl)
            | true => exact ev_f rfl (ev_f (by simp) ((last _ rfl).2 fun h => hA ⟨hf, fun y h1 _ => by omega, h⟩)))
      (by show (trCheck_step34_4 _).eval = _; exact ev_f (by simp) (ev_r rfl)) 18446744073709551616 (by omega)
  rcases this with ⟨h1, h2⟩ | ⟨h1, h2⟩
  · exact ⟨0, ev_f (by simp; omega) (ev_opt (show trCheck_loop34_4 ((0 : Int), (l, (l, ((l.length : Int), ())))) = _ from h2) rfl), ⟨fun _ => good_at.1 ⟨by omega, h1⟩, fun _ => rfl⟩⟩
  · exact ⟨4, ev_f (by simp; omega) (ev_opt (show trCheck_loop34_4 ((0 : Int), (l, (l, ((l.length : Int), ())))) = _ from h2) rfl), ⟨fun h => (by cases h), fun h => (h1 (good_at.2 h).2).elim⟩⟩
end Go.Proofs.Ytcdcdmfecglemaa.X
