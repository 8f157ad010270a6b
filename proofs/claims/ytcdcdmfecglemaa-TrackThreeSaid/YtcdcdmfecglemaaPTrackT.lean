/- track: whatever comes, a talk along a road goes its three steps: the law TrackThree. Conditions: none. -/
import Derived.Test.YtcdcdmfecglemaaMTrack
import Derived.Test.YtcdcdmfecglemaaPTrackM
namespace Go.Proofs.Ytcdcdmfecglemaa.X
open Go Go.RowKit Go.Proofs.Ytcdcdmfecglemaa.Abs Go.Proofs.Ytcdcdmfecglemaa.Bits
set_option linter.unusedVariables false
set_option linter.unnecessarySimpa false
set_option linter.unusedSimpArgs false
set_option maxRecDepth 100000

theorem tail_pass2 (l : List TTalk) (w : Rd4) (flags now : Int) (hg : Good l) {i : Nat} {x : TTalk} (h : hit (meet w) (Young l now) = some (i, x)) (hr : rstB flags = false) :
    (x.state, x.over) ∈ sts ∧ ∀ P, P = passP (!decide (bits BinOp.and IntKind.i64 flags (2 : Int) = (0 : Int))) (!decide (bits BinOp.and IntKind.i64 flags (16 : Int) = (0 : Int))) (!decide (bits BinOp.and IntKind.i64 flags (1 : Int) = (0 : Int))) (decide (x.from' = w.a) && (decide (x.to = w.b) && (decide (x.fromPort = w.p) && (decide (x.toPort = w.q) && true)))) x.state x.over → (P.2.1, P.2.2) ∈ sts ∧
      (hearTail l w.a w.b w.p w.q flags now).eval = some (if P.1 then ((Young l now).take i ++ (Young l now).drop (i + 1) ++ [⟨x.from', x.to, x.fromPort, x.toPort, P.2.1, P.2.2, now⟩], (true, (0, ()))) else (Young l now, (false, (0, ())))) := by
  have hlen := hg.1
  have hyl : (Young l now).length ≤ 64 := Nat.le_trans (List.length_filter_le _ _) hlen
  have hi := hit_lt h
  have hx := (hit_at h).1
  have hxf := form_st (hg.2.1 x (young_mem.1 (List.mem_of_getElem? hx)).1)
  have hs := stB_sts hxf.2.2.2
  refine ⟨hs, ?_⟩
  rintro P hP0
  unfold rstB at hr
  generalize hsy : (!decide (bits BinOp.and IntKind.i64 flags (2 : Int) = (0 : Int))) = syn
  generalize hac : (!decide (bits BinOp.and IntKind.i64 flags (16 : Int) = (0 : Int))) = ack
  generalize hfi : (!decide (bits BinOp.and IntKind.i64 flags (1 : Int) = (0 : Int))) = fin
  generalize hop : (decide (x.from' = w.a) && (decide (x.to = w.b) && (decide (x.fromPort = w.p) && (decide (x.toPort = w.q) && true)))) = op
  have hp := pass_fn syn ack fin false op x.from' x.to x.fromPort x.toPort x.at' _ hs
  have hq := pass_sts syn ack fin op _ hs
  rw [hsy, hac, hfi, hop] at hP0
  rw [← hP0] at hp hq
  obtain ⟨b, st', ov'⟩ := P
  refine ⟨hq, ?_⟩
  unfold hearTail
  refine ev_g (by simp; omega) (ev_g (by simp) (ev_opt (young_fn now l (by unfold Big; omega)) (ev_opt (placeT_fn (Young l now) w (by unfold Big; omega)) ?_)))
  rw [h]
  show (Tr.ite (decide ((i : Int) < 0)) _ _).eval = _
  refine ev_f (by simp) (ev_g (by simp; exact hi) (ev_opt (b := x) (by simpa using hx) (ev_t (by rw [hr]; rfl) ?_)))
  rw [hsy, hac, hfi, hr, hop]
  refine ev_opt hp ?_
  cases b with
  | false => exact ev_t rfl (ev_r rfl)
  | true =>
    refine ev_f rfl (ev_g (by simp) ?_)
    show (Tr.opt (delTalk_fn ((i : Int), (IntKind.wrap IntKind.i64 ((i : Int) + 1), (Young l now, ())))) _).eval = _
    rw [next_i64 i (by omega)]
    refine ev_opt (delTalk_ok _ i hi) (ev_f (by rfl) (ev_g (decide_eq_true ?_) (ev_r rfl)))
    show (((Young l now).take i ++ (Young l now).drop (i + 1)).length + 1) * 48 ≤ 140737488355328 ∧ ((Young l now).take i ++ (Young l now).drop (i + 1)).length + 1 ≤ 9223372036854775807
    have := (out_sub (Young l now) i).length_le
    omega

/-! ### Steps of a talk -/
abbrev fl (f n : Int) : Int := bits BinOp.and IntKind.i64 f n
theorem fl18 : ∀ f : Fin 256, (decide (fl (f.val : Int) 18 = 18) = ((!decide (fl (f.val : Int) 2 = 0)) && (!decide (fl (f.val : Int) 16 = 0)))) ∧ (decide (fl (f.val : Int) 18 = 16) = ((!decide (fl (f.val : Int) 16 = 0)) && !(!decide (fl (f.val : Int) 2 = 0)))) := by decide +kernel
theorem fl23 : ∀ f : Fin 256, fl (f.val : Int) 23 = 2 → fl (f.val : Int) 4 = 0 := by decide +kernel
theorem fin_of {f : Int} (h0 : 0 ≤ f) (h1 : f ≤ 255) : ∃ k : Fin 256, f = (k.val : Int) := ⟨⟨f.toNat, by omega⟩, by simp; omega⟩
def stepN (step f : Int) : Int := if fl f 4 = 0 then if step = 0 then 1 else if step = 1 then if fl f 18 = 18 then 2 else step else if step = 2 then if fl f 18 = 16 then 3 else step else step else 0
def Rel (step : Int) : Option TTalk → Prop
  | none => step = 0
  | some x => (step = 1 ∧ x.state = 1) ∨ (step = 2 ∧ x.state = 2) ∨ (step = 3 ∧ 3 ≤ x.state)
theorem pass_rel : ∀ (syn ack fin op : Bool), ∀ s ∈ sts, (passP syn ack fin op s.1 s.2).1 = true →
    (s.1 = 1 → (passP syn ack fin op s.1 s.2).2.1 = if (syn && ack) = true then 2 else 1) ∧ (s.1 = 2 → (passP syn ack fin op s.1 s.2).2.1 = if (ack && !syn) = true then 3 else 2) ∧ (3 ≤ s.1 → 3 ≤ (passP syn ack fin op s.1 s.2).2.1) := by decide +kernel
structure GoodZ (t : List TTalk) : Prop where
  g : Good t
  z : ∀ x ∈ t, x.at' = 0
theorem young_z {t : List TTalk} (h : ∀ x ∈ t, x.at' = 0) : Young t 0 = t := by
  refine List.filter_eq_self.2 fun x hx => ?_
  have hz := h x hx
  have : oldB 0 x = false := by
    unfold oldB
    rw [hz]
    split
    · rfl
    · split <;> rfl
  simp [keep, this]
theorem fst_none {p : TTalk → Bool} {l : List TTalk} (h : ∀ x ∈ l, p x = false) : fst p l = none := by
  unfold fst; rw [hit_none.2 h]; rfl
theorem fst_some_of {p : TTalk → Bool} {l : List TTalk} {i : Nat} {x : TTalk} (h : hit p l = some (i, x)) : fst p l = some x := by
  unfold fst; rw [h]; rfl
theorem three_hear {t : List TTalk} (hz : GoodZ t) (w v : Rd4) (f step : Int) (hr : Rel step (fst (meet w) t)) :
    ∃ (a : List TTalk) (ok : Bool) (e : Int), trHear_fn (t, (v.a, (v.b, (v.p, (v.q, (f, (0, ()))))))) = some (a, (ok, (e, ()))) ∧ GoodZ a ∧
      (ok = false → fst (meet w) a = fst (meet w) t ∧ a.length ≤ t.length) ∧
      (ok = true → (v = w ∨ v = turn w) → (step = 0 → fl f 23 = 2) ∧ Rel (stepN step f) (fst (meet w) a)) ∧
      (ok = true → v ≠ w → v ≠ turn w → fst (meet w) a = fst (meet w) t) := by
  have hlen := hz.g.1
  by_cases hin : Good t ∧ InR t v f 0
  case neg =>
    obtain ⟨e, _, he⟩ := hear_bad t v f 0 (by omega) hin
    exact ⟨t, false, e, he, hz, fun _ => ⟨rfl, Nat.le_refl _⟩, fun h => (by cases h), fun h => (by cases h)⟩
  obtain ⟨hg, hI⟩ := hin
  have hy := young_z hz.z
  have hh := hear_good t v f 0 hg hI
  obtain ⟨r1, r2, r3, r4, r5⟩ := hI
  obtain ⟨k, hk⟩ := fin_of r2 r3
  -- along this road: who is met by w is met by v
  have same : (v = w ∨ v = turn w) → meet w = meet v := by
    rintro (rfl | rfl)
    · rfl
    · exact funext fun x => (meet_turn w x).symm
  -- along another one
  have other : v ≠ w → v ≠ turn w → ∀ x, meet v x = true → meet w x = false := by
    intro h1 h2 x hx
    refine meet_other hx (fun e => h1 e.symm) (fun e => h2 ?_)
    rw [e]; exact (turn_turn v).symm
  cases hhit : hit (meet v) t with
  | none =>
    have hno := hit_none.1 hhit
    have ht := tail_none t v f 0 hg (by rw [hy]; exact hhit)
    rw [hy] at ht
    rw [ht] at hh
    cases hs : synOnly f with
    | false =>
      rw [hs] at hh
      exact ⟨t, false, 0, hh, hz, fun _ => ⟨rfl, Nat.le_refl _⟩, fun h => (by cases h), fun h => (by cases h)⟩
    | true =>
      rw [hs] at hh
      by_cases h64 : t.length = 64
      · rw [if_pos rfl, if_pos h64] at hh
        exact ⟨t, false, 6, hh, hz, fun _ => ⟨rfl, Nat.le_refl _⟩, fun h => (by cases h), fun h => (by cases h)⟩
      · rw [if_pos rfl, if_neg h64] at hh
        have hmx : meet v ⟨v.a, v.b, v.p, v.q, 1, 0, 0⟩ = true := meet_iff.2 (.inl rfl)
        refine ⟨_, true, 0, hh, ⟨good_add hg (by omega) (form_mk r1 (Int.le_refl _) (by show (0 : Int) ≤ 1099511627776; decide) rfl) (fun y hy' => by rw [hz.z y hy']; exact Int.le_refl _) hno, fun x hx => ?_⟩, fun h => (by cases h), fun _ hv => ?_, fun _ h1 h2 => ?_⟩
        · rcases List.mem_append.1 hx with h | h
          · exact hz.z x h
          · simp at h; rw [h]
        · have hm := same hv
          rw [hm] at hr ⊢
          rw [fst_none hno] at hr
          have hr' : step = 0 := hr
          have h23 : fl f 23 = 2 := by
            have := syn_flags r2 r3
            rw [hs] at this
            exact of_decide_eq_true this.symm
          refine ⟨fun _ => h23, ?_⟩
          have h4 : fl f 4 = 0 := by rw [hk] at h23 ⊢; exact fl23 k h23
          rw [fst_app, fst_none hno, fst_cons, hmx]
          have : stepN step f = 1 := by unfold stepN; rw [if_pos h4, if_pos hr']
          rw [this]
          exact .inl ⟨rfl, rfl⟩
        · exact fst_one t (other h1 h2 _ hmx)
  | some q =>
    obtain ⟨i, x⟩ := q
    have hx := (hit_at hhit).1
    have hm := (hit_at hhit).2
    have hxm : x ∈ t := List.mem_of_getElem? hx
    have hout := out_none hg v hhit
    cases hrs : rstB f with
    | true =>
      have ht := tail_some t v f 0 hg (by rw [hy]; exact hhit) hrs
      rw [hy] at ht
      rw [ht] at hh
      refine ⟨_, true, 0, hh, ⟨hg.sub (out_sub t i), fun y hy' => hz.z y ((out_sub t i).subset hy')⟩, fun h => (by cases h), fun _ hv => ?_, fun _ h1 h2 => fst_out hx (other h1 h2 _ hm)⟩
      have hmw := same hv
      rw [hmw] at hr ⊢
      rw [fst_some_of hhit] at hr
      rw [fst_none hout]
      have h4 : ¬ fl f 4 = 0 := by unfold rstB at hrs; simpa using hrs
      refine ⟨fun h0 => ?_, ?_⟩
      · rcases hr with h | h | h <;> (rw [h0] at h; exact absurd h.1 (by decide))
      · show stepN step f = 0
        unfold stepN; rw [if_neg h4]
    | false =>
      have h4 : fl f 4 = 0 := by unfold rstB at hrs; simpa using hrs
      obtain ⟨hsts, hP⟩ := tail_pass2 t v f 0 hg (i := i) (x := x) (by rw [hy]; exact hhit) hrs
      obtain ⟨hq, ht⟩ := hP _ rfl
      rw [hy] at ht
      rw [ht] at hh
      have hpr := pass_rel (!decide (bits BinOp.and IntKind.i64 f (2 : Int) = (0 : Int))) (!decide (bits BinOp.and IntKind.i64 f (16 : Int) = (0 : Int))) (!decide (bits BinOp.and IntKind.i64 f (1 : Int) = (0 : Int))) (decide (x.from' = v.a) && (decide (x.to = v.b) && (decide (x.fromPort = v.p) && (decide (x.toPort = v.q) && true)))) _ hsts
      simp only at hpr
      generalize passP (!decide (bits BinOp.and IntKind.i64 f (2 : Int) = (0 : Int))) (!decide (bits BinOp.and IntKind.i64 f (16 : Int) = (0 : Int))) (!decide (bits BinOp.and IntKind.i64 f (1 : Int) = (0 : Int))) (decide (x.from' = v.a) && (decide (x.to = v.b) && (decide (x.fromPort = v.p) && (decide (x.toPort = v.q) && true)))) x.state x.over = P at hq hh hpr
      obtain ⟨b, st', ov'⟩ := P
      cases b with
      | false =>
        exact ⟨t, false, 0, hh, hz, fun _ => ⟨rfl, Nat.le_refl _⟩, fun h => (by cases h), fun h => (by cases h)⟩
      | true =>
        rw [if_pos rfl] at hh
        have hmx : meet v ⟨x.from', x.to, x.fromPort, x.toPort, st', ov', 0⟩ = true := hm
        have hgo : Good (t.take i ++ t.drop (i + 1)) := hg.sub (out_sub t i)
        have hol : (t.take i ++ t.drop (i + 1)).length < 64 := by
          have hi := hit_lt hhit
          simp; omega
        have hxf := form_st (hg.2.1 x hxm)
        refine ⟨_, true, 0, hh, ⟨good_add hgo hol (form_mk hxf.1 (Int.le_refl _) (by show (0 : Int) ≤ 1099511627776; decide) (sts_stB hq)) (fun y hy' => by rw [hz.z y ((out_sub t i).subset hy')]; exact Int.le_refl _) (fun y hy' => ?_), fun y hy' => ?_⟩, fun h => (by cases h), fun _ hv => ?_, fun _ h1 h2 => ?_⟩
        · -- nobody else is met
          have h1 := hout y hy'
          have h2 : meet (rdOf x) y = false := by
            cases hc : meet (rdOf x) y with
            | false => rfl
            | true =>
              have : meet v y = true := by
                rcases meet_iff.1 hm with e | e
                · rw [e] at hc; exact hc
                · rw [e, meet_turn] at hc; exact hc
              rw [this] at h1; cases h1
          exact h2
        · rcases List.mem_append.1 hy' with h | h
          · exact hz.z y ((out_sub t i).subset h)
          · simp at h; rw [h]
        · have hmw := same hv
          rw [hmw] at hr ⊢
          rw [fst_some_of hhit] at hr
          refine ⟨fun h0 => ?_, ?_⟩
          · rcases hr with h | h | h <;> (rw [h0] at h; exact absurd h.1 (by decide))
          rw [fst_app, fst_none hout, fst_cons, hmx]
          show Rel (stepN step f) (some ⟨x.from', x.to, x.fromPort, x.toPort, st', ov', 0⟩)
          obtain ⟨p1, p2, p3⟩ := hpr rfl
          obtain ⟨f1, f2⟩ := fl18 k
          rw [← hk] at f1 f2
          unfold stepN
          rw [if_pos h4]
          rcases hr with ⟨e1, e2⟩ | ⟨e1, e2⟩ | ⟨e1, e2⟩
          · have p := p1 e2
            rw [if_neg (by omega), if_pos e1]
            rw [← f1] at p
            by_cases hc : fl f 18 = 18
            · rw [if_pos hc]; rw [decide_eq_true hc, if_pos rfl] at p; exact .inr (.inl ⟨rfl, p⟩)
            · rw [if_neg hc]; rw [decide_eq_false hc, if_neg (by simp)] at p; exact .inl ⟨e1, p⟩
          · have p := p2 e2
            rw [if_neg (by omega), if_neg (by omega), if_pos e1]
            rw [← f2] at p
            by_cases hc : fl f 18 = 16
            · rw [if_pos hc]; rw [decide_eq_true hc, if_pos rfl] at p
              exact .inr (.inr ⟨rfl, by show (3 : Int) ≤ st'; have p' : st' = 3 := p; omega⟩)
            · rw [if_neg hc]; rw [decide_eq_false hc, if_neg (by simp)] at p; exact .inr (.inl ⟨e1, p⟩)
          · rw [if_neg (by omega), if_neg (by omega), if_neg (by omega)]
            exact .inr (.inr ⟨e1, p3 e2⟩)
        · rw [fst_one _ (other h1 h2 _ hmx)]
          exact fst_out hx (other h1 h2 _ hm)

/-! ### The law's own switch -/
def swR {B : Type} (step f : Int) (O : Int → B) : Tr ((Bool × Unit) ⊕ B) :=
  .ite (!decide (bits BinOp.and IntKind.i64 f (4 : Int) = (0 : Int))) (
    .ret (Sum.inr (O (0 : Int)))) (
    .ite (decide (step = (0 : Int))) (
     .ret (Sum.inr (O (1 : Int)))) (
     .ite (decide (step = (1 : Int))) (
      .ite (decide (bits BinOp.and IntKind.i64 f (18 : Int) = (18 : Int))) (
       .ret (Sum.inr (O (2 : Int)))) (
       .ite (decide (step = (2 : Int))) (
        .ite (decide (bits BinOp.and IntKind.i64 f (18 : Int) = (16 : Int))) (
         .ret (Sum.inr (O (3 : Int)))) (
         .ret (Sum.inr (O step)))) (
        .ret (Sum.inr (O step))))) (
      .ite (decide (step = (2 : Int))) (
       .ite (decide (bits BinOp.and IntKind.i64 f (18 : Int) = (16 : Int))) (
        .ret (Sum.inr (O (3 : Int)))) (
        .ret (Sum.inr (O step)))) (
       .ret (Sum.inr (O step))))))
theorem swR_eval {B : Type} (step f : Int) (O : Int → B) : (swR step f O).eval = some (Sum.inr (O (stepN step f))) := by
  unfold swR stepN
  refine ev_ite (fun h4 => ?_) (fun h4 => ?_)
  · have h : ¬ fl f 4 = 0 := by simpa using h4
    rw [if_neg h]; exact ev_r rfl
  · have h : fl f 4 = 0 := by simpa using h4
    rw [if_pos h]
    refine ev_ite (fun h0 => ?_) (fun h0 => ?_)
    · rw [if_pos (of_decide_eq_true h0)]; exact ev_r rfl
    rw [if_neg (of_decide_eq_false h0)]
    refine ev_ite (fun h1 => ?_) (fun h1 => ?_)
    · have e1 := of_decide_eq_true h1
      rw [if_pos e1]
      refine ev_ite (fun h2 => ?_) (fun h2 => ?_)
      · rw [if_pos (of_decide_eq_true h2)]; exact ev_r rfl
      · rw [if_neg (of_decide_eq_false h2)]
        exact ev_f (by simp; omega) (ev_r rfl)
    rw [if_neg (of_decide_eq_false h1)]
    refine ev_ite (fun h2 => ?_) (fun h2 => ?_)
    · rw [if_pos (of_decide_eq_true h2)]
      refine ev_ite (fun h3 => ?_) (fun h3 => ?_)
      · rw [if_pos (of_decide_eq_true h3)]; exact ev_r rfl
      · rw [if_neg (of_decide_eq_false h3)]; exact ev_r rfl
    · rw [if_neg (of_decide_eq_false h2)]; exact ev_r rfl
def swT {B : Type} (step f : Int) (O : Int → B) : Tr ((Bool × Unit) ⊕ B) :=
  .ite (decide (step = (0 : Int))) (
    .ite (!decide (bits BinOp.and IntKind.i64 f (23 : Int) = (2 : Int))) (
     .ret (Sum.inl (false, ()))) (swR step f O)) (swR step f O)
theorem swT_eval {B : Type} (step f : Int) (O : Int → B) (h : step = 0 → fl f 23 = 2) : (swT step f O).eval = some (Sum.inr (O (stepN step f))) := by
  unfold swT
  refine ev_ite (fun h0 => ?_) (fun _ => swR_eval step f O)
  exact ev_f (by simpa using h (of_decide_eq_true h0)) (swR_eval step f O)
theorem rd_eq4 (v w : Rd4) : (decide (v.a = w.a) && (decide (v.b = w.b) && (decide (v.p = w.p) && (decide (v.q = w.q) && true)))) = decide (v = w) := by
  obtain ⟨a, b, c, d⟩ := v
  obtain ⟨a', b', c', d'⟩ := w
  rw [Bool.eq_iff_iff]
  simp
def roadOf (x : TRoad) : Rd4 := ⟨x.from', x.to, x.fromPort, x.toPort⟩
theorem three_step {roads : List TRoad} {flags : List Int} (hR : roads.length ≤ 100) (hF : roads.length ≤ flags.length) (w : Rd4) {i : Nat} (hi : i < roads.length) {t : List TTalk} {step : Int} (hz : GoodZ t) (hr : Rel step (fst (meet w) t)) :
    ∃ t' step', (trackThree_step3_6 ((i : Int), (step, (flags, (t, (roads, ((roads.length : Int), (w.a, (w.b, (w.p, (w.q, ()))))))))))).eval = some (.inl (((i + 1 : Nat) : Int), (step', (flags, (t', (roads, ((roads.length : Int), (w.a, (w.b, (w.p, (w.q, ()))))))))))) ∧ GoodZ t' ∧ Rel step' (fst (meet w) t') := by
  have hx : roads[i]? = some roads[i] := List.getElem?_eq_getElem hi
  generalize roads[i] = x at hx
  have hf : flags[i]? = some flags[i] := List.getElem?_eq_getElem (by omega)
  generalize flags[i] = f at hf
  obtain ⟨a, ok, e, hh, hza, c1, c2, c3⟩ := three_hear hz w (roadOf x) f step hr
  have hxi : roads[Int.toNat (i : Int)]? = some x := by simpa using hx
  have hfi : flags[Int.toNat (i : Int)]? = some f := by simpa using hf
  -- the step behind it
  obtain ⟨step', hst⟩ : ∃ s : Int, s = if ok = true ∧ (roadOf x = w ∨ roadOf x = turn w) then stepN step f else step := ⟨_, rfl⟩
  have hr' : Rel step' (fst (meet w) a) := by
    rw [hst]
    by_cases h : ok = true ∧ (roadOf x = w ∨ roadOf x = turn w)
    · rw [if_pos h]; exact (c2 h.1 h.2).2
    · rw [if_neg h]
      cases hok : ok with
      | false => rw [(c1 hok).1]; exact hr
      | true =>
        have h' : ¬ (roadOf x = w ∨ roadOf x = turn w) := fun q => h ⟨hok, q⟩
        rw [c3 hok (fun q => h' (.inl q)) (fun q => h' (.inr q))]; exact hr
  refine ⟨a, step', ?_, hza, hr'⟩
  have hlt : ok = false → decide ((t.length : Int) < (a.length : Int)) = false := fun h => by
    have := (c1 h).2
    simp; omega
  have hew := rd_eq4 (roadOf x) w
  have het := rd_eq4 (roadOf x) (turn w)
  have hfnd : trFind_fn (a, (w.a, (w.b, (w.p, (w.q, (0, ())))))) = some (match fst (meet w) a with | none => noT 0 | some y => okT y) := by
    rw [find_good a w 0 hza.g (Int.le_refl _) (by decide), fnd_fst]
    cases hc : fst (meet w) a with
    | none => rfl
    | some y =>
      have hy : y ∈ a := by
        unfold fst at hc
        obtain ⟨q, hq, rfl⟩ := Option.map_eq_some_iff.1 hc
        exact List.mem_of_getElem? (hit_at (i := q.1) (x := q.2) hq).1
      have hyz := hza.z y hy
      have : oldB 0 y = false := by
        unfold oldB
        rw [hyz]
        split
        · rfl
        · split <;> rfl
      simp only [this]
      rfl
  unfold trackThree_step3_6
  refine ev_t (by simp; omega) (ev_g (by simp) (ev_opt hxi (ev_g (by simp) (ev_opt hfi (ev_opt hh (ev_opt (b := Sum.inr (flags, (roads, ((roads.length : Int), ((i : Int), (a, (step, ((i : Int), (ok, (w.a, (w.b, (w.p, (w.q, (x.from', (x.to, (x.fromPort, (x.toPort, ()))))))))))))))))) ?_ ?_))))))
  · refine ev_ite (fun _ => ev_ite (fun hok => ?_) (fun _ => ev_r rfl)) (fun _ => ev_r rfl)
    have hok' : ok = false := by
      have h0 : (!ok) = true := hok
      simpa using h0
    have hl := hlt hok'
    refine ev_ite (fun _ => ev_ite (fun _ => ev_f hl (ev_r rfl)) (fun _ => ev_r rfl)) (fun _ => ?_)
    exact ev_opt rfl (ev_ite (fun _ => ev_ite (fun _ => ev_f hl (ev_r rfl)) (fun _ => ev_r rfl)) (fun _ => ev_r rfl))
  refine ev_opt (b := Sum.inr (step', (flags, (roads, ((roads.length : Int), ((i : Int), (a, (w.a, (w.b, (w.p, (w.q, ()))))))))))) ?_ ?_
  · -- the switch
    have sw := swT_eval (B := Int × ((List Int) × ((List TRoad) × (Int × (Int × ((List TTalk) × (Int × (Int × (Int × (Int × Unit)))))))))) step f (fun s => (s, (flags, (roads, ((roads.length : Int), ((i : Int), (a, (w.a, (w.b, (w.p, (w.q, ())))))))))))
    cases hok : ok with
    | false =>
      rw [hok] at hst
      rw [if_neg (fun h => by cases h.1)] at hst
      rw [hst]
      exact ev_f rfl (ev_f rfl (ev_r rfl))
    | true =>
      rw [hok] at hst
      refine ev_t rfl ?_
      by_cases hvw : roadOf x = w
      · rw [if_pos ⟨rfl, .inl hvw⟩] at hst
        rw [hst]
        rw [decide_eq_true hvw] at hew
        exact ev_t hew (ev_g (by simp) (ev_opt hfi (sw (c2 hok (.inl hvw)).1)))
      · rw [decide_eq_false hvw] at hew
        refine ev_f hew (ev_t rfl (ev_opt (b := (w.b, (w.a, (w.q, (w.p, ()))))) rfl ?_))
        by_cases hvt : roadOf x = turn w
        · rw [if_pos ⟨rfl, .inr hvt⟩] at hst
          rw [hst]
          rw [decide_eq_true hvt] at het
          exact ev_t het (ev_g (by simp) (ev_opt hfi (sw (c2 hok (.inr hvt)).1)))
        · rw [if_neg (fun h => h.2.elim hvw hvt)] at hst
          rw [hst]
          rw [decide_eq_false hvt] at het
          exact ev_f het (ev_r rfl)
  refine ev_opt hfnd ?_
  have hn : IntKind.wrap IntKind.i64 ((i : Int) + (1 : Int)) = ((i + 1 : Nat) : Int) := next_i64 i (by omega)
  cases hc : fst (meet w) a with
  | none =>
    rw [hc] at hr'
    have hr0 : step' = 0 := hr'
    exact ev_f (by show (!(false == decide ((0 : Int) < step'))) = false; rw [hr0]; rfl) (ev_f rfl (ev_r (by show Sum.inl (IntKind.wrap IntKind.i64 ((i : Int) + (1 : Int)), _) = _; rw [hn])))
  | some y =>
    rw [hc] at hr'
    have hpos : 0 < step' := by rcases hr' with h | h | h <;> omega
    refine ev_f (by show (!(true == decide ((0 : Int) < step'))) = false; rw [decide_eq_true hpos]; rfl) (ev_t rfl ?_)
    refine ev_ite (fun h3 => ?_) (fun _ => ev_r (by show Sum.inl (IntKind.wrap IntKind.i64 ((i : Int) + (1 : Int)), _) = _; rw [hn]))
    have h3' : y.state = 3 := of_decide_eq_true h3
    refine ev_f (by show decide (step' < (3 : Int)) = false; rcases hr' with h | h | h <;> (simp; omega)) (ev_r (by show Sum.inl (IntKind.wrap IntKind.i64 ((i : Int) + (1 : Int)), _) = _; rw [hn]))
theorem trackThree_true {roads : List TRoad} {flags : List Int} {a b p q : Int} (b0 : BndD 6 (D.st 26 roads)) (b1 : BndD 6 (D.st 0 flags)) (h1 : 0 ≤ a ∧ a ≤ 4294967295) (h2 : 0 ≤ b ∧ b ≤ 4294967295) (h3 : -9223372036854775808 ≤ p ∧ p ≤ 9223372036854775807) (h4 : -9223372036854775808 ≤ q ∧ q ≤ 9223372036854775807) :
    (trackThree_tree (roads, (flags, (a, (b, (p, (q, ()))))))).eval = some (true, ()) := by
  unfold trackThree_tree
  refine ev_opt trackLives_ok (ev_f rfl ?_)
  by_cases hR : 100 < roads.length
  · exact ev_t (by simp; omega) (ev_opt trackLives_ok (ev_r rfl))
  refine ev_f (by simp; omega) ?_
  by_cases hF : flags.length < roads.length
  · exact ev_t (by simp; omega) (ev_opt trackLives_ok (ev_r rfl))
  refine ev_f (by simp; omega) (ev_opt (b := (b, (a, (q, (p, ()))))) rfl ?_)
  refine ev_ite (fun _ => ev_opt trackLives_ok (ev_r rfl)) (fun _ => ?_)
  have hw : ∀ (A : Int) (B : Int), True := fun _ _ => trivial
  obtain ⟨r, hr, hr2⟩ := loopO_ex (tag := 30006) (f := fun x => (trackThree_step3_6 x).eval)
    (fun s => ∃ (i : Nat) (t : List TTalk) (step : Int), s = ((i : Int), (step, (flags, (t, (roads, ((roads.length : Int), (a, (b, (p, (q, ())))))))))) ∧ i ≤ roads.length ∧ GoodZ t ∧ Rel step (fst (meet ⟨a, b, p, q⟩) t))
    (fun o => o = Sum.inr ()) (fun s => ((roads.length : Int) - s.1).toNat)
    (by
      rintro _ ⟨i, t, step, rfl, hi, hz, hrel⟩
      by_cases hlt : i < roads.length
      · obtain ⟨t', step', e, hz', hr'⟩ := three_step (flags := flags) (by omega) (by omega) ⟨a, b, p, q⟩ hlt hz hrel
        exact .inr ⟨_, e, ⟨i + 1, t', step', rfl, hlt, hz', hr'⟩, by show ((roads.length : Int) - ((i + 1 : Nat) : Int)).toNat < ((roads.length : Int) - (i : Int)).toNat; omega⟩
      · refine .inl ⟨_, ?_, rfl⟩
        show (trackThree_step3_6 _).eval = _
        exact ev_f (by simp; omega) (ev_r rfl)) 18446744073709551616 ((0 : Int), ((0 : Int), (flags, ([], (roads, ((roads.length : Int), (a, (b, (p, (q, ()))))))))))
    ⟨0, [], 0, rfl, Nat.zero_le _, ⟨⟨by simp, by simp, List.Pairwise.nil⟩, by simp⟩, rfl⟩ (by show ((roads.length : Int) - 0).toNat < _; omega)
  rw [hr2] at hr
  exact ev_opt (show trackThree_loop3_6 _ = _ from hr) (ev_r rfl)
end Go.Proofs.Ytcdcdmfecglemaa.X
