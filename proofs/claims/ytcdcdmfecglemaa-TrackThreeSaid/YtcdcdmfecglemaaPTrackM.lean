/- The law TrackApart, in plain terms. Conditions: none. -/
import Derived.Test.YtcdcdmfecglemaaPTrackL
namespace Go.Proofs.Ytcdcdmfecglemaa.X
open Go Go.RowKit Go.Proofs.Ytcdcdmfecglemaa.Abs Go.Proofs.Ytcdcdmfecglemaa.Bits
set_option linter.unusedVariables false
set_option linter.unnecessarySimpa false
set_option linter.unusedSimpArgs false
set_option maxRecDepth 100000

def openP (ack syn fin op : Bool) (st ov : Int) : Bool × (Int × Int) :=
  if !ack || syn then (false, (st, ov)) else
    let ov' : Int := if fin then if op then bits BinOp.or IntKind.i64 ov (1 : Int) else bits BinOp.or IntKind.i64 ov (2 : Int) else ov
    (true, (if ov' = 3 then 4 else if (3 : Int) > st then 3 else st, ov'))
def passP (syn ack fin op : Bool) (st ov : Int) : Bool × (Int × Int) :=
  if decide (st ≤ 2) && (op && syn && !ack && !fin) then (true, (st, ov))
  else if decide (st ≤ 2) && (!op && syn && ack && !fin) then (true, (2, ov))
  else if decide (st = 1) || (decide (st = 2) && !op) then (false, (st, ov))
  else openP ack syn fin op st ov
def sts : List (Int × Int) := [(1, 0), (2, 0), (3, 0), (3, 1), (3, 2), (4, 3)]
theorem pass_fn (syn ack fin rst op : Bool) (a b p q at' : Int) : ∀ s ∈ sts, trPasses_fn (syn, (ack, (fin, (rst, (op, (a, (b, (p, (q, (s.1, (s.2, (at', ())))))))))))) = some ((passP syn ack fin op s.1 s.2).1, (a, (b, (p, (q, ((passP syn ack fin op s.1 s.2).2.1, ((passP syn ack fin op s.1 s.2).2.2, (at', ()))))))))  := by
  intro s hs
  simp only [sts, List.mem_cons, List.not_mem_nil, or_false] at hs
  rcases hs with rfl | rfl | rfl | rfl | rfl | rfl <;> cases syn <;> cases ack <;> cases fin <;> cases rst <;> cases op <;> kernel_rfl
theorem pass_sts : ∀ (syn ack fin op : Bool), ∀ s ∈ sts, ((passP syn ack fin op s.1 s.2).2.1, (passP syn ack fin op s.1 s.2).2.2) ∈ sts := by decide +kernel
theorem stB_sts {x : TTalk} (h : stB x = true) : (x.state, x.over) ∈ sts := by
  unfold stB at h
  simp only [sts, List.mem_cons, List.not_mem_nil, or_false, Prod.mk.injEq]
  split at h
  · simp at h; omega
  · split at h
    · simp at h; omega
    · split at h
      · simp at h; omega
      · split at h
        · simp at h; omega
        · cases h
theorem sts_stB {x : TTalk} (h : (x.state, x.over) ∈ sts) : stB x = true := by
  simp only [sts, List.mem_cons, List.not_mem_nil, or_false, Prod.mk.injEq] at h
  unfold stB
  rcases h with ⟨h, k⟩ | ⟨h, k⟩ | ⟨h, k⟩ | ⟨h, k⟩ | ⟨h, k⟩ | ⟨h, k⟩ <;> rw [h, k] <;> rfl
theorem form_st {x : TTalk} (h : formB x = true) : roadB (rdOf x) = true ∧ 0 ≤ x.at' ∧ x.at' ≤ 1099511627776 ∧ stB x = true := by
  simpa only [formB, Bool.and_eq_true, decide_eq_true_eq] using h
theorem form_mk {x : TTalk} (h1 : roadB (rdOf x) = true) (h2 : 0 ≤ x.at') (h3 : x.at' ≤ 1099511627776) (h4 : stB x = true) : formB x = true := by
  simp only [formB, Bool.and_eq_true, decide_eq_true_eq]
  exact ⟨h1, h2, h3, h4⟩
theorem tail_pass (l : List TTalk) (w : Rd4) (flags now : Int) (hg : Good l) {i : Nat} {x : TTalk} (h : hit (meet w) (Young l now) = some (i, x)) (hr : rstB flags = false) :
    ∃ (b : Bool) (x' : TTalk), rdOf x' = rdOf x ∧ x'.at' = now ∧ stB x' = true ∧ (hearTail l w.a w.b w.p w.q flags now).eval = some (if b then ((Young l now).take i ++ (Young l now).drop (i + 1) ++ [x'], (true, (0, ()))) else (Young l now, (false, (0, ())))) := by
  have hlen := hg.1
  have hyl : (Young l now).length ≤ 64 := Nat.le_trans (List.length_filter_le _ _) hlen
  have hi := hit_lt h
  have hx := (hit_at h).1
  have hxf := form_st (hg.2.1 x (young_mem.1 (List.mem_of_getElem? hx)).1)
  have hs := stB_sts hxf.2.2.2
  unfold rstB at hr
  generalize hsy : (!decide (bits BinOp.and IntKind.i64 flags (2 : Int) = (0 : Int))) = syn
  generalize hac : (!decide (bits BinOp.and IntKind.i64 flags (16 : Int) = (0 : Int))) = ack
  generalize hfi : (!decide (bits BinOp.and IntKind.i64 flags (1 : Int) = (0 : Int))) = fin
  generalize hop : (decide (x.from' = w.a) && (decide (x.to = w.b) && (decide (x.fromPort = w.p) && (decide (x.toPort = w.q) && true)))) = op
  have hp := pass_fn syn ack fin false op x.from' x.to x.fromPort x.toPort x.at' _ hs
  have hq := pass_sts syn ack fin op _ hs
  generalize hP : passP syn ack fin op x.state x.over = P at hp hq
  obtain ⟨b, st', ov'⟩ := P
  refine ⟨b, ⟨x.from', x.to, x.fromPort, x.toPort, st', ov', now⟩, rfl, rfl, sts_stB hq, ?_⟩
  unfold hearTail
  refine ev_g (by simp; omega) (ev_g (by simp) (ev_opt (young_fn now l (by unfold Big; omega)) (ev_opt (placeT_fn (Young l now) w (by unfold Big; omega)) ?_)))
  rw [h]
  show (Tr.ite (decide ((i : Int) < 0)) _ _).eval = _
  refine ev_f (by simp) (ev_g (by simp; exact hi) (ev_opt (b := x) (by simpa using hx) (ev_t (by rw [hr]; rfl) ?_)))
  rw [hsy, hac, hfi, hr, hop]
  refine ev_opt hp ?_
  cases b with
  | false => exact ev_t rfl (ev_r rfl)
  | true =>
    refine ev_f rfl (ev_g (by simp) ?_)
    show (Tr.opt (delTalk_fn ((i : Int), (IntKind.wrap IntKind.i64 ((i : Int) + 1), (Young l now, ())))) _).eval = _
    rw [next_i64 i (by omega)]
    refine ev_opt (delTalk_ok _ i hi) (ev_f (by rfl) (ev_g (decide_eq_true ?_) (ev_r rfl)))
    show (((Young l now).take i ++ (Young l now).drop (i + 1)).length + 1) * 48 ≤ 140737488355328 ∧ ((Young l now).take i ++ (Young l now).drop (i + 1)).length + 1 ≤ 9223372036854775807
    have := (out_sub (Young l now) i).length_le
    omega
theorem last_le {l : List TTalk} (hg : Good l) : ∀ x ∈ l, x.at' ≤ last l := by
  intro x hx
  rcases List.eq_nil_or_concat l with e | ⟨q, y, e⟩
  · subst e; simp at hx
  · rw [List.concat_eq_append] at e
    subst e
    have : last (q ++ [y]) = y.at' := by simp [last]
    rw [this]
    have hp := List.pairwise_append.1 hg.2.2
    rcases List.mem_append.1 hx with h | h
    · exact (hp.2.2 x h y (by simp)).1
    · have : x = y := by simpa using h
      rw [this]; exact Int.le_refl _
theorem good_add {a : List TTalk} {x : TTalk} (ha : Good a) (hl : a.length < 64) (hf : formB x = true) (ht : ∀ y ∈ a, y.at' ≤ x.at') (hm : ∀ y ∈ a, meet (rdOf x) y = false) : Good (a ++ [x]) := by
  refine ⟨by simp; omega, fun y hy => ?_, ?_⟩
  · rcases List.mem_append.1 hy with h | h
    · exact ha.2.1 y h
    · have : y = x := by simpa using h
      rw [this]; exact hf
  · rw [List.pairwise_append]
    refine ⟨ha.2.2, List.pairwise_singleton _ _, fun y hy z hz => ?_⟩
    have : z = x := by simpa using hz
    subst this
    refine ⟨ht y hy, ?_⟩
    cases h : meet (rdOf y) z with
    | false => rfl
    | true => have := hm y hy; rw [meet_same h (meet_self y)] at this; cases this
theorem fst_out {p : TTalk → Bool} {l : List TTalk} {i : Nat} {x : TTalk} (hx : l[i]? = some x) (hp : p x = false) : fst p (l.take i ++ l.drop (i + 1)) = fst p l := by
  obtain ⟨hi, rfl⟩ := List.getElem?_eq_some_iff.1 hx
  have e1 : l = l.take i ++ l[i] :: l.drop (i + 1) := by rw [← List.drop_eq_getElem_cons hi, List.take_append_drop]
  have : fst p l = fst p (l.take i ++ l[i] :: l.drop (i + 1)) := congrArg _ e1
  rw [this, fst_app, fst_app, fst_cons, hp]
theorem fst_one {p : TTalk → Bool} (a : List TTalk) {x : TTalk} (hp : p x = false) : fst p (a ++ [x]) = fst p a := by
  rw [fst_app, fst_cons, hp]
  show (fst p a).or none = fst p a
  cases fst p a <;> rfl
/-- What Hear leaves. -/
theorem hear_all (l : List TTalk) (w : Rd4) (flags now : Int) (hg : Good l) (hr : InR l w flags now) : ∃ (a : List TTalk) (ok : Bool) (e : Int), trHear_fn (l, (w.a, (w.b, (w.p, (w.q, (flags, (now, ()))))))) = some (a, (ok, (e, ()))) ∧
    ((e ≠ 0 ∧ a = l ∧ ok = false) ∨ (e = 0 ∧ Good a ∧ (∀ v, v ≠ w → v ≠ turn w → fst (meet v) a = fst (meet v) (Young l now)) ∧ (ok = false → a = Young l now) ∧ a.length ≤ l.length + 1)) := by
  rw [hear_good l w flags now hg hr]
  obtain ⟨r1, r2, r3, r4, r5⟩ := hr
  have hgy : Good (Young l now) := hg.sub (young_sub l now)
  have hyl : (Young l now).length ≤ l.length := List.length_filter_le _ _
  have hnow : ∀ y ∈ Young l now, y.at' ≤ now := fun y hy => Int.le_trans (last_le hg y (young_mem.1 hy).1) r4
  have hn0 : 0 ≤ now := by
    have : 0 ≤ last l := by
      unfold last
      cases h : l.getLast? with
      | none => simp
      | some y => exact (form_st (hg.2.1 y (List.mem_of_getLast? h))).2.1
    omega
  cases h : hit (meet w) (Young l now) with
  | none =>
    rw [tail_none l w flags now hg h]
    have hno := hit_none.1 h
    cases hs : synOnly flags with
    | false => exact ⟨_, _, _, rfl, .inr ⟨rfl, hgy, fun _ _ _ => rfl, fun _ => rfl, by omega⟩⟩
    | true =>
      by_cases h64 : (Young l now).length = 64
      · rw [if_pos rfl, if_pos h64]; exact ⟨_, _, _, rfl, .inl ⟨by decide, rfl, rfl⟩⟩
      · rw [if_pos rfl, if_neg h64]
        have hlen := hg.1
        refine ⟨_, _, _, rfl, .inr ⟨rfl, good_add hgy (by omega) (form_mk r1 hn0 r5 rfl) hnow hno, fun v h1 h2 => fst_one _ ?_, (by intro hh; cases hh), by simp; omega⟩⟩
        have : meet w ⟨w.a, w.b, w.p, w.q, 1, 0, now⟩ = true := meet_iff.2 (.inl rfl)
        exact meet_other this h1 h2
  | some q =>
    obtain ⟨i, x⟩ := q
    have hx := (hit_at h).1
    have hm := (hit_at h).2
    have hi := hit_lt h
    have hout := out_none hgy w h
    have hgo := hgy.sub (out_sub (Young l now) i)
    have holen : ((Young l now).take i ++ (Young l now).drop (i + 1)).length + 1 = (Young l now).length := by simp; omega
    cases hrst : rstB flags with
    | true =>
      rw [tail_some l w flags now hg h hrst]
      exact ⟨_, _, _, rfl, .inr ⟨rfl, hgo, fun v h1 h2 => fst_out hx (meet_other hm h1 h2), (by intro hh; cases hh), by omega⟩⟩
    | false =>
      obtain ⟨b, x', e1, e2, e3, e4⟩ := tail_pass l w flags now hg h hrst
      rw [e4]
      cases b with
      | false => exact ⟨_, _, _, rfl, .inr ⟨rfl, hgy, fun _ _ _ => rfl, fun _ => rfl, by omega⟩⟩
      | true =>
        have hxf := form_st (hgy.2.1 x (List.mem_of_getElem? hx))
        have hm' : meet w x' = true := by rw [meet_iff] at hm ⊢; rw [e1]; exact hm
        have hlen := hg.1
        refine ⟨_, _, _, rfl, .inr ⟨rfl, good_add hgo (by omega) (form_mk (by rw [e1]; exact hxf.1) (by rw [e2]; exact hn0) (by rw [e2]; exact r5) e3) (fun y hy => by rw [e2]; exact hnow y ((out_sub _ i).subset hy)) (fun y hy => ?_), fun v h1 h2 => ?_, (by intro hh; cases hh), ?_⟩⟩
        · have := hout y hy
          cases hh : meet (rdOf x') y with
          | false => rfl
          | true =>
            exfalso
            rw [meet_iff] at hm' hh
            have : meet w y = true := by
              rw [meet_iff]
              rcases hm' with k | k <;> rw [k] at hh
              · exact hh
              · rw [turn_turn] at hh; exact hh.symm
            rw [hout y hy] at this; cases this
        · rw [fst_one _ (meet_other hm' h1 h2)]
          exact fst_out hx (meet_other hm h1 h2)
        · show ((Young l now).take i ++ (Young l now).drop (i + 1) ++ [x']).length ≤ _
          rw [List.length_append]; simp only [List.length_singleton]; omega
theorem fnd_fst (l : List TTalk) (v : Rd4) (now : Int) : fnd l v now = match fst (meet v) l with | none => noT 0 | some x => if oldB now x then noT 0 else okT x := by
  unfold fnd fst
  cases hit (meet v) l <;> rfl
theorem fnd_young {l : List TTalk} (hg : Good l) (v : Rd4) (now : Int) : fnd (Young l now) v now = fnd l v now := by
  rw [fnd_fst, fnd_fst]
  have := hit_young hg v now
  unfold fst
  rw [this]
  cases hit (meet v) l with
  | none => rfl
  | some q =>
    simp only [Option.map_some]
    cases ho : oldB now q.2 with
    | true => rfl
    | false => simp [ho]
theorem fnd_turn (l : List TTalk) (v : Rd4) (now : Int) : fnd l (turn v) now = fnd l v now := by
  have : meet (turn v) = meet v := funext (meet_turn v)
  unfold fnd; rw [this]
theorem apart_law (l : List TTalk) (w v : Rd4) (flags now : Int) (hb : l.length * 48 ≤ 140737488351232) : (trackApart_tree (l, (w.a, (w.b, (w.p, (w.q, (v.a, (v.b, (v.p, (v.q, (flags, (now, ())))))))))))).eval = some (true, ()) := by
  have hz : ∀ (a : List TTalk) (u : Rd4), (fnd a u now).2.2.2.2.2.2.2.2.1 = 0 := fun a u => by unfold fnd; split; rfl; split <;> rfl
  unfold trackApart_tree
  by_cases hf : Good l ∧ 0 ≤ now ∧ now ≤ 1099511627776
  case neg =>
    obtain ⟨e, he, h1⟩ := find_bad l v now hf
    have : ∃ r, trHear_fn (l, (w.a, (w.b, (w.p, (w.q, (flags, (now, ()))))))) = some r := by
      by_cases hh : Good l ∧ InR l w flags now
      · obtain ⟨a, ok, e, h, _⟩ := hear_all l w flags now hh.1 hh.2
        exact ⟨_, h⟩
      · obtain ⟨e2, he2, h2⟩ := hear_bad l w flags now hb hh
        exact ⟨_, h2⟩
    obtain ⟨r, h2⟩ := this
    exact ev_opt h1 (ev_opt h2 (ev_opt trackLives_ok (ev_f rfl (ev_t (by show (!decide (e = 0)) = true; simpa using he) (ev_opt trackLives_ok (ev_r rfl))))))
  obtain ⟨hg, hn0, hn1⟩ := hf
  refine ev_opt (find_good l v now hg hn0 hn1) ?_
  by_cases hr : InR l w flags now
  case neg =>
    obtain ⟨e2, he2, h2⟩ := hear_bad l w flags now hb (fun h => hr h.2)
    exact ev_opt h2 (ev_opt trackLives_ok (ev_f rfl (ev_f (by rw [hz]; rfl) (ev_t (by show (!decide (e2 = 0)) = true; simpa using he2) (ev_opt trackLives_ok (ev_r rfl))))))
  obtain ⟨a, ok, e, hear, hcase⟩ := hear_all l w flags now hg hr
  refine ev_opt hear (ev_opt trackLives_ok (ev_f rfl (ev_f (by rw [hz]; rfl) ?_)))
  rcases hcase with ⟨he, rfl, rfl⟩ | ⟨rfl, ga, hsame, _, _⟩
  · exact ev_t (by show (!decide (e = 0)) = true; simpa using he) (ev_opt trackLives_ok (ev_r rfl))
  refine ev_f rfl ?_
  have ew : (decide (v.a = w.a) && (decide (v.b = w.b) && (decide (v.p = w.p) && (decide (v.q = w.q) && true)))) = decide (v = w) := rd_eq ⟨v.a, v.b, v.p, v.q, 0, 0, 0⟩ w
  have et : (decide (v.a = (turn w).a) && (decide (v.b = (turn w).b) && (decide (v.p = (turn w).p) && (decide (v.q = (turn w).q) && true)))) = decide (v = turn w) := rd_eq ⟨v.a, v.b, v.p, v.q, 0, 0, 0⟩ (turn w)
  by_cases h1 : v = w
  · exact ev_t (ew.trans (decide_eq_true h1)) (ev_opt trackLives_ok (ev_r rfl))
  refine ev_f (ew.trans (decide_eq_false h1)) (ev_opt (b := ((turn w).a, ((turn w).b, ((turn w).p, ((turn w).q, ()))))) rfl ?_)
  by_cases h2 : v = turn w
  · exact ev_t (et.trans (decide_eq_true h2)) (ev_opt trackLives_ok (ev_r rfl))
  refine ev_f (et.trans (decide_eq_false h2)) ?_
  have hfa : fnd a v now = fnd l v now := by
    rw [← fnd_young hg v now, fnd_fst, fnd_fst, hsame v h1 h2]
  have hft : fnd a (turn v) now = fnd l v now := by rw [fnd_turn, hfa]
  refine ev_opt ((find_good a v now ga hn0 hn1).trans (by rw [hfa])) (ev_opt (b := ((turn v).a, ((turn v).b, ((turn v).p, ((turn v).q, ()))))) rfl (ev_opt ((find_good a (turn v) now ga hn0 hn1).trans (by rw [hft])) ?_))
  have hzz := hz l v
  generalize fnd l v now = R at hzz ⊢
  refine ev_t (by rw [hzz]; rfl) (ev_t (by rw [hzz]; rfl) (ev_t (by simp) (ev_t (by simp) (ev_t (by simp) (ev_r (by simp))))))
theorem trackApart_true {l : List TTalk} {a b p q c d r s flags now : Int} (b0 : BndD 6 (D.st 16 l)) (h1 : 0 ≤ a ∧ a ≤ 4294967295) (h2 : 0 ≤ b ∧ b ≤ 4294967295) (h3 : -9223372036854775808 ≤ p ∧ p ≤ 9223372036854775807) (h4 : -9223372036854775808 ≤ q ∧ q ≤ 9223372036854775807)
    (k1 : 0 ≤ c ∧ c ≤ 4294967295) (k2 : 0 ≤ d ∧ d ≤ 4294967295) (k3 : -9223372036854775808 ≤ r ∧ r ≤ 9223372036854775807) (k4 : -9223372036854775808 ≤ s ∧ s ≤ 9223372036854775807) (h5 : -9223372036854775808 ≤ flags ∧ flags ≤ 9223372036854775807) (h6 : -9223372036854775808 ≤ now ∧ now ≤ 9223372036854775807) :
    (trackApart_tree (l, (a, (b, (p, (q, (c, (d, (r, (s, (flags, (now, ())))))))))))).eval = some (true, ()) := apart_law l ⟨a, b, p, q⟩ ⟨c, d, r, s⟩ flags now b0.1
end Go.Proofs.Ytcdcdmfecglemaa.X
