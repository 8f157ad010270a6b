/- track: what Find and Hear tell, in plain terms. Conditions: none. -/
import Derived.Test.YtcdcdmfecglemaaPTrack
namespace Go.Proofs.Ytcdcdmfecglemaa.X
open Go Go.RowKit Go.Proofs.Ytcdcdmfecglemaa.Abs Go.Proofs.Ytcdcdmfecglemaa.Bits
set_option linter.unusedVariables false
set_option linter.unnecessarySimpa false
set_option linter.unusedSimpArgs false
set_option maxRecDepth 100000

abbrev FT := Int × (Int × (Int × (Int × (Int × (Int × (Int × (Bool × (Int × Unit))))))))
def noT (e : Int) : FT := (0, (0, (0, (0, (0, (0, (0, (false, (e, ())))))))))
def okT (x : TTalk) : FT := (x.from', (x.to, (x.fromPort, (x.toPort, (x.state, (x.over, (x.at', (true, (0, ())))))))))
def fnd (l : List TTalk) (w : Rd4) (now : Int) : FT := match hit (meet w) l with | none => noT 0 | some q => if oldB now q.2 then noT 0 else okT q.2
theorem find_good (l : List TTalk) (w : Rd4) (now : Int) (hg : Good l) (h0 : 0 ≤ now) (h1 : now ≤ 1099511627776) : trFind_fn (l, (w.a, (w.b, (w.p, (w.q, (now, ())))))) = some (fnd l w now) := by
  obtain ⟨c, hc, hc0⟩ := checkT_fn l
  have hlen := hg.1
  unfold trFind_fn trFind_tree fnd
  refine ev_opt hc (ev_f (by simp [hc0.2 hg]) (ev_f (by simp; omega) (ev_f (by simp; omega) (ev_opt (placeT_fn l w (by unfold Big; omega)) ?_))))
  cases h : hit (meet w) l with
  | none => exact ev_t rfl (ev_r rfl)
  | some q =>
    have hx : l[Int.toNat (q.1 : Int)]? = some q.2 := by simpa using (hit_at (i := q.1) (x := q.2) h).1
    refine ev_f (by simp) (ev_g (by simp) (ev_opt hx (ev_opt (old_fn now q.2) ?_)))
    cases ho : oldB now q.2 with
    | true => exact ev_t rfl (ev_r (by show _ = if oldB now q.2 = true then noT 0 else okT q.2; rw [ho]; rfl))
    | false => exact ev_f rfl (ev_g (by simp) (ev_opt hx (ev_r (by show _ = if oldB now q.2 = true then noT 0 else okT q.2; rw [ho]; rfl))))
theorem find_bad (l : List TTalk) (w : Rd4) (now : Int) (h : ¬ (Good l ∧ 0 ≤ now ∧ now ≤ 1099511627776)) : ∃ e : Int, e ≠ 0 ∧ trFind_fn (l, (w.a, (w.b, (w.p, (w.q, (now, ())))))) = some (noT e) := by
  obtain ⟨c, hc, hc0⟩ := checkT_fn l
  unfold trFind_fn trFind_tree
  by_cases hg : c = 0
  · by_cases h0 : now < 0
    · exact ⟨1, by decide, ev_opt hc (ev_f (by simp [hg]) (ev_t (by simpa using h0) (ev_r rfl)))⟩
    · by_cases h1 : 1099511627776 < now
      · exact ⟨1, by decide, ev_opt hc (ev_f (by simp [hg]) (ev_f (by simpa using h0) (ev_t (by simpa using h1) (ev_r rfl))))⟩
      · exact absurd ⟨hc0.1 hg, by omega, by omega⟩ h
  · exact ⟨c, hg, ev_opt hc (ev_t (by simpa using hg) (ev_r rfl))⟩

/-! ### The young ones -/
abbrev keep (now : Int) (x : TTalk) : Bool := !oldB now x
theorem compact (now : Int) (l : List TTalk) (hl : l.length < Big) : ∀ (c j i : Nat) (L : List TTalk) (n : Nat), j + c = l.length → c < n → L.length = l.length → i ≤ j → L.take i = (l.take j).filter (keep now) → L.drop j = l.drop j →
    ∃ (i' : Nat) (L' : List TTalk), loopO 180005 (fun x => (dfTalk_step18_5 x).eval) n ((j : Int), ((i : Int), (L, (now, ())))) = some ((i' : Int), (L', (now, ()))) ∧ L'.length = l.length ∧ i' ≤ l.length ∧ L'.take i' = l.filter (keep now) := by
  unfold Big at hl
  intro c
  induction c with
  | zero =>
    intro j i L n hj hn hL hij ht hd
    obtain ⟨n, rfl⟩ : ∃ m, n = m + 1 := ⟨n - 1, by omega⟩
    have : j = l.length := by omega
    subst this
    refine ⟨i, L, loopO_out (ev_f (by simp; omega) (ev_g (by simp) (ev_r rfl))), hL, hij, ?_⟩
    rw [ht, List.take_length]
  | succ c ih =>
    intro j i L n hj hn hL hij ht hd
    obtain ⟨n, rfl⟩ : ∃ m, n = m + 1 := ⟨n - 1, by omega⟩
    have hjl : j < l.length := by omega
    have hx : L[j]? = l[j]? := by have := congrArg (·[0]?) hd; simpa using this
    have hxl : l[j]? = some l[j] := List.getElem?_eq_getElem hjl
    generalize hxx : l[j] = x at hxl
    rw [hxl] at hx
    have hi : L[i]? = some L[i] := List.getElem?_eq_getElem (by omega)
    have hfil : (l.take (j + 1)).filter (keep now) = (l.take j).filter (keep now) ++ [x].filter (keep now) := by
      rw [List.take_add_one, hxl, List.filter_append]; rfl
    have hdd : L.drop (j + 1) = l.drop (j + 1) := by rw [← List.drop_drop, hd, List.drop_drop]
    cases ho : oldB now x with
    | true =>
      have hs : (dfTalk_step18_5 ((j : Int), ((i : Int), (L, (now, ()))))).eval = some (.inl (((j + 1 : Nat) : Int), ((i : Int), (L, (now, ()))))) := by
        unfold dfTalk_step18_5
        exact ev_t (by simp; omega) (ev_g (by simp; omega) (ev_opt (b := x) (by simpa using hx) (ev_opt (old_fn now x) (ev_f (by simp [ho]) (ev_g (by simp) (ev_r (by rw [next_i64 j (by omega)])))))))
      rw [loopO_in hs]
      refine ih (j + 1) i L n (by omega) (by omega) hL (by omega) ?_ hdd
      rw [hfil, ht]; simp [keep, ho]
    | false =>
      have hs : (dfTalk_step18_5 ((j : Int), ((i : Int), (L, (now, ()))))).eval = some (.inl (((j + 1 : Nat) : Int), (((i + 1 : Nat) : Int), (L.set i x, (now, ()))))) := by
        unfold dfTalk_step18_5
        exact ev_t (by simp; omega) (ev_g (by simp; omega) (ev_opt (b := x) (by simpa using hx) (ev_opt (old_fn now x) (ev_t (by simp [ho]) (ev_g (by simp; omega) (ev_opt (b := L[i]) (by simpa using hi) (ev_g (by simp) (ev_r (by rw [next_i64 j (by omega), next_i64 i (by omega)]; rfl)))))))))
      rw [loopO_in hs]
      refine ih (j + 1) (i + 1) (L.set i x) n (by omega) (by omega) (by simpa using hL) (by omega) ?_ ?_
      · rw [hfil, ← ht, List.take_add_one, List.take_set_of_le (Nat.le_refl i), List.getElem?_set_self (by omega)]
        simp [keep, ho]
      · rw [List.drop_set_of_lt (by omega), hdd]
theorem young_fn (now : Int) (l : List TTalk) (hl : l.length < Big) : dfTalk_fn (now, (l, ())) = some (now, (l.filter (keep now), ())) := by
  have hl' := hl
  unfold Big at hl'
  unfold dfTalk_fn dfTalk_tree
  have := loop_hit (tag := 430002) (f := fun x => (dfTalk_step43_2 x).eval) (l := l) (fun i => ((i : Int), (l, ((l.length : Int), (now, ()))))) (oldB now)
      (fun q => match q with | some q => Sum.inl ((q.1 : Int), (now, ())) | none => Sum.inr (now, ()))
      (fun i x hx => by
        have hi := (List.getElem?_eq_some_iff.1 hx).1
        show (dfTalk_step43_2 _).eval = _
        unfold dfTalk_step43_2
        refine ev_t (by simp; omega) (ev_g (by simp) (ev_opt (show l[Int.toNat (i : Int)]? = some x by simpa using hx) (ev_opt (old_fn now x) ?_)))
        cases oldB now x with
        | true => exact ev_t rfl (ev_r rfl)
        | false => exact ev_f rfl (ev_r (by rw [next_i64 i (by omega)])))
      (by show (dfTalk_step43_2 _).eval = _; exact ev_f (by simp) (ev_r rfl)) 18446744073709551616 (by omega)
  refine ev_opt (show dfTalk_loop43_2 ((0 : Int), (l, ((l.length : Int), (now, ())))) = _ from this) ?_
  cases h : hit (oldB now) l with
  | none =>
    have hall := hit_none.1 h
    have e : l.filter (keep now) = l := List.filter_eq_self.2 fun x hx => by simp [keep, hall x hx]
    rw [e]
    exact ev_t rfl (ev_g (by simp) (ev_r rfl))
  | some q =>
    obtain ⟨i, x⟩ := q
    have hi := hit_lt h
    have hx := hit_at h
    have e1 : l = l.take i ++ x :: l.drop (i + 1) := by
      obtain ⟨_, rfl⟩ := List.getElem?_eq_some_iff.1 hx.1
      rw [← List.drop_eq_getElem_cons hi, List.take_append_drop]
    have hpre : ∀ y ∈ l.take i, oldB now y = false := by
      have : hit (oldB now) l = hit (oldB now) (l.take i ++ x :: l.drop (i + 1)) := congrArg _ e1
      rw [hit_app] at this
      cases h3 : hit (oldB now) (l.take i) with
      | none => exact hit_none.1 h3
      | some q =>
        have h4 := hit_lt (i := q.1) (x := q.2) h3
        rw [h, h3] at this
        simp at this h4
        have := congrArg Prod.fst this
        simp at this; omega
    have ht : l.take i = (l.take (i + 1)).filter (keep now) := by
      rw [List.take_add_one, hx.1, List.filter_append, List.filter_eq_self.2 fun y hy => by simp [keep, hpre y hy]]
      simp [keep, hx.2]
    obtain ⟨i', L', hlp, h1, h2, h3⟩ := compact now l hl (l.length - (i + 1)) (i + 1) i l 18446744073709551616 (by omega) (by omega) rfl (by omega) ht rfl
    show (Tr.ite (decide ((i : Int) = -1)) _ _).eval = _
    refine ev_f (by simp) (ev_g (by simp) ?_)
    rw [next_i64 i (by omega)]
    refine ev_opt (show dfTalk_loop18_5 _ = _ from hlp) ?_
    have e4 : ∀ (Y Z : List TTalk), List.take i' (List.take i' L' ++ Y ++ Z) = List.take i' L' := fun Y Z => by
      rw [List.append_assoc, List.take_append_of_le_length (by simp; omega), List.take_take, Nat.min_self]
    simp only [Int.toNat_natCast, e4]
    simp only [h3]
    have hfl : (l.filter (keep now)).length = i' := by rw [← h3]; simp; omega
    exact ev_g (by simp; omega) (ev_g (by simp; omega) (ev_g (by simp; omega) (ev_g (by simp [hfl]) (ev_r rfl))))
theorem delTalk_ok (l : List TTalk) (i : Nat) (hi : i < l.length) : delTalk_fn ((i : Int), (((i + 1 : Nat) : Int), (l, ()))) = some (l.take i ++ l.drop (i + 1), ()) := by
  unfold delTalk_fn delTalk_tree
  have hj : Int.toNat ((l.length : Int) - ((i + 1 : Nat) : Int)) = l.length - (i + 1) := by omega
  have hB : (List.take (l.length - (i + 1)) (List.drop (i + 1) l)).length = l.length - (i + 1) := by simp
  simp only [Int.toNat_natCast, hj]
  refine ev_g (by simp; omega) (ev_f (by simp; omega) (ev_g (by simp; omega) (ev_g (by simp; omega) (ev_g (by simp; omega) (ev_g (by rw [hB]; simp; omega) ?_)))))
  refine ev_g (by simp [hB]; omega) (ev_g (by simp [hB]; omega) (ev_g (by simp [hB]; omega) (ev_r ?_)))
  simp only [del_eq l i (i + 1) (by omega) (by omega)]

/-! ### Hear -/
def hearTail (a0 : List TTalk) (a1 a2 a3 a4 a5 a6 : Int) : Tr ((List TTalk) × (Bool × (Int × Unit))) :=
  .grd (decide (((0 : Nat) + List.length a0) * (48 : Nat) ≤ (140737488355328 : Nat) ∧ (0 : Nat) + List.length a0 ≤ (9223372036854775807 : Nat))) (
  .grd (decide (List.length a0 = List.length a0)) (
  .opt (β := (Int × ((List TTalk) × Unit))) ((dfTalk_fn (a6, (a0, ())))) (fun r2 =>
  .opt (β := (Int × Unit)) ((trPlace_fn (r2.2.1, (a1, (a2, (a3, (a4, ()))))))) (fun r3 =>
  .ite (decide (r3.1 < (0 : Int))) (
  .ite (!((!decide (bits BinOp.and IntKind.i64 a5 (2 : Int) = (0 : Int))) == true && ((!decide (bits BinOp.and IntKind.i64 a5 (16 : Int) = (0 : Int))) == false && ((!decide (bits BinOp.and IntKind.i64 a5 (1 : Int) = (0 : Int))) == false && ((!decide (bits BinOp.and IntKind.i64 a5 (4 : Int) = (0 : Int))) == false && true))))) (
  .ret (r2.2.1, (false, ((0 : Int), ())))) (
  .ite (decide ((↑(List.length r2.2.fst) : Int) = (64 : Int))) (
  .ret (a0, (false, ((6 : Int), ())))) (
  .grd (decide ((List.length r2.2.1 + List.length [TTalk.mk a1 a2 a3 a4 (1 : Int) (0 : Int) r2.1]) * (48 : Nat) ≤ (140737488355328 : Nat) ∧ List.length r2.2.1 + List.length [TTalk.mk a1 a2 a3 a4 (1 : Int) (0 : Int) r2.1] ≤ (9223372036854775807 : Nat))) (
  .ret (r2.2.1 ++ [TTalk.mk a1 a2 a3 a4 (1 : Int) (0 : Int) r2.1], (true, ((0 : Int), ()))))))) (
  .grd (decide ((0 : Int) ≤ r3.1 ∧ r3.1 < (↑(List.length r2.2.fst) : Int))) (
  .opt (β := TTalk) (r2.2.1[Int.toNat r3.1]?) (fun r4 =>
  .ite (!!decide (bits BinOp.and IntKind.i64 a5 (4 : Int) = (0 : Int))) (
  .opt (β := (Bool × (Int × (Int × (Int × (Int × (Int × (Int × (Int × Unit))))))))) ((trPasses_fn (!decide (bits BinOp.and IntKind.i64 a5 (2 : Int) = (0 : Int)), (!decide (bits BinOp.and IntKind.i64 a5 (16 : Int) = (0 : Int)), (!decide (bits BinOp.and IntKind.i64 a5 (1 : Int) = (0 : Int)), (!decide (bits BinOp.and IntKind.i64 a5 (4 : Int) = (0 : Int)), (decide (r4.from' = a1) && (decide (r4.to = a2) && (decide (r4.fromPort = a3) && (decide (r4.toPort = a4) && true))), (r4.from', (r4.to, (r4.fromPort, (r4.toPort, (r4.state, (r4.over, (r4.at', ())))))))))))))) (fun r5 =>
  .ite (!r5.1) (
  .ret (r2.2.1, (false, ((0 : Int), ())))) (
  .grd (decide (List.length r2.2.fst = List.length r2.2.1)) (
  .opt (β := ((List TTalk) × Unit)) ((delTalk_fn (r3.1, (IntKind.wrap IntKind.i64 (r3.1 + (1 : Int)), (r2.2.1, ()))))) (fun r6 =>
  .ite (!decide (bits BinOp.and IntKind.i64 a5 (4 : Int) = (0 : Int))) (
  .ret (r6.1, (true, ((0 : Int), ())))) (
  .grd (decide ((List.length r6.1 + List.length [TTalk.mk r5.2.1 r5.2.2.1 r5.2.2.2.1 r5.2.2.2.2.1 r5.2.2.2.2.2.1 r5.2.2.2.2.2.2.1 r2.1]) * (48 : Nat) ≤ (140737488355328 : Nat) ∧ List.length r6.1 + List.length [TTalk.mk r5.2.1 r5.2.2.1 r5.2.2.2.1 r5.2.2.2.2.1 r5.2.2.2.2.2.1 r5.2.2.2.2.2.2.1 r2.1] ≤ (9223372036854775807 : Nat))) (
  .ret (r6.1 ++ [TTalk.mk r5.2.1 r5.2.2.1 r5.2.2.2.1 r5.2.2.2.2.1 r5.2.2.2.2.2.1 r5.2.2.2.2.2.2.1 r2.1], (true, ((0 : Int), ())))))))))) (
  .grd (decide (List.length r2.2.fst = List.length r2.2.1)) (
  .opt (β := ((List TTalk) × Unit)) ((delTalk_fn (r3.1, (IntKind.wrap IntKind.i64 (r3.1 + (1 : Int)), (r2.2.1, ()))))) (fun r5 =>
  .ite (!decide (bits BinOp.and IntKind.i64 a5 (4 : Int) = (0 : Int))) (
  .ret (r5.1, (true, ((0 : Int), ())))) (
  .grd (decide ((List.length r5.1 + List.length [TTalk.mk r4.from' r4.to r4.fromPort r4.toPort r4.state r4.over r2.1]) * (48 : Nat) ≤ (140737488355328 : Nat) ∧ List.length r5.1 + List.length [TTalk.mk r4.from' r4.to r4.fromPort r4.toPort r4.state r4.over r2.1] ≤ (9223372036854775807 : Nat))) (
  .ret (r5.1 ++ [TTalk.mk r4.from' r4.to r4.fromPort r4.toPort r4.state r4.over r2.1], (true, ((0 : Int), ())))))))))))))))

def last (l : List TTalk) : Int := match l.getLast? with | some y => y.at' | none => 0
def InR (l : List TTalk) (w : Rd4) (flags now : Int) : Prop := roadB w = true ∧ 0 ≤ flags ∧ flags ≤ 255 ∧ last l ≤ now ∧ now ≤ 1099511627776
theorem hear_good (l : List TTalk) (w : Rd4) (flags now : Int) (hg : Good l) (hr : InR l w flags now) : trHear_fn (l, (w.a, (w.b, (w.p, (w.q, (flags, (now, ()))))))) = (hearTail l w.a w.b w.p w.q flags now).eval := by
  obtain ⟨c, hc, hc0⟩ := checkT_fn l
  have hlen := hg.1
  obtain ⟨r1, r2, r3, r4, r5⟩ := hr
  unfold trHear_fn trHear_tree
  refine ev_g (by simp; omega) (ev_opt hc (ev_f (by simp [hc0.2 hg]) ?_))
  rcases List.eq_nil_or_concat l with e | ⟨q, y, e⟩
  · subst e
    refine ev_f (by simp) (ev_opt (road_fn w) (ev_f (by simp [r1]) (ev_f (by simp; omega) (ev_f (by simp; omega) (ev_f (by simp [last] at r4 ⊢; omega) (ev_f (by simp; omega) rfl))))))
  · rw [List.concat_eq_append] at e
    have hl : last l = y.at' := by rw [e]; simp [last]
    have hp : IntKind.wrap IntKind.i64 ((l.length : Int) - 1) = (q.length : Int) := by rw [prev_i64 _ (by rw [e]; simp) (by omega)]; rw [e]; simp
    have hll : l.length = q.length + 1 := by rw [e]; simp
    refine ev_t (by simp; omega) ?_
    rw [hp]
    refine ev_g (by simp; omega) (ev_opt (b := y) (by rw [e]; simp) (ev_opt (road_fn w) (ev_f (by simp [r1]) (ev_f (by simp; omega) (ev_f (by simp; omega) (ev_f (by simp; omega) (ev_f (by simp; omega) rfl)))))))
theorem hear_bad (l : List TTalk) (w : Rd4) (flags now : Int) (hb : l.length * 48 ≤ 140737488351232) (h : ¬ (Good l ∧ InR l w flags now)) : ∃ e : Int, e ≠ 0 ∧ trHear_fn (l, (w.a, (w.b, (w.p, (w.q, (flags, (now, ()))))))) = some (l, (false, (e, ()))) := by
  obtain ⟨c, hc, hc0⟩ := checkT_fn l
  unfold trHear_fn trHear_tree
  by_cases hg : c = 0
  case neg => exact ⟨c, hg, ev_g (by simp; omega) (ev_opt hc (ev_t (by simpa using hg) (ev_r rfl)))⟩
  have hG := hc0.1 hg
  refine ⟨1, by decide, ev_g (by simp; omega) (ev_opt hc (ev_f (by simp [hg]) ?_))⟩
  have hlen := hG.1
  rcases List.eq_nil_or_concat l with e | ⟨q, y, e⟩
  · subst e
    refine ev_f (by simp) (ev_opt (road_fn w) ?_)
    cases r1 : roadB w with
    | false => exact ev_t rfl (ev_r rfl)
    | true =>
    refine ev_f rfl (ev_ite (fun _ => ev_r rfl) fun r2 => ev_ite (fun _ => ev_r rfl) fun r3 => ev_ite (fun _ => ev_r rfl) fun r4 => ev_ite (fun _ => ev_r rfl) fun r5 => ?_)
    exfalso
    simp at r2 r3 r4 r5
    exact h ⟨hG, r1, by omega, by omega, by simp [last]; omega, by omega⟩
  · rw [List.concat_eq_append] at e
    have hl : last l = y.at' := by rw [e]; simp [last]
    have hll : l.length = q.length + 1 := by rw [e]; simp
    have hp : IntKind.wrap IntKind.i64 ((l.length : Int) - 1) = (q.length : Int) := by rw [prev_i64 _ (by omega) (by omega)]; congr 1; omega
    refine ev_t (by simp; omega) ?_
    rw [hp]
    refine ev_g (by simp; omega) (ev_opt (b := y) (by rw [e]; simp) (ev_opt (road_fn w) ?_))
    cases r1 : roadB w with
    | false => exact ev_t rfl (ev_r rfl)
    | true =>
    refine ev_f rfl (ev_ite (fun _ => ev_r rfl) fun r2 => ev_ite (fun _ => ev_r rfl) fun r3 => ev_ite (fun _ => ev_r rfl) fun r4 => ev_ite (fun _ => ev_r rfl) fun r5 => ?_)
    exfalso
    simp at r2 r3 r4 r5
    exact h ⟨hG, r1, by omega, by omega, by omega, by omega⟩

/-- Only SYN is said. -/
def synOnly (flags : Int) : Bool := ((!decide (bits BinOp.and IntKind.i64 flags (2 : Int) = (0 : Int))) == true && ((!decide (bits BinOp.and IntKind.i64 flags (16 : Int) = (0 : Int))) == false && ((!decide (bits BinOp.and IntKind.i64 flags (1 : Int) = (0 : Int))) == false && ((!decide (bits BinOp.and IntKind.i64 flags (4 : Int) = (0 : Int))) == false && true))))
def rstB (flags : Int) : Bool := !decide (bits BinOp.and IntKind.i64 flags (4 : Int) = (0 : Int))
abbrev Young (l : List TTalk) (now : Int) : List TTalk := l.filter (keep now)
theorem tail_none (l : List TTalk) (w : Rd4) (flags now : Int) (hg : Good l) (h : hit (meet w) (Young l now) = none) : (hearTail l w.a w.b w.p w.q flags now).eval =
    some (if synOnly flags then if (Young l now).length = 64 then (l, (false, (6, ()))) else (Young l now ++ [⟨w.a, w.b, w.p, w.q, 1, 0, now⟩], (true, (0, ()))) else (Young l now, (false, (0, ())))) := by
  have hlen := hg.1
  have hyl : (Young l now).length ≤ 64 := Nat.le_trans (List.length_filter_le _ _) hlen
  unfold hearTail
  refine ev_g (by simp; omega) (ev_g (by simp) (ev_opt (young_fn now l (by unfold Big; omega)) (ev_opt (placeT_fn (Young l now) w (by unfold Big; omega)) ?_)))
  rw [h]
  refine ev_t rfl ?_
  cases hs : synOnly flags with
  | false => exact ev_t (by show (!synOnly flags) = true; rw [hs]; rfl) (ev_r rfl)
  | true =>
    refine ev_f (by show (!synOnly flags) = false; rw [hs]; rfl) ?_
    by_cases h64 : (Young l now).length = 64
    · exact ev_t (decide_eq_true (by show (((Young l now).length : Nat) : Int) = 64; omega)) (ev_r (by rw [if_pos rfl, if_pos h64]))
    · exact ev_f (decide_eq_false (by show ¬ (((Young l now).length : Nat) : Int) = 64; omega)) (ev_g (decide_eq_true (by show ((Young l now).length + 1) * 48 ≤ 140737488355328 ∧ (Young l now).length + 1 ≤ 9223372036854775807; omega)) (ev_r (by rw [if_pos rfl, if_neg h64])))
theorem tail_some (l : List TTalk) (w : Rd4) (flags now : Int) (hg : Good l) {i : Nat} {x : TTalk} (h : hit (meet w) (Young l now) = some (i, x)) (hr : rstB flags = true) : (hearTail l w.a w.b w.p w.q flags now).eval = some ((Young l now).take i ++ (Young l now).drop (i + 1), (true, (0, ()))) := by
  have hlen := hg.1
  have hyl : (Young l now).length ≤ 64 := Nat.le_trans (List.length_filter_le _ _) hlen
  have hi := hit_lt h
  have hx := (hit_at h).1
  unfold rstB at hr
  unfold hearTail
  refine ev_g (by simp; omega) (ev_g (by simp) (ev_opt (young_fn now l (by unfold Big; omega)) (ev_opt (placeT_fn (Young l now) w (by unfold Big; omega)) ?_)))
  rw [h]
  show (Tr.ite (decide ((i : Int) < 0)) _ _).eval = _
  refine ev_f (by simp) (ev_g (by simp; exact hi) (ev_opt (b := x) (by simpa using hx) (ev_f (by rw [hr]; rfl) (ev_g (by simp) ?_))))
  show (Tr.opt (delTalk_fn ((i : Int), (IntKind.wrap IntKind.i64 ((i : Int) + 1), (Young l now, ())))) _).eval = _
  rw [next_i64 i (by omega)]
  exact ev_opt (delTalk_ok _ i hi) (ev_t hr (ev_r rfl))
end Go.Proofs.Ytcdcdmfecglemaa.X
