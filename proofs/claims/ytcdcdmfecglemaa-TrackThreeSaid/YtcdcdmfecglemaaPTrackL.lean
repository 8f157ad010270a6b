/- The law TrackClosed, in plain terms. Conditions: none. -/
import Derived.Test.YtcdcdmfecglemaaPTrackB
import Derived.Test.YtcdcdmfecglemaaLTrack
namespace Go.Proofs.Ytcdcdmfecglemaa.X
open Go Go.RowKit Go.Proofs.Ytcdcdmfecglemaa.Abs Go.Proofs.Ytcdcdmfecglemaa.Bits
set_option linter.unusedVariables false
set_option linter.unnecessarySimpa false
set_option linter.unusedSimpArgs false
set_option maxRecDepth 100000

theorem trackLives_ok : trackLives_fn () = some (true, ()) := by kernel_rfl
theorem good_once {l : List TTalk} (hg : Good l) {w : Rd4} {x y : TTalk} (hx : x ∈ l) (hy : y ∈ l) (mx : meet w x = true) (my : meet w y = true) : x = y := by
  obtain ⟨i, hi, rfl⟩ := List.getElem_of_mem hx
  obtain ⟨j, hj, rfl⟩ := List.getElem_of_mem hy
  rcases Nat.lt_trichotomy i j with h | h | h
  · have := ((List.pairwise_iff_getElem.1 hg.2.2) i j hi hj h).2
    rw [meet_same mx my] at this; cases this
  · subst h; rfl
  · have := ((List.pairwise_iff_getElem.1 hg.2.2) j i hj hi h).2
    rw [meet_same my mx] at this; cases this
theorem young_sub (l : List TTalk) (now : Int) : (Young l now).Sublist l := List.filter_sublist
theorem young_mem {l : List TTalk} {now : Int} {x : TTalk} : x ∈ Young l now ↔ x ∈ l ∧ oldB now x = false := by simp [Young, keep]
/-- Found, and young. -/
theorem hit_young {l : List TTalk} (hg : Good l) (w : Rd4) (now : Int) : (hit (meet w) (Young l now)).map (·.2) = match hit (meet w) l with | none => none | some q => if oldB now q.2 then none else some q.2 := by
  cases h : hit (meet w) l with
  | none =>
    have hn := hit_none.1 h
    have : hit (meet w) (Young l now) = none := hit_none.2 fun x hx => hn x (young_mem.1 hx).1
    rw [this]; rfl
  | some q =>
    obtain ⟨i, x⟩ := q
    obtain ⟨hx, hm⟩ := hit_at h
    have hxl := List.mem_of_getElem? hx
    cases h2 : hit (meet w) (Young l now) with
    | none =>
      cases ho : oldB now x with
      | true => simp [ho]
      | false =>
        have := hit_none.1 h2 x (young_mem.2 ⟨hxl, ho⟩)
        rw [hm] at this; cases this
    | some q2 =>
      obtain ⟨j, y⟩ := q2
      obtain ⟨hy, my⟩ := hit_at h2
      have hyl := young_mem.1 (List.mem_of_getElem? hy)
      have : x = y := good_once hg hxl hyl.1 hm my
      subst this
      simp [hyl.2]
/-- Without the one that meets, none does. -/
theorem out_none {l : List TTalk} (hg : Good l) (w : Rd4) {i : Nat} {x : TTalk} (h : hit (meet w) l = some (i, x)) : ∀ y ∈ l.take i ++ l.drop (i + 1), meet w y = false := by
  obtain ⟨hx, hm⟩ := hit_at h
  have hi := hit_lt h
  have e1 : l = l.take i ++ x :: l.drop (i + 1) := by
    obtain ⟨_, rfl⟩ := List.getElem?_eq_some_iff.1 hx
    rw [← List.drop_eq_getElem_cons hi, List.take_append_drop]
  have hp := hg.2.2
  rw [e1, List.pairwise_append] at hp
  intro y hy
  cases my : meet w y with
  | false => rfl
  | true =>
    rcases List.mem_append.1 hy with hy | hy
    · have := (hp.2.2 y hy x List.mem_cons_self).2
      rw [meet_same my hm] at this; cases this
    · have := ((List.pairwise_cons.1 hp.2.1).1 y hy).2
      rw [meet_same hm my] at this; cases this
theorem out_sub (l : List TTalk) (i : Nat) : (l.take i ++ l.drop (i + 1)).Sublist l := by
  conv => rhs; rw [← List.take_append_drop i l]
  refine List.Sublist.append (List.Sublist.refl _) ?_
  rw [← List.drop_drop]
  exact List.drop_sublist 1 _
theorem syn_23 : ∀ f : Fin 256, synOnly (f.val : Int) = decide (bits BinOp.and IntKind.i64 (f.val : Int) (23 : Int) = (2 : Int)) := by decide +kernel
theorem syn_flags {flags : Int} (h0 : 0 ≤ flags) (h1 : flags ≤ 255) : synOnly flags = decide (bits BinOp.and IntKind.i64 flags (23 : Int) = (2 : Int)) := by
  obtain ⟨n, rfl⟩ := Int.eq_ofNat_of_zero_le h0
  exact syn_23 ⟨n, by omega⟩
theorem closed_law (l : List TTalk) (w : Rd4) (flags now : Int) (hb : l.length * 48 ≤ 140737488351232) : (trackClosed_tree (l, (w.a, (w.b, (w.p, (w.q, (flags, (now, ()))))))) ).eval = some (true, ()) := by
  unfold trackClosed_tree
  by_cases hf : Good l ∧ 0 ≤ now ∧ now ≤ 1099511627776
  case neg =>
    obtain ⟨e, he, h1⟩ := find_bad l w now hf
    by_cases hh : Good l ∧ InR l w 4 now
    · exact absurd ⟨hh.1, by
        have h5 := hh.2.2.2.2.1
        have : 0 ≤ last l := by
          unfold last
          cases h : l.getLast? with
          | none => simp
          | some y =>
            have := hh.1.2.1 y (List.mem_of_getLast? h)
            simp only [formB, Bool.and_eq_true, decide_eq_true_eq] at this
            exact this.2.1
        omega, hh.2.2.2.2.2⟩ hf
    · obtain ⟨e2, he2, h2⟩ := hear_bad l w 4 now hb hh
      exact ev_opt h1 (ev_opt h2 (ev_opt trackLives_ok (ev_f rfl (ev_t (by show (!decide (e = 0)) = true; simpa using he) (ev_opt trackLives_ok (ev_r rfl))))))
  obtain ⟨hg, hn0, hn1⟩ := hf
  refine ev_opt (find_good l w now hg hn0 hn1) ?_
  by_cases hr : InR l w 4 now
  case neg =>
    obtain ⟨e2, he2, h2⟩ := hear_bad l w 4 now hb (fun h => hr h.2)
    have hz : (fnd l w now).2.2.2.2.2.2.2.2.1 = 0 := by unfold fnd; split; rfl; split <;> rfl
    exact ev_opt h2 (ev_opt trackLives_ok (ev_f rfl (ev_f (by rw [hz]; rfl) (ev_t (by show (!decide (e2 = 0)) = true; simpa using he2) (ev_opt trackLives_ok (ev_r rfl))))))
  have hy := hit_young hg w now
  have hgy : Good (Young l now) := hg.sub (young_sub l now)
  -- what the rest comes to
  have rest : ∀ (a : List TTalk) (ok : Bool), Good a → (∀ y ∈ a, meet w y = false) → a.length ≤ l.length → ok = (fnd l w now).2.2.2.2.2.2.2.1 → trHear_fn (l, (w.a, (w.b, (w.p, (w.q, (4, (now, ()))))))) = some (a, (ok, (0, ()))) →
      (Tr.opt (trHear_fn (l, (w.a, (w.b, (w.p, (w.q, (4, (now, ())))))))) (fun r1 =>
  .opt (β := (Bool × Unit)) ((trackLives_fn ())) (fun r2 =>
  .ite (!r2.1) (
   .opt (β := (Bool × Unit)) ((trackLives_fn ())) (fun r3 =>
   .ret (r3.1, ()))) (
   .ite (!decide ((fnd l w now).2.2.2.2.2.2.2.2.1 = (0 : Int))) (
    .opt (β := (Bool × Unit)) ((trackLives_fn ())) (fun r3 =>
    .ret (r3.1, ()))) (
    .ite (!decide (r1.2.2.1 = (0 : Int))) (
     .opt (β := (Bool × Unit)) ((trackLives_fn ())) (fun r3 =>
     .ret (r3.1, ()))) (
     .opt (β := (Int × (Int × (Int × (Int × (Int × (Int × (Int × (Bool × (Int × Unit)))))))))) ((trFind_fn (r1.1, (w.a, (w.b, (w.p, (w.q, (now, ())))))))) (fun r3 =>
     .opt (β := ((List TTalk) × (Bool × (Int × Unit)))) ((trHear_fn (r1.1, (w.a, (w.b, (w.p, (w.q, (flags, (now, ()))))))))) (fun r4 =>
     .ite (r1.2.1 == (fnd l w now).2.2.2.2.2.2.2.1) (
      .ite (!r3.2.2.2.2.2.2.2.1) (
       .ite (decide (r3.2.2.2.2.2.2.2.2.1 = (0 : Int))) (
        .ite (!decide (r4.2.2.1 = (0 : Int))) (
         .ite (!r4.2.1) (
          .ret (true, ())) (
          .ret (r4.2.1 == decide (bits BinOp.and IntKind.i64 flags (23 : Int) = (2 : Int)), ()))) (
         .ret (r4.2.1 == decide (bits BinOp.and IntKind.i64 flags (23 : Int) = (2 : Int)), ()))) (
        .ret (false, ()))) (
       .ret (false, ()))) (
      .ret (false, ())))))))))).eval = some (true, ()) := by
    intro a ok ga hno hlen hok hear
    have hz : (fnd l w now).2.2.2.2.2.2.2.2.1 = 0 := by unfold fnd; split; rfl; split <;> rfl
    have hfa : fnd a w now = noT 0 := by unfold fnd; rw [hit_none.2 hno]
    have hya : hit (meet w) (Young a now) = none := hit_none.2 fun y hy => hno y (young_mem.1 hy).1
    refine ev_opt hear (ev_opt trackLives_ok (ev_f rfl (ev_f (by rw [hz]; rfl) (ev_f rfl (ev_opt (find_good a w now ga hn0 hn1) ?_)))))
    by_cases hia : InR a w flags now
    · have h2 := (hear_good a w flags now ga hia).trans (tail_none a w flags now ga hya)
      refine ev_opt h2 (ev_t (by show (ok == _) = true; rw [hok]; simp) (ev_t (by rw [hfa]; rfl) (ev_t (by rw [hfa]; rfl) ?_)))
      have hs := syn_flags hia.2.1 hia.2.2.1
      cases hso : synOnly flags with
      | false => exact ev_f rfl (ev_r (by rw [← hs, hso]; rfl))
      | true =>
        rw [if_pos rfl]
        split
        · exact ev_t rfl (ev_t rfl (ev_r rfl))
        · exact ev_f rfl (ev_r (by rw [← hs, hso]; rfl))
    · obtain ⟨e, he, h2⟩ := hear_bad a w flags now (by have := ga.1; omega) (fun h => hia h.2)
      exact ev_opt h2 (ev_t (by show (ok == _) = true; rw [hok]; simp) (ev_t (by rw [hfa]; rfl) (ev_t (by rw [hfa]; rfl) (ev_t (by show (!decide (e = 0)) = true; simpa using he) (ev_t rfl (ev_r rfl))))))
  have hear := hear_good l w 4 now hg hr
  cases h : hit (meet w) (Young l now) with
  | none =>
    rw [h] at hy
    refine rest (Young l now) false hgy (hit_none.1 h) (List.length_filter_le _ _) ?_ ?_
    · unfold fnd
      revert hy
      cases hit (meet w) l with
      | none => intro _; rfl
      | some q => intro hy; simp only [Option.map_none] at hy ⊢; split at hy; (rename_i ho; rw [if_pos ho]; rfl); cases hy
    · rw [hear, tail_none l w 4 now hg h]; rfl
  | some q =>
    obtain ⟨i, x⟩ := q
    rw [h] at hy
    refine rest _ true (hgy.sub (out_sub _ i)) (out_none hgy w h) (Nat.le_trans (out_sub _ i).length_le (List.length_filter_le _ _)) ?_ ?_
    · unfold fnd
      revert hy
      cases hit (meet w) l with
      | none => intro hy; cases hy
      | some q => intro hy; simp only [Option.map_some] at hy ⊢; split at hy; cases hy; (rename_i ho; rw [if_neg ho]; rfl)
    · rw [hear, tail_some l w 4 now hg h (by decide)]
theorem trackClosed_true {l : List TTalk} {a b p q flags now : Int} (b0 : BndD 6 (D.st 16 l)) (h1 : 0 ≤ a ∧ a ≤ 4294967295) (h2 : 0 ≤ b ∧ b ≤ 4294967295) (h3 : -9223372036854775808 ≤ p ∧ p ≤ 9223372036854775807) (h4 : -9223372036854775808 ≤ q ∧ q ≤ 9223372036854775807) (h5 : -9223372036854775808 ≤ flags ∧ flags ≤ 9223372036854775807) (h6 : -9223372036854775808 ≤ now ∧ now ≤ 9223372036854775807) :
    (trackClosed_tree (l, (a, (b, (p, (q, (flags, (now, ()))))))) ).eval = some (true, ()) := closed_law l ⟨a, b, p, q⟩ flags now b0.1
end Go.Proofs.Ytcdcdmfecglemaa.X
