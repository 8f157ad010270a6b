/- table: what is done with one key is no matter to another one: the law TableApart. Conditions: none. -/
import Derived.Test.YtgdlhdkofcicjaaNTable
import Derived.Test.YtgdlhdkofcicjaaPTableD
namespace Go.Proofs.Ytgdlhdkofcicjaa.X
open Go Go.RowKit Go.Proofs.Ytgdlhdkofcicjaa.Abs Go.Proofs.Ytgdlhdkofcicjaa.Bits
set_option linter.unusedVariables false
set_option linter.unnecessarySimpa false
set_option linter.unusedSimpArgs false
set_option maxRecDepth 100000

theorem apart_of {l : List TSlot} {key other value v e : Int} (hget : taGet_fn (l, (other, ())) = some (v, (e, ())))
    (hput : ∃ (l' : List TSlot) (f : Int), taPut_fn (l, (key, (value, ()))) = some (l', (f, ())) ∧ (f = 0 → taGet_fn (l', (other, ())) = some (v, (e, ())) ∧ tableRight_fn (l', ()) = some (0, ())))
    (hrem : ∃ (l' : List TSlot) (f : Int), taRemove_fn (l, (key, ())) = some (l', (f, ())) ∧ (f = 0 → taGet_fn (l', (other, ())) = some (v, (e, ())) ∧ tableRight_fn (l', ()) = some (0, ()))) :
    (tableApart_tree (l, (key, (other, (value, ()))))).eval = some (true, ()) := by
  obtain ⟨lp, f, hp, hp0⟩ := hput
  obtain ⟨lr, g, hr, hr0⟩ := hrem
  have R : ∀ T : Tr (Bool × Unit), T = (.opt (β := ((List TSlot) × (Int × Unit))) ((taRemove_fn (l, (key, ())))) (fun r3 =>
         .ite (!decide (r3.2.1 = (0 : Int))) (
          .ite (false) (
           .fail 3) (
           .ret (true, ()))) (
          .opt (β := (Int × (Int × Unit))) ((taGet_fn (r3.1, (other, ())))) (fun r4 =>
          .ite (!decide (r4.1 = v)) (
           .ret (false, ())) (
           .ite (!decide (r4.2.1 = e)) (
            .ret (false, ())) (
            .opt (β := (Int × Unit)) ((tableRight_fn (r3.1, ()))) (fun r5 =>
            .ite (!decide (r5.1 = (0 : Int))) (
             .ret (false, ())) (
             .ite (false) (
              .fail 3) (
              .ret (true, ())))))))))) → T.eval = some (true, ()) := by
    rintro T rfl
    refine ev_opt hr ?_
    by_cases h0 : g = 0
    · obtain ⟨q1, q2⟩ := hr0 h0
      exact ev_f (by simpa using h0) (ev_opt q1 (ev_f (by simp) (ev_f (by simp) (ev_opt q2 (ev_f rfl (ev_f rfl (ev_r rfl)))))))
    · exact ev_t (by simpa using h0) (ev_f rfl (ev_r rfl))
  have P : ∀ T : Tr (Bool × Unit), T = (.ite (true) (
       .opt (β := ((List TSlot) × (Int × Unit))) ((taPut_fn (l, (key, (value, ()))))) (fun r2 =>
       .ite (!decide (r2.2.1 = (0 : Int))) (
        .ite (true) (
         .opt (β := ((List TSlot) × (Int × Unit))) ((taRemove_fn (l, (key, ())))) (fun r3 =>
         .ite (!decide (r3.2.1 = (0 : Int))) (
          .ite (false) (
           .fail 3) (
           .ret (true, ()))) (
          .opt (β := (Int × (Int × Unit))) ((taGet_fn (r3.1, (other, ())))) (fun r4 =>
          .ite (!decide (r4.1 = v)) (
           .ret (false, ())) (
           .ite (!decide (r4.2.1 = e)) (
            .ret (false, ())) (
            .opt (β := (Int × Unit)) ((tableRight_fn (r3.1, ()))) (fun r5 =>
            .ite (!decide (r5.1 = (0 : Int))) (
             .ret (false, ())) (
             .ite (false) (
              .fail 3) (
              .ret (true, ())))))))))) (
         .ret (true, ()))) (
        .opt (β := (Int × (Int × Unit))) ((taGet_fn (r2.1, (other, ())))) (fun r3 =>
        .ite (!decide (r3.1 = v)) (
         .ret (false, ())) (
         .ite (!decide (r3.2.1 = e)) (
          .ret (false, ())) (
          .opt (β := (Int × Unit)) ((tableRight_fn (r2.1, ()))) (fun r4 =>
          .ite (!decide (r4.1 = (0 : Int))) (
           .ret (false, ())) (
           .ite (true) (
            .opt (β := ((List TSlot) × (Int × Unit))) ((taRemove_fn (l, (key, ())))) (fun r5 =>
            .ite (!decide (r5.2.1 = (0 : Int))) (
             .ite (false) (
              .fail 3) (
              .ret (true, ()))) (
             .opt (β := (Int × (Int × Unit))) ((taGet_fn (r5.1, (other, ())))) (fun r6 =>
             .ite (!decide (r6.1 = v)) (
              .ret (false, ())) (
              .ite (!decide (r6.2.1 = e)) (
               .ret (false, ())) (
               .opt (β := (Int × Unit)) ((tableRight_fn (r5.1, ()))) (fun r7 =>
               .ite (!decide (r7.1 = (0 : Int))) (
                .ret (false, ())) (
                .ite (false) (
                 .fail 3) (
                 .ret (true, ())))))))))) (
            .ret (true, ())))))))))) (
       .ret (true, ()))) → T.eval = some (true, ()) := by
    rintro T rfl
    refine ev_t rfl (ev_opt hp ?_)
    by_cases h0 : f = 0
    · obtain ⟨q1, q2⟩ := hp0 h0
      exact ev_f (by simpa using h0) (ev_opt q1 (ev_f (by simp) (ev_f (by simp) (ev_opt q2 (ev_f rfl (ev_t rfl (R _ rfl)))))))
    · exact ev_t (by simpa using h0) (ev_t rfl (R _ rfl))
  unfold tableApart_tree
  refine ev_opt hget (ev_opt tableLives_ok (ev_f rfl ?_))
  refine ev_ite (fun _ => ev_opt tableLives_ok (ev_r rfl)) (fun _ => ?_)
  refine ev_ite (fun _ => ?_) (fun _ => P _ rfl)
  exact ev_ite (fun _ => ev_opt tableLives_ok (ev_r rfl)) (fun _ => P _ rfl)
theorem tb_of {l : List TSlot} (hok : Ok l) : TB l.length l ((l.filter (·.used)).map fun x => (x.key, x.value)) := by
  refine ⟨hok, rfl, ?_, fun k v => ?_, ?_⟩
  · unfold Nd
    rw [List.map_map, List.Nodup, List.pairwise_map, List.pairwise_filter, List.pairwise_iff_getElem]
    intro i j hi hj hij hu hv e
    have := ok_keys hok (List.getElem?_eq_getElem hi) (List.getElem?_eq_getElem hj) hu hv e
    omega
  · unfold Has
    constructor
    · rintro ⟨i, hi⟩
      exact List.mem_map.2 ⟨_, List.mem_filter.2 ⟨List.mem_iff_getElem?.2 ⟨i, hi⟩, rfl⟩, rfl⟩
    · intro h
      obtain ⟨x, hx, e⟩ := List.mem_map.1 h
      obtain ⟨hx1, hx2⟩ := List.mem_filter.1 hx
      obtain ⟨i, hi⟩ := List.mem_iff_getElem?.1 hx1
      refine ⟨i, ?_⟩
      rw [hi, slot_eta x hx2]
      cases e; rfl
  · unfold usedc; simp
theorem right_of {N : Nat} {l : List TSlot} {m : List (Int × Int)} (H : TB N l m) (hb : ∀ e ∈ m, 0 ≤ e.1 ∧ e.1 ≤ 18446744073709551615) : tableRight_fn (l, ()) = some (0, ()) := by
  refine tright_fn H.ok fun x hx => ?_
  obtain ⟨i, hi⟩ := List.mem_iff_getElem?.1 hx
  cases hu : x.used with
  | true =>
    have := (H.has x.key x.value).1 ⟨i, by rw [hi, ← slot_eta x hu]⟩
    exact hb _ this
  | false =>
    have := (H.ok.2.2 i x hi).2 hu
    rw [this]; exact ⟨by decide, by decide⟩
theorem mem_get {k w : Int} {m : List (Int × Int)} (nd : Nd m) (h : (k, w) ∈ m) : tGet k m = some w := by
  rcases tb_cases k nd with ⟨h1, _⟩ | ⟨w', h1, h2, _⟩
  · exact (h1 _ h rfl).elim
  · have : w = w' := by
      unfold Nd at nd
      have hp := nd
      rw [List.Nodup, List.pairwise_map] at hp
      apply Classical.byContradiction
      intro hne
      rw [List.pairwise_iff_getElem] at hp
      obtain ⟨i, hi, e1⟩ := List.mem_iff_getElem.1 h
      obtain ⟨j, hj, e2⟩ := List.mem_iff_getElem.1 h1
      rcases Nat.lt_trichotomy i j with q | q | q
      · exact hp i j hi hj q (by rw [e1, e2])
      · subst q; rw [e1] at e2; cases e2; exact hne rfl
      · exact hp j i hj hi q (by rw [e1, e2])
    rw [h2, this]
theorem get_same {k : Int} {m m' : List (Int × Int)} (nd : Nd m) (nd' : Nd m') (h : ∀ w, (k, w) ∈ m' ↔ (k, w) ∈ m) : tGet k m' = tGet k m := by
  rcases tb_cases k nd with ⟨h1, h2, _⟩ | ⟨w, h1, h2, _⟩
  · rcases tb_cases k nd' with ⟨_, g2, _⟩ | ⟨w', g1, _⟩
    · rw [h2, g2]
    · exact (h1 _ ((h w').1 g1) rfl).elim
  · rw [h2]; exact mem_get nd' ((h w).2 h1)
theorem tableApart_true {l : List TSlot} {key other value : Int} (b0 : BndD 6 (D.st 7 l)) (b1 : 0 ≤ key ∧ key ≤ 18446744073709551615) (b2 : 0 ≤ other ∧ other ≤ 18446744073709551615) (b3 : -9223372036854775808 ≤ value ∧ value ≤ 9223372036854775807) : (tableApart_tree (l, (key, (other, (value, ()))))).eval = some (true, ()) := by
  by_cases hko : key = other
  · subst hko
    obtain ⟨c, hc, hc0⟩ := check_fn l
    have hget : ∃ r, taGet_fn (l, (key, ())) = some r := by
      by_cases h0 : c = 0
      · exact ⟨_, get_book (tb_of (hc0.1 h0)) key⟩
      · exact ⟨(0, (c, ())), by unfold taGet_fn taGet_tree; exact ev_opt hc (ev_t (by simpa using h0) (ev_r rfl))⟩
    obtain ⟨r, hr⟩ := hget
    unfold tableApart_tree
    exact ev_opt hr (ev_opt tableLives_ok (ev_f rfl (ev_t (by simp) (ev_opt tableLives_ok (ev_r rfl)))))
  obtain ⟨c, hc, hc0⟩ := check_fn l
  by_cases h0 : c = 0
  case neg =>
    exact apart_of (v := 0) (e := c) (by unfold taGet_fn taGet_tree; exact ev_opt hc (ev_t (by simpa using h0) (ev_r rfl)))
      ⟨[], c, by unfold taPut_fn taPut_tree; exact ev_opt hc (ev_t (by simpa using h0) (ev_r rfl)), fun h => (h0 h).elim⟩
      ⟨[], c, by unfold taRemove_fn taRemove_tree; exact ev_opt hc (ev_t (by simpa using h0) (ev_r rfl)), fun h => (h0 h).elim⟩
  have hok := hc0.1 h0
  have H := tb_of hok
  generalize hm : (l.filter (·.used)).map (fun x => (x.key, x.value)) = m at H
  have hmb : ∀ e ∈ m, 0 ≤ e.1 ∧ e.1 ≤ 18446744073709551615 := by
    intro e he
    rw [← hm] at he
    obtain ⟨x, hx, rfl⟩ := List.mem_map.1 he
    exact b0.2 x (List.mem_filter.1 hx).1 (.i .u64 x.key) (by simp [enc])
  have hg := get_book H other
  obtain ⟨v, e, hve⟩ : ∃ v e : Int, (match tGet other m with | some w => (w, ((0 : Int), ())) | none => ((0 : Int), ((7 : Int), ()))) = (v, (e, ())) := by
    cases tGet other m with
    | some w => exact ⟨_, _, rfl⟩
    | none => exact ⟨_, _, rfl⟩
  have hg' : taGet_fn (l, (other, ())) = some (v, (e, ())) := by rw [← hve]; exact hg
  have keep : ∀ {N : Nat} {l' : List TSlot} {m' : List (Int × Int)}, TB N l' m' → (∀ w, (other, w) ∈ m' ↔ (other, w) ∈ m) → (∀ x ∈ m', 0 ≤ x.1 ∧ x.1 ≤ 18446744073709551615) → taGet_fn (l', (other, ())) = some (v, (e, ())) ∧ tableRight_fn (l', ()) = some (0, ()) := by
    intro N l' m' H' h1 h2
    refine ⟨?_, right_of H' h2⟩
    have := get_book H' other
    rw [get_same H.nd H'.nd h1] at this
    rw [← hve]; exact this
  have putm : ∀ x, x ∈ tPut key value m → x ∈ m ∨ x.1 = key := fun x hx => tput_mem H.nd hx
  have puto : ∀ w, (other, w) ∈ tPut key value m ↔ (other, w) ∈ m := by
    intro w
    rcases tb_cases key H.nd with ⟨_, _, h3⟩ | ⟨w0, _, _, h3, _⟩
    · rw [(h3 value).1, List.mem_append]
      constructor
      · rintro (h | h)
        · exact h
        · simp at h; exact (hko h.1.symm).elim
      · exact .inl
    · rw [(h3 value).1]
      constructor
      · rintro (h | h)
        · cases h; exact (hko rfl).elim
        · exact h.1
      · exact fun h => .inr ⟨h, fun e => hko e.symm⟩
  have putb : ∀ x ∈ tPut key value m, 0 ≤ x.1 ∧ x.1 ≤ 18446744073709551615 := fun x hx => by
    rcases putm x hx with h | h
    · exact hmb x h
    · rw [h]; exact b1
  refine apart_of hg' ?_ ?_
  · rcases put_book H key value with ⟨w, _, l', h1, h2⟩ | ⟨_, _, l', h1, h2⟩ | ⟨_, _, h1⟩
    · exact ⟨l', 0, h1, fun _ => keep h2 puto putb⟩
    · exact ⟨l', 0, h1, fun _ => keep h2 puto putb⟩
    · exact ⟨[], 6, h1, fun h => by cases h⟩
  · rcases rem_book H key with ⟨w, hw, l', h1, h2⟩ | ⟨_, h1⟩
    · refine ⟨l', 0, h1, fun _ => keep h2 (fun w' => ?_) (fun x hx => hmb x (tdel_mem H.nd hw hx))⟩
      rcases tb_cases key H.nd with ⟨_, h3, _⟩ | ⟨w0, _, _, _, h3, _⟩
      · rw [h3] at hw; cases hw
      · rw [h3]
        exact ⟨fun h => h.1, fun h => ⟨h, fun e => hko e.symm⟩⟩
    · exact ⟨[], 7, h1, fun h => by cases h⟩
end Go.Proofs.Ytgdlhdkofcicjaa.X
