/- wheel.own, wheel.Set, wheel.Stop, wheel.Tick, in terms of books. Conditions: none. -/
import Derived.Test.YtnhiilbmgkbbaaaKWheel
import Derived.Test.YtnhiilbmgkbbaaaPWhC
namespace Go.Proofs.Ytnhiilbmgkbbaaa.X
open Go Go.RowKit Go.Proofs.Ytnhiilbmgkbbaaa.Abs Go.Proofs.Ytnhiilbmgkbbaaa.Bits
set_option linter.unusedVariables false
set_option linter.unnecessarySimpa false
set_option linter.unusedSimpArgs false
set_option maxRecDepth 100000

theorem set_id {α : Type} {L : List α} {i : Nat} {x : α} (h : L[i]? = some x) : L.set i x = L := by
  apply List.ext_getElem?
  intro j
  by_cases e : i = j
  · subst e; rw [List.getElem?_set_self (List.getElem?_eq_some_iff.1 h).1, h]
  · rw [List.getElem?_set_ne e]
theorem own_fn {now : Int} {L : List (List TDue)} (hL : L.length = 96) (hs : Small L) : wOwn_fn (now, (L, ())) = some (now, (96, (L, ()))) := by
  have hloop : wOwn_loop22_2 (0, (now, (0, (List.replicate 96 [], (0, (L, ())))))) = some (0, (List.replicate 96 [], (now, (96, (L, ()))))) := by
    unfold wOwn_loop22_2
    have := loop_hit (tag := 220002) (f := fun x => (wOwn_step22_2 x).eval) (l := L) (fun i => ((i : Int), (now, ((0 : Int), (List.replicate 96 [], (i, (L, ()))))))) (fun _ => false) (fun _ => (0, (List.replicate 96 [], (now, (96, (L, ())))))) (fun i x hx => ?_) ?_ 18446744073709551616 (by omega)
    · exact this
    · have hi := (List.getElem?_eq_some_iff.1 hx).1
      have hx2 := hs i x hx
      unfold wOwn_step22_2
      simp only
      refine ev_t (decide_eq_true (by omega)) (ev_g (decide_eq_true (by omega)) (ev_g (decide_eq_true (by omega)) (ev_opt (get_int hL (by omega) hx) (ev_g (decide_eq_true (by omega)) (ev_g (decide_eq_true (by omega)) (ev_g (decide_eq_true (by omega)) (ev_g sameN_t (ev_r ?_))))))))
      rw [next_i64 i (by omega), Int.toNat_natCast, set_id hx]
    · unfold wOwn_step22_2
      simp only
      refine ev_f (decide_eq_false (by rw [hL]; decide)) (ev_g sameN_t (ev_r ?_))
      rw [hL]
  unfold wOwn_fn wOwn_tree
  refine ev_g rfl (ev_opt (b := (0, (List.replicate 96 [], (now, (96, (L, ())))))) ?_ (ev_r rfl))
  have e : gdN (14 : Nat) (96 : Nat) L = L := gdN_eq (c := 14) hL
  exact (congrArg (fun z => wOwn_loop22_2 (0, (now, (0, (List.replicate 96 [], (0, (z, ()))))))) e).trans hloop
theorem wh_small {now : Int} {b : List TDue} (hb : b.length ≤ 500) : Small (Wh now b) := fun i l h => by have := wh_lens hb i l h; omega
theorem check_ok {now : Int} {b : List TDue} (h : BOk now b) : wCheck_fn (now, (Wh now b, ())) = some (0, ()) := by
  obtain ⟨e, h1, h2⟩ := check_fn (now := now) (Wh_len now b) (wh_small h.len)
  rw [h1, h2.2 (book_wok h)]
/-- A wheel that is right is that of a book. -/
theorem check_cases {now : Int} {L : List (List TDue)} (hL : L.length = 96) (hs : Small L) : (∃ b, BOk now b ∧ L = Wh now b) ∨ ∃ e : Int, e ≠ 0 ∧ wCheck_fn (now, (L, ())) = some (e, ()) := by
  obtain ⟨e, h1, h2⟩ := check_fn (now := now) hL hs
  by_cases c : e = 0
  · obtain ⟨w1, w2⟩ := wok_book hL (h2.1 c)
    exact .inl ⟨_, w2, w1⟩
  · exact .inr ⟨e, c, h1⟩
theorem count_ok {now : Int} {b : List TDue} (h : BOk now b) : wCount_fn (now, (Wh now b, ())) = some ((b.length : Int), ()) := by
  rw [count_fn (Wh_len now b) (wh_small h.len), (wh_perm now b).length_eq]

/-! ### find -/
def hasId (id : Int) (d : TDue) : Bool := decide (d.id = id)
theorem find_in (id : Int) (l : List TDue) (hl : l.length ≤ 1000) : wFind_loop17_2 (0, (l, ((l.length : Int), (id, ())))) = some (match hit (hasId id) l with | some q => .inl ((q.1 : Int), (id, ())) | none => .inr (id, ())) := by
  unfold wFind_loop17_2
  refine loop_hit (tag := 170002) (f := fun x => (wFind_step17_2 x).eval) (l := l) (fun i => ((i : Int), (l, ((l.length : Int), (id, ()))))) (hasId id) (fun o => match o with | some q => .inl ((q.1 : Int), (id, ())) | none => .inr (id, ())) (fun i x hx => ?_) ?_ 18446744073709551616 (by omega)
  · have hi := (List.getElem?_eq_some_iff.1 hx).1
    unfold wFind_step17_2 hasId
    simp only
    refine ev_t (decide_eq_true (by omega)) (ev_g (decide_eq_true (by omega)) (ev_opt (b := x) (by rw [Int.toNat_natCast]; exact hx) ?_))
    by_cases e : x.id = id
    · rw [decide_eq_true e]; exact ev_t rfl (ev_r rfl)
    · rw [decide_eq_false e]; exact ev_f rfl (ev_r (by rw [next_i64 i (by omega)]))
  · unfold wFind_step17_2
    simp only
    exact ev_f (decide_eq_false (by omega)) (ev_r rfl)
theorem find_fn {now : Int} {L : List (List TDue)} (id : Int) (hL : L.length = 96) (hs : ∀ (i : Nat) (l : List TDue), L[i]? = some l → l.length ≤ 1000) :
    wFind_fn (now, (L, (id, ()))) = some (match hit (fun l => (hit (hasId id) l).isSome) L with | some q => ((q.1 : Int), ((((hit (hasId id) q.2).map (·.1)).getD 0 : Nat), ())) | none => (-1, (0, ()))) := by
  have hloop : wFind_loop24_2 (0, (L, (id, ()))) = some (match hit (fun l => (hit (hasId id) l).isSome) L with | some q => .inl ((q.1 : Int), (((((hit (hasId id) q.2).map (·.1)).getD 0 : Nat) : Int), ())) | none => .inr ()) := by
    unfold wFind_loop24_2
    refine loop_hit (tag := 240002) (f := fun x => (wFind_step24_2 x).eval) (l := L) (fun i => ((i : Int), (L, (id, ())))) (fun l => (hit (hasId id) l).isSome) (fun o => match o with | some q => .inl ((q.1 : Int), (((((hit (hasId id) q.2).map (·.1)).getD 0 : Nat) : Int), ())) | none => .inr ()) (fun i x hx => ?_) ?_ 18446744073709551616 (by omega)
    · have hi := (List.getElem?_eq_some_iff.1 hx).1
      unfold wFind_step24_2
      simp only
      refine ev_t (decide_eq_true (by omega)) (ev_g (sameN_a (by omega)) (ev_opt (get_int hL (by omega) hx) (ev_opt (find_in id x (hs i x hx)) ?_)))
      cases h : hit (hasId id) x with
      | some q => exact ev_t (decide_eq_true (by omega)) (ev_r rfl)
      | none => exact ev_f rfl (ev_g sameN_t (ev_r (by rw [next_i64 i (by omega)])))
    · unfold wFind_step24_2
      simp only
      exact ev_f (decide_eq_false (by rw [hL]; decide)) (ev_r rfl)
  unfold wFind_fn wFind_tree
  refine ev_g sameN_t (ev_opt hloop ?_)
  cases hit (fun l => (hit (hasId id) l).isSome) L <;> rfl
theorem find_no {now : Int} {b : List TDue} (h : BOk now b) {id : Int} (hid : id ∉ b.map (·.id)) : wFind_fn (now, (Wh now b, (id, ()))) = some (-1, (0, ())) := by
  rw [find_fn id (Wh_len now b) fun i l hl => by have := wh_lens h.len i l hl; omega]
  have : hit (fun l => (hit (hasId id) l).isSome) (Wh now b) = none := hit_none.2 fun l hl => by
    have hn : hit (hasId id) l = none := hit_none.2 fun d hd => by
      unfold Wh at hl
      obtain ⟨i, _, rfl⟩ := List.mem_map.1 hl
      refine decide_eq_false fun e => hid (List.mem_map.2 ⟨d, (List.mem_filter.1 hd).1, e⟩)
    rw [hn]; rfl
  rw [this]
theorem find_yes {now : Int} {b : List TDue} (h : BOk now b) {id : Int} (hid : id ∈ b.map (·.id)) :
    ∃ (i k : Nat) (d : TDue), i < 96 ∧ (cell now b i)[k]? = some d ∧ d.id = id ∧ wFind_fn (now, (Wh now b, (id, ()))) = some ((i : Int), ((k : Int), ())) := by
  rw [find_fn id (Wh_len now b) fun i l hl => by have := wh_lens h.len i l hl; omega]
  cases hh : hit (fun l => (hit (hasId id) l).isSome) (Wh now b) with
  | none =>
    exfalso
    obtain ⟨d, hd, rfl⟩ := List.mem_map.1 hid
    have hb := lst_bound now d.at'
    have h1 := hit_none.1 hh (cell now b (lst now d.at').toNat) (List.mem_iff_getElem?.2 ⟨_, Wh_get now b (by omega)⟩)
    cases h2 : hit (hasId d.id) (cell now b (lst now d.at').toNat) with
    | none =>
      have := hit_none.1 h2 d (List.mem_filter.2 ⟨hd, decide_eq_true (by omega)⟩)
      unfold hasId at this
      simp at this
    | some q => rw [h2] at h1; cases h1
  | some q =>
    obtain ⟨i, l⟩ := q
    obtain ⟨h1, h2⟩ := hit_at hh
    have hi := (List.getElem?_eq_some_iff.1 h1).1
    rw [Wh_len] at hi
    rw [Wh_get now b hi] at h1
    cases h1
    obtain ⟨q, hq⟩ := Option.isSome_iff_exists.1 h2
    obtain ⟨k, d⟩ := q
    obtain ⟨h3, h4⟩ := hit_at hq
    exact ⟨i, k, d, hi, h3, of_decide_eq_true h4, by simp only [hq]; rfl⟩

/-! ### Set -/
theorem wh_snoc (now : Int) (b : List TDue) (d : TDue) : (Wh now b).set (lst now d.at').toNat ((Wh now b).getD (lst now d.at').toNat [] ++ [d]) = Wh now (b ++ [d]) := by
  have hb := lst_bound now d.at'
  apply wh_ext
  · rw [List.length_set, Wh_len]
  · intro i hi
    by_cases e : (lst now d.at').toNat = i
    · subst e
      rw [List.getElem?_set_self (by rw [Wh_len]; omega), List.getD_eq_getElem?_getD, Wh_get now b hi, Option.getD_some]
      unfold cell
      rw [List.filter_append, List.filter_cons, if_pos (by simp; omega)]; rfl
    · rw [List.getElem?_set_ne e, Wh_get now b hi]
      unfold cell
      rw [List.filter_append, List.filter_cons, if_neg (by simp; omega)]; simp
def CanSet (now : Int) (b : List TDue) (id a : Int) : Prop := now < a ∧ a < 16777216 ∧ id ∉ b.map (·.id) ∧ b.length < 500
theorem CanSet.ok {now id a : Int} {b : List TDue} (h : BOk now b) (hc : CanSet now b id a) : BOk now (b ++ [⟨id, a⟩]) := by
  obtain ⟨c1, c2, c3, c4⟩ := hc
  refine ⟨h.n0, h.n1, by simp; omega, fun d hd => ?_, ?_⟩
  · rcases List.mem_append.1 hd with hd | hd
    · exact h.at' d hd
    · rw [List.mem_singleton] at hd; subst hd; exact ⟨c1, c2⟩
  · rw [List.map_append]
    refine List.nodup_append.2 ⟨h.ids, by simp, fun x hx y hy => ?_⟩
    simp at hy
    subst hy
    exact fun e => c3 (e ▸ hx)
/-- What says no. -/
def No (r : Option (Int × (List (List TDue) × (Int × Unit)))) : Prop := ∃ e : Int, e ≠ 0 ∧ r = some (0, (List.replicate 96 [], (e, ())))
theorem set_bad {now id a : Int} {L : List (List TDue)} {e : Int} (he : e ≠ 0) (hc : wCheck_fn (now, (L, ())) = some (e, ())) : No (wSet_fn (now, (L, (id, (a, ()))))) := by
  refine ⟨e, he, ?_⟩
  unfold wSet_fn wSet_tree
  exact ev_g sameN_t (ev_opt hc (ev_t (by simp [he]) (ev_g rfl (ev_r rfl))))
theorem set_fn {now id a : Int} {b : List TDue} (h : BOk now b) : (CanSet now b id a ∧ wSet_fn (now, (Wh now b, (id, (a, ())))) = some (now, (Wh now (b ++ [⟨id, a⟩]), (0, ())))) ∨ (¬ CanSet now b id a ∧ No (wSet_fn (now, (Wh now b, (id, (a, ())))))) := by
  have hn0 := h.n0
  unfold wSet_fn wSet_tree
  simp only
  by_cases c1 : a ≤ now
  · exact .inr ⟨fun hc => by have := hc.1; omega, 1, by decide, ev_g sameN_t (ev_opt (check_ok h) (ev_f rfl (ev_t (decide_eq_true c1) (ev_g rfl (ev_r rfl)))))⟩
  by_cases c2 : 16777216 ≤ a
  · exact .inr ⟨fun hc => by have := hc.2.1; omega, 1, by decide, ev_g sameN_t (ev_opt (check_ok h) (ev_f rfl (ev_f (decide_eq_false c1) (ev_t (decide_eq_true c2) (ev_g rfl (ev_r rfl))))))⟩
  by_cases c3 : id ∈ b.map (·.id)
  · obtain ⟨i, k, d, _, _, _, hf⟩ := find_yes h c3
    exact .inr ⟨fun hc => hc.2.2.1 c3, 8, by decide, ev_g sameN_t (ev_opt (check_ok h) (ev_f rfl (ev_f (decide_eq_false c1) (ev_f (decide_eq_false c2) (ev_g sameN_t (ev_opt hf (ev_t (decide_eq_true (by omega)) (ev_g rfl (ev_r rfl)))))))))⟩
  by_cases c4 : b.length = 500
  · exact .inr ⟨fun hc => by have := hc.2.2.2; omega, 6, by decide, ev_g sameN_t (ev_opt (check_ok h) (ev_f rfl (ev_f (decide_eq_false c1) (ev_f (decide_eq_false c2) (ev_g sameN_t (ev_opt (find_no h c3) (ev_f rfl (ev_g sameN_t (ev_opt (count_ok h) (ev_t (decide_eq_true (by omega)) (ev_g rfl (ev_r rfl))))))))))))⟩
  · refine .inl ⟨⟨by omega, by omega, c3, by have := h.len; omega⟩, ev_g sameN_t (ev_opt (check_ok h) (ev_f rfl (ev_f (decide_eq_false c1) (ev_f (decide_eq_false c2) (ev_g sameN_t (ev_opt (find_no h c3) (ev_f rfl (ev_g sameN_t (ev_opt (count_ok h) (ev_f (decide_eq_false (by omega)) (ev_g sameN_t (ev_opt (own_fn (Wh_len now b) (wh_small h.len)) (ev_opt (put_fn hn0 h.n1 (by omega) (by omega) (by omega) (Wh_len now b) (fun i xs hx => by have := wh_lens h.len i xs hx; omega)) (ev_g sameN_t (ev_r ?_)))))))))))))))⟩
    rw [wh_snoc now b ⟨id, a⟩]

/-! ### Stop -/
theorem del_ok (l : List TDue) (i : Nat) (hi : i < l.length) : delDue_fn ((i : Int), (((i + 1 : Nat) : Int), (l, ()))) = some (l.take i ++ l.drop (i + 1), ()) := by
  unfold delDue_fn delDue_tree
  have hj : Int.toNat ((l.length : Int) - ((i + 1 : Nat) : Int)) = l.length - (i + 1) := by omega
  have hB : (List.take (l.length - (i + 1)) (List.drop (i + 1) l)).length = l.length - (i + 1) := by simp
  simp only [Int.toNat_natCast, hj]
  refine ev_g (by simp; omega) (ev_f (by simp; omega) (ev_g (by simp; omega) (ev_g (by simp; omega) (ev_g (by simp; omega) (ev_g (by rw [hB]; simp; omega) ?_)))))
  refine ev_g (by simp [hB]; omega) (ev_g (by simp [hB]; omega) (ev_g (by simp [hB]; omega) (ev_r ?_)))
  simp only [del_eq l i (i + 1) (by omega) (by omega)]
/-- All but one. -/
def but (id : Int) (b : List TDue) : List TDue := b.filter fun d => !hasId id d
theorem but_at {id : Int} : ∀ {l : List TDue} {k : Nat} {d : TDue}, (l.map (·.id)).Nodup → l[k]? = some d → d.id = id → l.take k ++ l.drop (k + 1) = but id l
  | [], k, d, _, h, _ => by cases h
  | x :: l, 0, d, hn, h, hd => by
    cases h
    rw [List.map_cons, List.nodup_cons] at hn
    unfold but
    rw [List.filter_cons, if_neg (by simp [hasId, hd]), List.filter_eq_self.2 fun y hy => by
      simp [hasId]
      intro e
      exact hn.1 (List.mem_map.2 ⟨y, hy, by rw [e, hd]⟩)]
    rfl
  | x :: l, k + 1, d, hn, h, hd => by
    rw [List.map_cons, List.nodup_cons] at hn
    have h' : l[k]? = some d := by simpa using h
    have ih := but_at hn.2 h' hd
    unfold but at ih ⊢
    have hx : ¬ x.id = id := fun e => hn.1 (List.mem_map.2 ⟨d, List.mem_of_getElem? h', by rw [e, hd]⟩)
    rw [List.filter_cons, if_pos (by simp [hasId, hx]), ← ih]; rfl
theorem cell_nodup {now : Int} {b : List TDue} (h : (b.map (·.id)).Nodup) (i : Nat) : ((cell now b i).map (·.id)).Nodup := h.sublist (List.Sublist.map _ List.filter_sublist)
theorem cell_but (now id : Int) (b : List TDue) (i : Nat) : cell now (but id b) i = but id (cell now b i) := by
  unfold cell but
  rw [List.filter_filter, List.filter_filter]
  exact filter_same fun d _ => Bool.and_comm _ _
theorem wh_but {now : Int} {b : List TDue} (h : BOk now b) {id : Int} {i k : Nat} {d : TDue} (hi : i < 96) (hk : (cell now b i)[k]? = some d) (hd : d.id = id) :
    (Wh now b).set i ((cell now b i).take k ++ (cell now b i).drop (k + 1)) = Wh now (but id b) := by
  apply wh_ext
  · rw [List.length_set, Wh_len]
  · intro j hj
    rw [cell_but]
    by_cases e : i = j
    · subst e
      rw [List.getElem?_set_self (by rw [Wh_len]; omega), but_at (cell_nodup h.ids i) hk hd]
    · rw [List.getElem?_set_ne e, Wh_get now b hj]
      congr 1
      unfold but
      symm
      apply List.filter_eq_self.2
      intro y hy
      simp [hasId]
      intro q
      have hm := List.mem_filter.1 (List.mem_of_getElem? hk)
      have hy' := List.mem_filter.1 hy
      have : y = d := by
        have inj : ∀ (l : List TDue), (l.map (·.id)).Nodup → ∀ x ∈ l, ∀ z ∈ l, x.id = z.id → x = z := by
          intro l
          induction l with
          | nil => intro _ x hx; cases hx
          | cons w l ih =>
            intro hn x hx z hz hxz
            rw [List.map_cons, List.nodup_cons] at hn
            rcases List.mem_cons.1 hx with e1 | hx2
            · rcases List.mem_cons.1 hz with e2 | hz2
              · rw [e1, e2]
              · exact absurd (show w.id ∈ l.map (·.id) from List.mem_map.2 ⟨z, hz2, by rw [← e1, hxz]⟩) hn.1
            · rcases List.mem_cons.1 hz with e2 | hz2
              · exact absurd (show w.id ∈ l.map (·.id) from List.mem_map.2 ⟨x, hx2, by rw [← e2, hxz]⟩) hn.1
              · exact ih hn.2 x hx2 z hz2 hxz
        exact inj b h.ids y hy'.1 d hm.1 (by rw [q, hd])
      subst this
      have a1 := of_decide_eq_true hm.2
      have a2 := of_decide_eq_true hy'.2
      omega
theorem but_ok {now : Int} {b : List TDue} (h : BOk now b) (id : Int) : BOk now (but id b) :=
  ⟨h.n0, h.n1, Nat.le_trans (List.length_filter_le _ _) h.len, fun d hd => h.at' d (List.mem_filter.1 hd).1, h.ids.sublist (List.Sublist.map _ List.filter_sublist)⟩
theorem stop_bad {now id : Int} {L : List (List TDue)} {e : Int} (he : e ≠ 0) (hc : wCheck_fn (now, (L, ())) = some (e, ())) : No (wStop_fn (now, (L, (id, ())))) := by
  refine ⟨e, he, ?_⟩
  unfold wStop_fn wStop_tree
  exact ev_g sameN_t (ev_opt hc (ev_t (by simp [he]) (ev_g rfl (ev_r rfl))))
theorem stop_fn {now id : Int} {b : List TDue} (h : BOk now b) : (id ∈ b.map (·.id) ∧ wStop_fn (now, (Wh now b, (id, ()))) = some (now, (Wh now (but id b), (0, ())))) ∨ (id ∉ b.map (·.id) ∧ No (wStop_fn (now, (Wh now b, (id, ()))))) := by
  unfold wStop_fn wStop_tree
  simp only
  by_cases c : id ∈ b.map (·.id)
  · obtain ⟨i, k, d, hi, hk, hd, hf⟩ := find_yes h c
    have hkl := (List.getElem?_eq_some_iff.1 hk).1
    have hcl := cell_len now b i
    have hbl := h.len
    refine .inl ⟨c, ev_g sameN_t (ev_opt (check_ok h) (ev_f rfl (ev_g sameN_t (ev_opt hf (ev_f (decide_eq_false (by first | omega | (dsimp only; omega) | (simp; omega))) (ev_g sameN_t (ev_opt (own_fn (Wh_len now b) (wh_small h.len)) (ev_g (decide_eq_true (by first | omega | (dsimp only; omega) | (simp; omega))) (ev_g (decide_eq_true (by first | omega | (dsimp only; omega) | (simp; omega))) (ev_opt (b := cell now b i) (by simp only [Int.toNat_natCast]; exact Wh_get now b hi) (ev_g (by simp) (ev_opt (b := ((cell now b i).take k ++ (cell now b i).drop (k + 1), ())) ?_ (ev_g (decide_eq_true (by first | omega | (dsimp only; omega) | (simp; omega))) (ev_g (by simp) (ev_g sameN_t (ev_r ?_))))))))))))))))⟩
    · simp only [next_i64 k (by omega)]
      exact del_ok _ k hkl
    · simp only [Int.toNat_natCast]
      rw [wh_but h hi hk hd]
  · exact .inr ⟨c, 7, by decide, ev_g sameN_t (ev_opt (check_ok h) (ev_f rfl (ev_g sameN_t (ev_opt (find_no h c) (ev_t (by decide) (ev_g rfl (ev_r rfl)))))))⟩

/-! ### Tick -/
/-- What is left after so many ticks, and what has left. -/
def after (now : Int) (b : List TDue) (t : Nat) : List TDue := b.filter fun d => decide (now + (t : Int) < d.at')
def dues (now : Int) (b : List TDue) : Nat → List TDue
  | 0 => []
  | t + 1 => dues now b t ++ b.filter fun d => decide (d.at' = now + ((t + 1 : Nat) : Int))
theorem after_0 {now : Int} {b : List TDue} (h : BOk now b) : after now b 0 = b := List.filter_eq_self.2 fun d hd => decide_eq_true (by have := h.at' d hd; omega)
theorem after_ok {now : Int} {b : List TDue} (h : BOk now b) (t : Nat) (ht : now + (t : Int) < 16777216) : BOk (now + (t : Int)) (after now b t) :=
  ⟨by have := h.n0; omega, ht, Nat.le_trans (List.length_filter_le _ _) h.len, fun d hd => ⟨of_decide_eq_true (List.mem_filter.1 hd).2, (h.at' d (List.mem_filter.1 hd).1).2⟩, h.ids.sublist (List.Sublist.map _ List.filter_sublist)⟩
theorem after_after (now : Int) (b : List TDue) (s t : Nat) : after (now + (s : Int)) (after now b s) t = after now b (s + t) := by
  unfold after
  rw [List.filter_filter]
  apply filter_same
  intro d _
  by_cases c : now + ((s + t : Nat) : Int) < d.at'
  · rw [decide_eq_true c, decide_eq_true (by omega), decide_eq_true (by omega)]; rfl
  · rw [decide_eq_false c, decide_eq_false (by omega)]; rfl
theorem dues_add (now : Int) (b : List TDue) (s : Nat) : ∀ t, dues now b (s + t) = dues now b s ++ dues (now + (s : Int)) (after now b s) t
  | 0 => by simp [dues]
  | t + 1 => by
    have e1 : dues now b (s + (t + 1)) = dues now b (s + t) ++ b.filter (fun d => decide (d.at' = now + ((s + t + 1 : Nat) : Int))) := rfl
    have e2 : dues (now + (s : Int)) (after now b s) (t + 1) = dues (now + (s : Int)) (after now b s) t ++ (after now b s).filter (fun d => decide (d.at' = now + (s : Int) + ((t + 1 : Nat) : Int))) := rfl
    rw [e1, e2, dues_add now b s t, List.append_assoc]
    congr 2
    unfold after
    rw [List.filter_filter]
    apply filter_same
    intro d _
    by_cases c : d.at' = now + ((s + t + 1 : Nat) : Int)
    · rw [decide_eq_true c, decide_eq_true (by omega), decide_eq_true (by omega)]; rfl
    · rw [decide_eq_false c, decide_eq_false (by omega)]; rfl
theorem split_len (m : Int) (b : List TDue) : (b.filter fun d => decide (m < d.at')).length = (b.filter fun d => decide (m + 1 < d.at')).length + (b.filter fun d => decide (d.at' = m + 1)).length := by
  induction b with
  | nil => rfl
  | cons d b ih =>
    rw [List.filter_cons, List.filter_cons, List.filter_cons]
    by_cases c1 : m + 1 < d.at'
    · rw [if_pos (by simp; omega), if_pos (by simp; omega), if_neg (by simp; omega), List.length_cons, List.length_cons, ih]; omega
    · by_cases c2 : d.at' = m + 1
      · rw [if_pos (by simp; omega), if_neg (by simp; omega), if_pos (by simp; omega), List.length_cons, List.length_cons, ih]; omega
      · rw [if_neg (by simp; omega), if_neg (by simp; omega), if_neg (by simp; omega), ih]
theorem dues_len {now : Int} {b : List TDue} (h : BOk now b) : ∀ t, (dues now b t).length + (after now b t).length = b.length
  | 0 => by rw [after_0 h]; simp [dues]
  | t + 1 => by
    have ih := dues_len h t
    have hs := split_len (now + (t : Int)) b
    show (dues now b t ++ _).length + _ = _
    rw [List.length_append]
    unfold after at ih ⊢
    have e : now + ((t + 1 : Nat) : Int) = now + (t : Int) + 1 := by omega
    simp only [e]
    omega
theorem tick_loop {now : Int} {b : List TDue} (h : BOk now b) (n : Nat) (hn : now + (n : Int) < 16777216) :
    wTick_loop7_9 (0, ((n : Int), (now, ([], (0, (List.replicate 96 [], (96, (Wh now b, ())))))))) = some (0, (List.replicate 96 [], (dues now b n, (now + (n : Int), (96, (Wh (now + (n : Int)) (after now b n), ())))))) := by
  have hn0 := h.n0
  unfold wTick_loop7_9
  have := loop_hit (tag := 70009) (f := fun x => (wTick_step7_9 x).eval) (l := List.range n) (fun i => ((i : Int), ((n : Int), (now + (i : Int), (dues now b i, ((0 : Int), (List.replicate 96 [], (96, (Wh (now + (i : Int)) (after now b i), ()))))))))) (fun _ => false)
    (fun _ => (0, (List.replicate 96 [], (dues now b n, (now + (n : Int), (96, (Wh (now + (n : Int)) (after now b n), ()))))))) (fun i x hx => ?_) ?_ 18446744073709551616 (by simp; omega)
  · have e0 : now + ((0 : Nat) : Int) = now := by omega
    simp only [e0, after_0 h] at this
    exact this
  · have hi := (List.getElem?_eq_some_iff.1 hx).1
    rw [List.length_range] at hi
    have hA := after_ok h i (by omega)
    have hl := dues_len h i
    have hl2 := dues_len h (i + 1)
    have hbl := h.len
    have e1 : now + ((i + 1 : Nat) : Int) = now + (i : Int) + 1 := by omega
    have e2 : (after now b i).filter (fun d => decide (now + (i : Int) + 1 < d.at')) = after now b (i + 1) := by
      have := after_after now b i 1
      rw [← this]
      unfold after
      congr 1
    have e3 : (after now b i).filter (fun d => decide (d.at' = now + (i : Int) + 1)) = b.filter (fun d => decide (d.at' = now + ((i + 1 : Nat) : Int))) := by
      unfold after
      rw [List.filter_filter]
      apply filter_same
      intro d _
      rw [e1]
      by_cases c : d.at' = now + (i : Int) + 1
      · rw [decide_eq_true c, decide_eq_true (by omega)]; rfl
      · rw [decide_eq_false c]; rfl
    have ht := turn_fn hA (by omega)
    rw [e2, e3] at ht
    have hd : dues now b (i + 1) = dues now b i ++ b.filter (fun d => decide (d.at' = now + ((i + 1 : Nat) : Int))) := rfl
    rw [hd, List.length_append] at hl2
    unfold wTick_step7_9
    simp only
    refine ev_t (decide_eq_true (by omega)) (ev_opt ht (ev_g (decide_eq_true (by dsimp only; omega)) (ev_g (by simp) (ev_g sameN_t (ev_r ?_)))))
    rw [next_i64 i (by omega), hd, e1]
  · unfold wTick_step7_9
    simp only [List.length_range]
    exact ev_f (decide_eq_false (by omega)) (ev_g (by simp) (ev_g sameN_t (ev_r rfl)))
def NoT (r : Option (Int × (List (List TDue) × (List TDue × (Int × Unit))))) : Prop := ∃ e : Int, e ≠ 0 ∧ r = some (0, (List.replicate 96 [], ([], (e, ()))))
theorem tick_bad {now n : Int} {L : List (List TDue)} {e : Int} (he : e ≠ 0) (hc : wCheck_fn (now, (L, ())) = some (e, ())) : NoT (wTick_fn (now, (L, (n, ())))) := by
  refine ⟨e, he, ?_⟩
  unfold wTick_fn wTick_tree
  exact ev_g sameN_t (ev_opt hc (ev_t (by simp [he]) (ev_g rfl (ev_r rfl))))
theorem tick_fn {now n : Int} {b : List TDue} (h : BOk now b) (hn : -9223372036854775808 ≤ n ∧ n ≤ 9223372036854775807) :
    (∃ t : Nat, n = (t : Int) ∧ n ≤ 10000 ∧ now + n < 16777216 ∧ wTick_fn (now, (Wh now b, (n, ()))) = some (now + n, (Wh (now + n) (after now b t), (dues now b t, (0, ()))))) ∨
    (¬ (0 ≤ n ∧ n ≤ 10000 ∧ now + n < 16777216) ∧ NoT (wTick_fn (now, (Wh now b, (n, ()))))) := by
  have hn0 := h.n0
  have hn1 := h.n1
  unfold wTick_fn wTick_tree
  simp only
  by_cases c1 : n < 0
  · exact .inr ⟨by omega, 1, by decide, ev_g sameN_t (ev_opt (check_ok h) (ev_f rfl (ev_t (decide_eq_true c1) (ev_g rfl (ev_r rfl)))))⟩
  by_cases c2 : 10000 < n
  · exact .inr ⟨by omega, 1, by decide, ev_g sameN_t (ev_opt (check_ok h) (ev_f rfl (ev_f (decide_eq_false c1) (ev_t (decide_eq_true c2) (ev_g rfl (ev_r rfl))))))⟩
  have hw : IntKind.wrap IntKind.i64 (now + n) = now + n := wri _ (by omega)
  by_cases c3 : 16777216 ≤ now + n
  · exact .inr ⟨by omega, 1, by decide, ev_g sameN_t (ev_opt (check_ok h) (ev_f rfl (ev_f (decide_eq_false c1) (ev_f (decide_eq_false c2) (ev_t (decide_eq_true (by rw [hw]; exact c3)) (ev_g rfl (ev_r rfl)))))))⟩
  obtain ⟨t, rfl⟩ := Int.eq_ofNat_of_zero_le (show 0 ≤ n by omega)
  exact .inl ⟨t, rfl, by omega, by omega, ev_g sameN_t (ev_opt (check_ok h) (ev_f rfl (ev_f (decide_eq_false c1) (ev_f (decide_eq_false c2) (ev_f (decide_eq_false (by rw [hw]; exact c3)) (ev_g sameN_t (ev_opt (own_fn (Wh_len now b) (wh_small h.len)) (ev_g rfl (ev_g rfl (ev_opt (tick_loop h t (by omega)) (ev_g sameN_t (ev_r rfl))))))))))))⟩
end Go.Proofs.Ytnhiilbmgkbbaaa.X
