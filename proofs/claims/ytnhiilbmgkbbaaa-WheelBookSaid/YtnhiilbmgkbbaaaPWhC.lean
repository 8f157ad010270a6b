/- wheel.Check, wheel.own, wheel.Tick: a wheel is right just if it is that of a book; so many ticks. Conditions: none. -/
import Derived.Test.YtnhiilbmgkbbaaaJWheel
import Derived.Test.YtnhiilbmgkbbaaaPWhT
namespace Go.Proofs.Ytnhiilbmgkbbaaa.X
open Go Go.RowKit Go.Proofs.Ytnhiilbmgkbbaaa.Abs Go.Proofs.Ytnhiilbmgkbbaaa.Bits
set_option linter.unusedVariables false
set_option linter.unnecessarySimpa false
set_option linter.unusedSimpArgs false
set_option maxRecDepth 100000

/-- A loop that goes on, or ends with something bad. -/
theorem loop_try {A B S T : Type} {tag : Nat} {f : A → Option (A ⊕ B)} {l : List T} (st : Nat → S → A) (I : Nat → S → Prop) (ok : Nat → T → S → Prop) (bad : Nat → T → S → B) (out : S → B)
    (h1 : ∀ (i : Nat) (x : T) (s : S), l[i]? = some x → I i s → (ok i x s → ∃ s', f (st i s) = some (.inl (st (i + 1) s')) ∧ I (i + 1) s') ∧ (¬ ok i x s → f (st i s) = some (.inr (bad i x s))))
    (h2 : ∀ s, I l.length s → f (st l.length s) = some (.inr (out s))) (n : Nat) (s0 : S) (hs : I 0 s0) (hn : l.length < n) :
    (∃ s, I l.length s ∧ loopO tag f n (st 0 s0) = some (out s)) ∨ ∃ i x s, l[i]? = some x ∧ I i s ∧ ¬ ok i x s ∧ loopO tag f n (st 0 s0) = some (bad i x s) := by
  have key : ∀ (c k n : Nat) (s : S), k + c = l.length → c < n → I k s → (∃ s', I l.length s' ∧ loopO tag f n (st k s) = some (out s')) ∨ ∃ i x s', l[i]? = some x ∧ I i s' ∧ ¬ ok i x s' ∧ loopO tag f n (st k s) = some (bad i x s') := by
    intro c
    induction c with
    | zero =>
      intro k n s hk hn hi
      obtain ⟨n, rfl⟩ : ∃ m, n = m + 1 := ⟨n - 1, by omega⟩
      have : k = l.length := by omega
      subst this
      exact .inl ⟨s, hi, loopO_out (h2 s hi)⟩
    | succ c ih =>
      intro k n s hk hn hi
      obtain ⟨n, rfl⟩ : ∃ m, n = m + 1 := ⟨n - 1, by omega⟩
      have hkl : k < l.length := by omega
      obtain ⟨g1, g2⟩ := h1 k l[k] s (List.getElem?_eq_getElem hkl) hi
      by_cases hp : ok k l[k] s
      · obtain ⟨s', e, hi'⟩ := g1 hp
        rw [loopO_in e]
        exact ih (k + 1) n s' (by omega) (by omega) hi'
      · exact .inr ⟨k, _, s, List.getElem?_eq_getElem hkl, hi, hp, loopO_out (g2 hp)⟩
  exact key l.length 0 n s0 (by omega) hn hs

/-! ### Books and their wheels -/
structure WOk (now : Int) (L : List (List TDue)) : Prop where
  n0 : 0 ≤ now
  n1 : now < 16777216
  len : L.flatten.length ≤ 500
  at' : ∀ (i : Nat) (l : List TDue), L[i]? = some l → ∀ d ∈ l, now < d.at' ∧ d.at' < 16777216 ∧ lst now d.at' = (i : Int)
  ids : (L.flatten.map (·.id)).Nodup
theorem flat_perm {α : Type} (x : α) : ∀ (L : List (List α)) (i : Nat) (xs : List α), L[i]? = some xs → (L.set i (x :: xs)).flatten.Perm (x :: L.flatten)
  | [], i, xs, h => by cases h
  | l :: L, 0, xs, h => by cases h; exact List.Perm.refl _
  | l :: L, i + 1, xs, h => by
    show (l ++ (L.set i (x :: xs)).flatten).Perm (x :: (l ++ L.flatten))
    exact ((flat_perm x L i xs (by simpa using h)).append_left l).trans List.perm_middle
theorem wh_cons (now : Int) (d : TDue) (b : List TDue) : Wh now (d :: b) = (Wh now b).set (lst now d.at').toNat (d :: cell now b (lst now d.at').toNat) := by
  have hb := lst_bound now d.at'
  symm
  apply wh_ext
  · rw [List.length_set, Wh_len]
  · intro i hi
    by_cases e : (lst now d.at').toNat = i
    · subst e
      rw [List.getElem?_set_self (by rw [Wh_len]; omega)]
      unfold cell
      rw [List.filter_cons, if_pos (by simp; omega)]
    · rw [List.getElem?_set_ne e, Wh_get now b hi]
      unfold cell
      rw [List.filter_cons, if_neg (by simp; omega)]
theorem wh_perm (now : Int) : ∀ b : List TDue, (Wh now b).flatten.Perm b
  | [] => by
    have : ∀ l ∈ Wh now [], l = [] := fun l hl => by
      unfold Wh at hl
      obtain ⟨i, _, rfl⟩ := List.mem_map.1 hl
      rfl
    rw [List.flatten_eq_nil_iff.2 this]
  | d :: b => by
    have hb := lst_bound now d.at'
    rw [wh_cons]
    exact (flat_perm d _ _ _ (Wh_get now b (by omega))).trans ((wh_perm now b).cons d)
theorem flat_cell {now : Int} (i : Nat) : ∀ (L : List (List TDue)) (k : Nat), (∀ (j : Nat) (l : List TDue), L[j]? = some l → ∀ d ∈ l, lst now d.at' = ((k + j : Nat) : Int)) →
    cell now L.flatten i = if i < k then [] else L.getD (i - k) []
  | [], k, h => by unfold cell; simp
  | l :: L, k, h => by
    have ih := flat_cell (now := now) i L (k + 1) fun j l' hj d hd => by rw [h (j + 1) l' (by simpa using hj) d hd]; omega
    have hl := h 0 l rfl
    unfold cell at ih ⊢
    rw [List.flatten_cons, List.filter_append, ih]
    by_cases e : i = k
    · subst e
      rw [List.filter_eq_self.2 (fun d hd => by rw [hl d hd]; simp), if_pos (by omega), if_neg (by omega), List.append_nil, Nat.sub_self]
      rfl
    · rw [filter_nil (fun d hd => by rw [hl d hd]; simp; omega), List.nil_append]
      by_cases e2 : i < k
      · rw [if_pos (by omega), if_pos e2]
      · rw [if_neg (by omega), if_neg e2, show i - k = (i - (k + 1)) + 1 by omega]
        rfl
theorem wok_book {now : Int} {L : List (List TDue)} (hL : L.length = 96) (h : WOk now L) : L = Wh now L.flatten ∧ BOk now L.flatten := by
  refine ⟨wh_ext hL fun i hi => ?_, h.n0, h.n1, h.len, fun d hd => ?_, h.ids⟩
  · rw [flat_cell i L 0 fun j l hj d hd => by rw [(h.at' j l hj d hd).2.2]; omega]
    rw [if_neg (by omega), Nat.sub_zero]
    exact getD_some (by omega)
  · obtain ⟨l, hl, hd⟩ := List.mem_flatten.1 hd
    obtain ⟨i, hi⟩ := List.mem_iff_getElem?.1 hl
    have := h.at' i l hi d hd
    exact ⟨this.1, this.2.1⟩
theorem book_wok {now : Int} {b : List TDue} (h : BOk now b) : WOk now (Wh now b) := by
  have hp := wh_perm now b
  refine ⟨h.n0, h.n1, by rw [hp.length_eq]; exact h.len, fun i l hi d hd => ?_, ?_⟩
  · have hlt := (List.getElem?_eq_some_iff.1 hi).1
    rw [Wh_len] at hlt
    rw [Wh_get now b hlt] at hi
    cases hi
    have := List.mem_filter.1 hd
    exact ⟨(h.at' d this.1).1, (h.at' d this.1).2, by simpa using this.2⟩
  · exact ((hp.map (·.id)).nodup_iff).2 h.ids

/-! ### Check -/
theorem mg_c (k : Int) (e : Int × Int) (r : List (Int × Int)) : mGet (0 : Nat) k (e :: r) = if k = e.1 then some e.2 else mGet (0 : Nat) k r := by
  have h := mGet_c (0 : Nat) k e r
  by_cases c : k = e.1
  · rw [if_pos c]; exact h.trans (if_pos (show decide (k = e.1) = true from decide_eq_true c))
  · rw [if_neg c]; exact h.trans (if_neg (show ¬ decide (k = e.1) = true by rw [decide_eq_false c]; decide))
theorem mp_c (k v : Int) (e : Int × Int) (r : List (Int × Int)) : mPut (0 : Nat) k v (e :: r) = if k = e.1 then ((k, v) :: r : List (Int × Int)) else e :: mPut (0 : Nat) k v r := by
  have h := mPut_c (0 : Nat) k v e r
  by_cases c : k = e.1
  · rw [if_pos c]; exact h.trans (if_pos (show decide (k = e.1) = true from decide_eq_true c))
  · rw [if_neg c]; exact h.trans (if_neg (show ¬ decide (k = e.1) = true by rw [decide_eq_false c]; decide))
theorem mget_put (k k' v : Int) (m : List (Int × Int)) : mGet (0 : Nat) k (mPut (0 : Nat) k' v m) = if k = k' then some v else mGet (0 : Nat) k m := by
  induction m with
  | nil => exact mg_c k (k', v) []
  | cons e m ih =>
    by_cases h1 : k' = e.1
    · have a := mp_c k' v e m
      rw [if_pos h1] at a
      refine (congrArg (mGet (0 : Nat) k) a).trans ?_
      refine (mg_c k (k', v) m).trans ?_
      by_cases h2 : k = k'
      · rw [if_pos h2, if_pos h2]
      · rw [if_neg h2, if_neg h2]
        refine Eq.symm ((mg_c k e m).trans (if_neg ?_))
        rw [← h1]; exact h2
    · have a := mp_c k' v e m
      rw [if_neg h1] at a
      refine (congrArg (mGet (0 : Nat) k) a).trans ?_
      refine (mg_c k e (mPut (0 : Nat) k' v m)).trans ?_
      by_cases h2 : k = e.1
      · rw [if_pos h2, if_neg (by rw [h2]; exact fun q => h1 q.symm)]
        exact ((mg_c k e m).trans (if_pos h2)).symm
      · rw [if_neg h2, ih]
        by_cases h3 : k = k'
        · rw [if_pos h3, if_pos h3]
        · rw [if_neg h3, if_neg h3]
          exact ((mg_c k e m).trans (if_neg h2)).symm
/-- What has been seen. -/
def Seen (ids : List Int) (m : List (Int × Int)) : Prop := ∀ x : Int, (mGet (0 : Nat) x m).getD 0 = if x ∈ ids then 1 else 0
theorem seen_next {ids : List Int} {m : List (Int × Int)} (h : Seen ids m) {x : Int} (hx : x ∉ ids) : Seen (ids ++ [x]) (mPut (0 : Nat) x (IntKind.wrap IntKind.i64 (Option.getD (mGet (0 : Nat) x m) 0 + 1)) m) := by
  intro y
  rw [mget_put]
  have h0 := h x
  rw [if_neg hx] at h0
  by_cases e : y = x
  · rw [if_pos e, h0, if_pos (by simp [e])]; rfl
  · rw [if_neg e, h y]
    by_cases c : y ∈ ids
    · rw [if_pos c, if_pos (by simp [c])]
    · rw [if_neg c, if_neg (by simp [c, e])]
theorem seen_now {ids : List Int} {m : List (Int × Int)} (h : Seen ids m) (x : Int) : Option.getD (mGet (0 : Nat) x (mPut (0 : Nat) x (IntKind.wrap IntKind.i64 (Option.getD (mGet (0 : Nat) x m) 0 + 1)) m)) 0 = if x ∈ ids then 2 else 1 := by
  rw [mget_put, if_pos rfl, h x]
  split <;> rfl
theorem sameN_t {L : List (List TDue)} : decide (obB (sameN (14 : Nat) (95 : Nat) L) = (0 : Nat)) = true := by
  exact decide_eq_true (congrArg obB (sameN_true 14 95 L))
theorem sameN_a {L : List (List TDue)} {p : Prop} [Decidable p] (h : p) : (sameN (14 : Nat) (95 : Nat) L && decide p) = true := (Bool.and_eq_true _ _).mpr ⟨sameN_true 14 95 L, decide_eq_true h⟩
def Good (now : Int) (i : Nat) (d : TDue) : Prop := now < d.at' ∧ d.at' < 16777216 ∧ lst now d.at' = (i : Int)
theorem chk_in {now : Int} {i : Nat} {l : List TDue} {L : List (List TDue)} {ids : List Int} {m : List (Int × Int)} (h0 : 0 ≤ now) (h1 : now < 16777216) (hs : Seen ids m) (hn : ids.Nodup) (hl : l.length ≤ 100000) :
    (∃ m', Seen (ids ++ l.map (·.id)) m' ∧ (ids ++ l.map (·.id)).Nodup ∧ (∀ d ∈ l, Good now i d) ∧ wCheck_loop16_10 (0, ((i : Int), (l, (L, ((i : Int), ((l.length : Int), (m, (now, (L, ()))))))))) = some (.inr (L, ((i : Int), (m', (now, (L, ()))))))) ∨
    (¬ ((ids ++ l.map (·.id)).Nodup ∧ ∀ d ∈ l, Good now i d) ∧ wCheck_loop16_10 (0, ((i : Int), (l, (L, ((i : Int), ((l.length : Int), (m, (now, (L, ()))))))))) = some (.inl (4, ()))) := by
  unfold wCheck_loop16_10
  have main := loop_try (tag := 160010) (f := fun x => (wCheck_step16_10 x).eval) (l := l) (S := List (Int × Int)) (st := fun j s => ((j : Int), ((i : Int), (l, (L, ((i : Int), ((l.length : Int), (s, (now, (L, ()))))))))))
    (I := fun j s => Seen (ids ++ (l.take j).map (·.id)) s ∧ (ids ++ (l.take j).map (·.id)).Nodup ∧ ∀ d ∈ l.take j, Good now i d) (ok := fun j x s => Good now i x ∧ x.id ∉ ids ++ (l.take j).map (·.id)) (bad := fun _ _ _ => .inl (4, ()))
    (out := fun s => .inr (L, ((i : Int), (s, (now, (L, ())))))) (fun j x s hx hI => ?_) (fun s hI => ?_) 18446744073709551616 m ⟨by simpa using hs, by simpa using hn, by simp⟩ (by omega)
  · rcases main with ⟨s, ⟨i1, i2, i3⟩, e⟩ | ⟨j, x, s, hx, ⟨i1, i2, i3⟩, hno, e⟩
    · rw [List.take_length] at i1 i2 i3
      exact .inl ⟨s, i1, i2, i3, e⟩
    · refine .inr ⟨fun hall => hno ⟨hall.2 x (List.mem_of_getElem? hx), ?_⟩, e⟩
      have hj := (List.getElem?_eq_some_iff.1 hx).1
      have e1 : l = l.take j ++ x :: l.drop (j + 1) := by
        obtain ⟨_, rfl⟩ := List.getElem?_eq_some_iff.1 hx
        rw [← List.drop_eq_getElem_cons hj, List.take_append_drop]
      have h2 := hall.1
      rw [e1, List.map_append, List.map_cons, ← List.append_assoc] at h2
      intro hmem
      exact (List.nodup_append.1 h2).2.2 x.id hmem x.id (by simp) rfl
  · obtain ⟨i1, i2, i3⟩ := hI
    have hj := (List.getElem?_eq_some_iff.1 hx).1
    have htk : l.take (j + 1) = l.take j ++ [x] := by rw [List.take_add_one, hx]; rfl
    have hnx : IntKind.wrap IntKind.i64 ((j : Int) + 1) = ((j + 1 : Nat) : Int) := next_i64 j (by omega)
    have hsn := seen_now i1 x.id
    constructor
    · rintro ⟨⟨g1, g2, g3⟩, g4⟩
      refine ⟨(mPut (0 : Nat) x.id (IntKind.wrap IntKind.i64 (Option.getD (mGet (0 : Nat) x.id s) 0 + 1)) s : List (Int × Int)), ?_, ?_, ?_, ?_⟩
      · unfold wCheck_step16_10
        simp only
        refine ev_t (decide_eq_true (by omega)) (ev_g (decide_eq_true (by omega)) (ev_opt (b := x) (by rw [Int.toNat_natCast]; exact hx) (ev_f (decide_eq_false (by omega)) (ev_f (decide_eq_false (by omega)) (ev_opt (list_fn h0 h1 (by omega) g2 (by omega)) (ev_f ?_ (ev_f ?_ (ev_g sameN_t (ev_g sameN_t (ev_r ?_))))))))))
        · simp [g3]
        · rw [hsn, if_neg g4]; rfl
        · rw [hnx]
      · rw [htk, List.map_append, ← List.append_assoc]
        exact seen_next i1 g4
      · rw [htk, List.map_append, ← List.append_assoc]
        exact List.nodup_append.2 ⟨i2, by simp, fun a ha b hb => by rw [List.mem_map] at hb; obtain ⟨q, hq, rfl⟩ := hb; rw [List.mem_singleton] at hq; subst hq; exact fun e => g4 (e ▸ ha)⟩
      · intro d hd
        rw [htk] at hd
        rcases List.mem_append.1 hd with hd | hd
        · exact i3 d hd
        · rw [List.mem_singleton] at hd; subst hd; exact ⟨g1, g2, g3⟩
    · intro hno
      unfold wCheck_step16_10
      simp only
      refine ev_t (decide_eq_true (by omega)) (ev_g (decide_eq_true (by omega)) (ev_opt (b := x) (by rw [Int.toNat_natCast]; exact hx) ?_))
      by_cases g1 : x.at' ≤ now
      · exact ev_t (decide_eq_true g1) (ev_r rfl)
      by_cases g2 : 16777216 ≤ x.at'
      · exact ev_f (decide_eq_false g1) (ev_t (decide_eq_true g2) (ev_r rfl))
      refine ev_f (decide_eq_false g1) (ev_f (decide_eq_false g2) (ev_opt (list_fn h0 h1 (by omega) (by omega) (by omega)) ?_))
      by_cases g3 : lst now x.at' = (i : Int)
      · refine ev_f (by simp [g3]) (ev_t ?_ (ev_r rfl))
        have g4 : x.id ∈ ids ++ (l.take j).map (·.id) := by
          by_cases c : x.id ∈ ids ++ (l.take j).map (·.id)
          · exact c
          · exact absurd ⟨⟨by omega, by omega, g3⟩, c⟩ hno
        rw [hsn, if_pos g4]; rfl
      · exact ev_t (by simp [g3]) (ev_r rfl)
  · unfold wCheck_step16_10
    simp only
    exact ev_f (decide_eq_false (by omega)) (ev_g sameN_t (ev_g sameN_t (ev_r rfl)))
theorem get_int {L : List (List TDue)} (hL : L.length = 96) {i : Nat} (hi : i < 96) {l : List TDue} (h : L[i]? = some l) : L[Int.toNat (i : Int)]? = some l := by rw [Int.toNat_natCast]; exact h
theorem chk_out {now : Int} {L : List (List TDue)} (h0 : 0 ≤ now) (h1 : now < 16777216) (hL : L.length = 96) (hl : L.flatten.length ≤ 500) :
    (WOk now L ∧ wCheck_loop16_7 (0, (L, ([], (now, (L, ()))))) = some (.inr ())) ∨ (¬ WOk now L ∧ wCheck_loop16_7 (0, (L, ([], (now, (L, ()))))) = some (.inl (4, ()))) := by
  have hlen : ∀ (i : Nat) (l : List TDue), L[i]? = some l → l.length ≤ 500 := fun i l h => by
    have := List.Sublist.length_le (List.sublist_flatten_of_mem (List.mem_of_getElem? h))
    omega
  unfold wCheck_loop16_7
  have main := loop_try (tag := 160007) (f := fun x => (wCheck_step16_7 x).eval) (l := L) (S := List (Int × Int)) (st := fun j s => ((j : Int), (L, (s, (now, (L, ()))))))
    (I := fun j s => Seen ((L.take j).flatten.map (·.id)) s ∧ ((L.take j).flatten.map (·.id)).Nodup ∧ ∀ (i : Nat) (l : List TDue), i < j → L[i]? = some l → ∀ d ∈ l, Good now i d) (ok := fun j x s => ((L.take j).flatten.map (·.id) ++ x.map (·.id)).Nodup ∧ ∀ d ∈ x, Good now j d) (bad := fun _ _ _ => .inl (4, ()))
    (out := fun s => .inr ()) (fun j x s hx hI => ?_) (fun s hI => ?_) 18446744073709551616 [] ⟨fun x => by simp [mGet, mIdx], by simp, fun i l hi => by omega⟩ (by omega)
  · rcases main with ⟨s, ⟨i1, i2, i3⟩, e⟩ | ⟨j, x, s, hx, ⟨i1, i2, i3⟩, hno, e⟩
    · rw [List.take_length] at i1 i2
      exact .inl ⟨⟨h0, h1, hl, fun i l hi d hd => i3 i l (List.getElem?_eq_some_iff.1 hi).1 hi d hd, i2⟩, e⟩
    · refine .inr ⟨fun hall => hno ⟨?_, hall.at' j x hx⟩, e⟩
      have hj := (List.getElem?_eq_some_iff.1 hx).1
      have e1 : L = L.take j ++ x :: L.drop (j + 1) := by
        obtain ⟨_, rfl⟩ := List.getElem?_eq_some_iff.1 hx
        rw [← List.drop_eq_getElem_cons hj, List.take_append_drop]
      have h2 := hall.ids
      rw [e1, List.flatten_append, List.flatten_cons, List.map_append, List.map_append, ← List.append_assoc] at h2
      exact (List.nodup_append.1 h2).1
  · obtain ⟨i1, i2, i3⟩ := hI
    have hj := (List.getElem?_eq_some_iff.1 hx).1
    have htk : (L.take (j + 1)).flatten.map (·.id) = (L.take j).flatten.map (·.id) ++ x.map (·.id) := by rw [List.take_add_one, hx, List.flatten_append]; simp
    have hnx : IntKind.wrap IntKind.i64 ((j : Int) + 1) = ((j + 1 : Nat) : Int) := next_i64 j (by omega)
    have hs : ∀ r, (∃ z, wCheck_loop16_10 (0, ((j : Int), (x, (L, ((j : Int), ((x.length : Int), (s, (now, (L, ()))))))))) = some z ∧
        (match z with | .inl b => some (Sum.inr (Sum.inl (b.1, ()))) | .inr c => some (Sum.inl (IntKind.wrap IntKind.i64 (c.2.1 + 1), (c.1, (c.2.2.1, (c.2.2.2.1, (c.2.2.2.2.1, ()))))))) = r) → (wCheck_step16_7 ((j : Int), (L, (s, (now, (L, ())))))).eval = r := by
      rintro r ⟨z, hz, rfl⟩
      unfold wCheck_step16_7
      simp only
      refine ev_t (decide_eq_true (by omega)) (ev_g (sameN_a (by omega)) (ev_opt (get_int hL (by omega) hx) (ev_g sameN_t (ev_g sameN_t (ev_opt hz ?_)))))
      cases z with
      | inl b => rfl
      | inr c => exact ev_g sameN_t (ev_g sameN_t rfl)
    rcases chk_in (i := j) (L := L) h0 h1 i1 i2 (Nat.le_trans (hlen j x hx) (by omega)) with ⟨m', k1, k2, k3, k4⟩ | ⟨k1, k2⟩
    · refine ⟨fun _ => ⟨m', hs _ ⟨_, k4, ?_⟩, by rw [htk]; exact k1, by rw [htk]; exact k2, fun i l hi hil d hd => ?_⟩, fun hno => absurd ⟨k2, k3⟩ hno⟩
      · simp only; rw [hnx]
      · by_cases e : i = j
        · subst e; rw [hx] at hil; cases hil; exact k3 d hd
        · exact i3 i l (by omega) hil d hd
    · exact ⟨fun hok => absurd hok k1, fun _ => hs _ ⟨_, k2, rfl⟩⟩
  · unfold wCheck_step16_7
    simp only
    exact ev_f (decide_eq_false (by rw [hL]; decide)) (ev_r rfl)
/-- Lists that can be counted. -/
def Small (L : List (List TDue)) : Prop := ∀ (i : Nat) (l : List TDue), L[i]? = some l → l.length * 16 ≤ 140737488351232
theorem count_fn {now : Int} {L : List (List TDue)} (hL : L.length = 96) (hs : Small L) : wCount_fn (now, (L, ())) = some ((L.flatten.length : Int), ()) := by
  have hfl : ∀ (l : List (List TDue)) (s : Int), l.foldl (fun s x => s + (x.length : Int)) s = s + (l.flatten.length : Int) := by
    intro l
    induction l with
    | nil => intro s; simp
    | cons x l ih => intro s; rw [List.foldl_cons, ih, List.flatten_cons, List.length_append]; omega
  have hloop : wCount_loop25_3 (0, (0, (L, ()))) = some ((L.flatten.length : Int), ()) := by
    unfold wCount_loop25_3
    have := (loop_fold (tag := 250003) (f := fun x => (wCount_step25_3 x).eval) (l := L) (S := Int) (st := fun i s => ((i : Int), (s, (L, ())))) (I := fun i s => 0 ≤ s ∧ s ≤ (i : Int) * 8796093022208) (g := fun s x => s + (x.length : Int)) (out := fun s => (s, ()))
      (fun i x s hx hI => ?_) (fun s hI => ?_) 18446744073709551616 0 ⟨by decide, by decide⟩ (by omega)).1
    · rw [hfl] at this
      simpa using this
    · have hi := (List.getElem?_eq_some_iff.1 hx).1
      have hx2 := hs i x hx
      refine ⟨?_, by omega, by omega⟩
      unfold wCount_step25_3
      simp only
      refine ev_t (decide_eq_true (by omega)) (ev_g (sameN_a (by omega)) (ev_opt (get_int hL (by omega) hx) (ev_g sameN_t (ev_r ?_))))
      rw [next_i64 i (by omega), wri _ (by omega)]
    · unfold wCount_step25_3
      simp only
      exact ev_f (decide_eq_false (by rw [hL]; decide)) (ev_r rfl)
  unfold wCount_fn wCount_tree
  exact ev_g sameN_t (ev_opt hloop (ev_r rfl))
theorem check_fn {now : Int} {L : List (List TDue)} (hL : L.length = 96) (hs : Small L) : ∃ e : Int, wCheck_fn (now, (L, ())) = some (e, ()) ∧ (e = 0 ↔ WOk now L) := by
  unfold wCheck_fn wCheck_tree
  simp only
  by_cases c : (500 : Int) < (L.flatten.length : Int)
  · exact ⟨2, ev_g sameN_t (ev_opt (count_fn hL hs) (ev_t (decide_eq_true c) (ev_r rfl))), by constructor; (intro h; cases h); (intro h; have := h.len; omega)⟩
  by_cases c1 : now < 0
  · exact ⟨1, ev_g sameN_t (ev_opt (count_fn hL hs) (ev_f (decide_eq_false c) (ev_t (decide_eq_true c1) (ev_r rfl)))), by constructor; (intro h; cases h); (intro h; have := h.n0; omega)⟩
  by_cases c2 : 16777216 ≤ now
  · exact ⟨1, ev_g sameN_t (ev_opt (count_fn hL hs) (ev_f (decide_eq_false c) (ev_f (decide_eq_false c1) (ev_t (decide_eq_true c2) (ev_r rfl))))), by constructor; (intro h; cases h); (intro h; have := h.n1; omega)⟩
  rcases chk_out (now := now) (L := L) (by omega) (by omega) hL (by omega) with ⟨h, e⟩ | ⟨h, e⟩
  · exact ⟨0, ev_g sameN_t (ev_opt (count_fn hL hs) (ev_f (decide_eq_false c) (ev_f (decide_eq_false c1) (ev_f (decide_eq_false c2) (ev_g sameN_t (ev_g sameN_t (ev_opt e rfl))))))), by simp [h]⟩
  · exact ⟨4, ev_g sameN_t (ev_opt (count_fn hL hs) (ev_f (decide_eq_false c) (ev_f (decide_eq_false c1) (ev_f (decide_eq_false c2) (ev_g sameN_t (ev_g sameN_t (ev_opt e rfl))))))), by constructor; (intro h; cases h); (intro h'; exact absurd h' h)⟩
end Go.Proofs.Ytnhiilbmgkbbaaa.X
