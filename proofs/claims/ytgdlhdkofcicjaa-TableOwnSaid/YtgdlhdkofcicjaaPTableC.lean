/- table, against a book of its keys (a map): the law TableBook. Conditions: none. -/
import Derived.Test.YtgdlhdkofcicjaaMTable
import Derived.Test.YtgdlhdkofcicjaaPTableB
namespace Go.Proofs.Ytgdlhdkofcicjaa.X
open Go Go.RowKit Go.Proofs.Ytgdlhdkofcicjaa.Abs Go.Proofs.Ytgdlhdkofcicjaa.Bits
set_option linter.unusedVariables false
set_option linter.unnecessarySimpa false
set_option linter.unusedSimpArgs false
set_option maxRecDepth 100000

/-! ### A book -/
def tGet (k : Int) (m : List (Int × Int)) : Option Int := mGet (27 : Nat) k m
def tPut (k v : Int) (m : List (Int × Int)) : List (Int × Int) := mPut (27 : Nat) k v m
def tDel (k : Int) (m : List (Int × Int)) : List (Int × Int) := mDel (27 : Nat) k m
theorem tp_idx (k : Int) : ∀ (m : List (Int × Int)), (mIdx (27 : Nat) k m = none ∧ ∀ e ∈ m, e.1 ≠ k) ∨ ∃ A w B, m = A ++ (k, w) :: B ∧ mIdx (27 : Nat) k m = some A.length
  | [] => .inl ⟨rfl, by simp⟩
  | e :: r => by
    by_cases h : k = e.1
    · have hq : keyEq (27 : Nat) k e.1 = true := decide_eq_true h
      refine .inr ⟨[], e.2, r, by rw [h]; rfl, ?_⟩
      simp only [mIdx, hq, List.length_nil]
    · have hq : keyEq (27 : Nat) k e.1 = false := decide_eq_false h
      rcases tp_idx k r with ⟨h1, h2⟩ | ⟨A, w, B, rfl, h2⟩
      · refine .inl ⟨by simp only [mIdx, hq, h1]; rfl, fun x hx => ?_⟩
        rcases List.mem_cons.1 hx with rfl | hx
        · exact fun e => h e.symm
        · exact h2 x hx
      · exact .inr ⟨e :: A, w, B, rfl, by simp only [mIdx, hq, h2]; rfl⟩
def Nd (m : List (Int × Int)) : Prop := (m.map Prod.fst).Nodup
theorem tb_cases (k : Int) {m : List (Int × Int)} (nd : Nd m) : ((∀ e ∈ m, e.1 ≠ k) ∧ tGet k m = none ∧ ∀ v, tPut k v m = m ++ [(k, v)] ∧ Nd (tPut k v m)) ∨
    ∃ w, (k, w) ∈ m ∧ tGet k m = some w ∧ (∀ v, (∀ e, e ∈ tPut k v m ↔ e = (k, v) ∨ (e ∈ m ∧ e.1 ≠ k)) ∧ (tPut k v m).length = m.length ∧ Nd (tPut k v m)) ∧ (∀ e, e ∈ tDel k m ↔ e ∈ m ∧ e.1 ≠ k) ∧ (tDel k m).length + 1 = m.length ∧ Nd (tDel k m) := by
  rcases tp_idx k m with ⟨h1, h2⟩ | ⟨A, w, B, e, h⟩
  · refine .inl ⟨h2, by unfold tGet mGet; rw [h1]; rfl, fun v => ?_⟩
    have hp : tPut k v m = m ++ [(k, v)] := by unfold tPut mPut; rw [h1]; rfl
    refine ⟨hp, ?_⟩
    rw [hp]
    unfold Nd at nd ⊢
    rw [List.map_append, List.nodup_append]
    refine ⟨nd, by simp, fun a ha b hb => ?_⟩
    obtain ⟨x, hx, rfl⟩ := List.mem_map.1 ha
    simp at hb
    rw [hb]; exact h2 x hx
  · have hv : mVal (κ := Int) m A.length = w := by rw [e]; simp [mVal]
    have hp : ∀ v : Int, m.set A.length (k, v) = (A ++ (k, v) :: B : List (Int × Int)) := fun v => by rw [e]; simp
    have hd : m.eraseIdx A.length = (A ++ B : List (Int × Int)) := by rw [e]; simp [List.eraseIdx_append]
    have hput : ∀ v, tPut k v m = A ++ (k, v) :: B := fun v => by unfold tPut mPut; rw [h]; exact hp v
    have hdel : tDel k m = A ++ B := by unfold tDel mDel; rw [h]; exact hd
    have hne : ∀ x ∈ A ++ B, x.1 ≠ k := by
      unfold Nd at nd
      rw [e, List.map_append, List.map_cons, List.nodup_append, List.nodup_cons] at nd
      intro x hx hk
      rcases List.mem_append.1 hx with hx | hx
      · exact nd.2.2 x.1 (List.mem_map_of_mem hx) k (by simp) hk
      · exact nd.2.1.1 (List.mem_map.2 ⟨x, hx, hk⟩)
    refine .inr ⟨w, by rw [e]; simp, ?_, fun v => ⟨fun x => ?_, ?_, ?_⟩, fun x => ?_, ?_, ?_⟩
    · unfold tGet mGet; rw [h]; exact congrArg some hv
    · rw [hput v, e]
      constructor
      · intro hx
        simp only [List.mem_append, List.mem_cons] at hx
        rcases hx with hx | hx | hx
        · exact .inr ⟨by simp [hx], hne x (by simp [hx])⟩
        · exact .inl hx
        · exact .inr ⟨by simp [hx], hne x (by simp [hx])⟩
      · rintro (rfl | ⟨hx, hk⟩)
        · simp
        · simp only [List.mem_append, List.mem_cons] at hx ⊢
          rcases hx with hx | rfl | hx
          · exact .inl hx
          · exact absurd rfl hk
          · exact .inr (.inr hx)
    · rw [hput v, e]; simp
    · rw [hput v]; unfold Nd at nd ⊢; rw [e] at nd; simpa using nd
    · rw [hdel, e]
      constructor
      · intro hx
        refine ⟨?_, hne x hx⟩
        simp only [List.mem_append, List.mem_cons] at hx ⊢
        exact hx.elim .inl (fun h => .inr (.inr h))
      · rintro ⟨hx, hk⟩
        simp only [List.mem_append, List.mem_cons] at hx ⊢
        rcases hx with hx | rfl | hx
        · exact .inl hx
        · exact absurd rfl hk
        · exact .inr hx
    · rw [hdel, e]; simp; omega
    · rw [hdel]; unfold Nd at nd ⊢; rw [e] at nd
      exact nd.sublist ((List.Sublist.append (List.Sublist.refl A) (List.sublist_cons_self _ B)).map _)
/-- A table and its book. -/
structure TB (N : Nat) (l : List TSlot) (m : List (Int × Int)) : Prop where
  ok : Ok l
  len : l.length = N
  nd : Nd m
  has : ∀ k v, Has l k v ↔ (k, v) ∈ m
  cnt : usedc l = m.length
theorem slot_eta (x : TSlot) (hu : x.used = true) : x = ⟨true, x.key, x.value⟩ := by cases x; simp at hu; subst hu; rfl
/-- Where a key is found. -/
theorem tb_find {N : Nat} {l : List TSlot} {m : List (Int × Int)} (H : TB N l m) (k : Int) : taCheck_fn (l, ()) = some (0, ()) ∧ ∃ (kk i : Nat) (x : TSlot), i < N ∧ Path l k (hom l.length k) kk ∧ (hom l.length k + kk) % l.length = i ∧ taFind_fn (l, (k, ())) = some ((i : Int), ()) ∧ l[i]? = some x ∧
    ((x.used = true ∧ x = ⟨true, k, x.value⟩ ∧ (k, x.value) ∈ m) ∨ (x.used = false ∧ x = ⟨false, 0, 0⟩ ∧ ∀ e ∈ m, e.1 ≠ k)) := by
  obtain ⟨c, hc, hc0⟩ := check_fn l
  have := hc0.2 H.ok
  subst this
  refine ⟨hc, ?_⟩
  obtain ⟨hn, hun, hall⟩ := H.ok
  obtain ⟨kk, hk⟩ := path_ex k (home_fn hn k).2 hun
  obtain ⟨x, hx, hs⟩ := hk.2.2
  have hil := (List.getElem?_eq_some_iff.1 hx).1
  refine ⟨kk, _, x, by rw [← H.len]; exact hil, hk, rfl, find_of hn hk, hx, ?_⟩
  cases hu : x.used with
  | true =>
    have hkey : x.key = k := by
      rcases hs with h | h
      · rw [hu] at h; cases h
      · exact h
    have he : x = ⟨true, k, x.value⟩ := by rw [← hkey]; exact slot_eta x hu
    exact .inl ⟨rfl, he, (H.has _ _).1 ⟨_, by rw [hx]; exact congrArg some he⟩⟩
  | false =>
    refine .inr ⟨rfl, (hall _ x hx).2 hu, fun e he hek => ?_⟩
    obtain ⟨j, hj⟩ := (H.has e.1 e.2).2 he
    obtain ⟨k2, hp2, hjj⟩ := (hall j _ hj).1 rfl
    simp only [hek] at hp2 hjj
    rcases Nat.lt_trichotomy kk k2 with h | h | h
    · obtain ⟨z, hz, hz1, _⟩ := hp2.2.1 kk h
      rw [hx] at hz; cases hz; rw [hu] at hz1; cases hz1
    · subst h
      rw [hjj, hj] at hx; cases hx; cases hu
    · obtain ⟨z, hz, hz1, hz2⟩ := hk.2.1 k2 h
      rw [hjj, hj] at hz; cases hz; exact hz2 hek
theorem tb_sz {N : Nat} {l : List TSlot} {m : List (Int × Int)} (H : TB N l m) : Sz N ∧ N ≤ 64 ∧ 0 < N := by
  have := H.ok.1
  rw [H.len] at this
  exact ⟨this, by unfold Sz at this; omega, by unfold Sz at this; omega⟩
theorem get_book {N : Nat} {l : List TSlot} {m : List (Int × Int)} (H : TB N l m) (k : Int) : taGet_fn (l, (k, ())) = some (match tGet k m with | some w => (w, (0, ())) | none => (0, (7, ()))) := by
  obtain ⟨hc, kk, i, x, hi, hk, hki, hf, hx, hcase⟩ := tb_find H k
  unfold taGet_fn taGet_tree
  refine ev_opt hc (ev_f rfl (ev_opt hf (ev_g (by simp) (ev_opt (b := x) (by simpa using hx) ?_))))
  rcases hcase with ⟨hu, he, hm⟩ | ⟨hu, he, hm⟩
  · rcases tb_cases k H.nd with ⟨h1, _⟩ | ⟨w, hw, hget, _⟩
    · exact absurd rfl (h1 _ hm)
    · have : w = x.value := by
        have a1 := (H.has _ _).2 hw
        obtain ⟨j, hj⟩ := a1
        have := ok_keys H.ok hj hx rfl hu (by rw [he])
        subst this
        rw [hj] at hx; cases hx; rfl
      rw [hget, this]
      exact ev_f (by rw [hu]; rfl) (ev_r rfl)
  · rcases tb_cases k H.nd with ⟨_, h1, _⟩ | ⟨w, hw, _⟩
    · rw [h1]; exact ev_t (by rw [hu]; rfl) (ev_r rfl)
    · exact absurd rfl (hm _ hw)
theorem put_ok {l : List TSlot} {key value : Int} {k i : Nat} {x : TSlot} (hok : Ok l) (hk : Path l key (hom l.length key) k) (hi : (hom l.length key + k) % l.length = i) (hx : l[i]? = some x) (hfree : ∃ (j : Nat) (y : TSlot), j ≠ i ∧ l[j]? = some y ∧ y.used = false) : Ok (l.set i ⟨true, key, value⟩) := by
  have hil := (List.getElem?_eq_some_iff.1 hx).1
  have hal : (l.set i ⟨true, key, value⟩).length = l.length := by simp
  have hai : (l.set i ⟨true, key, value⟩)[i]? = some ⟨true, key, value⟩ := List.getElem?_set_self hil
  have hao : ∀ j, j ≠ i → (l.set i ⟨true, key, value⟩)[j]? = l[j]? := fun j hj => List.getElem?_set_ne (fun e => hj e.symm)
  have hs : x.used = false ∨ x.key = key := by
    obtain ⟨z, hz, h⟩ := hk.2.2
    rw [hi, hx] at hz; cases hz; exact h
  generalize l.set i ⟨true, key, value⟩ = a at *
  refine ⟨by rw [hal]; exact hok.1, ?_, fun j y hy => ?_⟩
  · obtain ⟨j, y, hj, hy, h1⟩ := hfree
    exact ⟨j, y, by rw [hao j hj]; exact hy, h1⟩
  · unfold At Path
    rw [hal]
    by_cases hj : j = i
    · subst hj
      rw [hai] at hy; cases hy
      refine ⟨fun _ => ⟨k, ⟨hk.1, fun k' hk' => ?_, ⟨true, key, value⟩, by rw [hi]; exact hai, .inr rfl⟩, hi⟩, fun h => by cases h⟩
      obtain ⟨z, hz, h1, h2⟩ := hk.2.1 k' hk'
      refine ⟨z, ?_, h1, h2⟩
      rw [hao]
      · exact hz
      · rw [← hi]; exact pos_ne hk.1 hk'
    · rw [hao j hj] at hy
      obtain ⟨p1, p2⟩ := hok.2.2 j y hy
      refine ⟨fun h => ?_, p2⟩
      obtain ⟨k2, hk2, e⟩ := p1 h
      refine ⟨k2, ⟨hk2.1, fun k' hk' => ?_, y, by rw [e, hao j hj]; exact hy, .inr rfl⟩, e⟩
      obtain ⟨z, hz, h1, h2⟩ := hk2.2.1 k' hk'
      by_cases hp : (hom l.length y.key + k') % l.length = i
      · rw [hp, hx] at hz; cases hz
        rcases hs with hs | hs
        · rw [h1] at hs; cases hs
        · exact ⟨⟨true, key, value⟩, by rw [hp]; exact hai, rfl, by rw [hs] at h2; exact h2⟩
      · exact ⟨z, by rw [hao _ hp]; exact hz, h1, h2⟩
theorem other_free {l : List TSlot} {i : Nat} {x : TSlot} (hx : l[i]? = some x) (hu : x.used = false) (hc : usedc l ≠ l.length - 1) : ∃ (j : Nat) (y : TSlot), j ≠ i ∧ l[j]? = some y ∧ y.used = false := by
  apply Classical.byContradiction
  intro hno
  have hil := (List.getElem?_eq_some_iff.1 hx).1
  have h1 := usedc_set l i x ⟨true, 0, 0⟩ hx
  rw [hu] at h1
  have h2 : usedc (l.set i ⟨true, 0, 0⟩) = l.length := by
    unfold usedc
    rw [used_all.2, List.length_set]
    intro y hy
    obtain ⟨j, hj, rfl⟩ := List.getElem_of_mem hy
    by_cases e : i = j
    · subst e; simp
    · rw [List.getElem_set_ne e]
      cases h : (l[j]'(by simpa using hj)).used with
      | true => rfl
      | false => exact absurd ⟨j, _, fun q => e q.symm, List.getElem?_eq_getElem _, h⟩ hno
  simp at h1
  omega
theorem put_book {N : Nat} {l : List TSlot} {m : List (Int × Int)} (H : TB N l m) (k v : Int) :
    (∃ w, tGet k m = some w ∧ ∃ l', taPut_fn (l, (k, (v, ()))) = some (l', (0, ())) ∧ TB N l' (tPut k v m)) ∨
    (tGet k m = none ∧ m.length + 1 < N ∧ ∃ l', taPut_fn (l, (k, (v, ()))) = some (l', (0, ())) ∧ TB N l' (tPut k v m)) ∨
    (tGet k m = none ∧ m.length + 1 = N ∧ taPut_fn (l, (k, (v, ()))) = some ([], (6, ()))) := by
  obtain ⟨hc, kk, i, x, hi, hk, hki, hf, hx, hcase⟩ := tb_find H k
  obtain ⟨hn, h64, hpos⟩ := tb_sz H
  have hlen := H.len
  have hai : (l.set i ⟨true, k, v⟩)[i]? = some ⟨true, k, v⟩ := List.getElem?_set_self (by omega)
  have hao : ∀ j, j ≠ i → (l.set i ⟨true, k, v⟩)[j]? = l[j]? := fun j hj => List.getElem?_set_ne (fun e => hj e.symm)
  have huc := usedc_set l i x ⟨true, k, v⟩ hx
  rcases hcase with ⟨hu, he, hm⟩ | ⟨hu, he, hm⟩
  · left
    rcases tb_cases k H.nd with ⟨h1, _⟩ | ⟨w, hw, hget, hput, _⟩
    · exact absurd rfl (h1 _ hm)
    refine ⟨w, hget, l.set i ⟨true, k, v⟩, ?_, ?_, by rw [List.length_set]; exact hlen, (hput v).2.2, fun k' v' => ?_, ?_⟩
    · unfold taPut_fn taPut_tree
      exact ev_opt hc (ev_f rfl (ev_g (by simp; omega) (ev_opt hf (ev_g (by simp; omega) (ev_opt (b := x) (by simpa using hx) (ev_f (by rw [hu]; rfl) (ev_g (by simp; omega) (ev_opt (b := x) (by simpa using hx) (ev_r rfl)))))))))
    · obtain ⟨j, y, hy, hyu⟩ := H.ok.2.1
      exact put_ok H.ok hk hki hx ⟨j, y, fun e => (by subst e; rw [hx] at hy; cases hy; rw [hu] at hyu; cases hyu), hy, hyu⟩
    · rw [(hput v).1]
      constructor
      · rintro ⟨j, hj⟩
        by_cases e : j = i
        · subst e; rw [hai] at hj; cases hj; exact .inl rfl
        · rw [hao j e] at hj
          refine .inr ⟨(H.has _ _).1 ⟨j, hj⟩, fun ek => e (ok_keys H.ok hj hx rfl hu ?_)⟩
          rw [he]; exact ek
      · rintro (h | ⟨h, h2⟩)
        · cases h; exact ⟨i, hai⟩
        · obtain ⟨j, hj⟩ := (H.has _ _).2 h
          refine ⟨j, ?_⟩
          rw [hao j]
          · exact hj
          · intro e; subst e; rw [he, hj] at hx; cases hx; exact h2 rfl
    · rw [(hput v).2.1, ← H.cnt]; rw [hu] at huc; simpa using huc
  · right
    rcases tb_cases k H.nd with ⟨_, hget, hput⟩ | ⟨w, hw, _⟩
    case inr => exact absurd rfl (hm _ hw)
    rw [hu] at huc
    simp at huc
    have hprev : IntKind.wrap IntKind.i64 ((l.length : Int) - (1 : Int)) = ((l.length - 1 : Nat) : Int) := prev_i64 _ (by omega) (by omega)
    have hle : usedc l ≤ N - 1 := by
      have h1 : usedc (l.set i ⟨true, k, v⟩) ≤ N := by
        have := List.length_filter_le (·.used) (l.set i ⟨true, k, v⟩)
        rw [List.length_set, hlen] at this; exact this
      omega
    have hcnt := H.cnt
    by_cases hfull : usedc l = N - 1
    · right
      refine ⟨hget, by omega, ?_⟩
      unfold taPut_fn taPut_tree
      refine ev_opt hc (ev_f rfl (ev_g (by simp; omega) (ev_opt hf (ev_g (by simp; omega) (ev_opt (b := x) (by simpa using hx) (ev_t (by rw [hu]; rfl) (ev_opt (used_fn l (by omega)) (ev_t ?_ (ev_r rfl)))))))))
      rw [hprev]; unfold usedc at hfull; exact decide_eq_true (by rw [hfull, hlen])
    · left
      refine ⟨hget, by omega, l.set i ⟨true, k, v⟩, ?_, ?_, by rw [List.length_set]; exact hlen, (hput v).2, fun k' v' => ?_, ?_⟩
      · unfold taPut_fn taPut_tree
        refine ev_opt hc (ev_f rfl (ev_g (by simp; omega) (ev_opt hf (ev_g (by simp; omega) (ev_opt (b := x) (by simpa using hx) (ev_t (by rw [hu]; rfl) (ev_opt (used_fn l (by omega)) (ev_f ?_ (ev_g (by simp; omega) (ev_opt (b := x) (by simpa using hx) (ev_r rfl)))))))))))
        rw [hprev]; unfold usedc at hfull; exact decide_eq_false (by omega)
      · exact put_ok H.ok hk hki hx (other_free hx hu (by omega))
      · rw [(hput v).1, List.mem_append, List.mem_singleton]
        constructor
        · rintro ⟨j, hj⟩
          by_cases e : j = i
          · subst e; rw [hai] at hj; cases hj; exact .inr rfl
          · rw [hao j e] at hj; exact .inl ((H.has _ _).1 ⟨j, hj⟩)
        · rintro (h | h)
          · obtain ⟨j, hj⟩ := (H.has _ _).2 h
            refine ⟨j, ?_⟩
            rw [hao j]
            · exact hj
            · intro e; subst e; rw [he] at hx; rw [hx] at hj; cases hj
          · cases h; exact ⟨i, hai⟩
      · rw [(hput v).1, List.length_append, List.length_singleton, ← hcnt]; exact huc
theorem rem_book {N : Nat} {l : List TSlot} {m : List (Int × Int)} (H : TB N l m) (k : Int) :
    (∃ w, tGet k m = some w ∧ ∃ l', taRemove_fn (l, (k, ())) = some (l', (0, ())) ∧ TB N l' (tDel k m)) ∨
    (tGet k m = none ∧ taRemove_fn (l, (k, ())) = some ([], (7, ()))) := by
  obtain ⟨hc, kk, i, x, hi, hk, hki, hf, hx, hcase⟩ := tb_find H k
  obtain ⟨hn, h64, hpos⟩ := tb_sz H
  have hlen := H.len
  rcases hcase with ⟨hu, he, hm⟩ | ⟨hu, he, hm⟩
  · left
    rcases tb_cases k H.nd with ⟨h1, _⟩ | ⟨w, hw, hget, _, hdel, hdl, hdn⟩
    · exact absurd rfl (h1 _ hm)
    have HH : Hol N l i 1 := by
      refine ⟨hlen, hn, hi, ⟨x, hx, hu⟩, fun a b y z _ _ hy hz hyu hzu e => ok_keys H.ok hy hz hyu hzu e, fun j y hj hy hyu => ?_, fun j y hy hyu => (H.ok.2.2 j y hy).2 hyu⟩
      obtain ⟨k2, hk2, e⟩ := (H.ok.2.2 j y hy).1 hyu
      unfold Path at hk2
      rw [hlen] at hk2 e
      refine ⟨k2, hk2.1, e, fun k' hk' => ?_, fun k' hk' _ => by omega⟩
      obtain ⟨z, hz, h1, _⟩ := hk2.2.1 k' hk'
      exact ⟨z, hz, h1⟩
    obtain ⟨q, z, hz, hzu⟩ := H.ok.2.1
    have hqN : q < N := by rw [← hlen]; exact (List.getElem?_eq_some_iff.1 hz).1
    have hqi : q ≠ i := fun e => by subst e; rw [hx] at hz; cases hz; rw [hu] at hzu; cases hzu
    obtain ⟨d, hd1, hdN, hdq⟩ : ∃ d, 1 ≤ d ∧ d < N ∧ (i + d) % N = q := by
      have h1 := md (x := q + N - i) (n := N) (by omega)
      refine ⟨(q + N - i) % N, by omega, Nat.mod_lt _ (by omega), ?_⟩
      have h2 := md (x := i + (q + N - i) % N) (n := N) (by omega)
      omega
    obtain ⟨a', h', g1, g2, g3, g4, g5, g6⟩ := rem_loop (N := N) (q := q) (d - 1) l i 1 18446744073709551616 HH (by rw [show 1 + (d - 1) = d by omega]; exact hdq) ⟨z, hz, hzu⟩ (by omega) (by omega) (by omega)
    refine ⟨w, hget, a'.set h' ⟨false, 0, 0⟩, ?_, g4, by rw [List.length_set]; exact g2, hdn, fun k' v' => ?_, ?_⟩
    · unfold taRemove_fn taRemove_tree
      refine ev_opt hc (ev_f rfl (ev_g (by simp; omega) (ev_opt hf (ev_g (by simp; omega) (ev_opt (b := x) (by simpa using hx) (ev_f (by rw [hu]; rfl) (ev_g (decide_eq_true (by omega)) (ev_g (by simp) ?_))))))))
      have hst : Int.tmod (IntKind.wrap IntKind.i64 ((i : Int) + (1 : Int))) (N : Int) = (((i + 1) % N : Nat) : Int) := next_pos hn hi
      rw [hlen, hst]
      exact ev_opt (show taRemove_loop25_10 _ = _ from g1) (ev_g (decide_eq_true (show (0 : Int) ≤ (h' : Int) ∧ (h' : Int) < (a'.length : Int) from ⟨by omega, by omega⟩)) (ev_opt (b := a'[h']'(by omega)) (by simp) (ev_r rfl)))
    · rw [g5, hdel, ← H.has]
      constructor
      · rintro ⟨j, hj, hjj⟩
        refine ⟨⟨j, hjj⟩, fun ek => hj (ok_keys H.ok hjj hx rfl hu ?_)⟩
        rw [he]; exact ek
      · rintro ⟨⟨j, hj⟩, h2⟩
        exact ⟨j, fun e => (by subst e; rw [he, hj] at hx; cases hx; exact h2 rfl), hj⟩
    · have := H.cnt; omega
  · right
    rcases tb_cases k H.nd with ⟨_, hget, _⟩ | ⟨w, hw, _⟩
    case inr => exact absurd rfl (hm _ hw)
    refine ⟨hget, ?_⟩
    unfold taRemove_fn taRemove_tree
    exact ev_opt hc (ev_f rfl (ev_g (by simp; omega) (ev_opt hf (ev_g (by simp; omega) (ev_opt (b := x) (by simpa using hx) (ev_t (by rw [hu]; rfl) (ev_r rfl)))))))
end Go.Proofs.Ytgdlhdkofcicjaa.X
