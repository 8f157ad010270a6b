/- ages, against a book of its rooms (a map): the law AgesBook. Conditions: none. -/
import Derived.Test.YtgdlhdkofcicjaaMAges
import Derived.Test.YtgdlhdkofcicjaaPAges
namespace Go.Proofs.Ytgdlhdkofcicjaa.X
open Go Go.RowKit Go.Proofs.Ytgdlhdkofcicjaa.Abs Go.Proofs.Ytgdlhdkofcicjaa.Bits
set_option linter.unusedVariables false
set_option linter.unusedSimpArgs false

/-! ### A book -/
theorem mp_idx (k : Int) : ∀ (m : List (Int × Int)), (mIdx (0 : Nat) k m = none ∧ ∀ e ∈ m, e.1 ≠ k) ∨ ∃ A w B, m = A ++ (k, w) :: B ∧ mIdx (0 : Nat) k m = some A.length
  | [] => .inl ⟨rfl, by simp⟩
  | e :: r => by
    by_cases h : k = e.1
    · have hq : keyEq (0 : Nat) k e.1 = true := decide_eq_true h
      refine .inr ⟨[], e.2, r, by rw [h]; rfl, ?_⟩
      simp only [mIdx, hq, List.length_nil]
    · have hq : keyEq (0 : Nat) k e.1 = false := decide_eq_false h
      rcases mp_idx k r with ⟨h1, h2⟩ | ⟨A, w, B, rfl, h2⟩
      · refine .inl ⟨by simp only [mIdx, hq, h1]; rfl, fun x hx => ?_⟩
        rcases List.mem_cons.1 hx with rfl | hx
        · exact fun e => h e.symm
        · exact h2 x hx
      · exact .inr ⟨e :: A, w, B, rfl, by simp only [mIdx, hq, h2]; rfl⟩
theorem mp_cases (k : Int) (m : List (Int × Int)) : ((∀ e ∈ m, e.1 ≠ k) ∧ mGet (0 : Nat) k m = none ∧ ∀ v, mPut (0 : Nat) k v m = (m ++ [(k, v)] : List (Int × Int))) ∨
    ∃ A w B, m = A ++ (k, w) :: B ∧ mGet (0 : Nat) k m = some w ∧ (∀ v, mPut (0 : Nat) k v m = (A ++ (k, v) :: B : List (Int × Int))) ∧ mDel (0 : Nat) k m = (A ++ B : List (Int × Int)) := by
  rcases mp_idx k m with ⟨h1, h2⟩ | ⟨A, w, B, e, h⟩
  · exact .inl ⟨h2, by unfold mGet; rw [h1]; rfl, fun v => by unfold mPut; rw [h1]; rfl⟩
  · have hv : mVal (κ := Int) m A.length = w := by rw [e]; simp [mVal]
    have hp : ∀ v : Int, m.set A.length (k, v) = (A ++ (k, v) :: B : List (Int × Int)) := fun v => by rw [e]; simp
    have hd : m.eraseIdx A.length = (A ++ B : List (Int × Int)) := by rw [e]; simp [List.eraseIdx_append]
    refine .inr ⟨A, w, B, e, ?_, fun v => ?_, ?_⟩
    · unfold mGet; rw [h]; exact congrArg some hv
    · unfold mPut; rw [h]; exact hp v
    · unfold mDel; rw [h]; exact hd
/-- What a book should hold. -/
def pl (l : List TStay) : List (Int × Int) := l.map fun x => (x.room, x.at')
theorem pl_app (a b : List TStay) : pl (a ++ b) = pl a ++ pl b := by simp [pl]
theorem pl_len {l : List TStay} {m : List (Int × Int)} (h : (pl l).Perm m) : l.length = m.length := by
  have := h.length_eq
  simpa [pl] using this
theorem book_get {size : Int} {l : List TStay} {z : Nat} {m : List (Int × Int)} (k : Int) (hz : rooms size 0 none l = some z) (hp : (pl l).Perm m) :
    (hit (fun x => decide (x.room = k)) l = none ∧ mGet (0 : Nat) k m = none ∧ ∀ v, (pl (l ++ [⟨k, v⟩])).Perm (mPut (0 : Nat) k v m)) ∨
    ∃ i x, hit (fun x => decide (x.room = k)) l = some (i, x) ∧ l = l.take i ++ x :: l.drop (i + 1) ∧ x.room = k ∧ mGet (0 : Nat) k m = some x.at' ∧ (∀ v, (pl (l.take i ++ l.drop (i + 1) ++ [⟨k, v⟩])).Perm (mPut (0 : Nat) k v m)) ∧ (pl (l.take i ++ l.drop (i + 1))).Perm (mDel (0 : Nat) k m) := by
  rcases mp_cases k m with ⟨h1, h2, h3⟩ | ⟨A, w, B, e, h2, h3, h4⟩
  · refine .inl ⟨hit_none.2 fun x hx => decide_eq_false fun hr => ?_, h2, fun v => ?_⟩
    · exact h1 (x.room, x.at') (hp.subset (List.mem_map_of_mem hx)) hr
    · rw [h3 v, pl_app]; exact hp.append_right _
  · right
    have hm : (k, w) ∈ pl l := hp.symm.subset (by rw [e]; simp)
    obtain ⟨y, hy, hye⟩ := List.mem_map.1 hm
    cases hh : hit (fun x => decide (x.room = k)) l with
    | none =>
      have := hit_none.1 hh y hy
      simp only [Prod.mk.injEq] at hye
      exact absurd hye.1 (of_decide_eq_false this)
    | some q =>
      obtain ⟨i, x⟩ := q
      obtain ⟨hat, hroom⟩ := hit_at hh
      have hroom : x.room = k := of_decide_eq_true hroom
      have hi := hit_lt hh
      have e1 : l = l.take i ++ x :: l.drop (i + 1) := by
        obtain ⟨_, rfl⟩ := List.getElem?_eq_some_iff.1 hat
        rw [← List.drop_eq_getElem_cons hi, List.take_append_drop]
      generalize hA : l.take i = A' at *
      generalize hB : l.drop (i + 1) = B' at *
      have hw : w = x.at' := by
        simp only [Prod.mk.injEq] at hye
        have hy' : y = x ∨ y ∈ A' ++ B' := by
          rw [e1] at hy; simp only [List.mem_append, List.mem_cons] at hy ⊢
          rcases hy with hy | hy | hy
          · exact .inr (.inl hy)
          · exact .inl hy
          · exact .inr (.inr hy)
        rcases hy' with rfl | hy'
        · exact hye.2.symm
        · rw [e1] at hz
          exact absurd (by rw [hye.1, hroom]) (rooms_once A' x B' 0 z none hz y hy')
      have hq : (pl (A' ++ B')).Perm (A ++ B) := by
        have h5 : (pl l).Perm ((k, w) :: pl (A' ++ B')) := by
          rw [e1, pl_app, pl_app, hw, ← hroom]
          exact List.perm_middle
        have h6 : m.Perm ((k, w) :: (A ++ B)) := by rw [e]; exact List.perm_middle
        exact List.Perm.cons_inv ((h5.symm.trans hp).trans h6)
      refine ⟨i, x, rfl, by rw [hA, hB]; exact e1, hroom, by rw [h2, hw], fun v => ?_, ?_⟩
      · rw [hA, hB, h3 v, pl_app]
        exact (List.perm_append_singleton _ _).trans ((hq.cons _).trans List.perm_middle.symm)
      · rw [hA, hB, h4]; exact hq

/-! ### Rooms -/
theorem rooms_snoc {size k now : Int} (hk0 : 0 ≤ k) (hk : k < size) : ∀ (l : List TStay) (s z : Nat) (p : Option Int), rooms size s p l = some z → z.testBit k.toNat = false → (∀ v, p = some v → v ≤ now) → (∀ x ∈ l, x.at' ≤ now) → rooms size s p (l ++ [⟨k, now⟩]) = some (z ||| 2 ^ k.toNat)
  | [], s, z, p, h, hb, hp, hl => by
    cases h
    simp only [List.nil_append, rooms]
    rw [if_neg]
    rintro (h | h | h | ⟨v, hv, h⟩)
    · omega
    · omega
    · rw [hb] at h; cases h
    · have := hp v hv; omega
  | x :: r, s, z, p, h, hb, hp, hl => by
    simp only [List.cons_append, rooms] at h ⊢
    split at h
    · cases h
    · rename_i hc
      rw [if_neg hc]
      exact rooms_snoc hk0 hk r _ z _ h hb (fun v hv => by cases hv; exact hl x List.mem_cons_self) (fun y hy => hl y (List.mem_cons_of_mem _ hy))
theorem rooms_sorted {size : Int} : ∀ (a : List TStay) (x : TStay) (b : List TStay) (s z : Nat) (p : Option Int), rooms size s p (a ++ x :: b) = some z → (∀ v, p = some v → v ≤ x.at') ∧ ∀ y ∈ a, y.at' ≤ x.at'
  | [], x, b, s, z, p, h => by
    simp only [List.nil_append, rooms] at h
    split at h
    · cases h
    · rename_i hc
      refine ⟨fun v hv => ?_, by simp⟩
      have : ¬ x.at' < v := fun hlt => hc (.inr (.inr (.inr ⟨v, hv, hlt⟩)))
      omega
  | w :: a, x, b, s, z, p, h => by
    simp only [List.cons_append, rooms] at h
    split at h
    · cases h
    · rename_i hc
      obtain ⟨h1, h2⟩ := rooms_sorted a x b _ z _ h
      have hw := h1 _ rfl
      refine ⟨fun v hv => ?_, fun y hy => ?_⟩
      · have : ¬ w.at' < v := fun hlt => hc (.inr (.inr (.inr ⟨v, hv, hlt⟩)))
        omega
      · rcases List.mem_cons.1 hy with rfl | hy
        · exact hw
        · exact h2 y hy
theorem pigeon {T : Type} (f : T → Nat) : ∀ (n : Nat) (l : List T), (∀ k, k < n → ∃ x ∈ l, f x = k) → n ≤ l.length
  | 0, l, h => Nat.zero_le _
  | n + 1, l, h => by
    obtain ⟨x, hx, e⟩ := h n (Nat.lt_succ_self n)
    obtain ⟨A, B, rfl⟩ := List.append_of_mem hx
    have := pigeon f n (A ++ B) (fun k hk => by
      obtain ⟨y, hy, e2⟩ := h k (by omega)
      refine ⟨y, ?_, e2⟩
      simp only [List.mem_append, List.mem_cons] at hy ⊢
      rcases hy with hy | rfl | hy
      · exact .inl hy
      · omega
      · exact .inr hy)
    simp at this ⊢; omega
/-- A right one's check. -/
theorem chk_zero {size : Int} {l : List TStay} {z : Nat} (h1 : 1 ≤ size) (h64 : size ≤ 64) (hz : rooms size 0 none l = some z) : chkA size l = 0 := by
  unfold chkA; rw [if_neg (by omega), hz]; rfl
theorem late_fn {size now : Int} {l : List TStay} (hl2 : l.length < 8796093022208) (hle : ∀ x ∈ l, x.at' ≤ now) : agLate_fn (size, (l, (now, ()))) = some (true, ()) := by
  unfold agLate_fn agLate_tree
  by_cases h : l.length = 0
  · exact ev_t (by simpa using h) (ev_r rfl)
  · refine ev_f (by simpa using h) ?_
    rw [prev_i64 _ (by omega) (by omega)]
    exact ev_g (by simp) (ev_opt (b := l[l.length - 1]) (by simp) (ev_r (by rw [decide_eq_true (hle _ (List.getElem_mem _))])))

/-! ### What the functions come to -/
theorem take2_loop (size now : Int) (l : List TStay) (s : Nat) (hs : s < 2 ^ 64) (h1 : 1 ≤ size) (h64 : size ≤ 64) (hl : l.length * 16 ≤ 140737488351232) :
    ∃ b, agTake_loop36_8 (now, ((0 : Int), ((s : Int), (size, ((0 : Int), (size, (l, ()))))))) = some b ∧ ((∃ k : Nat, b = .inl ((k : Int), (0, (size, (l ++ [⟨(k : Int), now⟩], ())))) ∧ (k : Int) < size ∧ s.testBit k = false) ∨ (b = .inr (0, ()) ∧ ∀ k : Nat, (k : Int) < size → s.testBit k = true)) := by
  refine loopO_ex (f := fun x => (agTake_step36_8 x).eval) (fun a => ∃ k : Nat, a = (now, ((k : Int), ((s : Int), (size, ((0 : Int), (size, (l, ()))))))) ∧ (k : Int) ≤ size ∧ ∀ j, j < k → s.testBit j = true) _ (fun a => (64 - a.2.1).toNat) (fun a ha => ?_) 18446744073709551616 _ ⟨0, rfl, by omega, fun j hj => by omega⟩ (by simp)
  obtain ⟨k, rfl, hk, hall⟩ := ha
  have hb := bit_one s k hs
  show (∃ b, (agTake_step36_8 _).eval = some (.inr b) ∧ _) ∨ ∃ a', (agTake_step36_8 _).eval = some (.inl a') ∧ _
  by_cases hks : (k : Int) = size
  · left
    exact ⟨_, ev_f (by simp; omega) (ev_r rfl), .inr ⟨rfl, fun j hj => hall j (by omega)⟩⟩
  have hks : (k : Int) < size := by omega
  cases h : s.testBit k with
  | false =>
    left
    exact ⟨_, ev_t (by simp; omega) (ev_g (by simp) (ev_t (by rw [Int.toNat_natCast, hb, h]; rfl) (ev_opt (behind_ok size l k now hl) (ev_r rfl)))), .inl ⟨k, rfl, hks, h⟩⟩
  | true =>
    right
    refine ⟨_, ev_t (by simp; omega) (ev_g (by simp) (ev_f (by rw [Int.toNat_natCast, hb, h]; rfl) (ev_r rfl))), ⟨k + 1, ?_, by omega, fun j hj => ?_⟩, ?_⟩
    · rw [next_i64 k (by omega)]
    · by_cases hjk : j = k
      · rw [hjk]; exact h
      · exact hall j (by omega)
    · rw [next_i64 k (by omega)]; simp only; omega
theorem take_fn {size now : Int} {l : List TStay} {z : Nat} (h1 : 1 ≤ size) (h64 : size ≤ 64) (hz : rooms size 0 none l = some z) (hl : l.length ≤ 300) (hle : ∀ x ∈ l, x.at' ≤ now) :
    (∃ k : Int, agTake_fn (size, (l, (now, ()))) = some (size, (l ++ [⟨k, now⟩], (k, (0, ())))) ∧ 0 ≤ k ∧ k < size ∧ z.testBit k.toNat = false) ∨ (agTake_fn (size, (l, (now, ()))) = some (0, ([], (0, (6, ())))) ∧ size ≤ l.length) := by
  have hc := chk_zero h1 h64 hz
  obtain ⟨b, hb, hcase⟩ := take2_loop size now l z (rooms_lt h64 _ _ _ _ hz (by decide)) h1 h64 (by omega)
  have key : ∀ R, (Tr.sum (β := (Int × (Int × (Int × ((List TStay) × Unit))))) (γ := (Int × Unit)) b (fun r4 => .ret (r4.2.2.1, (r4.2.2.2.1, (r4.1, (r4.2.1, ()))))) (fun r4 => .ret ((0 : Int), ([], ((0 : Int), ((6 : Int), ())))))).eval = some R → agTake_fn (size, (l, (now, ()))) = some R := by
    intro R hR
    unfold agTake_fn agTake_tree
    refine ev_opt (checkA_fn size _ (by omega)) (ev_f (by rw [hc]; rfl) (ev_opt (late_fn (by omega) hle) (ev_f rfl (ev_opt (taken_fn size _ h64 (by omega)) ?_))))
    unfold takenR
    rw [hz]
    exact ev_opt hb hR
  rcases hcase with ⟨k, rfl, hk, hbit⟩ | ⟨rfl, hall⟩
  · exact .inl ⟨(k : Int), key _ rfl, by omega, hk, by simpa using hbit⟩
  · refine .inr ⟨key _ rfl, ?_⟩
    have := pigeon (fun x : TStay => x.room.toNat) size.toNat l (fun k hk => by
      rcases rooms_bits l 0 z none hz k (hall k (by omega)) with h | h
      · simp at h
      · exact h)
    omega
theorem behind2_ok (size : Int) (l : List TStay) (i : Nat) (k now : Int) (hi : i < l.length) (hl : l.length * 16 ≤ 140737488351232) : agBehind_fn (size, (l, ((i : Int), (k, (now, ()))))) = some (size, (l.take i ++ l.drop (i + 1) ++ [⟨k, now⟩], ())) := by
  unfold agBehind_fn agBehind_tree
  refine ev_g (by simp; omega) (ev_t (by simp) (ev_g (by simp) ?_))
  rw [next_i64 i (by omega)]
  exact ev_opt (delStay_ok l i hi) (ev_g (by simp; omega) (ev_r rfl))
theorem touch_fn {size now k : Int} {l : List TStay} {z : Nat} (h1 : 1 ≤ size) (h64 : size ≤ 64) (hz : rooms size 0 none l = some z) (hl : l.length ≤ 300) (hle : ∀ x ∈ l, x.at' ≤ now) :
    agTouch_fn (size, (l, (k, (now, ())))) = some (match hit (fun x => decide (x.room = k)) l with | some q => (size, (l.take q.1 ++ l.drop (q.1 + 1) ++ [⟨k, now⟩], (0, ()))) | none => (0, ([], (7, ())))) := by
  unfold agTouch_fn agTouch_tree
  refine ev_opt (checkA_fn size _ (by omega)) (ev_f (by rw [chk_zero h1 h64 hz]; rfl) (ev_opt (late_fn (by omega) hle) (ev_f rfl (ev_opt (place_fn size l k (by omega)) ?_))))
  cases h : hit (fun x => decide (x.room = k)) l with
  | none => exact ev_t rfl (ev_r rfl)
  | some q =>
    have := hit_lt (i := q.1) (x := q.2) h
    exact ev_f (by simp) (ev_opt (behind2_ok size l q.1 k now this (by omega)) (ev_r rfl))
theorem expire_loop (size before : Int) (l : List TStay) (hl : l.length ≤ 300) : ∀ (r pre : List TStay) (n : Nat), l = pre ++ r → (∀ x ∈ pre, x.at' < before) → r.length < n →
    ∃ pre' r', l = pre' ++ r' ∧ (∀ x ∈ pre', x.at' < before) ∧ (∀ y t, r' = y :: t → before ≤ y.at') ∧ loopO 390006 (fun x => (agExpire_step39_6 x).eval) n ((pre.length : Int), (before, (l, ((l.length : Int), ((0 : Int), (pre.map TStay.room, (size, (l, ())))))))) = some ((0 : Int), (pre'.map TStay.room, (size, (l, ())))) := by
  intro r
  induction r with
  | nil =>
    intro pre n h hlt hn
    obtain ⟨n, rfl⟩ : ∃ m, n = m + 1 := ⟨n - 1, by simp at hn; omega⟩
    refine ⟨pre, [], h, hlt, fun y t e => (by cases e), loopO_out ?_⟩
    show (agExpire_step39_6 _).eval = _
    exact ev_f (by rw [h]; simp) (ev_g (by simp) (ev_r rfl))
  | cons x r ih =>
    intro pre n h hlt hn
    obtain ⟨n, rfl⟩ : ∃ m, n = m + 1 := ⟨n - 1, by simp at hn; omega⟩
    have hlen : l.length = pre.length + (r.length + 1) := by rw [h]; simp
    have hx : l[Int.toNat (pre.length : Int)]? = some x := by rw [h]; simp
    by_cases hb : before ≤ x.at'
    · refine ⟨pre, x :: r, h, hlt, fun y t e => (by cases e; exact hb), loopO_out ?_⟩
      show (agExpire_step39_6 _).eval = _
      exact ev_t (by simp; omega) (ev_g (by simp) (ev_opt hx (ev_t (by simpa using hb) (ev_g (by simp) (ev_r rfl)))))
    · have step : (agExpire_step39_6 ((pre.length : Int), (before, (l, ((l.length : Int), ((0 : Int), (pre.map TStay.room, (size, (l, ()))))))))).eval = some (.inl (((pre ++ [x]).length : Int), (before, (l, ((l.length : Int), ((0 : Int), ((pre ++ [x]).map TStay.room, (size, (l, ()))))))))) := by
        refine ev_t (by simp; omega) (ev_g (by simp) (ev_opt hx (ev_f (by simpa using hb) (ev_g (by simp; omega) (ev_g (by simp) (ev_r ?_))))))
        rw [next_i64 _ (by omega)]; simp
      rw [loopO_in step]
      exact ih (pre ++ [x]) n (by rw [h]; simp) (fun y hy => by
        rcases List.mem_append.1 hy with hy | hy
        · exact hlt y hy
        · simp at hy; subst hy; omega) (by simp at hn; omega)
theorem expire_fn {size before : Int} {l : List TStay} {z : Nat} (h1 : 1 ≤ size) (h64 : size ≤ 64) (hz : rooms size 0 none l = some z) (hl : l.length ≤ 300) :
    ∃ pre r, l = pre ++ r ∧ (∀ x ∈ pre, x.at' < before) ∧ (∀ x ∈ r, before ≤ x.at') ∧ agExpire_fn (size, (l, (before, ()))) = some (size, (r, (pre.map TStay.room, (0, ())))) := by
  obtain ⟨pre, r, e, h2, h3, h4⟩ := expire_loop size before l hl l [] 18446744073709551616 rfl (by simp) (by omega)
  refine ⟨pre, r, e, h2, fun x hx => ?_, ?_⟩
  · cases r with
    | nil => simp at hx
    | cons y t =>
      have hy := h3 y t rfl
      rcases List.mem_cons.1 hx with rfl | hx
      · exact hy
      · obtain ⟨T1, T2, rfl⟩ := List.append_of_mem hx
        have := (rooms_sorted (pre ++ y :: T1) x T2 0 z none (by rw [e] at hz; simpa using hz)).2 y (by simp)
        omega
  · unfold agExpire_fn agExpire_tree
    refine ev_opt (checkA_fn size _ (by omega)) (ev_f (by rw [chk_zero h1 h64 hz]; rfl) (ev_g rfl (ev_opt (show agExpire_loop39_6 _ = _ from h4) ?_)))
    refine ev_g (by rw [e]; simp; omega) (ev_g (by simp; omega) (ev_r ?_))
    simp only [Int.toNat_natCast, List.length_map, List.take_length]
    rw [e, List.drop_left]
theorem contains_fn (g : List Int) (k : Int) (hg : g.length ≤ 300) : containsInt_fn (g, (k, ())) = some (decide (k ∈ g), ()) := by
  unfold containsInt_fn containsInt_tree
  have := loop_hit (tag := 660002) (f := fun x => (containsInt_step66_2 x).eval) (l := g) (fun i => ((i : Int), (g, (k, ((g.length : Int), ()))))) (fun x => decide (k = x))
      (fun q => match q with | some q => Sum.inl ((q.1 : Int), ()) | none => Sum.inr ())
      (fun i x hx => by
        have hi := (List.getElem?_eq_some_iff.1 hx).1
        show (containsInt_step66_2 _).eval = _
        refine ev_t (by simp; omega) (ev_g (by simp) (ev_opt (show g[Int.toNat (i : Int)]? = some x by simpa using hx) ?_))
        by_cases h : k = x
        · rw [decide_eq_true h]; exact ev_t rfl (ev_r rfl)
        · rw [decide_eq_false h]; exact ev_f rfl (ev_r (by rw [next_i64 i (by omega)])))
      (by show (containsInt_step66_2 _).eval = _; exact ev_f (by simp) (ev_r rfl)) 18446744073709551616 (by omega)
  refine ev_opt (show containsInt_loop66_2 ((0 : Int), (g, (k, ((g.length : Int), ())))) = _ from this) ?_
  cases h : hit (fun x => decide (k = x)) g with
  | none =>
    have := hit_none.1 h
    exact ev_r (by rw [decide_eq_false (fun hm => absurd rfl (of_decide_eq_false (this k hm)))])
  | some q =>
    obtain ⟨hat, hq⟩ := hit_at (i := q.1) (x := q.2) h
    have hm : k ∈ g := by rw [of_decide_eq_true hq]; exact List.mem_of_getElem? hat
    exact ev_r (by rw [decide_eq_true hm]; simp)
theorem right_in (pre l : List TStay) (c1 c2 room at' size : Int) (hl : pre.length ≤ 300) : agesRight_loop43_9 ((0 : Int), (pre, (l, (c1, (c2, ((pre.length : Int), (room, (at', (size, (l, ())))))))))) =
    some (match hit (fun x => decide (x.room = room) || decide (at' < x.at')) pre with | some _ => .inl (4, ()) | none => .inr (l, (c1, (c2, (size, (l, ())))))) := by
  refine loop_hit (tag := 430009) (f := fun x => (agesRight_step43_9 x).eval) (l := pre) (fun i => ((i : Int), (pre, (l, (c1, (c2, ((pre.length : Int), (room, (at', (size, (l, ()))))))))))) (fun x => decide (x.room = room) || decide (at' < x.at'))
      (fun q => match q with | some _ => Sum.inl (4, ()) | none => Sum.inr (l, (c1, (c2, (size, (l, ()))))))
      (fun i x hx => ?_) (by show (agesRight_step43_9 _).eval = _; exact ev_f (by simp) (ev_r rfl)) 18446744073709551616 (by omega)
  have hi := (List.getElem?_eq_some_iff.1 hx).1
  show (agesRight_step43_9 _).eval = _
  refine ev_t (by simp; omega) (ev_g (by simp) (ev_opt (show pre[Int.toNat (i : Int)]? = some x by simpa using hx) ?_))
  cases h1 : decide (x.room = room) with
  | true => exact ev_t rfl (ev_r rfl)
  | false =>
    refine ev_f rfl ?_
    cases h2 : decide (at' < x.at') with
    | true => exact ev_t rfl (ev_r rfl)
    | false => exact ev_f rfl (ev_r (by rw [next_i64 i (by omega)]))
theorem right_fn {size : Int} {l : List TStay} {z : Nat} (h1 : 1 ≤ size) (h64 : size ≤ 64) (hz : rooms size 0 none l = some z) (hl : l.length ≤ 300) : agesRight_fn (size, (l, ())) = some (0, ()) := by
  have := loop_hit (tag := 430004) (f := fun x => (agesRight_step43_4 x).eval) (l := l) (fun i => ((i : Int), (l, ((l.length : Int), (size, (l, ())))))) (fun _ => false)
      (fun q => match q with | some _ => Sum.inl (4, ()) | none => Sum.inr ())
      (fun i x hx => by
        have hi := (List.getElem?_eq_some_iff.1 hx).1
        have e1 : l = l.take i ++ x :: l.drop (i + 1) := by
          obtain ⟨_, rfl⟩ := List.getElem?_eq_some_iff.1 hx
          rw [← List.drop_eq_getElem_cons hi, List.take_append_drop]
        have hr := rooms_free l 0 z none hz x (List.mem_of_getElem? hx)
        have hin := right_in (l.take i) l (l.length : Int) (i : Int) x.room x.at' size (by simp; omega)
        have hno : hit (fun y => decide (y.room = x.room) || decide (x.at' < y.at')) (l.take i) = none := hit_none.2 fun y hy => by
          have hs := (rooms_sorted (l.take i) x (l.drop (i + 1)) 0 z none (by rw [← e1]; exact hz)).2 y hy
          have hn := rooms_once (l.take i) x (l.drop (i + 1)) 0 z none (by rw [← e1]; exact hz) y (List.mem_append_left _ hy)
          have : y.room ≠ x.room := fun e => hn (by rw [e])
          simp [this]; omega
        rw [hno] at hin
        show (agesRight_step43_4 _).eval = _
        have hw : IntKind.wrap IntKind.i64 (size - (1 : Int)) = size - 1 := by
          have := prev_i64 size.toNat (by omega) (by omega)
          rw [show ((size.toNat : Nat) : Int) = size by omega] at this
          rw [this]; omega
        refine ev_t (by simp; omega) (ev_g (by simp) (ev_opt (show l[Int.toNat (i : Int)]? = some x by simpa using hx) (ev_t (decide_eq_true hr.2.1) (ev_f (by rw [hw]; simp; omega) (ev_g (by simp; omega) (ev_opt (show agesRight_loop43_9 _ = _ from hin) (ev_r ?_)))))))
        rw [next_i64 i (by omega)])
      (by show (agesRight_step43_4 _).eval = _; exact ev_f (by simp) (ev_r rfl)) 18446744073709551616 (by omega)
  rw [hit_none.2 (fun _ _ => rfl)] at this
  unfold agesRight_fn agesRight_tree
  exact ev_t (decide_eq_true h1) (ev_f (by simp; omega) (ev_opt (show agesRight_loop43_4 _ = _ from this) (ev_r rfl)))
theorem gone_loop {size now : Int} {steps turns : List Int} {c i : Int} {r : List TStay} {g : List Int} (hg : g.length ≤ 300) (hn : 0 ≤ now ∧ now ≤ 1000000) : ∀ (pre done : List TStay) (m : List (Int × Int)) (z n : Nat), g = (done ++ pre).map TStay.room → (pl (pre ++ r)).Perm m → rooms size 0 none (pre ++ r) = some z → (∀ x ∈ pre, x.at' < now - 2) → pre.length < n →
    ∃ m', (pl r).Perm m' ∧ loopO 130019 (fun x => (agesBook_step13_19 x).eval) n ((done.length : Int), (now, (g, (size, (steps, (turns, (c, (i, ((g.length : Int), (m, (size, (r, ())))))))))))) = some (.inr (size, (steps, (now, (turns, (c, (i, (size, (r, (m', ())))))))))) := by
  have hw : IntKind.wrap IntKind.i64 (now - (2 : Int)) = now - 2 := wrapI64 ⟨by omega, by omega⟩
  intro pre
  induction pre with
  | nil =>
    intro done m z n he hp hz hlt hnn
    obtain ⟨n, rfl⟩ : ∃ k, n = k + 1 := ⟨n - 1, by simp at hnn; omega⟩
    refine ⟨m, by simpa using hp, loopO_out ?_⟩
    show (agesBook_step13_19 _).eval = _
    exact ev_f (by rw [he]; simp) (ev_r rfl)
  | cons x pre ih =>
    intro done m z n he hp hz hlt hnn
    obtain ⟨n, rfl⟩ : ∃ k, n = k + 1 := ⟨n - 1, by simp at hnn; omega⟩
    have hx : g[Int.toNat (done.length : Int)]? = some x.room := by rw [he]; simp
    have hlen : g.length = done.length + (pre.length + 1) := by rw [he]; simp
    have hh : hit (fun y => decide (y.room = x.room)) (x :: pre ++ r) = some (0, x) := by simp [hit]
    rcases book_get x.room hz hp with ⟨h0, _⟩ | ⟨j, y, h0, e1, hroom, hget, hput, hdel⟩
    · rw [hh] at h0; cases h0
    rw [hh] at h0; cases h0
    have hlx := hlt x List.mem_cons_self
    have step : (agesBook_step13_19 ((done.length : Int), (now, (g, (size, (steps, (turns, (c, (i, ((g.length : Int), (m, (size, (r, ()))))))))))))).eval = some (.inl (((done ++ [x]).length : Int), (now, (g, (size, (steps, (turns, (c, (i, ((g.length : Int), (mDel (0 : Nat) x.room m, (size, (r, ()))))))))))))) := by
      refine ev_t (by simp; omega) (ev_g (by simp) (ev_opt hx (ev_f (by rw [hget, hw]; simp; omega) (ev_r ?_))))
      rw [next_i64 _ (by omega)]; simp
    obtain ⟨z', hz'⟩ := rooms_less (size := size) (List.sublist_cons_self x (pre ++ r)) 0 0 none none z hz (fun _ h => h) (fun v1 h => by cases h)
    rw [loopO_in step]
    exact ih (done ++ [x]) _ z' n (by rw [he]; simp) (by simpa using hdel) hz' (fun y hy => hlt y (List.mem_cons_of_mem _ hy)) (by simp at hnn; omega)

/-! ### A turn -/
/-- What a turn does, once its value, its room and its time are known (the step's last part; its text was printed by a program of mine out of the step). -/
def bookTail (tv rm : Int) : (Int × (Int × ((List Int) × (Int × ((List Int) × (Int × (Int × ((List TStay) × ((List (Int × Int)) × Unit))))))))) → Tr ((Int × (Int × ((List Int) × (Int × ((List Int) × (Int × (Int × ((List TStay) × ((List (Int × Int)) × Unit))))))))) ⊕ ((Bool × Unit) ⊕ Unit)) :=
  fun (a0, a1, a2, a3, a4, a5, a6, a7, a8, _) =>
  .grd (true) (
    .grd (decide (a1 ≠ (0 : Int))) (
    .ite (decide (bits BinOp.and IntKind.i64 tv (3 : Int) = (0 : Int))) (
     .opt (β := (Int × ((List TStay) × (Int × (Int × Unit))))) ((agTake_fn (a6, (a7, (a3, ()))))) (fun r1 =>
     .ite (decide (r1.2.2.2.1 = (0 : Int))) (
      .ite (Option.isSome (mGet (0 : Nat) r1.2.2.1 a8)) (
       .ret (Sum.inr (Sum.inl (false, ())))) (
       .ite (decide (r1.2.2.1 < (0 : Int))) (
        .ret (Sum.inr (Sum.inl (false, ())))) (
        .ite (decide (a1 ≤ r1.2.2.1)) (
         .ret (Sum.inr (Sum.inl (false, ())))) (
         .ite (!decide ((↑(List.length r1.2.1) : Int) = (↑(List.length (mPut (0 : Nat) r1.2.2.1 a3 a8)) : Int))) (
          .ret (Sum.inr (Sum.inl (false, ())))) (
          .opt (β := (Int × Unit)) ((agesRight_fn (r1.1, (r1.2.1, ())))) (fun r2 =>
          .ite (!decide (r2.1 = (0 : Int))) (
           .ret (Sum.inr (Sum.inl (false, ())))) (
           .ret (Sum.inl (IntKind.wrap IntKind.i64 (a0 + (1 : Int)), (a1, (a2, (a3, (a4, (a5, (r1.1, (r1.2.1, (mPut (0 : Nat) r1.2.2.1 a3 a8, ()))))))))))))))))) (
      .ite (decide ((↑(List.length a8) : Int) < a1)) (
       .ret (Sum.inr (Sum.inl (false, ())))) (
       .ite (!decide ((↑(List.length a7) : Int) = (↑(List.length a8) : Int))) (
        .ret (Sum.inr (Sum.inl (false, ())))) (
        .opt (β := (Int × Unit)) ((agesRight_fn (a6, (a7, ())))) (fun r2 =>
        .ite (!decide (r2.1 = (0 : Int))) (
         .ret (Sum.inr (Sum.inl (false, ())))) (
         .ret (Sum.inl (IntKind.wrap IntKind.i64 (a0 + (1 : Int)), (a1, (a2, (a3, (a4, (a5, (a6, (a7, (a8, ()))))))))))))))))) (
     .ite (decide (bits BinOp.and IntKind.i64 tv (3 : Int) = (1 : Int))) (
      .opt (β := (Int × ((List TStay) × (Int × Unit)))) ((agTouch_fn (a6, (a7, (rm, (a3, ())))))) (fun r1 =>
      .ite (!decide (r1.2.2.1 = (0 : Int)) == Option.isSome (mGet (0 : Nat) rm a8)) (
       .ret (Sum.inr (Sum.inl (false, ())))) (
       .ite (Option.isSome (mGet (0 : Nat) rm a8)) (
        .ite (!decide ((↑(List.length r1.2.1) : Int) = (↑(List.length (mPut (0 : Nat) rm a3 a8)) : Int))) (
         .ret (Sum.inr (Sum.inl (false, ())))) (
         .opt (β := (Int × Unit)) ((agesRight_fn (r1.1, (r1.2.1, ())))) (fun r2 =>
         .ite (!decide (r2.1 = (0 : Int))) (
          .ret (Sum.inr (Sum.inl (false, ())))) (
          .ret (Sum.inl (IntKind.wrap IntKind.i64 (a0 + (1 : Int)), (a1, (a2, (a3, (a4, (a5, (r1.1, (r1.2.1, (mPut (0 : Nat) rm a3 a8, ())))))))))))))) (
        .ite (!decide ((↑(List.length a7) : Int) = (↑(List.length a8) : Int))) (
         .ret (Sum.inr (Sum.inl (false, ())))) (
         .opt (β := (Int × Unit)) ((agesRight_fn (a6, (a7, ())))) (fun r2 =>
         .ite (!decide (r2.1 = (0 : Int))) (
          .ret (Sum.inr (Sum.inl (false, ())))) (
          .ret (Sum.inl (IntKind.wrap IntKind.i64 (a0 + (1 : Int)), (a1, (a2, (a3, (a4, (a5, (a6, (a7, (a8, ()))))))))))))))))) (
      .ite (decide (bits BinOp.and IntKind.i64 tv (3 : Int) = (2 : Int))) (
       .opt (β := (Int × ((List TStay) × (Int × Unit)))) ((agLeave_fn (a6, (a7, (rm, ()))))) (fun r1 =>
       .ite (!decide (r1.2.2.1 = (0 : Int)) == Option.isSome (mGet (0 : Nat) rm a8)) (
        .ret (Sum.inr (Sum.inl (false, ())))) (
        .ite (Option.isSome (mGet (0 : Nat) rm a8)) (
         .ite (!decide ((↑(List.length r1.2.1) : Int) = (↑(List.length (mDel (0 : Nat) rm a8)) : Int))) (
          .ret (Sum.inr (Sum.inl (false, ())))) (
          .opt (β := (Int × Unit)) ((agesRight_fn (r1.1, (r1.2.1, ())))) (fun r2 =>
          .ite (!decide (r2.1 = (0 : Int))) (
           .ret (Sum.inr (Sum.inl (false, ())))) (
           .ret (Sum.inl (IntKind.wrap IntKind.i64 (a0 + (1 : Int)), (a1, (a2, (a3, (a4, (a5, (r1.1, (r1.2.1, (mDel (0 : Nat) rm a8, ())))))))))))))) (
         .ite (!decide ((↑(List.length a7) : Int) = (↑(List.length a8) : Int))) (
          .ret (Sum.inr (Sum.inl (false, ())))) (
          .opt (β := (Int × Unit)) ((agesRight_fn (a6, (a7, ())))) (fun r2 =>
          .ite (!decide (r2.1 = (0 : Int))) (
           .ret (Sum.inr (Sum.inl (false, ())))) (
           .ret (Sum.inl (IntKind.wrap IntKind.i64 (a0 + (1 : Int)), (a1, (a2, (a3, (a4, (a5, (a6, (a7, (a8, ()))))))))))))))))) (
       .opt (β := (Int × ((List TStay) × ((List Int) × (Int × Unit))))) ((agExpire_fn (a6, (a7, (IntKind.wrap IntKind.i64 (a3 - (2 : Int)), ()))))) (fun r1 =>
       .ite (!decide (r1.2.2.2.1 = (0 : Int))) (
        .ret (Sum.inr (Sum.inl (false, ())))) (
        .ite (Option.isSome (mGet (0 : Nat) rm a8)) (
         .opt (β := (Bool × Unit)) ((containsInt_fn (r1.2.2.1, (rm, ())))) (fun r2 =>
         .ite (!decide (Option.getD (mGet (0 : Nat) rm a8) (0 : Int) < IntKind.wrap IntKind.i64 (a3 - (2 : Int))) == r2.1) (
          .ret (Sum.inr (Sum.inl (false, ())))) (
          .opt (β := ((Bool × Unit) ⊕ (Int × ((List Int) × (Int × ((List Int) × (Int × (Int × (Int × ((List TStay) × ((List (Int × Int)) × Unit))))))))))) ((agesBook_loop13_19 ((0 : Int), (a3, (r1.2.2.1, (a1, (a2, (a4, (a5, (a0, ((↑(List.length r1.2.2.1) : Int), (a8, (r1.1, (r1.2.1, ())))))))))))))) (fun r3 =>
          .sum (β := (Bool × Unit)) (γ := (Int × ((List Int) × (Int × ((List Int) × (Int × (Int × (Int × ((List TStay) × ((List (Int × Int)) × Unit)))))))))) (r3) (fun r4 =>
           .ret (Sum.inr (Sum.inl (r4.1, ())))) (fun r4 =>
           .ite (!decide ((↑(List.length r4.2.2.2.2.2.2.2.1) : Int) = (↑(List.length r4.2.2.2.2.2.2.2.2.1) : Int))) (
            .ret (Sum.inr (Sum.inl (false, ())))) (
            .opt (β := (Int × Unit)) ((agesRight_fn (r4.2.2.2.2.2.2.1, (r4.2.2.2.2.2.2.2.1, ())))) (fun r5 =>
            .ite (!decide (r5.1 = (0 : Int))) (
             .ret (Sum.inr (Sum.inl (false, ())))) (
             .ret (Sum.inl (IntKind.wrap IntKind.i64 (r4.2.2.2.2.2.1 + (1 : Int)), (r4.1, (r4.2.1, (r4.2.2.1, (r4.2.2.2.1, (r4.2.2.2.2.1, (r4.2.2.2.2.2.2.1, (r4.2.2.2.2.2.2.2.1, (r4.2.2.2.2.2.2.2.2.1, ())))))))))))))))))) (
         .opt (β := ((Bool × Unit) ⊕ (Int × ((List Int) × (Int × ((List Int) × (Int × (Int × (Int × ((List TStay) × ((List (Int × Int)) × Unit))))))))))) ((agesBook_loop13_19 ((0 : Int), (a3, (r1.2.2.1, (a1, (a2, (a4, (a5, (a0, ((↑(List.length r1.2.2.1) : Int), (a8, (r1.1, (r1.2.1, ())))))))))))))) (fun r2 =>
         .sum (β := (Bool × Unit)) (γ := (Int × ((List Int) × (Int × ((List Int) × (Int × (Int × (Int × ((List TStay) × ((List (Int × Int)) × Unit)))))))))) (r2) (fun r3 =>
          .ret (Sum.inr (Sum.inl (r3.1, ())))) (fun r3 =>
          .ite (!decide ((↑(List.length r3.2.2.2.2.2.2.2.1) : Int) = (↑(List.length r3.2.2.2.2.2.2.2.2.1) : Int))) (
           .ret (Sum.inr (Sum.inl (false, ())))) (
           .opt (β := (Int × Unit)) ((agesRight_fn (r3.2.2.2.2.2.2.1, (r3.2.2.2.2.2.2.2.1, ())))) (fun r4 =>
           .ite (!decide (r4.1 = (0 : Int))) (
            .ret (Sum.inr (Sum.inl (false, ())))) (
            .ret (Sum.inl (IntKind.wrap IntKind.i64 (r3.2.2.2.2.2.1 + (1 : Int)), (r3.1, (r3.2.1, (r3.2.2.1, (r3.2.2.2.1, (r3.2.2.2.2.1, (r3.2.2.2.2.2.2.1, (r3.2.2.2.2.2.2.2.1, (r3.2.2.2.2.2.2.2.2.1, ())))))))))))))))))))))))
theorem book_bit {size : Int} : ∀ (l : List TStay) (s z : Nat) (p : Option Int), rooms size s p l = some z → ∀ x ∈ l, z.testBit x.room.toNat = true := by
  have mono : ∀ (l : List TStay) (s z : Nat) (p : Option Int), rooms size s p l = some z → ∀ k, s.testBit k = true → z.testBit k = true := by
    intro l
    induction l with
    | nil => intro s z p h k hk; cases h; exact hk
    | cons x r ih =>
      intro s z p h k hk
      simp only [rooms] at h
      split at h
      · cases h
      · exact ih _ z _ h k (by rw [Nat.testBit_or, hk]; rfl)
  intro l
  induction l with
  | nil => intro s z p h x hx; simp at hx
  | cons y r ih =>
    intro s z p h x hx
    simp only [rooms] at h
    split at h
    · cases h
    · rcases List.mem_cons.1 hx with rfl | hx
      · exact mono r _ z _ h _ (by rw [Nat.testBit_or, Nat.testBit_two_pow_self]; simp)
      · exact ih _ z _ h x hx
theorem rooms_out {size : Int} {l A B : List TStay} {x : TStay} {z : Nat} (hz : rooms size 0 none l = some z) (e1 : l = A ++ x :: B) : ∃ z', rooms size 0 none (A ++ B) = some z' ∧ z'.testBit x.room.toNat = false := by
  have hsub : (A ++ B).Sublist l := by rw [e1]; exact List.Sublist.append (List.Sublist.refl _) (List.sublist_cons_self _ _)
  obtain ⟨z', hz'⟩ := rooms_less hsub 0 0 none none z hz (fun _ h => h) (fun v1 h => by cases h)
  refine ⟨z', hz', ?_⟩
  cases hb : z'.testBit x.room.toNat with
  | false => rfl
  | true =>
    rcases rooms_bits _ 0 z' none hz' _ hb with h2 | ⟨y, hy, e⟩
    · simp at h2
    · rw [e1] at hz
      exact absurd e (rooms_once A x B 0 z none hz y hy)
theorem out_mem {l A B : List TStay} {x y : TStay} (e1 : l = A ++ x :: B) (h : y ∈ A ++ B) : y ∈ l := by
  rw [e1]
  simp only [List.mem_append, List.mem_cons] at h ⊢
  exact h.elim .inl (fun h => .inr (.inr h))
theorem mem_or {l A B : List TStay} {x y : TStay} (e1 : l = A ++ x :: B) (h : y ∈ l) : y = x ∨ y ∈ A ++ B := by
  rw [e1] at h
  simp only [List.mem_append, List.mem_cons] at h ⊢
  rcases h with h | h | h
  · exact .inr (.inl h)
  · exact .inl h
  · exact .inr (.inr h)

theorem ev_sr {α β γ : Type} {x : γ} {f : β → Tr α} {g : γ → Tr α} {r : Option α} (h : (g x).eval = r) : (Tr.sum (.inr x) f g).eval = r := h
theorem keep_ok {γ : Type} {size : Int} {l : List TStay} {m : List (Int × Int)} {z : Nat} {F G : Tr γ} {X Y : γ} (h1 : 1 ≤ size) (h64 : size ≤ 64) (hz : rooms size 0 none l = some z) (hl : l.length ≤ 300) (hp : (pl l).Perm m) (hx : Y = X) :
    (Tr.ite (!decide ((l.length : Int) = (m.length : Int))) F (.opt (β := (Int × Unit)) (agesRight_fn (size, (l, ()))) (fun r => .ite (!decide (r.1 = (0 : Int))) G (.ret Y)))).eval = some X :=
  ev_f (by rw [pl_len hp]; simp) (ev_opt (right_fn h1 h64 hz hl) (ev_f rfl (ev_r hx)))
theorem tail_ok (tv : Int) {rm now size : Int} {i : Nat} {steps turns : List Int} {c : Int} {l : List TStay} {m : List (Int × Int)} {z : Nat} (h1 : 1 ≤ size) (h64 : size ≤ 64) (hrm : 0 ≤ rm ∧ rm < size) (hi : i < 300) (hl : l.length ≤ i) (hz : rooms size 0 none l = some z) (hp : (pl l).Perm m) (hn : 0 ≤ now ∧ now ≤ 1000000) (hle : ∀ x ∈ l, x.at' ≤ now) :
    ∃ l' m' z', (bookTail tv rm ((i : Int), (size, (steps, (now, (turns, (c, (size, (l, (m, ())))))))))).eval = some (.inl (((i + 1 : Nat) : Int), (size, (steps, (now, (turns, (c, (size, (l', (m', ())))))))))) ∧ l'.length ≤ i + 1 ∧ rooms size 0 none l' = some z' ∧ (pl l').Perm m' ∧ ∀ x ∈ l', x.at' ≤ now := by
  have hnx := next_i64 i (by omega)
  have hw : IntKind.wrap IntKind.i64 (now - (2 : Int)) = now - 2 := wrapI64 ⟨by omega, by omega⟩
  unfold bookTail
  by_cases t0 : bits BinOp.and IntKind.i64 tv (3 : Int) = (0 : Int)
  · rcases take_fn h1 h64 hz (by omega) hle with ⟨k, hk, k0, k1, hbit⟩ | ⟨hk, hfull⟩
    · have hnone : mGet (0 : Nat) k m = none ∧ (pl (l ++ [⟨k, now⟩])).Perm (mPut (0 : Nat) k now m) := by
        rcases book_get k hz hp with ⟨_, h2, h3⟩ | ⟨j, y, h0, e1, hroom, hget, hput, hdel⟩
        · exact ⟨h2, h3 now⟩
        · have : y ∈ l := by rw [e1]; simp
          have := book_bit l 0 z none hz y this
          rw [hroom, hbit] at this
          cases this
      have hz' := rooms_snoc k0 k1 l 0 z none hz hbit (fun v hv => by cases hv) hle
      refine ⟨l ++ [⟨k, now⟩], mPut (0 : Nat) k now m, _, ?_, by simp; omega, hz', hnone.2, ?_⟩
      · refine ev_g rfl (ev_g (by simp; omega) (ev_t (decide_eq_true t0) (ev_opt hk (ev_t rfl (ev_f (by rw [hnone.1]; rfl) (ev_f (by simp; omega) (ev_f (by simp; omega) ?_)))))))
        exact keep_ok h1 h64 hz' (by simp; omega) hnone.2 (by rw [hnx])
      · intro x hx
        rcases List.mem_append.1 hx with hx | hx
        · exact hle x hx
        · simp at hx; subst hx; exact Int.le_refl _
    · refine ⟨l, m, z, ?_, by omega, hz, hp, hle⟩
      refine ev_g rfl (ev_g (by simp; omega) (ev_t (decide_eq_true t0) (ev_opt hk (ev_f rfl (ev_f (by have := pl_len hp; simp; omega) ?_)))))
      exact keep_ok h1 h64 hz (by omega) hp (by rw [hnx])
  by_cases t1 : bits BinOp.and IntKind.i64 tv (3 : Int) = (1 : Int)
  · have ht := touch_fn (k := rm) h1 h64 hz (by omega) hle
    rcases book_get rm hz hp with ⟨h0, h2, h3⟩ | ⟨j, y, h0, e1, hroom, hget, hput, hdel⟩
    · rw [h0] at ht
      refine ⟨l, m, z, ?_, by omega, hz, hp, hle⟩
      refine ev_g rfl (ev_g (by simp; omega) (ev_f (decide_eq_false t0) (ev_t (decide_eq_true t1) (ev_opt ht (ev_f (by rw [h2]; rfl) (ev_f (by rw [h2]; rfl) ?_))))))
      exact keep_ok h1 h64 hz (by omega) hp (by rw [hnx])
    · rw [h0] at ht
      obtain ⟨z', hz'⟩ := rooms_out hz e1
      have hz'' := rooms_snoc hrm.1 hrm.2 _ 0 z' none hz'.1 (by rw [← hroom]; exact hz'.2) (fun v hv => by cases hv) (fun x hx => hle x (out_mem e1 hx))
      have hll : (l.take j ++ l.drop (j + 1)).length + 1 = l.length := by have := congrArg List.length e1; simp at this ⊢; omega
      refine ⟨l.take j ++ l.drop (j + 1) ++ [⟨rm, now⟩], mPut (0 : Nat) rm now m, _, ?_, by rw [List.length_append, List.length_singleton]; omega, hz'', hput now, ?_⟩
      · refine ev_g rfl (ev_g (by simp; omega) (ev_f (decide_eq_false t0) (ev_t (decide_eq_true t1) (ev_opt ht (ev_f (by rw [hget]; rfl) (ev_t (by rw [hget]; rfl) ?_))))))
        have h300 : (l.take j ++ l.drop (j + 1) ++ [(⟨rm, now⟩ : TStay)]).length ≤ 300 := by rw [List.length_append, List.length_singleton]; omega
        exact keep_ok h1 h64 hz'' h300 (hput now) (by rw [hnx])
      · intro x hx
        rcases List.mem_append.1 hx with hx | hx
        · exact hle x (out_mem e1 hx)
        · simp at hx; subst hx; exact Int.le_refl _
  by_cases t2 : bits BinOp.and IntKind.i64 tv (3 : Int) = (2 : Int)
  · have ht := leave_fn size l rm (by omega) (by omega)
    rw [if_pos (chk_zero h1 h64 hz)] at ht
    rcases book_get rm hz hp with ⟨h0, h2, h3⟩ | ⟨j, y, h0, e1, hroom, hget, hput, hdel⟩
    · rw [h0] at ht
      refine ⟨l, m, z, ?_, by omega, hz, hp, hle⟩
      refine ev_g rfl (ev_g (by simp; omega) (ev_f (decide_eq_false t0) (ev_f (decide_eq_false t1) (ev_t (decide_eq_true t2) (ev_opt ht (ev_f (by rw [h2]; rfl) (ev_f (by rw [h2]; rfl) ?_)))))))
      exact keep_ok h1 h64 hz (by omega) hp (by rw [hnx])
    · rw [h0] at ht
      obtain ⟨z', hz'⟩ := rooms_out hz e1
      have hll : (l.take j ++ l.drop (j + 1)).length + 1 = l.length := by have := congrArg List.length e1; simp at this ⊢; omega
      refine ⟨l.take j ++ l.drop (j + 1), mDel (0 : Nat) rm m, z', ?_, by omega, hz'.1, hdel, fun x hx => hle x (out_mem e1 hx)⟩
      refine ev_g rfl (ev_g (by simp; omega) (ev_f (decide_eq_false t0) (ev_f (decide_eq_false t1) (ev_t (decide_eq_true t2) (ev_opt ht (ev_f (by rw [hget]; rfl) (ev_t (by rw [hget]; rfl) ?_)))))))
      have h300 : (l.take j ++ l.drop (j + 1)).length ≤ 300 := by omega
      exact keep_ok h1 h64 hz'.1 h300 hdel (by rw [hnx])
  obtain ⟨pre, r, e, hlt, hge, hx⟩ := expire_fn (before := now - 2) h1 h64 hz (by omega)
  obtain ⟨m', hp', hloop⟩ := gone_loop (size := size) (now := now) (steps := steps) (turns := turns) (c := c) (i := (i : Int)) (r := r) (g := pre.map TStay.room) (by have := congrArg List.length e; simp at this ⊢; omega) hn pre [] m z 18446744073709551616 rfl (by rw [← e]; exact hp) (by rw [← e]; exact hz) hlt (by have := congrArg List.length e; simp at this ⊢; omega)
  obtain ⟨z', hz'⟩ := rooms_less (size := size) (l := l) (l' := r) (by rw [e]; exact List.sublist_append_right _ _) 0 0 none none z hz (fun _ h => h) (fun v1 h => by cases h)
  have h300 : r.length ≤ 300 := by have := congrArg List.length e; simp at this; omega
  have hr : r.length ≤ l.length := by have := congrArg List.length e; simp at this; omega
  refine ⟨r, m', z', ?_, by omega, hz', hp', fun x hx => hle x (by rw [e]; exact List.mem_append_right _ hx)⟩
  refine ev_g rfl (ev_g (by simp; omega) (ev_f (decide_eq_false t0) (ev_f (decide_eq_false t1) (ev_f (decide_eq_false t2) (ev_opt (by rw [hw]; exact hx) (ev_f rfl ?_))))))
  rcases book_get rm hz hp with ⟨h0, h2, h3⟩ | ⟨j, y, h0, e1, hroom, hget, hput, hdel⟩
  · refine ev_f (by rw [h2]; rfl) (ev_opt (show agesBook_loop13_19 _ = _ from hloop) (ev_sr ?_))
    exact keep_ok h1 h64 hz' h300 hp' (by rw [hnx])
  · refine ev_t (by rw [hget]; rfl) (ev_opt (contains_fn _ rm (by have := congrArg List.length e; simp at this ⊢; omega)) (ev_f ?_ (ev_opt (show agesBook_loop13_19 _ = _ from hloop) (ev_sr ?_))))
    · rw [hget, hw]
      have hiff : rm ∈ pre.map TStay.room ↔ y.at' < now - 2 := by
        have hy : y ∈ pre ++ r := by rw [← e, e1]; simp
        constructor
        · intro hm
          obtain ⟨x, hx1, hx2⟩ := List.mem_map.1 hm
          have : x = y := by
            have hxl : x ∈ l := by rw [e]; exact List.mem_append_left _ hx1
            rcases mem_or e1 hxl with h | h
            · exact h
            · have := rooms_once (l.take j) y (l.drop (j + 1)) 0 z none (by rw [← e1]; exact hz) x h
              exact absurd (by rw [hx2, hroom]) this
          rw [← this]; exact hlt x hx1
        · intro hlt2
          rcases List.mem_append.1 hy with h | h
          · exact List.mem_map.2 ⟨y, h, hroom⟩
          · have := hge y h; omega
      by_cases hb : y.at' < now - 2
      · rw [decide_eq_true (hiff.2 hb)]; simp; omega
      · rw [decide_eq_false (fun h => hb (hiff.1 h))]; simp; omega
    · exact keep_ok h1 h64 hz' h300 hp' (by rw [hnx])

/-! ### All turns -/
def cl (c x : Int) : Int := if false = true then if (if true = true then if c < x then c else x else if c > x then c else x) < (0 : Int) then if true = true then if c < x then c else x else if c > x then c else x else (0 : Int) else if (if true = true then if c < x then c else x else if c > x then c else x) > (0 : Int) then if true = true then if c < x then c else x else if c > x then c else x else (0 : Int)
theorem cl_le {c : Int} (x : Int) (hc : 0 ≤ c) : 0 ≤ cl c x ∧ cl c x ≤ c := by
  unfold cl
  simp only [Bool.false_eq_true, if_false, if_true]
  split <;> split <;> omega
def rmOf (tv size : Int) : Int := Int.tmod (IntKind.wrap IntKind.i64 (Int.tdiv (cl (1073741824 : Int) tv) (4 : Int))) size
theorem rmOf_lt (tv : Int) {size : Int} (h1 : 1 ≤ size) : 0 ≤ rmOf tv size ∧ rmOf tv size < size := by
  unfold rmOf
  have h := cl_le (c := 1073741824) tv (by decide)
  generalize cl (1073741824 : Int) tv = x at *
  have hq : Int.tdiv x 4 = x / 4 := Int.tdiv_eq_ediv_of_nonneg h.1
  rw [hq, wrapI64 ⟨by omega, by omega⟩, Int.tmod_eq_emod_of_nonneg (by omega)]
  exact ⟨Int.emod_nonneg _ (by omega), Int.emod_lt_of_pos _ (by omega)⟩
def nowOf (now s : Int) : Int := IntKind.wrap IntKind.i64 (now + cl (1000 : Int) s)
theorem nowOf_le {now : Int} (s : Int) (hn : 0 ≤ now ∧ now ≤ 1000000) : now ≤ nowOf now s ∧ nowOf now s ≤ now + 1000 := by
  unfold nowOf
  have h := cl_le (c := 1000) s (by decide)
  rw [wrapI64 ⟨by omega, by omega⟩]
  omega
theorem book_step {now size : Int} {i : Nat} {steps turns : List Int} {l : List TStay} {m : List (Int × Int)} {z : Nat} (h1 : 1 ≤ size) (h64 : size ≤ 64) (ht : turns.length ≤ 300) (hi : i < turns.length) (hl : l.length ≤ i) (hz : rooms size 0 none l = some z) (hp : (pl l).Perm m) (hn : 0 ≤ now ∧ now ≤ 1000 * i) (hle : ∀ x ∈ l, x.at' ≤ now) :
    ∃ now' l' m' z', (agesBook_step13_7 ((i : Int), (size, (steps, (now, (turns, ((turns.length : Int), (size, (l, (m, ())))))))))).eval = some (.inl (((i + 1 : Nat) : Int), (size, (steps, (now', (turns, ((turns.length : Int), (size, (l', (m', ())))))))))) ∧ l'.length ≤ i + 1 ∧ rooms size 0 none l' = some z' ∧ (pl l').Perm m' ∧ (0 ≤ now' ∧ now' ≤ 1000 * (i + 1 : Nat)) ∧ ∀ x ∈ l', x.at' ≤ now' := by
  have hx : turns[Int.toNat (i : Int)]? = some turns[i] := by simp
  by_cases hs : i < steps.length
  · have hy : steps[Int.toNat (i : Int)]? = some steps[i] := by simp
    have hno := nowOf_le (now := now) steps[i] ⟨hn.1, by omega⟩
    obtain ⟨l', m', z', ht', a1, a2, a3, a4⟩ := tail_ok turns[i] (rm := rmOf turns[i] size) (now := nowOf now steps[i]) (steps := steps) (turns := turns) (c := (turns.length : Int)) h1 h64 (rmOf_lt _ h1) (by omega) hl hz hp ⟨by omega, by omega⟩ (fun x hx => by have := hle x hx; omega)
    refine ⟨_, l', m', z', ?_, a1, a2, a3, ⟨by omega, by omega⟩, a4⟩
    unfold agesBook_step13_7
    exact ev_t (by simp; omega) (ev_g (by simp) (ev_opt hx (ev_t (by simp; omega) (ev_g (by simp) (ev_opt hy ht')))))
  · obtain ⟨l', m', z', ht', a1, a2, a3, a4⟩ := tail_ok turns[i] (rm := rmOf turns[i] size) (now := now) (steps := steps) (turns := turns) (c := (turns.length : Int)) h1 h64 (rmOf_lt _ h1) (by omega) hl hz hp ⟨by omega, by omega⟩ hle
    refine ⟨_, l', m', z', ?_, a1, a2, a3, ⟨by omega, by omega⟩, a4⟩
    unfold agesBook_step13_7
    exact ev_t (by simp; omega) (ev_g (by simp) (ev_opt hx (ev_f (by simp; omega) ht')))
theorem book_loop {size : Int} {steps turns : List Int} (h1 : 1 ≤ size) (h64 : size ≤ 64) (ht : turns.length ≤ 300) :
    agesBook_loop13_7 ((0 : Int), (size, (steps, ((0 : Int), (turns, ((turns.length : Int), (size, ([], ([], ()))))))))) = some (.inr ()) := by
  obtain ⟨b, hb, rfl⟩ := loopO_ex (tag := 130007) (f := fun x => (agesBook_step13_7 x).eval) (fun a => ∃ (i : Nat) (now : Int) (l : List TStay) (m : List (Int × Int)) (z : Nat), a = ((i : Int), (size, (steps, (now, (turns, ((turns.length : Int), (size, (l, (m, ()))))))))) ∧ i ≤ turns.length ∧ l.length ≤ i ∧ rooms size 0 none l = some z ∧ (pl l).Perm m ∧ (0 ≤ now ∧ now ≤ 1000 * i) ∧ ∀ x ∈ l, x.at' ≤ now) (fun b => b = .inr ()) (fun a => (300 - a.1).toNat) (fun a ha => by
    obtain ⟨i, now, l, m, z, rfl, hi, hl, hz, hp, hn, hle⟩ := ha
    by_cases hlt : i < turns.length
    · obtain ⟨now', l', m', z', e, a1, a2, a3, a4, a5⟩ := book_step (steps := steps) h1 h64 ht hlt hl hz hp hn hle
      exact .inr ⟨_, e, ⟨i + 1, now', l', m', z', rfl, by omega, a1, a2, a3, a4, a5⟩, by simp only; omega⟩
    · exact .inl ⟨_, ev_f (by simp; omega) (ev_r rfl), rfl⟩) 18446744073709551616 ((0 : Int), (size, (steps, ((0 : Int), (turns, ((turns.length : Int), (size, ([], ([], ()))))))))) ⟨0, 0, [], [], 0, rfl, by omega, by simp, rfl, List.Perm.refl _, ⟨by omega, by omega⟩, by simp⟩ (by simp)
  exact hb
theorem agesBook_true {size : Int} {turns steps : List Int} (b0 : -9223372036854775808 ≤ size ∧ size ≤ 9223372036854775807) (b1 : BndD 6 (D.st 0 turns)) (b2 : BndD 6 (D.st 0 steps)) : (agesBook_tree (size, (turns, (steps, ())))).eval = some (true, ()) := by
  have hnew : agNew_fn (size, ()) = some (if size < 1 ∨ 64 < size then (0, ([], (1, ()))) else (size, ([], (0, ())))) := by
    unfold agNew_fn agNew_tree
    by_cases h1 : size < 1
    · rw [if_pos (.inl h1)]; exact ev_t (by simpa using h1) (ev_r rfl)
    refine ev_f (by simpa using h1) ?_
    by_cases h2 : 64 < size
    · rw [if_pos (.inr h2)]; exact ev_t (by simpa using h2) (ev_r rfl)
    rw [if_neg (by omega)]; exact ev_f (by simpa using h2) (ev_r rfl)
  unfold agesBook_tree
  refine ev_opt hnew (ev_opt agesLives_ok (ev_f rfl ?_))
  by_cases hc : size < 1 ∨ 64 < size
  · rw [if_pos hc]; exact ev_t rfl (ev_opt agesLives_ok (ev_r rfl))
  rw [if_neg hc]
  refine ev_f rfl ?_
  by_cases h3 : (300 : Int) < (turns.length : Int)
  · exact ev_t (decide_eq_true h3) (ev_opt agesLives_ok (ev_r rfl))
  exact ev_f (decide_eq_false h3) (ev_opt (book_loop (by omega) (by omega) (by omega)) (ev_sr (ev_r rfl)))
end Go.Proofs.Ytgdlhdkofcicjaa.X
