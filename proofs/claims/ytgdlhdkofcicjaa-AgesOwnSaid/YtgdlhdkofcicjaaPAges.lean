/- ages: what its functions compute, in plain terms; the law AgesRoom. Conditions: none. -/
import Derived.Test.YtgdlhdkofcicjaaLAges
import Derived.Test.YtgdlhdkofcicjaaPList
import Derived.Test.YtgdlhdkofcicjaaAbsQ
import Derived.KernelRfl
namespace Go.Proofs.Ytgdlhdkofcicjaa.X
open Go Go.RowKit Go.Proofs.Ytgdlhdkofcicjaa.Abs Go.Proofs.Ytgdlhdkofcicjaa.Bits
set_option linter.unusedVariables false
set_option linter.unusedSimpArgs false

theorem agesLives_ok : agesLives_fn () = some (true, ()) := by kernel_rfl

/-- The rooms that are taken, if all is right: from what was taken and the last time. -/
def rooms (size : Int) : Nat → Option Int → List TStay → Option Nat
  | s, _, [] => some s
  | s, p, x :: r => if x.room < 0 ∨ size ≤ x.room ∨ s.testBit x.room.toNat = true ∨ (∃ v, p = some v ∧ x.at' < v) then none else rooms size (s ||| 2 ^ x.room.toNat) (some x.at') r
theorem bit_one (s k : Nat) (hs : s < 2 ^ 64) : (bits BinOp.and IntKind.u64 (Int.fdiv (s : Int) ((2 : Int) ^ min k (64 : Nat))) (1 : Int)) = if s.testBit k then 1 else 0 := by
  have h1 : Int.fdiv (s : Int) ((2 : Int) ^ min k 64) = ((s / 2 ^ min k 64 : Nat) : Int) := by
    rw [fdiv_pos _ (Int.le_of_lt (Int.pow_pos (by decide)))]; push_cast; rfl
  have h2 : s / 2 ^ min k 64 < 2 ^ 64 := Nat.lt_of_le_of_lt (Nat.div_le_self _ _) hs
  rw [h1, show (1 : Int) = ((1 : Nat) : Int) from rfl, bits_and_nat .u64 _ _ h2 (by decide) (fun h => by cases h), Nat.and_one_is_mod]
  by_cases hk : k ≤ 64
  · rw [Nat.min_eq_left hk, Nat.testBit_eq_decide_div_mod_eq]
    have : s / 2 ^ k % 2 = 0 ∨ s / 2 ^ k % 2 = 1 := by omega
    rcases this with h | h <;> simp [h]
  · rw [Nat.min_eq_right (by omega), Nat.div_eq_of_lt hs]
    have : s.testBit k = false := Nat.testBit_lt_two_pow (Nat.lt_of_lt_of_le hs (Nat.pow_le_pow_right (by decide) (by omega)))
    simp [this]
theorem set_bit (s k : Nat) (hs : s < 2 ^ 64) (hk : k < 64) : bits BinOp.or IntKind.u64 (s : Int) (IntKind.wrap IntKind.u64 ((1 : Int) * (2 : Int) ^ min k (64 : Nat))) = ((s ||| 2 ^ k : Nat) : Int) := by
  have hp : 2 ^ k < 2 ^ 64 := Nat.pow_lt_pow_right (by decide) hk
  have h1 : IntKind.wrap IntKind.u64 ((1 : Int) * (2 : Int) ^ min k (64 : Nat)) = ((2 ^ k : Nat) : Int) := by
    rw [Nat.min_eq_left (by omega), Int.one_mul, show ((2 : Int) ^ k) = ((2 ^ k : Nat) : Int) by push_cast; rfl]
    exact wrap_nat .u64 _ hp (fun h => by cases h)
  rw [h1, bits_or_nat .u64 _ _ hs hp (fun h => by cases h)]
theorem or_lt {s k : Nat} (hs : s < 2 ^ 64) (hk : k < 64) : s ||| 2 ^ k < 2 ^ 64 := Nat.or_lt_two_pow hs (Nat.pow_lt_pow_right (by decide) hk)
theorem taken_loop {size : Int} (hz : size ≤ 64) (l : List TStay) (hl : l.length < 8796093022208) : ∀ (r pre : List TStay) (s n : Nat), l = pre ++ r → s < 2 ^ 64 → r.length < n →
    loopO 640003 (fun x => (agTaken_step64_3 x).eval) n ((pre.length : Int), ((s : Int), (l, ((l.length : Int), (size, (l, ())))))) =
      some (match rooms size s ((pre.getLast?).map TStay.at') r with | some s' => .inr ((s' : Int), ()) | none => .inl (0, (false, ()))) := by
  intro r
  induction r with
  | nil =>
    intro pre s n h hs hn
    obtain ⟨n, rfl⟩ : ∃ m, n = m + 1 := ⟨n - 1, by simp at hn; omega⟩
    simp only [List.append_nil] at h
    subst h
    exact loopO_out (ev_f (by simp) (ev_r rfl))
  | cons x r ih =>
    intro pre s n h hs hn
    obtain ⟨n, rfl⟩ : ∃ m, n = m + 1 := ⟨n - 1, by simp at hn; omega⟩
    have hlen : l.length = pre.length + (r.length + 1) := by rw [h]; simp
    have hx : l[Int.toNat (pre.length : Int)]? = some x := by rw [h]; simp
    have step : (agTaken_step64_3 ((pre.length : Int), ((s : Int), (l, ((l.length : Int), (size, (l, ()))))))).eval =
        if x.room < 0 ∨ size ≤ x.room ∨ s.testBit x.room.toNat = true ∨ (∃ v, (pre.getLast?).map TStay.at' = some v ∧ x.at' < v) then some (.inr (.inl (0, (false, ())))) else some (.inl (((pre ++ [x]).length : Int), (((s ||| 2 ^ x.room.toNat : Nat) : Int), (l, ((l.length : Int), (size, (l, ()))))))) := by
      unfold agTaken_step64_3
      refine ev_t (by simp; omega) (ev_g (by simp) (ev_opt hx ?_))
      by_cases h1 : x.room < 0
      · rw [if_pos (.inl h1)]; exact ev_t (by simpa using h1) (ev_r rfl)
      refine ev_f (by simpa using h1) ?_
      by_cases h2 : size ≤ x.room
      · rw [if_pos (.inr (.inl h2))]; exact ev_t (by simpa using h2) (ev_r rfl)
      refine ev_f (by simpa using h2) (ev_g (by simp; omega) ?_)
      have hb := bit_one s x.room.toNat hs
      by_cases h3 : s.testBit x.room.toNat = true
      · rw [if_pos (.inr (.inr (.inl h3)))]; exact ev_t (by rw [hb, h3]; rfl) (ev_r rfl)
      have h3' : s.testBit x.room.toNat = false := by simpa using h3
      refine ev_f (by rw [hb, h3']; rfl) ?_
      have hset := set_bit s x.room.toNat hs (by omega)
      rcases List.eq_nil_or_concat pre with rfl | ⟨q, y, e⟩
      · rw [if_neg (by simp; exact ⟨by omega, by omega, h3'⟩)]
        refine ev_f (by simp) (ev_g (by simp; omega) (ev_r ?_))
        rw [hset, next_i64 _ (by omega)]; rfl
      · rw [List.concat_eq_append] at e
        subst e
        have hq : ((q ++ [y]).getLast?).map TStay.at' = some y.at' := by simp
        refine ev_t (by simp <;> omega) ?_
        have hp : IntKind.wrap IntKind.i64 (((q ++ [y]).length : Int) - (1 : Int)) = (q.length : Int) := by rw [prev_i64 _ (by simp) (by omega)]; simp
        rw [hp]
        refine ev_g (by simp) (ev_opt (b := y) (by rw [h]; simp) ?_)
        by_cases h4 : x.at' < y.at'
        · rw [if_pos (.inr (.inr (.inr ⟨_, hq, h4⟩)))]; exact ev_t (by simpa using h4) (ev_r rfl)
        · rw [if_neg (by rw [hq]; simp only [Option.some.injEq, exists_eq_left']; intro hh; rcases hh with hh | hh | hh | hh; exact h1 hh; exact h2 hh; exact h3 hh; exact h4 hh)]
          refine ev_f (by simpa using h4) (ev_g (by simp; omega) (ev_r ?_))
          rw [hset, next_i64 _ (by omega)]; simp; omega
    simp only [rooms]
    by_cases hc : x.room < 0 ∨ size ≤ x.room ∨ s.testBit x.room.toNat = true ∨ (∃ v, (pre.getLast?).map TStay.at' = some v ∧ x.at' < v)
    · rw [if_pos hc] at step; rw [if_pos hc]; exact loopO_out step
    · rw [if_neg hc] at step
      rw [if_neg hc]
      have h64 : x.room.toNat < 64 := by omega
      rw [loopO_in step, ih (pre ++ [x]) (s ||| 2 ^ x.room.toNat) n (by rw [h]; simp) (or_lt hs h64) (by simp at hn; omega)]
      simp
def takenR (size : Int) (l : List TStay) : Int × (Bool × Unit) := match rooms size 0 none l with | some s => ((s : Int), (true, ())) | none => (0, (false, ()))
theorem taken_fn (size : Int) (l : List TStay) (hz : size ≤ 64) (hl : l.length < 8796093022208) : agTaken_fn (size, (l, ())) = some (takenR size l) := by
  unfold agTaken_fn agTaken_tree takenR
  have := taken_loop hz l hl l [] 0 18446744073709551616 rfl (by decide) (by omega)
  refine ev_opt (show agTaken_loop64_3 ((0 : Int), ((0 : Int), (l, ((l.length : Int), (size, (l, ())))))) = _ from this) ?_
  simp only [List.getLast?_nil, Option.map_none]
  cases rooms size 0 none l <;> rfl
/-- Right ages. -/
def chkA (size : Int) (l : List TStay) : Int := if size < 1 ∨ 64 < size then 1 else if (rooms size 0 none l).isSome then 0 else 4
theorem checkA_fn (size : Int) (l : List TStay) (hl : l.length < 8796093022208) : agCheck_fn (size, (l, ())) = some (chkA size l, ()) := by
  unfold agCheck_fn agCheck_tree chkA
  by_cases h1 : size < 1
  · rw [if_pos (.inl h1)]; exact ev_t (by simpa using h1) (ev_r rfl)
  refine ev_f (by simpa using h1) ?_
  by_cases h2 : 64 < size
  · rw [if_pos (.inr h2)]; exact ev_t (by simpa using h2) (ev_r rfl)
  rw [if_neg (by omega)]
  refine ev_f (by simpa using h2) (ev_opt (taken_fn size l (by omega) hl) ?_)
  unfold takenR
  cases rooms size 0 none l <;> rfl
theorem chkA_zero {size : Int} {l : List TStay} (h : chkA size l = 0) : 1 ≤ size ∧ size ≤ 64 ∧ ∃ s, rooms size 0 none l = some s := by
  unfold chkA at h
  split at h
  · cases h
  · split at h
    · rename_i h1 h2; exact ⟨by omega, by omega, Option.isSome_iff_exists.1 h2⟩
    · cases h

/-- Less taken, and some that are left out: it is right as well. -/
theorem rooms_less {size : Int} {l l' : List TStay} (hsub : l'.Sublist l) : ∀ (s s1 : Nat) (p p1 : Option Int) (z : Nat), rooms size s p l = some z → (∀ k, s1.testBit k = true → s.testBit k = true) → (∀ v1, p1 = some v1 → ∃ v, p = some v ∧ v1 ≤ v) → ∃ z', rooms size s1 p1 l' = some z' := by
  induction hsub with
  | slnil => intro s s1 p p1 z h hb hp; exact ⟨s1, rfl⟩
  | cons x _ ih =>
    intro s s1 p p1 z h hb hp
    simp only [rooms] at h
    split at h
    · cases h
    · rename_i hc
      refine ih _ s1 _ p1 z h (fun k hk => by rw [Nat.testBit_or, hb k hk]; rfl) (fun v1 hv1 => ⟨_, rfl, ?_⟩)
      obtain ⟨v, hv, hle⟩ := hp v1 hv1
      have : ¬ x.at' < v := fun hlt => hc (.inr (.inr (.inr ⟨v, hv, hlt⟩)))
      omega
  | cons_cons x _ ih =>
    intro s s1 p p1 z h hb hp
    simp only [rooms] at h ⊢
    split at h
    · cases h
    · rename_i hc
      rw [if_neg]
      · exact ih _ _ _ _ z h (fun k hk => by
          rw [Nat.testBit_or, Bool.or_eq_true] at hk ⊢
          exact hk.imp (hb k) id) (fun v1 hv1 => ⟨v1, hv1, Int.le_refl _⟩)
      · intro hh
        refine hc ?_
        rcases hh with hh | hh | hh | ⟨v1, hv1, hlt⟩
        · exact .inl hh
        · exact .inr (.inl hh)
        · exact .inr (.inr (.inl (hb _ hh)))
        · obtain ⟨v, hv, hle⟩ := hp v1 hv1
          exact .inr (.inr (.inr ⟨v, hv, by omega⟩))
/-- What is taken at the end. -/
theorem rooms_bits {size : Int} : ∀ (l : List TStay) (s z : Nat) (p : Option Int), rooms size s p l = some z → ∀ k, z.testBit k = true → s.testBit k = true ∨ ∃ x ∈ l, x.room.toNat = k
  | [], s, z, p, h, k, hk => by cases h; exact .inl hk
  | x :: r, s, z, p, h, k, hk => by
    simp only [rooms] at h
    split at h
    · cases h
    · rcases rooms_bits r _ z _ h k hk with h2 | ⟨y, hy, e⟩
      · rw [Nat.testBit_or, Bool.or_eq_true] at h2
        rcases h2 with h2 | h2
        · exact .inl h2
        · refine .inr ⟨x, List.mem_cons_self, ?_⟩
          rw [Nat.testBit_two_pow] at h2
          simpa using h2
      · exact .inr ⟨y, List.mem_cons_of_mem _ hy, e⟩
theorem rooms_free {size : Int} : ∀ (l : List TStay) (s z : Nat) (p : Option Int), rooms size s p l = some z → ∀ x ∈ l, s.testBit x.room.toNat = false ∧ 0 ≤ x.room ∧ x.room < size
  | [], s, z, p, h, x, hx => by simp at hx
  | y :: r, s, z, p, h, x, hx => by
    simp only [rooms] at h
    split at h
    · cases h
    · rename_i hc
      rcases List.mem_cons.1 hx with rfl | hx
      · refine ⟨?_, by omega, by omega⟩
        cases hb : s.testBit x.room.toNat
        · rfl
        · exact absurd (.inr (.inr (.inl hb))) hc
      · obtain ⟨h1, h2⟩ := rooms_free r _ z _ h x hx
        rw [Nat.testBit_or, Bool.or_eq_false_iff] at h1
        exact ⟨h1.1, h2⟩
theorem rooms_once {size : Int} : ∀ (a : List TStay) (x : TStay) (b : List TStay) (s z : Nat) (p : Option Int), rooms size s p (a ++ x :: b) = some z → ∀ y ∈ a ++ b, y.room.toNat ≠ x.room.toNat
  | [], x, b, s, z, p, h, y, hy, e => by
    simp only [List.nil_append, rooms] at h hy
    split at h
    · cases h
    · have := (rooms_free b _ z _ h y hy).1
      rw [e, Nat.testBit_or, Nat.testBit_two_pow_self] at this
      simp at this
  | w :: a, x, b, s, z, p, h, y, hy, e => by
    simp only [List.cons_append, rooms] at h
    split at h
    · cases h
    · simp only [List.cons_append] at hy
      rcases List.mem_cons.1 hy with rfl | hy
      · have := (rooms_free (a ++ x :: b) _ z _ h x (by simp)).1
        rw [← e, Nat.testBit_or, Nat.testBit_two_pow_self] at this
        simp at this
      · exact rooms_once a x b _ z _ h y hy e

theorem place_fn (size : Int) (l : List TStay) (k : Int) (hl : l.length < 8796093022208) : agPlace_fn (size, (l, (k, ()))) = some ((match hit (fun x => decide (x.room = k)) l with | some q => (q.1 : Int) | none => -1), ()) := by
  unfold agPlace_fn agPlace_tree
  have := loop_hit (tag := 700002) (f := fun x => (agPlace_step70_2 x).eval) (l := l) (fun i => ((i : Int), (l, ((l.length : Int), (k, ()))))) (fun x => decide (x.room = k))
      (fun q => match q with | some q => Sum.inl ((q.1 : Int), (k, ())) | none => Sum.inr (k, ()))
      (fun i x hx => by
        have hi := (List.getElem?_eq_some_iff.1 hx).1
        show (agPlace_step70_2 _).eval = _
        unfold agPlace_step70_2
        refine ev_t (by simp; omega) (ev_g (by simp) (ev_opt (show l[Int.toNat (i : Int)]? = some x by simpa using hx) ?_))
        cases decide (x.room = k) with
        | true => exact ev_t rfl (ev_r rfl)
        | false => exact ev_f rfl (ev_r (by rw [next_i64 i (by omega)])))
      (by show (agPlace_step70_2 _).eval = _; exact ev_f (by simp) (ev_r rfl)) 18446744073709551616 (by omega)
  refine ev_opt (show agPlace_loop70_2 ((0 : Int), (l, ((l.length : Int), (k, ())))) = _ from this) ?_
  cases hit (fun x => decide (x.room = k)) l <;> rfl
theorem delStay_ok (l : List TStay) (i : Nat) (hi : i < l.length) : delStay_fn ((i : Int), (((i + 1 : Nat) : Int), (l, ()))) = some (l.take i ++ l.drop (i + 1), ()) := by
  unfold delStay_fn delStay_tree
  have hj : Int.toNat ((l.length : Int) - ((i + 1 : Nat) : Int)) = l.length - (i + 1) := by omega
  have hB : (List.take (l.length - (i + 1)) (List.drop (i + 1) l)).length = l.length - (i + 1) := by simp
  simp only [Int.toNat_natCast, hj]
  refine ev_g (by simp; omega) (ev_f (by simp; omega) (ev_g (by simp; omega) (ev_g (by simp; omega) (ev_g (by simp; omega) (ev_g (by rw [hB]; simp; omega) ?_)))))
  refine ev_g (by simp [hB]; omega) (ev_g (by simp [hB]; omega) (ev_g (by simp [hB]; omega) (ev_r ?_)))
  simp only [del_eq l i (i + 1) (by omega) (by omega)]
theorem leave_fn (size : Int) (l : List TStay) (k : Int) (hl : l.length * 16 ≤ 140737488351232) (hl2 : l.length < 8796093022208) : agLeave_fn (size, (l, (k, ()))) =
    some (if chkA size l = 0 then match hit (fun x => decide (x.room = k)) l with | some q => (size, (l.take q.1 ++ l.drop (q.1 + 1), (0, ()))) | none => (0, ([], (7, ()))) else (0, ([], (chkA size l, ())))) := by
  unfold agLeave_fn agLeave_tree
  refine ev_opt (checkA_fn size l hl2) ?_
  by_cases hc : chkA size l = 0
  case neg => rw [if_neg hc]; exact ev_t (by simpa using hc) (ev_r rfl)
  rw [if_pos hc]
  refine ev_f (by simpa using hc) (ev_opt (place_fn size l k hl2) ?_)
  cases h : hit (fun x => decide (x.room = k)) l with
  | none => exact ev_t rfl (ev_r rfl)
  | some q =>
    have := hit_lt (i := q.1) (x := q.2) h
    refine ev_f (by simp) (ev_g (by simp; omega) (ev_g (by simp) ?_))
    simp only [next_i64 q.1 (by omega)]
    exact ev_opt (delStay_ok l q.1 this) (ev_r rfl)
theorem late_ok (size : Int) (l : List TStay) (now : Int) (hl2 : l.length < 8796093022208) : ∃ b, agLate_fn (size, (l, (now, ()))) = some (b, ()) := by
  unfold agLate_fn agLate_tree
  by_cases h : l.length = 0
  · exact ⟨true, ev_t (by simpa using h) (ev_r rfl)⟩
  · refine ⟨decide (l[l.length - 1].at' ≤ now), ev_f (by simpa using h) ?_⟩
    rw [prev_i64 _ (by omega) (by omega)]
    exact ev_g (by simp) (ev_opt (b := l[l.length - 1]) (by simp) (ev_r rfl))
theorem behind_ok (size : Int) (l : List TStay) (k now : Int) (hl : l.length * 16 ≤ 140737488351232) : agBehind_fn (size, (l, (-1, (k, (now, ()))))) = some (size, (l ++ [⟨k, now⟩], ())) := by
  unfold agBehind_fn agBehind_tree
  exact ev_g (by simp; omega) (ev_f (by decide) (ev_g (by simp; omega) (ev_r rfl)))
theorem take_loop (size now : Int) (l : List TStay) (s : Nat) (hs : s < 2 ^ 64) (h1 : 1 ≤ size) (h64 : size ≤ 64) (hl : l.length * 16 ≤ 140737488351232) (room : Int) (hr0 : 0 ≤ room) (hr : room < size) (hfree : s.testBit room.toNat = false) :
    ∃ b, agTake_loop36_8 (now, ((0 : Int), ((s : Int), (size, ((0 : Int), (size, (l, ()))))))) = some b ∧ ∃ k : Int, b = .inl (k, (0, (size, (l ++ [⟨k, now⟩], ())))) ∧ k ≤ room := by
  refine loopO_ex (f := fun x => (agTake_step36_8 x).eval) (fun a => ∃ k : Nat, a = (now, ((k : Int), ((s : Int), (size, ((0 : Int), (size, (l, ()))))))) ∧ (k : Int) ≤ room) (fun b => ∃ k : Int, b = .inl (k, (0, (size, (l ++ [⟨k, now⟩], ())))) ∧ k ≤ room) (fun a => (64 - a.2.1).toNat) (fun a ha => ?_) 18446744073709551616 _ ⟨0, rfl, by omega⟩ (by simp)
  obtain ⟨k, rfl, hk⟩ := ha
  have hb := bit_one s k hs
  show (∃ b, (agTake_step36_8 _).eval = some (.inr b) ∧ _) ∨ ∃ a', (agTake_step36_8 _).eval = some (.inl a') ∧ _
  cases h : s.testBit k with
  | false =>
    left
    exact ⟨_, ev_t (by simp; omega) (ev_g (by simp) (ev_t (by rw [Int.toNat_natCast, hb, h]; rfl) (ev_opt (behind_ok size l k now hl) (ev_r rfl)))), (k : Int), rfl, hk⟩
  | true =>
    right
    have hne : (k : Int) ≠ room := by rintro rfl; simp [h] at hfree
    refine ⟨_, ev_t (by simp; omega) (ev_g (by simp) (ev_f (by rw [Int.toNat_natCast, hb, h]; rfl) (ev_r rfl))), ⟨k + 1, ?_, by omega⟩, ?_⟩
    · rw [next_i64 k (by omega)]
    · rw [next_i64 k (by omega)]; simp only; omega
theorem rooms_lt {size : Int} (hz : size ≤ 64) : ∀ (l : List TStay) (s z : Nat) (p : Option Int), rooms size s p l = some z → s < 2 ^ 64 → z < 2 ^ 64
  | [], s, z, p, h, hs => by cases h; exact hs
  | x :: r, s, z, p, h, hs => by
    simp only [rooms] at h
    split at h
    · cases h
    · rename_i hc
      exact rooms_lt hz r _ z _ h (or_lt hs (by omega))

theorem agesRoom_true {size : Int} {l : List TStay} {room now : Int} (b0 : -9223372036854775808 ≤ size ∧ size ≤ 9223372036854775807) (b1 : BndD 6 (D.st 8 l)) (b2 : -9223372036854775808 ≤ room ∧ room ≤ 9223372036854775807) (b3 : -9223372036854775808 ≤ now ∧ now ≤ 9223372036854775807) :
    (agesRoom_tree (size, (l, (room, (now, ()))))).eval = some (true, ()) := by
  have hlen : l.length * 16 ≤ 140737488351232 := b1.1
  have hl2 : l.length < 8796093022208 := by omega
  unfold agesRoom_tree
  refine ev_opt (leave_fn size l room hlen hl2) (ev_opt agesLives_ok (ev_f rfl ?_))
  by_cases hc : chkA size l = 0
  case neg => rw [if_neg hc]; exact ev_t (by simpa using hc) (ev_opt agesLives_ok (ev_r rfl))
  rw [if_pos hc]
  cases h : hit (fun x => decide (x.room = room)) l with
  | none => exact ev_t rfl (ev_opt agesLives_ok (ev_r rfl))
  | some q =>
    obtain ⟨i, x⟩ := q
    obtain ⟨h1, h64, z, hz⟩ := chkA_zero hc
    obtain ⟨hat, hroom⟩ := hit_at h
    have hroom : x.room = room := by simpa using hroom
    have hi := hit_lt h
    have e1 : l = l.take i ++ x :: l.drop (i + 1) := by
      obtain ⟨_, rfl⟩ := List.getElem?_eq_some_iff.1 hat
      rw [← List.drop_eq_getElem_cons hi, List.take_append_drop]
    generalize hA : l.take i = A at e1
    generalize hB : l.drop (i + 1) = B at e1
    have hll : (A ++ B).length + 1 = l.length := by rw [e1]; simp; omega
    have hsub : (A ++ B).Sublist l := by rw [e1]; exact List.Sublist.append (List.Sublist.refl _) (List.sublist_cons_self _ _)
    obtain ⟨z', hz'⟩ := rooms_less hsub 0 0 none none z hz (fun _ h => h) (fun v1 h => by cases h)
    have hr := rooms_free l 0 z none hz x (by rw [e1]; simp)
    rw [hroom] at hr
    have hfree : z'.testBit room.toNat = false := by
      cases hb : z'.testBit room.toNat with
      | false => rfl
      | true =>
        rcases rooms_bits _ 0 z' none hz' _ hb with h2 | ⟨y, hy, e⟩
        · simp at h2
        · rw [e1] at hz
          exact absurd (by rw [e, hroom]) (rooms_once A x B 0 z none hz y hy)
    have hc' : chkA size (A ++ B) = 0 := by unfold chkA; rw [if_neg (by omega), hz']; rfl
    have take : ∃ R, agTake_fn (size, (A ++ B, (now, ()))) = some R ∧ (R.2.2.2.1 = 1 ∨ (R.2.2.2.1 = 0 ∧ R.2.2.1 ≤ room ∧ R.2.1.length = l.length)) := by
      obtain ⟨b, hb⟩ := late_ok size (A ++ B) now (by omega)
      cases b with
      | false =>
        refine ⟨(0, ([], (0, (1, ())))), ?_, .inl rfl⟩
        unfold agTake_fn agTake_tree
        exact ev_opt (checkA_fn size _ (by omega)) (ev_f (by rw [hc']; rfl) (ev_opt hb (ev_t rfl (ev_r rfl))))
      | true =>
        obtain ⟨c, hcl, k, rfl, hk⟩ := take_loop size now (A ++ B) z' (rooms_lt h64 _ _ _ _ hz' (by decide)) h1 h64 (by omega) room hr.2.1 hr.2.2 hfree
        refine ⟨(size, (A ++ B ++ [⟨k, now⟩], (k, (0, ())))), ?_, .inr ⟨rfl, hk, by simp at hll ⊢; omega⟩⟩
        unfold agTake_fn agTake_tree
        refine ev_opt (checkA_fn size _ (by omega)) (ev_f (by rw [hc']; rfl) (ev_opt hb (ev_f rfl (ev_opt (taken_fn size _ h64 (by omega)) ?_))))
        unfold takenR
        rw [hz']
        exact ev_opt hcl rfl
    obtain ⟨R, hR, hcase⟩ := take
    refine ev_f rfl (ev_opt (b := R) (by rw [← hA, ← hB] at hR; exact hR) ?_)
    rcases hcase with h2 | ⟨h2, h3, h4⟩
    · exact ev_t (by simpa using h2) (ev_r rfl)
    · exact ev_f (by rw [h2]; rfl) (ev_t (by simpa using h2) (ev_t (by simpa using h3) (ev_r (by rw [h4]; simp))))
end Go.Proofs.Ytgdlhdkofcicjaa.X
