/- The law WheelBook: a book and its wheel, op by op. Conditions: none. -/
import Derived.Test.YtnhiilbmgkbbaaaNWheel
import Derived.Test.YtnhiilbmgkbbaaaPWhD
namespace Go.Proofs.Ytnhiilbmgkbbaaa.X
open Go Go.RowKit Go.Proofs.Ytnhiilbmgkbbaaa.Abs Go.Proofs.Ytnhiilbmgkbbaaa.Bits
set_option linter.unusedVariables false
set_option linter.unnecessarySimpa false
set_option linter.unusedSimpArgs false
set_option maxRecDepth 100000

def mxA (r : Int) : Int := max 1 (min r 8388608)
def mxN (r : Int) : Int := max 0 (min r 10000)
theorem uglyA (r : Int) : (if false = true then if (if true = true then if (8388608 : Int) < r then (8388608 : Int) else r else if (8388608 : Int) > r then (8388608 : Int) else r) < (1 : Int) then if true = true then if (8388608 : Int) < r then (8388608 : Int) else r else if (8388608 : Int) > r then (8388608 : Int) else r else (1 : Int) else if (if true = true then if (8388608 : Int) < r then (8388608 : Int) else r else if (8388608 : Int) > r then (8388608 : Int) else r) > (1 : Int) then if true = true then if (8388608 : Int) < r then (8388608 : Int) else r else if (8388608 : Int) > r then (8388608 : Int) else r else (1 : Int)) = mxA r := by
  unfold mxA
  simp only [Bool.false_eq_true, if_false, if_true]
  repeat' split
  all_goals omega
theorem uglyN (r : Int) : (if false = true then if (if true = true then if (10000 : Int) < r then (10000 : Int) else r else if (10000 : Int) > r then (10000 : Int) else r) < (0 : Int) then if true = true then if (10000 : Int) < r then (10000 : Int) else r else if (10000 : Int) > r then (10000 : Int) else r else (0 : Int) else if (if true = true then if (10000 : Int) < r then (10000 : Int) else r else if (10000 : Int) > r then (10000 : Int) else r) > (0 : Int) then if true = true then if (10000 : Int) < r then (10000 : Int) else r else if (10000 : Int) > r then (10000 : Int) else r else (0 : Int)) = mxN r := by
  unfold mxN
  simp only [Bool.false_eq_true, if_false, if_true]
  repeat' split
  all_goals omega
def gone (now : Int) (d : TDue) : Bool := decide (d.at' ≤ now)
theorem after_gone (now : Int) (b : List TDue) (t : Nat) : b.filter (fun d => !gone (now + (t : Int)) d) = after now b t := by
  unfold after gone
  apply filter_same
  intro d _
  by_cases c : d.at' ≤ now + (t : Int)
  · rw [decide_eq_true c, decide_eq_false (by omega)]; rfl
  · rw [decide_eq_false c, decide_eq_true (by omega)]; rfl
theorem if_fn {now : Int} {L : List (List TDue)} {b : List TDue} (hb : b.length ≤ 1000) : ifDue_fn (now, (L, (b, ()))) = some (match hit (gone now) b with | some q => ((q.1 : Int), (now, (L, (b, ())))) | none => (-1, (now, (L, (b, ()))))) := by
  have hl : ifDue_loop17_2 (0, ((b.length : Int), (b, (now, (L, ()))))) = some (match hit (gone now) b with | some q => .inl ((q.1 : Int), (now, (L, (b, ())))) | none => .inr (b, (now, (L, ())))) := by
    unfold ifDue_loop17_2
    refine loop_hit (tag := 170002) (f := fun x => (ifDue_step17_2 x).eval) (l := b) (fun i => ((i : Int), ((b.length : Int), (b, (now, (L, ())))))) (gone now) (fun o => match o with | some q => .inl ((q.1 : Int), (now, (L, (b, ())))) | none => .inr (b, (now, (L, ())))) (fun i x hx => ?_) ?_ 18446744073709551616 (by omega)
    · have hi := (List.getElem?_eq_some_iff.1 hx).1
      unfold ifDue_step17_2
      refine ev_t (decide_eq_true (by omega)) (ev_g (decide_eq_true (by omega)) (ev_opt (b := x) (by rw [Int.toNat_natCast]; exact hx) ?_))
      unfold gone
      by_cases e : x.at' ≤ now
      · rw [decide_eq_true e]; exact ev_t rfl (ev_g sameN_t (ev_r rfl))
      · rw [decide_eq_false e]; exact ev_f rfl (ev_g (by simp) (ev_g sameN_t (ev_r (by rw [next_i64 i (by omega)]))))
    · unfold ifDue_step17_2
      exact ev_f (decide_eq_false (by omega)) (ev_g sameN_t (ev_r rfl))
  unfold ifDue_fn ifDue_tree
  refine ev_g (by simp) (ev_g sameN_t (ev_opt hl ?_))
  cases hit (gone now) b with
  | some q => exact ev_g sameN_t (ev_r rfl)
  | none => exact ev_g sameN_t (ev_r rfl)
theorem df_fn {now : Int} {L : List (List TDue)} {b : List TDue} (hb : b.length ≤ 1000) : dfDue_fn (now, (L, (b, ()))) = some (now, (L, (b.filter (fun d => !gone now d), ()))) := by
  unfold dfDue_fn dfDue_tree
  refine ev_g (by simp) (ev_g sameN_t (ev_opt (if_fn hb) ?_))
  cases h : hit (gone now) b with
  | none =>
    rw [hit_all _ h]
    exact ev_t rfl (ev_g (by simp) (ev_g sameN_t (ev_r rfl)))
  | some q =>
    obtain ⟨i, x⟩ := q
    have hi := hit_lt h
    obtain ⟨i', L', hlp, h1, h2, h3⟩ := compactG (tag := 200005) (f := fun x => (dfDue_step20_5 x).eval) (l := b) (fun j i M => ((j : Int), ((i : Int), (M, (now, (L, ())))))) (fun i M => ((i : Int), (M, (now, (L, ()))))) (gone now)
      (fun j i M x hM hij hj hx => by
        have hiM : M[i]? = some M[i] := List.getElem?_eq_getElem (by omega)
        show (dfDue_step20_5 _).eval = _
        unfold dfDue_step20_5
        refine ev_t (decide_eq_true (by omega)) (ev_g (decide_eq_true (by omega)) (ev_opt (b := x) (by rw [Int.toNat_natCast]; exact hx) ?_))
        unfold gone
        by_cases e : x.at' ≤ now
        · rw [decide_eq_true e]; exact ev_f rfl (ev_g (by simp) (ev_g sameN_t (ev_r (by rw [next_i64 j (by omega)]))))
        · rw [decide_eq_false e]; exact ev_t rfl (ev_g (decide_eq_true (by omega)) (ev_opt (b := M[i]) (by rw [Int.toNat_natCast]; exact hiM) (ev_g (by simp) (ev_g sameN_t (ev_r (by rw [next_i64 j (by omega), next_i64 i (by omega), Int.toNat_natCast])))))))
      (fun i M hM hi => by
        show (dfDue_step20_5 _).eval = _
        unfold dfDue_step20_5
        exact ev_f (decide_eq_false (by omega)) (ev_g (by simp) (ev_g sameN_t (ev_r rfl))))
      (b.length - (i + 1)) (i + 1) i b 18446744073709551616 (by omega) (by omega) rfl (by omega) (hit_pre _ h) rfl
    refine ev_f (decide_eq_false (by dsimp only; omega)) (ev_g (by simp) (ev_g sameN_t ?_))
    simp only
    rw [next_i64 i (by omega)]
    refine ev_opt (show dfDue_loop20_5 _ = _ from hlp) ?_
    have e4 : ∀ (Y Z : List TDue), List.take i' (List.take i' L' ++ Y ++ Z) = List.take i' L' := fun Y Z => by
      rw [List.append_assoc, List.take_append_of_le_length (by simp; omega), List.take_take, Nat.min_self]
    simp only [Int.toNat_natCast, e4]
    simp only [h3]
    have hfl : (b.filter fun x => !gone now x).length = i' := by rw [← h3]; simp; omega
    exact ev_g (by simp; omega) (ev_g (by simp; omega) (ev_g (by simp; omega) (ev_g (by simp [hfl]) (ev_g sameN_t (ev_r rfl)))))

/-! ### What the document says is due -/
theorem bk_in {t : Int} {b due l : List TDue} {ticks ats ids : List Int} {ln i n now now' : Int} {L L' : List (List TDue)} (hb : b.length ≤ 1000) (hd : due.length ≤ 1000) :
    wheelBook_loop6_32 (0, (t, (ticks, (ats, (ids, (ln, (i, (l, (n, ((b.length : Int), (due, (b, (now, (L, (now', (L', ())))))))))))))))) = some (ticks, (ats, (ids, (ln, (i, (l, (n, (t, (due ++ b.filter (fun d => decide (d.at' = t)), (b, (now, (L, (now', (L', ())))))))))))))) := by
  unfold wheelBook_loop6_32
  have := (loop_fold (tag := 60032) (f := fun x => (wheelBook_step6_32 x).eval) (l := b) (S := List TDue) (st := fun j s => ((j : Int), (t, (ticks, (ats, (ids, (ln, (i, (l, (n, ((b.length : Int), (s, (b, (now, (L, (now', (L', ()))))))))))))))))) (I := fun j s => s.length ≤ 1000 + j) (g := fun s d => if d.at' = t then s ++ [d] else s) (out := fun s => (ticks, (ats, (ids, (ln, (i, (l, (n, (t, (s, (b, (now, (L, (now', (L', ())))))))))))))))
    (fun j x s hx hI => ?_) (fun s hI => ?_) 18446744073709551616 due (by omega) (by omega)).1
  · have hf : ∀ (b s : List TDue), b.foldl (fun s d => if d.at' = t then s ++ [d] else s) s = s ++ b.filter (fun d => decide (d.at' = t)) := by
      intro b
      induction b with
      | nil => intro s; simp
      | cons d b ih =>
        intro s
        rw [List.foldl_cons, ih, List.filter_cons]
        by_cases e : d.at' = t
        · rw [if_pos e, if_pos (decide_eq_true e), List.append_assoc]; rfl
        · rw [if_neg e, if_neg (by simp [e])]
    rw [hf] at this
    exact this
  · have hj := (List.getElem?_eq_some_iff.1 hx).1
    have hxj : b[Int.toNat (j : Int)]? = some x := by rw [Int.toNat_natCast]; exact hx
    by_cases e : x.at' = t
    · rw [if_pos e]
      refine ⟨?_, by simp; omega⟩
      unfold wheelBook_step6_32
      refine ev_t (decide_eq_true (by omega)) (ev_g (decide_eq_true (by omega)) (ev_opt hxj (ev_t (decide_eq_true e) (ev_g (decide_eq_true (by simp only [List.length_singleton]; omega)) (ev_g (by simp) (ev_g (by simp) (ev_g (by simp) (ev_g sameN_t (ev_g sameN_t (ev_r ?_))))))))))
      rw [next_i64 j (by omega)]
    · rw [if_neg e]
      refine ⟨?_, by omega⟩
      unfold wheelBook_step6_32
      refine ev_t (decide_eq_true (by omega)) (ev_g (decide_eq_true (by omega)) (ev_opt hxj (ev_f (decide_eq_false e) (ev_g (by simp) (ev_g (by simp) (ev_g (by simp) (ev_g sameN_t (ev_g sameN_t (ev_r ?_)))))))))
      rw [next_i64 j (by omega)]
  · unfold wheelBook_step6_32
    exact ev_f (decide_eq_false (by omega)) (ev_g (by simp) (ev_g (by simp) (ev_g sameN_t (ev_g sameN_t (ev_r rfl)))))
theorem dues_full {now : Int} {b : List TDue} (h : BOk now b) {k n : Nat} (hk : k ≤ n) (hf : b.length ≤ (dues now b k).length) : dues now b n = dues now b k := by
  have h1 := dues_len h n
  obtain ⟨m, rfl⟩ : ∃ m, n = k + m := ⟨n - k, by omega⟩
  rw [dues_add] at h1 ⊢
  rw [List.length_append] at h1
  rw [List.length_eq_zero_iff.1 (show (dues (now + (k : Int)) (after now b k) m).length = 0 by omega), List.append_nil]
theorem bk_due {b l : List TDue} {ticks ats ids : List Int} {ln i now now' : Int} {n : Nat} {L L' : List (List TDue)} (h : BOk now b) (hn : now + (n : Int) < 16777216) :
    wheelBook_loop6_29 (now + 1, (ticks, (ats, (ids, (ln, (i, (l, ((n : Int), ([], (b, (now, (L, (now', (L', ())))))))))))))) = some (ticks, (ats, (ids, (ln, (i, (l, (now, (L, (b, (now', (L', (dues now b n, ())))))))))))) := by
  have hn0 := h.n0
  have hbl := h.len
  unfold wheelBook_loop6_29
  refine loopO_fn (tag := 60029) (f := fun x => (wheelBook_step6_29 x).eval) (fun a => ∃ k : Nat, k ≤ n ∧ a = (now + 1 + (k : Int), (ticks, (ats, (ids, (ln, (i, (l, ((n : Int), (dues now b k, (b, (now, (L, (now', (L', ()))))))))))))))) (fun _ => (ticks, (ats, (ids, (ln, (i, (l, (now, (L, (b, (now', (L', (dues now b n, ()))))))))))))) (fun a => (now + (n : Int) + 1 - a.1).toNat) (fun a ha => ?_) 18446744073709551616 _ ⟨0, by omega, by simp [dues]⟩ (by dsimp only; omega)
  obtain ⟨k, hk, rfl⟩ := ha
  have hdk := dues_len h k
  have hw : IntKind.wrap IntKind.i64 (now + (n : Int)) = now + (n : Int) := wri _ (by omega)
  by_cases c1 : k = n
  · subst c1
    refine .inl ?_
    unfold wheelBook_step6_29
    simp only [hw]
    exact ev_f (decide_eq_false (by omega)) (ev_g (by simp) (ev_g (by simp) (ev_g sameN_t (ev_g sameN_t (ev_r rfl)))))
  by_cases c2 : b.length ≤ (dues now b k).length
  · refine .inl ?_
    unfold wheelBook_step6_29
    simp only [hw]
    refine ev_t (decide_eq_true (by omega)) (ev_f (decide_eq_false (by omega)) (ev_g (by simp) (ev_g (by simp) (ev_g sameN_t (ev_g sameN_t (ev_r ?_))))))
    rw [dues_full h hk c2]
  · refine .inr ⟨_, ?_, ⟨k + 1, by omega, rfl⟩, ?_, rfl⟩
    · have e1 : dues now b (k + 1) = dues now b k ++ b.filter (fun d => decide (d.at' = now + ((k + 1 : Nat) : Int))) := rfl
      have hlp := bk_in (t := now + 1 + (k : Int)) (b := b) (due := dues now b k) (l := l) (ticks := ticks) (ats := ats) (ids := ids) (ln := ln) (i := i) (n := (n : Int)) (now := now) (now' := now') (L := L) (L' := L') (by omega) (by omega)
      have e2 : now + ((k + 1 : Nat) : Int) = now + 1 + (k : Int) := by omega
      have e3 : now + 1 + ((k + 1 : Nat) : Int) = now + 1 + (k : Int) + 1 := by omega
      rw [e1, e2, e3]
      unfold wheelBook_step6_29
      simp only [hw]
      refine ev_t (decide_eq_true (by omega)) (ev_t (decide_eq_true (by omega)) (ev_g (by simp) (ev_g (by simp) (ev_g (by simp) (ev_g sameN_t (ev_g sameN_t (ev_opt hlp (ev_g (by simp) (ev_g (by simp) (ev_g sameN_t (ev_g sameN_t (ev_r ?_))))))))))))
      dsimp only
      rw [wri _ (by omega)]
    · dsimp only; omega
theorem bk_eq (l : List TDue) (hl : l.length ≤ 100000) : wheelBook_loop10_4 (0, (l, (l, ((l.length : Int), ())))) = some (.inr ()) := by
  unfold wheelBook_loop10_4
  refine (loop_hit (tag := 100004) (f := fun x => (wheelBook_step10_4 x).eval) (l := l) (fun i => ((i : Int), (l, (l, ((l.length : Int), ()))))) (fun _ => false) (fun _ => .inr ()) (fun i x hx => ?_) ?_ 18446744073709551616 (by omega)).trans rfl
  · have hi := (List.getElem?_eq_some_iff.1 hx).1
    have hx' : l[Int.toNat (i : Int)]? = some x := by rw [Int.toNat_natCast]; exact hx
    unfold wheelBook_step10_4
    exact ev_t (decide_eq_true (by omega)) (ev_g (decide_eq_true (by omega)) (ev_opt hx' (ev_g (decide_eq_true (by omega)) (ev_opt hx' (ev_f (by simp) (ev_r (by rw [next_i64 i (by omega)])))))))
  · unfold wheelBook_step10_4
    exact ev_f (decide_eq_false (by omega)) (ev_r rfl)
theorem bk_if (id : Int) (b : List TDue) (hb : b.length ≤ 1000) : wheelBook_loop17_2 (0, ((b.length : Int), (b, (id, ())))) = some (match hit (hasId id) b with | some q => .inl ((q.1 : Int), (id, (b, ()))) | none => .inr (b, (id, ()))) := by
  unfold wheelBook_loop17_2
  refine loop_hit (tag := 170002) (f := fun x => (wheelBook_step17_2 x).eval) (l := b) (fun i => ((i : Int), ((b.length : Int), (b, (id, ()))))) (hasId id) (fun o => match o with | some q => .inl ((q.1 : Int), (id, (b, ()))) | none => .inr (b, (id, ()))) (fun i x hx => ?_) ?_ 18446744073709551616 (by omega)
  · have hi := (List.getElem?_eq_some_iff.1 hx).1
    unfold wheelBook_step17_2 hasId
    refine ev_t (decide_eq_true (by omega)) (ev_g (decide_eq_true (by omega)) (ev_opt (b := x) (by rw [Int.toNat_natCast]; exact hx) ?_))
    by_cases e : x.id = id
    · rw [decide_eq_true e]; exact ev_t rfl (ev_r rfl)
    · rw [decide_eq_false e]; exact ev_f rfl (ev_g (by simp) (ev_r (by rw [next_i64 i (by omega)])))
  · unfold wheelBook_step17_2
    exact ev_f (decide_eq_false (by omega)) (ev_r rfl)

/-! ### One of the ops, and the ticks behind it -/
def atOf (now : Int) (ats : List Int) (i : Nat) : Int := now + (match ats[i]? with | some r => mxA r | none => 1)
def nOf (ticks : List Int) (i : Nat) : Int := match ticks[i]? with | some r => mxN r | none => 0
theorem mxA_b (r : Int) : 1 ≤ mxA r ∧ mxA r ≤ 8388608 := by unfold mxA; omega
theorem mxN_b (r : Int) : 0 ≤ mxN r ∧ mxN r ≤ 10000 := by unfold mxN; omega
theorem atOf_b (now : Int) (ats : List Int) (i : Nat) : now + 1 ≤ atOf now ats i ∧ atOf now ats i ≤ now + 8388608 := by
  unfold atOf
  split
  · have := mxA_b; rename_i r _; have := this r; omega
  · omega
theorem nOf_b (ticks : List Int) (i : Nat) : 0 ≤ nOf ticks i ∧ nOf ticks i ≤ 10000 := by
  unfold nOf
  split
  · rename_i r _; exact mxN_b r
  · omega

def kOf (id : Int) (b : List TDue) : Int := match hit (hasId id) b with | some q => (q.1 : Int) | none => -1
theorem bk_step {ticks ats ids : List Int} {i : Nat} {now : Int} {b : List TDue} (h : BOk now b) (hb : b.length ≤ i) (hi : i < ids.length) (h200 : ids.length ≤ 200) (ha : ats.length ≤ 1000000000000000000) (ht : ticks.length ≤ 1000000000000000000) :
    (wheelBook_step6_6 ((i : Int), (ticks, (ats, (ids, ((ids.length : Int), (now, (Wh now b, (b, ()))))))))).eval = some (.inr (.inl (true, ()))) ∨ ∃ now' b', BOk now' b' ∧ b'.length ≤ i + 1 ∧ (wheelBook_step6_6 ((i : Int), (ticks, (ats, (ids, ((ids.length : Int), (now, (Wh now b, (b, ()))))))))).eval = some (.inl (((i + 1 : Nat) : Int), (ticks, (ats, (ids, ((ids.length : Int), (now', (Wh now' b', (b', ()))))))))) := by
  have hn0 := h.n0
  have hn1 := h.n1
  have hab := atOf_b now ats i
  have hnb := nOf_b ticks i
  have hid : ids[Int.toNat (i : Int)]? = some (ids.getD i 0) := by rw [Int.toNat_natCast, List.getD_eq_getElem?_getD, List.getElem?_eq_getElem hi]; rfl
  generalize ids.getD i 0 = id at hid
  -- what the op leaves
  have hop : ∃ b', BOk now b' ∧ b'.length ≤ i + 1 ∧ ((∃ q, hit (hasId id) b = some q ∧ wStop_fn (now, (Wh now b, (id, ()))) = some (now, (Wh now b', (0, ()))) ∧ delDue_fn ((q.1 : Int), (IntKind.wrap IntKind.i64 ((q.1 : Int) + 1), (b, ()))) = some (b', ())) ∨
      (hit (hasId id) b = none ∧ wSet_fn (now, (Wh now b, (id, (atOf now ats i, ())))) = some (now, (Wh now b', (0, ()))) ∧ b' = b ++ [⟨id, atOf now ats i⟩]) ∨
      (hit (hasId id) b = none ∧ (∃ e : Int, e ≠ 0 ∧ wSet_fn (now, (Wh now b, (id, (atOf now ats i, ())))) = some (0, (List.replicate 96 [], (e, ())))) ∧ 16777216 ≤ atOf now ats i ∧ b' = b)) := by
    cases hh : hit (hasId id) b with
    | some q =>
      obtain ⟨k, d⟩ := q
      obtain ⟨h1, h2⟩ := hit_at hh
      have hkl := hit_lt hh
      have hdi : d.id = id := of_decide_eq_true h2
      have hmem : id ∈ b.map (·.id) := List.mem_map.2 ⟨d, List.mem_of_getElem? h1, hdi⟩
      rcases stop_fn (id := id) h with ⟨_, hs⟩ | ⟨hno, _⟩
      · refine ⟨but id b, but_ok h id, Nat.le_trans (List.length_filter_le _ _) (by omega), .inl ⟨_, rfl, hs, ?_⟩⟩
        dsimp only
        rw [next_i64 k (by omega), del_ok b k hkl, but_at h.ids h1 hdi]
      · exact absurd hmem hno
    | none =>
      have hno : id ∉ b.map (·.id) := fun hm => by
        obtain ⟨d, hd, e⟩ := List.mem_map.1 hm
        have := hit_none.1 hh d hd
        unfold hasId at this
        rw [decide_eq_true e] at this
        cases this
      rcases set_fn (id := id) (a := atOf now ats i) h with ⟨hc, hs⟩ | ⟨hc, hs⟩
      · exact ⟨_, hc.ok h, by simp; omega, .inr (.inl ⟨rfl, hs, rfl⟩)⟩
      · refine ⟨b, h, by omega, .inr (.inr ⟨rfl, hs, ?_, rfl⟩)⟩
        by_cases c : 16777216 ≤ atOf now ats i
        · exact c
        · exact absurd ⟨by omega, by omega, hno, by omega⟩ hc
  obtain ⟨b', hb', hl', hop⟩ := hop
  have hbl' := hb'.len
  rcases tick_fn (n := nOf ticks i) hb' (by omega) with ⟨t, ht0, t1, t2, htk⟩ | ⟨hno, e, he, htk⟩
  · refine .inr ⟨now + nOf ticks i, after now b' t, ?_, ?_, ?_⟩
    · rw [ht0]; exact after_ok hb' t (by omega)
    · exact Nat.le_trans (List.length_filter_le _ _) hl'
    · unfold wheelBook_step6_6
      refine ev_t (decide_eq_true (by omega)) (ev_g (decide_eq_true (by omega)) (ev_opt hid (ev_opt (b := (ticks, (ats, (ids, ((ids.length : Int), ((i : Int), (atOf now ats i, ((i : Int), ((0 : Int), (now, (Wh now b, (b, (id, ()))))))))))))) ?_ (ev_opt (b := (nOf ticks i, (ticks, (ats, (ids, ((ids.length : Int), ((i : Int), (atOf now ats i, (now, (Wh now b, (b, (id, ())))))))))))) ?_ (ev_opt (b := (nOf ticks i, (ticks, (ats, (ids, ((ids.length : Int), ((i : Int), (kOf id b, (atOf now ats i, (now, (Wh now b, (b, (id, ()))))))))))))) ?_ (ev_opt (b := .inr (nOf ticks i, (ticks, (ats, (ids, ((ids.length : Int), ((i : Int), (now, (Wh now b', (b', ())))))))))) ?_ ?_))))))
      · by_cases c : i < ats.length
        · have hx : ats[Int.toNat (i : Int)]? = some ats[i] := by rw [Int.toNat_natCast]; exact List.getElem?_eq_getElem c
          have hA : atOf now ats i = now + mxA ats[i] := by unfold atOf; rw [List.getElem?_eq_getElem c]
          have hm := mxA_b ats[i]
          refine ev_t (decide_eq_true (by omega)) (ev_g (decide_eq_true (by omega)) (ev_opt hx (ev_g (by simp) (ev_g sameN_t (ev_r ?_)))))
          rw [uglyA, wri _ (by omega), hA]
        · have hA : atOf now ats i = now + 1 := by unfold atOf; rw [List.getElem?_eq_none (by omega)]
          refine ev_f (decide_eq_false (by omega)) (ev_g (by simp) (ev_g sameN_t (ev_r ?_)))
          rw [wri _ (by omega), hA]
      · dsimp only
        by_cases c : i < ticks.length
        · have hx : ticks[Int.toNat (i : Int)]? = some ticks[i] := by rw [Int.toNat_natCast]; exact List.getElem?_eq_getElem c
          have hA : nOf ticks i = mxN ticks[i] := by unfold nOf; rw [List.getElem?_eq_getElem c]
          refine ev_t (decide_eq_true (by omega)) (ev_g (decide_eq_true (by omega)) (ev_opt hx (ev_g (by simp) (ev_g sameN_t (ev_r ?_)))))
          rw [uglyN, hA]
        · have hA : nOf ticks i = 0 := by unfold nOf; rw [List.getElem?_eq_none (by omega)]
          refine ev_f (decide_eq_false (by omega)) (ev_g (by simp) (ev_g sameN_t (ev_r ?_)))
          rw [hA]
      · refine ev_g (by simp) (ev_opt (bk_if id b (by omega)) ?_)
        unfold kOf
        cases hit (hasId id) b with
        | some q => exact ev_g (by simp) (ev_g sameN_t (ev_r rfl))
        | none => exact ev_g (by simp) (ev_g sameN_t (ev_r rfl))
      · rcases hop with ⟨q, hq, hs, hd⟩ | ⟨hq, hs, rfl⟩ | ⟨hq, ⟨e', he', hs⟩, hat, rfl⟩
        · have hk : kOf id b = (q.1 : Int) := by unfold kOf; rw [hq]
          rw [hk]
          exact ev_t (decide_eq_true (by dsimp only; omega)) (ev_g sameN_t (ev_opt hs (ev_f rfl (ev_g (by simp) (ev_opt hd (ev_g (by simp) (ev_g sameN_t (ev_r rfl))))))))
        · have hk : kOf id b = -1 := by unfold kOf; rw [hq]
          rw [hk]
          refine ev_f rfl (ev_g sameN_t (ev_opt hs (ev_t rfl (ev_g (decide_eq_true ?_) (ev_g (by simp) (ev_g sameN_t (ev_r rfl)))))))
          simp only [List.length_singleton]
          omega
        · have hk : kOf id b' = -1 := by unfold kOf; rw [hq]
          rw [hk]
          exact ev_f rfl (ev_g sameN_t (ev_opt hs (ev_f (by simp [he']) (ev_f (decide_eq_false (by dsimp only; omega)) (ev_g (by simp) (ev_g sameN_t (ev_r rfl)))))))
      have hdl := dues_len hb' t
      refine ev_g sameN_t (ev_opt htk (ev_f rfl (ev_g rfl (ev_g (by simp) (ev_g sameN_t (ev_g sameN_t (ev_opt (b := (ticks, (ats, (ids, ((ids.length : Int), ((i : Int), (dues now b' t, (now, (Wh now b', (b', (now + nOf ticks i, (Wh (now + nOf ticks i) (after now b' t), (dues now b' t, ()))))))))))))) ?_ (ev_opt (b := (false, (ticks, (ats, (ids, ((ids.length : Int), ((i : Int), (now, (Wh now b', (b', (now + nOf ticks i, (Wh (now + nOf ticks i) (after now b' t), ())))))))))))) ?_ (ev_f rfl ?_)))))))))
      · simp only
        rw [wri _ (by omega), ht0]
        exact bk_due hb' (by omega)
      · exact ev_f (by simp) (ev_opt (bk_eq (dues now b' t) (by omega)) (ev_g (by simp) (ev_g sameN_t (ev_g sameN_t (ev_r rfl)))))
      · refine ev_g (by simp) (ev_g sameN_t (ev_opt (df_fn (b := b') (by omega)) (ev_g (by simp) (ev_g sameN_t (ev_r ?_)))))
        dsimp only
        rw [next_i64 i (by omega), ht0, after_gone]
  · refine .inl ?_
    unfold wheelBook_step6_6
    refine ev_t (decide_eq_true (by omega)) (ev_g (decide_eq_true (by omega)) (ev_opt hid (ev_opt (b := (ticks, (ats, (ids, ((ids.length : Int), ((i : Int), (atOf now ats i, ((i : Int), ((0 : Int), (now, (Wh now b, (b, (id, ()))))))))))))) ?_ (ev_opt (b := (nOf ticks i, (ticks, (ats, (ids, ((ids.length : Int), ((i : Int), (atOf now ats i, (now, (Wh now b, (b, (id, ())))))))))))) ?_ (ev_opt (b := (nOf ticks i, (ticks, (ats, (ids, ((ids.length : Int), ((i : Int), (kOf id b, (atOf now ats i, (now, (Wh now b, (b, (id, ()))))))))))))) ?_ (ev_opt (b := .inr (nOf ticks i, (ticks, (ats, (ids, ((ids.length : Int), ((i : Int), (now, (Wh now b', (b', ())))))))))) ?_ ?_))))))
    · by_cases c : i < ats.length
      · have hx : ats[Int.toNat (i : Int)]? = some ats[i] := by rw [Int.toNat_natCast]; exact List.getElem?_eq_getElem c
        have hA : atOf now ats i = now + mxA ats[i] := by unfold atOf; rw [List.getElem?_eq_getElem c]
        have hm := mxA_b ats[i]
        refine ev_t (decide_eq_true (by omega)) (ev_g (decide_eq_true (by omega)) (ev_opt hx (ev_g (by simp) (ev_g sameN_t (ev_r ?_)))))
        rw [uglyA, wri _ (by omega), hA]
      · have hA : atOf now ats i = now + 1 := by unfold atOf; rw [List.getElem?_eq_none (by omega)]
        refine ev_f (decide_eq_false (by omega)) (ev_g (by simp) (ev_g sameN_t (ev_r ?_)))
        rw [wri _ (by omega), hA]
    · dsimp only
      by_cases c : i < ticks.length
      · have hx : ticks[Int.toNat (i : Int)]? = some ticks[i] := by rw [Int.toNat_natCast]; exact List.getElem?_eq_getElem c
        have hA : nOf ticks i = mxN ticks[i] := by unfold nOf; rw [List.getElem?_eq_getElem c]
        refine ev_t (decide_eq_true (by omega)) (ev_g (decide_eq_true (by omega)) (ev_opt hx (ev_g (by simp) (ev_g sameN_t (ev_r ?_)))))
        rw [uglyN, hA]
      · have hA : nOf ticks i = 0 := by unfold nOf; rw [List.getElem?_eq_none (by omega)]
        refine ev_f (decide_eq_false (by omega)) (ev_g (by simp) (ev_g sameN_t (ev_r ?_)))
        rw [hA]
    · refine ev_g (by simp) (ev_opt (bk_if id b (by omega)) ?_)
      unfold kOf
      cases hit (hasId id) b with
      | some q => exact ev_g (by simp) (ev_g sameN_t (ev_r rfl))
      | none => exact ev_g (by simp) (ev_g sameN_t (ev_r rfl))
    · rcases hop with ⟨q, hq, hs, hd⟩ | ⟨hq, hs, rfl⟩ | ⟨hq, ⟨e', he', hs⟩, hat, rfl⟩
      · have hk : kOf id b = (q.1 : Int) := by unfold kOf; rw [hq]
        rw [hk]
        exact ev_t (decide_eq_true (by dsimp only; omega)) (ev_g sameN_t (ev_opt hs (ev_f rfl (ev_g (by simp) (ev_opt hd (ev_g (by simp) (ev_g sameN_t (ev_r rfl))))))))
      · have hk : kOf id b = -1 := by unfold kOf; rw [hq]
        rw [hk]
        refine ev_f rfl (ev_g sameN_t (ev_opt hs (ev_t rfl (ev_g (decide_eq_true ?_) (ev_g (by simp) (ev_g sameN_t (ev_r rfl)))))))
        simp only [List.length_singleton]
        omega
      · have hk : kOf id b' = -1 := by unfold kOf; rw [hq]
        rw [hk]
        exact ev_f rfl (ev_g sameN_t (ev_opt hs (ev_f (by simp [he']) (ev_f (decide_eq_false (by dsimp only; omega)) (ev_g (by simp) (ev_g sameN_t (ev_r rfl)))))))
    refine ev_g sameN_t (ev_opt htk (ev_t (by simp [he]) (ev_r ?_)))
    dsimp only
    rw [wri _ (by omega), decide_eq_true (by omega)]
end Go.Proofs.Ytnhiilbmgkbbaaa.X
