/- turns: what a round does, in plain terms. Conditions: none. -/
import Derived.Test.YthnijeclidpooaaLTurns
import Derived.Test.YthnijeclidpooaaPDel
import Derived.Test.YthnijeclidpooaaAbsQ
import Derived.KernelRfl
namespace Go.Proofs.Ythnijeclidpooaa.X
open Go Go.RowKit Go.Proofs.Ythnijeclidpooaa.Abs Go.Proofs.Ythnijeclidpooaa.Bits
set_option linter.unusedVariables false
set_option linter.unnecessarySimpa false
set_option linter.unusedSimpArgs false
set_option maxRecDepth 100000

theorem wi (x : Int) (h : -9223372036854775808 ≤ x ∧ x ≤ 9223372036854775807) : IntKind.wrap IntKind.i64 x = x := by
  simp only [IntKind.wrap, IntKind.bits, IntKind.signed]
  simp
  omega
/-! ### One queue -/
def sm (l : List Int) : Int := l.foldr (· + ·) 0
theorem sm_nil : sm [] = 0 := rfl
theorem sm_cons (x : Int) (l : List Int) : sm (x :: l) = x + sm l := rfl
theorem sm_app (a b : List Int) : sm (a ++ b) = sm a + sm b := by
  induction a with
  | nil => simp [sm_nil]
  | cons x a ih => rw [List.cons_append, sm_cons, sm_cons, ih]; omega
/-- How many go. -/
def nsent : Int → List Int → Nat
  | _, [] => 0
  | s, x :: r => if x ≤ s then nsent (s - x) r + 1 else 0
theorem nsent_le : ∀ (s : Int) (l : List Int), nsent s l ≤ l.length
  | _, [] => Nat.le_refl _
  | s, x :: r => by
    unfold nsent
    split
    · have := nsent_le (s - x) r; simp; omega
    · simp
theorem nsent_sum : ∀ (s : Int) (l : List Int), 0 ≤ s → 0 ≤ s - sm (l.take (nsent s l)) ∧ ∀ x, l[nsent s l]? = some x → s - sm (l.take (nsent s l)) < x
  | s, [], h => by simp [nsent, sm_nil]; exact h
  | s, x :: r, h => by
    unfold nsent
    split
    · rename_i hx
      obtain ⟨h1, h2⟩ := nsent_sum (s - x) r (by omega)
      rw [List.take_succ_cons, sm_cons]
      refine ⟨by omega, fun y hy => ?_⟩
      have := h2 y (by simpa using hy)
      omega
    · rename_i hx
      refine ⟨by simp [sm_nil]; exact h, fun y hy => ?_⟩
      simp at hy; subst hy
      simp [sm_nil]; omega
structure QOk (q : TQueue) : Prop where
  s0 : 1 ≤ q.share
  s1 : q.share ≤ 1000000
  len : q.sizes.length ≤ 200
  sz : ∀ x ∈ q.sizes, 1 ≤ x ∧ x ≤ 1000000
  v0 : 0 ≤ q.saved
  v1 : q.sizes = [] → q.saved = 0
  v2 : ∀ x, q.sizes[0]? = some x → q.saved < x
theorem QOk.v1' {q : TQueue} (h : QOk q) : q.saved ≤ 1000000 := by
  cases hs : q.sizes with
  | nil => have := h.v1 hs; omega
  | cons x r =>
    have h1 := h.v2 x (by rw [hs]; rfl)
    have h2 := h.sz x (by rw [hs]; exact List.mem_cons_self)
    omega
/-- What goes out of a queue in a round. -/
def goes (q : TQueue) : List Int := if q.sizes = [] then [] else q.sizes.take (nsent (q.saved + q.share) q.sizes)
def rnd (q : TQueue) : TQueue := if q.sizes = [] then q else
  ⟨q.share, if q.sizes.drop (nsent (q.saved + q.share) q.sizes) = [] then 0 else q.saved + q.share - sm (q.sizes.take (nsent (q.saved + q.share) q.sizes)), q.sizes.drop (nsent (q.saved + q.share) q.sizes)⟩
theorem rnd_share (q : TQueue) : (rnd q).share = q.share := by unfold rnd; split <;> rfl
theorem goes_rnd (q : TQueue) : goes q ++ (rnd q).sizes = q.sizes := by
  unfold goes rnd
  split
  · rename_i h; rw [h]; rfl
  · exact List.take_append_drop _ _
theorem rnd_ok {q : TQueue} (h : QOk q) : QOk (rnd q) := by
  unfold rnd
  split
  · exact h
  rename_i hne
  obtain ⟨h1, h2⟩ := nsent_sum (q.saved + q.share) q.sizes (by have := h.v0; have := h.s0; omega)
  refine ⟨h.s0, h.s1, ?_, fun x hx => h.sz x (List.mem_of_mem_drop hx), ?_, fun e => ?_, fun x hx => ?_⟩
  · have := h.len
    show (q.sizes.drop _).length ≤ 200
    rw [List.length_drop]; omega
  · show 0 ≤ (if _ then (0 : Int) else _)
    split
    · exact Int.le_refl _
    · exact h1
  · show (if _ then (0 : Int) else _) = 0
    exact if_pos e
  · show (if _ then (0 : Int) else _) < x
    have hx' : (q.sizes.drop (nsent (q.saved + q.share) q.sizes))[0]? = some x := hx
    rw [List.getElem?_drop] at hx'
    rw [if_neg (fun e => by have hx2 : (q.sizes.drop (nsent (q.saved + q.share) q.sizes))[0]? = some x := hx; rw [e] at hx2; cases hx2)]
    exact h2 x hx'
/-- After so many rounds. -/
def rndN : Nat → TQueue → TQueue
  | 0, q => q
  | n + 1, q => rnd (rndN n q)
def sumN : Nat → TQueue → Int
  | 0, _ => 0
  | n + 1, q => sumN n q + sm (goes (rndN n q))
def fullN : Nat → TQueue → Bool
  | 0, q => decide (0 < (q.sizes.length : Int))
  | n + 1, q => fullN n q && decide (0 < ((rndN (n + 1) q).sizes.length : Int))
theorem rndN_ok {q : TQueue} (h : QOk q) : ∀ n, QOk (rndN n q)
  | 0 => h
  | n + 1 => rnd_ok (rndN_ok h n)
theorem rndN_share (q : TQueue) : ∀ n, (rndN n q).share = q.share
  | 0 => rfl
  | n + 1 => by show (rnd (rndN n q)).share = _; rw [rnd_share, rndN_share q n]
theorem sumN_tot (q : TQueue) : ∀ n, sumN n q + sm (rndN n q).sizes = sm q.sizes
  | 0 => by show 0 + _ = _; rw [Int.zero_add]; rfl
  | n + 1 => by
    have := sumN_tot q n
    have h2 := congrArg sm (goes_rnd (rndN n q))
    rw [sm_app] at h2
    show sumN n q + sm (goes (rndN n q)) + sm (rnd (rndN n q)).sizes = _
    omega
theorem sm_nonneg {l : List Int} (h : ∀ x ∈ l, 1 ≤ x ∧ x ≤ 1000000) : 0 ≤ sm l ∧ sm l ≤ 1000000 * (l.length : Int) := by
  induction l with
  | nil => simp [sm_nil]
  | cons x l ih =>
    have h1 := h x List.mem_cons_self
    have h2 := ih fun y hy => h y (List.mem_cons_of_mem _ hy)
    rw [sm_cons, List.length_cons]
    omega
theorem goes_ok {q : TQueue} (h : QOk q) : (∀ x ∈ goes q, 1 ≤ x ∧ x ≤ 1000000) ∧ (goes q).length ≤ 200 := by
  unfold goes
  split
  · exact ⟨fun x hx => (by cases hx), by simp⟩
  · refine ⟨fun x hx => h.sz x (List.mem_of_mem_take hx), ?_⟩
    have := h.len
    rw [List.length_take]; omega
theorem sumN_bound {q : TQueue} (h : QOk q) (n : Nat) : 0 ≤ sumN n q ∧ sumN n q ≤ 200000000 := by
  have h1 := sumN_tot q n
  have h2 := (sm_nonneg (rndN_ok h n).sz).1
  have h3 := sm_nonneg h.sz
  have h4 := h.len
  refine ⟨?_, by omega⟩
  clear h1 h2 h3 h4
  induction n with
  | zero => exact Int.le_refl _
  | succ n ih =>
    have := (sm_nonneg (goes_ok (rndN_ok h n)).1).1
    show 0 ≤ sumN n q + sm (goes (rndN n q))
    omega
/-- As long as one waits. -/
theorem full_sum {q : TQueue} : ∀ n, fullN n q = true → sumN n q = (n : Int) * q.share + q.saved - (rndN n q).saved ∧ (rndN n q).sizes ≠ []
  | 0, h => by
    refine ⟨by show (0 : Int) = (0 : Nat) * q.share + q.saved - q.saved; simp, fun e => ?_⟩
    have h' : decide (0 < (q.sizes.length : Int)) = true := h
    have e' : q.sizes = [] := e
    rw [e'] at h'; cases h'
  | n + 1, h => by
    have h' : (fullN n q && decide (0 < ((rndN (n + 1) q).sizes.length : Int))) = true := h
    rw [Bool.and_eq_true, decide_eq_true_eq] at h'
    obtain ⟨i1, i2⟩ := full_sum n h'.1
    have hne : (rndN (n + 1) q).sizes ≠ [] := fun e => by have := h'.2; rw [e] at this; simp at this
    refine ⟨?_, hne⟩
    have e1 : rndN (n + 1) q = rnd (rndN n q) := rfl
    rw [e1] at hne ⊢
    have e2 : (rnd (rndN n q)).saved = (rndN n q).saved + q.share - sm (goes (rndN n q)) := by
      unfold rnd goes at *
      rw [if_neg i2] at hne ⊢
      rw [if_neg i2]
      show (if _ then (0 : Int) else _) = _
      rw [if_neg hne, rndN_share]
    show sumN n q + sm (goes (rndN n q)) = ((n + 1 : Nat) : Int) * q.share + q.saved - _
    rw [e2, i1]
    have : ((n + 1 : Nat) : Int) * q.share = (n : Int) * q.share + q.share := by rw [Int.natCast_succ, Int.add_mul]; omega
    rw [this]; omega
/-- As long as nothing went. -/
theorem none_sent {q : TQueue} (h : QOk q) (hne : q.sizes ≠ []) : ∀ n, sumN n q = 0 → (rndN n q).sizes = q.sizes ∧ (rndN n q).saved = q.saved + (n : Int) * q.share
  | 0, _ => ⟨rfl, by show q.saved = _; simp⟩
  | n + 1, hs => by
    have g := goes_ok (rndN_ok h n)
    have g0 := (sm_nonneg g.1).1
    have b0 := (sumN_bound h n).1
    have hs' : sumN n q + sm (goes (rndN n q)) = 0 := hs
    obtain ⟨i1, i2⟩ := none_sent h hne n (by omega)
    have hg : goes (rndN n q) = [] := by
      cases hgo : goes (rndN n q) with
      | nil => rfl
      | cons x r =>
        exfalso
        have h1 := g.1 x (by rw [hgo]; exact List.mem_cons_self)
        have h2 := (sm_nonneg (l := r) fun y hy => g.1 y (by rw [hgo]; exact List.mem_cons_of_mem _ hy)).1
        rw [hgo, sm_cons] at hs'
        omega
    have hne' : (rndN n q).sizes ≠ [] := by rw [i1]; exact hne
    have e1 : rndN (n + 1) q = rnd (rndN n q) := rfl
    rw [e1]
    have hd := goes_rnd (rndN n q)
    rw [hg] at hd
    have hd' : (rnd (rndN n q)).sizes = (rndN n q).sizes := hd
    refine ⟨by rw [hd', i1], ?_⟩
    have hgs : sm ((rndN n q).sizes.take (nsent ((rndN n q).saved + (rndN n q).share) (rndN n q).sizes)) = 0 := by
      unfold goes at hg
      rw [if_neg hne'] at hg
      rw [hg]; rfl
    have : (rnd (rndN n q)).saved = (rndN n q).saved + (rndN n q).share := by
      unfold rnd at hd' ⊢
      rw [if_neg hne'] at hd' ⊢
      show (if _ then (0 : Int) else _) = _
      have hd2 : (rndN n q).sizes.drop (nsent ((rndN n q).saved + (rndN n q).share) (rndN n q).sizes) = (rndN n q).sizes := hd'
      rw [hd2, if_neg hne', hgs]; omega
    rw [this, i2, rndN_share, Int.natCast_succ, Int.add_mul]; omega

/-! ### Check -/
def TGood (Q : List TQueue) : Prop := Q.length ≤ 16 ∧ ∀ q ∈ Q, QOk q
theorem size_fn (n : Int) : tuSize_fn (n, ()) = some (decide (1 ≤ n) && decide (n ≤ 1000000), ()) := by
  unfold tuSize_fn tuSize_tree
  by_cases h : 1 ≤ n
  · exact ev_t (by simpa using h) (ev_r (by simp [h]))
  · exact ev_f (by simpa using h) (ev_r (by simp [h]))
def big (q : TQueue) : Bool := decide ((200 : Int) < (q.sizes.length : Int))
def badSz (x : Int) : Bool := !(decide (1 ≤ x) && decide (x ≤ 1000000))
def bad1 (q : TQueue) : Prop := 1 ≤ q.share ∧ q.share ≤ 1000000 ∧ ∀ x ∈ q.sizes, badSz x = false
def ok2 (q : TQueue) : Prop := 0 ≤ q.saved ∧ (q.sizes = [] → q.saved = 0) ∧ ∀ x, q.sizes[0]? = some x → q.saved < x
theorem check_fn (Q : List TQueue) (hQ : Q.length < 1000000000000000) (hS : ∀ q ∈ Q, q.sizes.length < 1000000000000000) : ∃ c : Int, tuCheck_fn (Q, ()) = some (c, ()) ∧ (c = 0 ↔ TGood Q) := by
  unfold tuCheck_fn tuCheck_tree
  by_cases h16 : 16 < Q.length
  · exact ⟨2, ev_t (by simp; omega) (ev_r rfl), ⟨fun h => (by cases h), fun h => by have := h.1; omega⟩⟩
  have l1 := loop_hit (tag := 700002) (f := fun x => (tuCheck_step70_2 x).eval) (l := Q) (fun i => ((i : Int), (Q, ((Q.length : Int), ()))))
      big (fun q => match q with | some q => Sum.inl ((q.1 : Int), ()) | none => Sum.inr ())
      (fun i x hx => by
        have hi := (List.getElem?_eq_some_iff.1 hx).1
        show (tuCheck_step70_2 _).eval = _
        unfold tuCheck_step70_2
        refine ev_t (by simp; omega) (ev_g (by simp) (ev_opt (show Q[Int.toNat (i : Int)]? = some x by simpa using hx) ?_))
        unfold big
        rcases Bool.eq_false_or_eq_true (decide ((200 : Int) < (x.sizes.length : Int))) with h | h
        · rw [h]; exact ev_t rfl (ev_r rfl)
        · rw [h]; exact ev_f rfl (ev_r (by rw [next_i64 i (by omega)])))
      (by show (tuCheck_step70_2 _).eval = _; exact ev_f (by simp) (ev_r rfl)) 18446744073709551616 (by omega)
  cases hb : hit big Q with
  | some q =>
    obtain ⟨i, q⟩ := q
    rw [hb] at l1
    refine ⟨2, ev_f (by simp; omega) (ev_opt (show tuCheck_loop70_2 _ = _ from l1) ?_), ⟨fun h => (by cases h), fun h => ?_⟩⟩
    · exact ev_t (by simp) (ev_r rfl)
    · obtain ⟨h1, h2⟩ := hit_at hb
      have := (h.2 q (List.mem_iff_getElem?.2 ⟨i, h1⟩)).len
      unfold big at h2
      simp at h2; omega
  | none =>
    have hsmall := hit_none.1 hb
    rw [hb] at l1
    have inner : ∀ l : List Int, l.length < 1000000000000000 → tuCheck_loop71_2 ((0 : Int), (l, ((l.length : Int), ()))) = some (match hit badSz l with | some q => Sum.inl ((q.1 : Int), ()) | none => Sum.inr ()) := by
      intro l hl
      exact loop_hit (tag := 710002) (f := fun x => (tuCheck_step71_2 x).eval) (l := l) (fun i => ((i : Int), (l, ((l.length : Int), ()))))
        badSz (fun q => match q with | some q => Sum.inl ((q.1 : Int), ()) | none => Sum.inr ())
        (fun i x hx => by
          have hi := (List.getElem?_eq_some_iff.1 hx).1
          show (tuCheck_step71_2 _).eval = _
          unfold tuCheck_step71_2
          refine ev_t (by simp; omega) (ev_g (by simp) (ev_opt (show l[Int.toNat (i : Int)]? = some x by simpa using hx) (ev_opt (size_fn x) ?_)))
          unfold badSz
          rcases Bool.eq_false_or_eq_true (!(decide (1 ≤ x) && decide (x ≤ 1000000))) with h | h
          · rw [h]; exact ev_t rfl (ev_r rfl)
          · rw [h]; exact ev_f rfl (ev_r (by rw [next_i64 i (by omega)])))
        (by show (tuCheck_step71_2 _).eval = _; exact ev_f (by simp) (ev_r rfl)) 18446744073709551616 (by omega)
    have l2 := loop_all (tag := 130004) (f := fun x => (tuCheck_step13_4 x).eval) (l := Q) (fun i => ((i : Int), (Q, (Q, ((Q.length : Int), ())))))
      (fun i q => bad1 q) (Sum.inl ((1 : Int), ())) (Sum.inr (Q, ()))
      (fun i q hq => by
        have hi := (List.getElem?_eq_some_iff.1 hq).1
        have hm := List.mem_iff_getElem?.2 ⟨i, hq⟩
        show (_ → (tuCheck_step13_4 _).eval = _) ∧ (_ → (tuCheck_step13_4 _).eval = _)
        unfold tuCheck_step13_4
        have eo : Q[Int.toNat (i : Int)]? = some q := by simpa using hq
        have hin := inner q.sizes (hS q hm)
        refine ⟨fun hA => ?_, fun hA => ?_⟩
        · obtain ⟨a1, a2, a3⟩ := hA
          rw [hit_none.2 a3] at hin
          exact ev_t (by simp; omega) (ev_g (by simp) (ev_opt eo (ev_opt (size_fn _) (ev_f (by simp; omega) (ev_opt hin (ev_f rfl (ev_r (by rw [next_i64 i (by omega)]))))))))
        · refine ev_t (by simp; omega) (ev_g (by simp) (ev_opt eo (ev_opt (size_fn _) ?_)))
          by_cases a1 : 1 ≤ q.share ∧ q.share ≤ 1000000
          · refine ev_f (by simp; omega) (ev_opt hin ?_)
            cases hz : hit badSz q.sizes with
            | none => exact (hA ⟨a1.1, a1.2, hit_none.1 hz⟩).elim
            | some r => exact ev_t (by simp) (ev_r rfl)
          · exact ev_t (by simp; omega) (ev_r rfl))
      (by show (tuCheck_step13_4 _).eval = _; exact ev_f (by simp) (ev_r rfl)) 18446744073709551616 (by omega)
    have go : ∀ (c : Int) (K : (Int × Unit) ⊕ ((List TQueue) × Unit)) , True := fun _ _ => trivial
    rcases l2 with ⟨hall, l2⟩ | ⟨hnot, l2⟩
    · have l3 := loop_all (tag := 130010) (f := fun x => (tuCheck_step13_10 x).eval) (l := Q) (fun i => ((i : Int), (Q, ((Q.length : Int), ()))))
        (fun i q => ok2 q) (Sum.inl ((4 : Int), ())) (Sum.inr ())
        (fun i q hq => by
          have hi := (List.getElem?_eq_some_iff.1 hq).1
          show (_ → (tuCheck_step13_10 _).eval = _) ∧ (_ → (tuCheck_step13_10 _).eval = _)
          unfold tuCheck_step13_10
          have eo : Q[Int.toNat (i : Int)]? = some q := by simpa using hq
          have en := next_i64 i (by omega)
          refine ⟨fun hA => ?_, fun hA => ?_⟩
          · obtain ⟨a1, a2, a3⟩ := hA
            refine ev_t (by simp; omega) (ev_g (by simp) (ev_opt eo (ev_f (by simpa using a1) ?_)))
            cases hs : q.sizes with
            | nil =>
              have := a2 hs
              exact ev_t rfl (ev_f (by simp [this]) (ev_f rfl (ev_r (by rw [en]))))
            | cons x r =>
              have := a3 x (by rw [hs]; rfl)
              exact ev_f (by simp <;> omega) (ev_t (by simp <;> omega) (ev_g rfl (ev_opt (b := x) rfl (ev_f (by simpa using this) (ev_r (by rw [en]))))))
          · refine ev_t (by simp; omega) (ev_g (by simp) (ev_opt eo ?_))
            by_cases a1 : q.saved < 0
            · exact ev_t (by simpa using a1) (ev_r rfl)
            refine ev_f (by simpa using a1) ?_
            cases hs : q.sizes with
            | nil =>
              have : 0 < q.saved := by
                apply Decidable.byContradiction
                intro hn
                exact hA ⟨by omega, fun _ => by omega, fun x hx => by rw [hs] at hx; cases hx⟩
              exact ev_t rfl (ev_t (by simpa using this) (ev_r rfl))
            | cons x r =>
              have : x ≤ q.saved := by
                apply Decidable.byContradiction
                intro hn
                exact hA ⟨by omega, fun e => (by rw [hs] at e; cases e), fun y hy => by rw [hs] at hy; cases hy; omega⟩
              exact ev_f (by simp <;> omega) (ev_t (by simp <;> omega) (ev_g rfl (ev_opt (b := x) rfl (ev_t (by simpa using this) (ev_r rfl))))))
        (by show (tuCheck_step13_10 _).eval = _; exact ev_f (by simp) (ev_r rfl)) 18446744073709551616 (by omega)
      rcases l3 with ⟨hall3, l3⟩ | ⟨hnot3, l3⟩
      · refine ⟨0, ev_f (by simp; omega) (ev_opt (show tuCheck_loop70_2 _ = _ from l1) (ev_f rfl (ev_opt (show tuCheck_loop13_4 _ = _ from l2) (ev_opt (show tuCheck_loop13_10 _ = _ from l3) (ev_r rfl))))), ⟨fun _ => ⟨by omega, fun q hq => ?_⟩, fun _ => rfl⟩⟩
        obtain ⟨i, hi⟩ := List.mem_iff_getElem?.1 hq
        obtain ⟨a1, a2, a3⟩ := hall i q hi
        obtain ⟨b1, b2, b3⟩ := hall3 i q hi
        refine ⟨a1, a2, ?_, fun x hx => ?_, b1, b2, b3⟩
        · have := hsmall q hq; unfold big at this; simp at this; omega
        · have := a3 x hx; unfold badSz at this; simp at this; omega
      · refine ⟨4, ev_f (by simp; omega) (ev_opt (show tuCheck_loop70_2 _ = _ from l1) (ev_f rfl (ev_opt (show tuCheck_loop13_4 _ = _ from l2) (ev_opt (show tuCheck_loop13_10 _ = _ from l3) (ev_r rfl))))), ⟨fun h => (by cases h), fun h => (hnot3 fun i q hi => ?_).elim⟩⟩
        have := h.2 q (List.mem_iff_getElem?.2 ⟨i, hi⟩)
        exact ⟨this.v0, this.v1, this.v2⟩
    · refine ⟨1, ev_f (by simp; omega) (ev_opt (show tuCheck_loop70_2 _ = _ from l1) (ev_f rfl (ev_opt (show tuCheck_loop13_4 _ = _ from l2) (ev_r rfl)))), ⟨fun h => (by cases h), fun h => (hnot fun i q hi => ?_).elim⟩⟩
      have := h.2 q (List.mem_iff_getElem?.2 ⟨i, hi⟩)
      refine ⟨this.s0, this.s1, fun x hx => ?_⟩
      have := this.sz x hx
      unfold badSz; simp; omega
end Go.Proofs.Ythnijeclidpooaa.X
