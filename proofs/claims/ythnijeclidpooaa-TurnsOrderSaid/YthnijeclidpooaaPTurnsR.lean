/- turns: rounds, in plain terms. Conditions: none. -/
import Derived.Test.YthnijeclidpooaaPTurns
namespace Go.Proofs.Ythnijeclidpooaa.X
open Go Go.RowKit Go.Proofs.Ythnijeclidpooaa.Abs Go.Proofs.Ythnijeclidpooaa.Bits
set_option linter.unusedVariables false
set_option linter.unnecessarySimpa false
set_option linter.unusedSimpArgs false
set_option maxRecDepth 100000

/-- A loop whose state is told by its round. -/
theorem loop_idx {A B : Type} {tag : Nat} {f : A → Option (A ⊕ B)} (n : Nat) (st : Nat → A) (out : B) (h1 : ∀ i, i < n → f (st i) = some (.inl (st (i + 1)))) (h2 : f (st n) = some (.inr out)) (N : Nat) (hN : n < N) : loopO tag f N (st 0) = some out := by
  have key : ∀ (c k N : Nat), k + c = n → c < N → loopO tag f N (st k) = some out := by
    intro c
    induction c with
    | zero =>
      intro k N hk hN
      obtain ⟨N, rfl⟩ : ∃ m, N = m + 1 := ⟨N - 1, by omega⟩
      obtain rfl : k = n := by omega
      exact loopO_out h2
    | succ c ih =>
      intro k N hk hN
      obtain ⟨N, rfl⟩ : ∃ m, N = m + 1 := ⟨N - 1, by omega⟩
      rw [loopO_in (h1 k (by omega))]
      exact ih (k + 1) N (by omega) (by omega)
  exact key n 0 N (by omega) hN
theorem set_at {α : Type} (a : List α) (x y : α) (r : List α) (i : Nat) (hi : i = a.length) : (a ++ x :: r).set i y = a ++ y :: r := by
  subst hi; simp
theorem get_at {α : Type} (a : List α) (x : α) (r : List α) (i : Nat) (hi : i = a.length) : (a ++ x :: r)[i]? = some x := by
  subst hi; simp
theorem split_at {α : Type} {l : List α} {i : Nat} {x : α} (h : l[i]? = some x) : l.drop i = x :: l.drop (i + 1) ∧ l.take (i + 1) = l.take i ++ [x] ∧ (l.take i).length = i := by
  obtain ⟨hlt, rfl⟩ := List.getElem?_eq_some_iff.1 h
  refine ⟨List.drop_eq_getElem_cons hlt, ?_, by simp; omega⟩
  rw [List.take_add_one, h]; rfl
theorem set_self {α : Type} {l : List α} {i : Nat} {x : α} (h : l[i]? = some x) : l.set i x = l := by
  obtain ⟨hlt, rfl⟩ := List.getElem?_eq_some_iff.1 h
  exact List.set_getElem_self hlt
theorem get_set {α : Type} {l : List α} {i : Nat} {x y : α} (h : l[i]? = some x) : (l.set i y)[i]? = some y := by
  rw [List.getElem?_set_self (List.getElem?_eq_some_iff.1 h).1]

theorem nsent_cons (s x : Int) (r : List Int) : nsent s (x :: r) = if x ≤ s then nsent (s - x) r + 1 else 0 := rfl
/-! ### A copy -/
theorem own_fn (Q : List TQueue) (h : TGood Q) : tuOwn_fn (Q, ()) = some (Q, ()) := by
  have h16 := h.1
  have := loop_fold (tag := 420003) (f := fun x => (tuOwn_step42_3 x).eval) (l := Q) (fun i (s : List TQueue) => ((i : Int), (Q, ((Q.length : Int), (s, ())))))
    (fun i s => s.length = i) (fun s q => s ++ [TQueue.mk q.share q.saved q.sizes]) (fun s => (s, ()))
    (fun i q s hq hi => by
      have hil := (List.getElem?_eq_some_iff.1 hq).1
      have hl := (h.2 q (List.mem_iff_getElem?.2 ⟨i, hq⟩)).len
      refine ⟨?_, by simp; omega⟩
      show (tuOwn_step42_3 _).eval = _
      unfold tuOwn_step42_3
      exact ev_t (by simp; omega) (ev_g (by simp) (ev_opt (show Q[Int.toNat (i : Int)]? = some q by simpa using hq) (ev_g (by simp; omega) (ev_g (by simp; omega) (ev_g (by simp) (ev_r (by rw [next_i64 i (by omega)])))))))
    )
    (fun s hi => by show (tuOwn_step42_3 _).eval = _; exact ev_f (by simp) (ev_g (by simp) (ev_r rfl))) 18446744073709551616 [] rfl (by omega)
  have hf : ∀ (r a : List TQueue), r.foldl (fun s q => s ++ [TQueue.mk q.share q.saved q.sizes]) a = a ++ r := by
    intro r
    induction r with
    | nil => intro a; simp
    | cons x r ih => intro a; rw [List.foldl_cons, ih]; simp
  rw [hf] at this
  unfold tuOwn_fn tuOwn_tree
  exact ev_g (by simp; omega) (ev_g rfl (ev_opt (show tuOwn_loop42_3 _ = _ from this.1) (ev_g (by simp) (ev_r rfl))))

/-! ### One queue's round -/
theorem inner_fn (i : Nat) (len sh : Int) (l : List Int) (hl : l.length ≤ 200) (hsz : ∀ x ∈ l, 1 ≤ x ∧ x ≤ 1000000) : ∀ (m : List Int) (n : Nat) (s : Int) (R : List TQueue) (out : List TSent) (N : Nat), l.drop n = m → R[i]? = some ⟨sh, s, l⟩ → 0 ≤ s → s ≤ 2000000 → out.length + m.length ≤ 100000 → m.length < N →
    loopO 140013 (fun x => (tuRound_step14_13 x).eval) N ((n : Int), (i, ((i : Int), (len, ((i : Int), (R, (out, ()))))))) = some (len, ((i : Int), (i, (((n + nsent s m : Nat) : Int), (out ++ (m.take (nsent s m)).map (TSent.mk i), (R.set i ⟨sh, s - sm (m.take (nsent s m)), l⟩, ())))))) := by
  intro m
  induction m with
  | nil =>
    intro n s R out N hm hR h0 h1 ho hN
    obtain ⟨N, rfl⟩ : ∃ k, N = k + 1 := ⟨N - 1, by omega⟩
    have hln : l.length ≤ n := by have := congrArg List.length hm; simp at this; omega
    refine loopO_out ?_
    unfold tuRound_step14_13
    refine ev_opt hR (ev_f (by simp; omega) (ev_g (by simp) (ev_g (by simp) (ev_r ?_))))
    have e1 : s - sm (([] : List Int).take (nsent s [])) = s := by simp [nsent, sm_nil]
    rw [e1, set_self hR]
    simp [nsent]
  | cons x m ih =>
    intro n s R out N hm hR h0 h1 ho hN
    obtain ⟨N, rfl⟩ : ∃ k, N = k + 1 := ⟨N - 1, by omega⟩
    have hx : l[n]? = some x := by have := congrArg (·[0]?) hm; simpa using this
    have hnl := (List.getElem?_eq_some_iff.1 hx).1
    have hm2 : l.drop (n + 1) = m := by rw [← List.drop_drop, hm]; rfl
    have hxz := hsz x (List.mem_iff_getElem?.2 ⟨n, hx⟩)
    have ex : l[Int.toNat (n : Int)]? = some x := by simpa using hx
    by_cases hle : x ≤ s
    · have hw : IntKind.wrap IntKind.i64 (s - x) = s - x := wi _ (by omega)
      have hs : (tuRound_step14_13 ((n : Int), (i, ((i : Int), (len, ((i : Int), (R, (out, ())))))))).eval = some (.inl (((n + 1 : Nat) : Int), (i, ((i : Int), (len, ((i : Int), (R.set i ⟨sh, s - x, l⟩, (out ++ [TSent.mk i x], ())))))))) := by
        unfold tuRound_step14_13
        refine ev_opt hR (ev_t (by simp; omega) (ev_opt hR (ev_g (by simp) (ev_opt ex (ev_opt hR (ev_t (by simpa using hle) (ev_opt hR (ev_g (by simp) (ev_opt ex (ev_g ?_ (ev_opt hR (ev_opt hR (ev_g (by simp) (ev_opt ex (ev_opt hR (ev_g (by simp) (ev_g (by simp) (ev_r ?_))))))))))))))))))
        · simp only [List.length_cons] at ho
          simp; omega
        · rw [next_i64 n (by omega), hw]
      rw [loopO_in hs]
      simp only [List.length_cons] at ho hN
      have := ih (n + 1) (s - x) (R.set i ⟨sh, s - x, l⟩) (out ++ [TSent.mk i x]) N hm2 (get_set hR) (by omega) (by omega) (by simp; omega) (by omega)
      rw [this]
      have e1 : nsent s (x :: m) = nsent (s - x) m + 1 := by rw [nsent_cons, if_pos hle]
      rw [e1, List.take_succ_cons, sm_cons, List.set_set, List.map_cons]
      have e2 : s - x - sm (m.take (nsent (s - x) m)) = s - (x + sm (m.take (nsent (s - x) m))) := by omega
      rw [e2, show n + 1 + nsent (s - x) m = n + (nsent (s - x) m + 1) by omega, List.append_assoc]
      rfl
    · refine loopO_out ?_
      have e1 : nsent s (x :: m) = 0 := by rw [nsent_cons, if_neg hle]
      unfold tuRound_step14_13
      refine ev_opt hR (ev_t (by simp; omega) (ev_opt hR (ev_g (by simp) (ev_opt ex (ev_opt hR (ev_f (by simpa using hle) (ev_g (by simp) (ev_g (by simp) (ev_r ?_)))))))))
      rw [e1]
      simp only [List.take_zero, sm_nil, List.map_nil, List.append_nil, Int.sub_zero, Nat.add_zero]
      rw [set_self hR]
theorem queue_step {R : List TQueue} {i : Nat} {q : TQueue} (hR : R[i]? = some q) (hq : QOk q) (hi : i < 100) (hRl : R.length ≤ 16) (out : List TSent) (ho : out.length ≤ 10000) :
    (tuRound_step14_7 ((i : Int), ((R.length : Int), (out, (R, ()))))).eval = some (.inl (((i + 1 : Nat) : Int), ((R.length : Int), (out ++ (goes q).map (TSent.mk i), (R.set i (rnd q), ()))))) := by
  have hlt := (List.getElem?_eq_some_iff.1 hR).1
  have eR : R[Int.toNat (i : Int)]? = some q := by simpa using hR
  have en := next_i64 i (by omega)
  unfold tuRound_step14_7
  refine ev_t (by simp; omega) (ev_g (by simp; omega) (ev_opt eR ?_))
  by_cases hne : q.sizes = []
  · refine ev_t (by simp [hne]) (ev_g (by simp) (ev_g (by simp) (ev_r ?_)))
    have e1 : goes q = [] := if_pos hne
    have e2 : rnd q = q := if_pos hne
    rw [e1, e2, set_self hR, en]
    simp
  refine ev_f (by simp; exact hne) (ev_opt eR (ev_opt eR (ev_opt eR (ev_g (by simp) (ev_g (by simp) ?_)))))
  have hv := hq.v0
  have hv1 := hq.v1'
  have hs0 := hq.s0
  have hs1 := hq.s1
  have hln := hq.len
  have hw : IntKind.wrap IntKind.i64 (q.saved + q.share) = q.saved + q.share := wi _ (by omega)
  simp only [Int.toNat_natCast, hw]
  generalize hS : q.saved + q.share = S
  have hin := inner_fn i (R.length : Int) q.share q.sizes hln hq.sz q.sizes 0 S (R.set i ⟨q.share, S, q.sizes⟩) out 18446744073709551616 rfl (get_set hR) (by omega) (by omega) (by omega) (by omega)
  rw [List.set_set, Nat.zero_add] at hin
  refine ev_opt (show tuRound_loop14_13 _ = _ from hin) ?_
  have hnl := nsent_le S q.sizes
  have hg : goes q = q.sizes.take (nsent S q.sizes) := by unfold goes; rw [if_neg hne, hS]
  have hr : rnd q = ⟨q.share, if q.sizes.drop (nsent S q.sizes) = [] then 0 else S - sm (q.sizes.take (nsent S q.sizes)), q.sizes.drop (nsent S q.sizes)⟩ := by unfold rnd; rw [if_neg hne, hS]
  rw [hg, hr]
  generalize nsent S q.sizes = n at hnl ⊢
  generalize S - sm (q.sizes.take n) = v
  have g1 : (R.set i ⟨q.share, v, q.sizes⟩)[i]? = some ⟨q.share, v, q.sizes⟩ := get_set hR
  refine ev_opt g1 (ev_g (by simp; omega) (ev_opt g1 ?_))
  simp only [Int.toNat_natCast, List.take_length, List.set_set]
  have g2 : (R.set i ⟨q.share, v, q.sizes.drop n⟩)[i]? = some ⟨q.share, v, q.sizes.drop n⟩ := get_set hR
  refine ev_opt g2 ?_
  by_cases hd : q.sizes.drop n = []
  · refine ev_t (by simp [hd]) (ev_opt g2 (ev_g (by simp) (ev_g (by simp) (ev_r ?_))))
    rw [if_pos hd, en]
  · have hdl : ¬ (q.sizes.drop n).length = 0 := fun e => hd (List.eq_nil_of_length_eq_zero e)
    refine ev_f (decide_eq_false fun e => hdl (by have e' : (((q.sizes.drop n).length : Nat) : Int) = 0 := e; omega)) (ev_g (by simp) (ev_g (by simp) (ev_r ?_)))
    rw [if_neg hd, en]
/-- What all send, in order. -/
def outs : Nat → List TQueue → List TSent
  | _, [] => []
  | k, q :: r => (goes q).map (TSent.mk k) ++ outs (k + 1) r
theorem outs_snoc : ∀ (a : List TQueue) (k : Nat) (q : TQueue), outs k (a ++ [q]) = outs k a ++ (goes q).map (TSent.mk (k + a.length : Nat))
  | [], k, q => by simp [outs]
  | x :: a, k, q => by
    show (goes x).map _ ++ outs (k + 1) (a ++ [q]) = ((goes x).map _ ++ outs (k + 1) a) ++ _
    rw [outs_snoc a (k + 1) q, List.append_assoc, show k + 1 + a.length = k + (x :: a).length by simp; omega]
theorem outs_len : ∀ (Q : List TQueue) (k : Nat), (∀ q ∈ Q, QOk q) → (outs k Q).length ≤ 200 * Q.length
  | [], k, h => by simp [outs]
  | q :: r, k, h => by
    have h1 := (goes_ok (h q List.mem_cons_self)).2
    have h2 := outs_len r (k + 1) fun x hx => h x (List.mem_cons_of_mem _ hx)
    simp only [outs, List.length_append, List.length_map, List.length_cons]
    omega
theorem outs_mem : ∀ (Q : List TQueue) (k : Nat) (x : TSent), (∀ q ∈ Q, QOk q) → x ∈ outs k Q → (k : Int) ≤ x.queue ∧ x.queue < ((k + Q.length : Nat) : Int) ∧ 1 ≤ x.size ∧ x.size ≤ 1000000
  | [], k, x, h, hx => by cases hx
  | q :: r, k, x, h, hx => by
    simp only [outs, List.mem_append] at hx
    rcases hx with hx | hx
    · obtain ⟨y, hy, rfl⟩ := List.mem_map.1 hx
      have := (goes_ok (h q List.mem_cons_self)).1 y hy
      refine ⟨Int.le_refl _, by show (k : Int) < _; simp; omega, this.1, this.2⟩
    · have := outs_mem r (k + 1) x (fun y hy => h y (List.mem_cons_of_mem _ hy)) hx
      refine ⟨by omega, by simp only [List.length_cons]; omega, this.2.2⟩
theorem round_fn (Q : List TQueue) (h : TGood Q) : tuRound_fn (Q, ()) = some (Q.map rnd, (outs 0 Q, (0, ()))) := by
  have h16 := h.1
  obtain ⟨c, hc, hc0⟩ := check_fn Q (by omega) (fun q hq => by have := (h.2 q hq).len; omega)
  have hc' := hc0.2 h
  subst hc'
  have hlen : ∀ i, i ≤ Q.length → ((Q.take i).map rnd ++ Q.drop i).length = Q.length := fun i hi => by simp; omega
  have lp := loop_idx (tag := 140007) (f := fun x => (tuRound_step14_7 x).eval) Q.length (fun i => ((i : Int), ((Q.length : Int), (outs 0 (Q.take i), ((Q.take i).map rnd ++ Q.drop i, ()))))) (outs 0 Q, (Q.map rnd, ()))
    (fun i hi => by
      have hq : Q[i]? = some Q[i] := List.getElem?_eq_getElem hi
      obtain ⟨s1, s2, s3⟩ := split_at hq
      have hok := h.2 Q[i] (List.getElem_mem hi)
      generalize Q[i] = q at *
      have hR : ((Q.take i).map rnd ++ Q.drop i)[i]? = some q := by rw [s1]; exact get_at _ _ _ _ (by simp; omega)
      have hol := outs_len (Q.take i) 0 fun x hx => h.2 x (List.mem_of_mem_take hx)
      rw [s3] at hol
      have := queue_step hR hok (by omega) (by rw [hlen i (by omega)]; omega) (outs 0 (Q.take i)) (by omega)
      rw [hlen i (by omega)] at this
      show (tuRound_step14_7 _).eval = _
      rw [this, s2, outs_snoc, s3, Nat.zero_add]
      have : ((Q.take i).map rnd ++ Q.drop i).set i (rnd q) = (Q.take i ++ [q]).map rnd ++ Q.drop (i + 1) := by
        rw [s1, set_at _ _ _ _ _ (by simp; omega)]; simp
      rw [this])
    (by
      show (tuRound_step14_7 _).eval = _
      rw [List.take_length, List.drop_length, List.append_nil]
      exact ev_f (by simp) (ev_g (by simp) (ev_g (by simp) (ev_r rfl)))) 18446744073709551616 (by omega)
  unfold tuRound_fn tuRound_tree
  exact ev_opt hc (ev_f rfl (ev_opt (own_fn Q h) (ev_g rfl (ev_g (by simp) (ev_opt (show tuRound_loop14_7 _ = _ from lp) (ev_r rfl))))))
theorem good_rnd {Q : List TQueue} (h : TGood Q) (n : Nat) : TGood (Q.map (rndN n)) := by
  refine ⟨by simpa using h.1, fun q hq => ?_⟩
  obtain ⟨x, hx, rfl⟩ := List.mem_map.1 hq
  exact rndN_ok (h.2 x hx) n

/-! ### Sums -/
def addAll (S : List Int) (o : List TSent) : List Int := o.foldl (fun S x => S.set x.queue.toNat ((S[x.queue.toNat]?).getD 0 + x.size)) S
theorem addAll_snoc (S : List Int) (o : List TSent) (x : TSent) : addAll S (o ++ [x]) = (addAll S o).set x.queue.toNat (((addAll S o)[x.queue.toNat]?).getD 0 + x.size) := by
  unfold addAll; rw [List.foldl_append]; rfl
theorem addAll_app (S : List Int) (a b : List TSent) : addAll S (a ++ b) = addAll (addAll S a) b := by unfold addAll; rw [List.foldl_append]
theorem addAll_len (o : List TSent) : ∀ S : List Int, (addAll S o).length = S.length := by
  induction o with
  | nil => intro S; rfl
  | cons x o ih => intro S; show (addAll (S.set _ _) o).length = _; rw [ih]; simp
theorem addAll_one (A R : List Int) : ∀ (l : List Int) (v : Int), addAll (A ++ v :: R) (l.map (TSent.mk (A.length : Nat))) = A ++ (v + sm l) :: R
  | [], v => by simp [addAll, sm_nil]
  | x :: l, v => by
    show addAll ((A ++ v :: R).set (Int.toNat ((A.length : Nat) : Int)) (((A ++ v :: R)[Int.toNat ((A.length : Nat) : Int)]?).getD 0 + x)) (l.map _) = _
    rw [Int.toNat_natCast, get_at A v R _ rfl, set_at A v _ R _ rfl]
    rw [Option.getD_some, addAll_one A R l (v + x), sm_cons, Int.add_assoc]
theorem add_outs (g : TQueue → Int) : ∀ (Q : List TQueue) (A : List Int), addAll (A ++ Q.map g) (outs A.length Q) = A ++ Q.map fun q => g q + sm (goes q)
  | [], A => rfl
  | q :: r, A => by
    show addAll (A ++ g q :: r.map g) ((goes q).map _ ++ outs (A.length + 1) r) = _
    rw [addAll_app, addAll_one]
    have := add_outs g r (A ++ [g q + sm (goes q)])
    rw [List.length_append, List.length_singleton, List.append_assoc, List.append_assoc] at this
    exact this
theorem addAll_bound (B : Int) : ∀ (o : List TSent) (S : List Int), (∀ x ∈ o, 1 ≤ x.size ∧ x.size ≤ 1000000) → (∀ v ∈ S, 0 ≤ v ∧ v ≤ B) → 0 ≤ B → ∀ v ∈ addAll S o, 0 ≤ v ∧ v ≤ B + 1000000 * (o.length : Int) := by
  intro o
  induction o generalizing B with
  | nil => intro S h1 h2 hB v hv; have := h2 v hv; simp; exact this
  | cons x o ih =>
    intro S h1 h2 hB v hv
    have hx := h1 x List.mem_cons_self
    have := ih (B + 1000000) (S.set x.queue.toNat ((S[x.queue.toNat]?).getD 0 + x.size)) (fun y hy => h1 y (List.mem_cons_of_mem _ hy)) (fun u hu => by
      rcases List.mem_or_eq_of_mem_set hu with hu | rfl
      · have := h2 u hu; omega
      · cases he : S[x.queue.toNat]? with
        | none => simp; omega
        | some w =>
          have := h2 w (List.mem_iff_getElem?.2 ⟨_, he⟩)
          simp; omega) (by omega) v hv
    rw [List.length_cons]; omega

/-! ### Rounds -/
end Go.Proofs.Ythnijeclidpooaa.X
