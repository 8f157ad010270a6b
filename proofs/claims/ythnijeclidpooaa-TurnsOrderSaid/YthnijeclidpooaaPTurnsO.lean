/- turns: the law TurnsOrder: of each queue all goes, in order, each once. Conditions: none. -/
import Derived.Test.YthnijeclidpooaaPTurnsR
namespace Go.Proofs.Ythnijeclidpooaa.X
open Go Go.RowKit Go.Proofs.Ythnijeclidpooaa.Abs Go.Proofs.Ythnijeclidpooaa.Bits
set_option linter.unusedVariables false
set_option linter.unnecessarySimpa false
set_option linter.unusedSimpArgs false
set_option maxRecDepth 100000

theorem livesO : turnsLives_fn () = some (true, ()) := by kernel_rfl
theorem q_lenO {Q : List TQueue} (h : BndD 6 (D.st 12 Q)) : Q.length < 1000000000000000 := by
  have h1 : Q.length * bsz 12 ≤ 140737488351232 := h.1
  have h2 : bsz 12 = 40 := rfl
  rw [h2] at h1; omega
theorem s_lenO {Q : List TQueue} (h : BndD 6 (D.st 12 Q)) : ∀ q ∈ Q, q.sizes.length < 1000000000000000 := fun q hq => by
  have h1 := h.2 q hq (.st 0 q.sizes) (by simp [enc])
  have h2 : q.sizes.length * bsz 0 ≤ 140737488351232 := h1.1
  have h3 : bsz 0 = 8 := rfl
  rw [h3] at h2; omega
theorem eqInts_self (l : List Int) (hl : l.length < 1000000000000000) : eqInts_fn (l, (l, ())) = some (true, ()) := by
  have lp := loop_idx (tag := 160004) (f := fun x => (eqInts_step16_4 x).eval) l.length (fun i => ((i : Int), (l, (l, ((l.length : Int), ()))))) (Sum.inr ())
    (fun i hi => by
      have hx : l[Int.toNat (i : Int)]? = some l[i] := by rw [Int.toNat_natCast]; exact List.getElem?_eq_getElem hi
      show (eqInts_step16_4 _).eval = _
      unfold eqInts_step16_4
      exact ev_t (by simp; omega) (ev_g (by simp) (ev_opt hx (ev_g (by simp) (ev_opt hx (ev_f (by simp) (ev_r (by rw [next_i64 i (by omega)])))))))) (by
      show (eqInts_step16_4 _).eval = _
      exact ev_f (by simp) (ev_r rfl)) 18446744073709551616 (by omega)
  unfold eqInts_fn eqInts_tree
  exact ev_f (by simp) (ev_opt (show eqInts_loop16_4 _ = _ from lp) (ev_r rfl))
theorem bet_in {x : Int} (h1 : 1 ≤ x) (h2 : x ≤ 1000000) : bet_fn (x, ((1 : Int), ((1000000 : Int), ()))) = some (true, ()) := by
  unfold bet_fn bet_tree
  exact ev_t (by simpa using h1) (ev_r (by simp [h2]))
theorem right_fn (Q : List TQueue) (h : TGood Q) : tuRight_fn (Q, ()) = some (0, ()) := by
  have h16 := h.1
  have inner : ∀ (i : Nat) (q : TQueue), QOk q → tuRight_loop15_8 ((0 : Int), (false, (q.sizes, (false, (Q, ((Q.length : Int), ((i : Int), (false, ((q.sizes.length : Int), (q.share, (q.saved, (q.sizes, ())))))))))))) = some (false, (false, (Q, ((Q.length : Int), ((i : Int), (false, (q.share, (q.saved, (q.sizes, ()))))))))) := by
    intro i q hq
    have hl := hq.len
    have lp := loop_idx (tag := 150008) (f := fun x => (tuRight_step15_8 x).eval) q.sizes.length
      (fun j => ((j : Int), (false, (q.sizes, (false, (Q, ((Q.length : Int), ((i : Int), (false, ((q.sizes.length : Int), (q.share, (q.saved, (q.sizes, ()))))))))))))) (false, (false, (Q, ((Q.length : Int), ((i : Int), (false, (q.share, (q.saved, (q.sizes, ())))))))))
      (fun j hj => by
        have hx : q.sizes[Int.toNat (j : Int)]? = some q.sizes[j] := by rw [Int.toNat_natCast]; exact List.getElem?_eq_getElem hj
        have hz := hq.sz _ (List.getElem_mem hj)
        show (tuRight_step15_8 _).eval = _
        unfold tuRight_step15_8
        exact ev_t (by simp; omega) (ev_g (by simp) (ev_opt hx (ev_f rfl (ev_opt (bet_in hz.1 hz.2) (ev_r (by rw [next_i64 j (by omega)]; rfl))))))) (by
        show (tuRight_step15_8 _).eval = _
        exact ev_f (by simp) (ev_r rfl)) 18446744073709551616 (by omega)
    exact lp
  have lp := loop_idx (tag := 150003) (f := fun x => (tuRight_step15_3 x).eval) Q.length
    (fun i => ((i : Int), (false, (false, (false, (Q, ((Q.length : Int), ()))))))) (false, (false, (false, ())))
    (fun i hi => by
      have hx : Q[Int.toNat (i : Int)]? = some Q[i] := by rw [Int.toNat_natCast]; exact List.getElem?_eq_getElem hi
      have hq := h.2 Q[i] (List.getElem_mem hi)
      generalize Q[i] = q at hx hq
      have hin := inner i q hq
      have hl := hq.len
      have e1 : decide ((200 : Int) < (↑(List.length q.sizes) : Int)) = false := by simp; omega
      show (tuRight_step15_3 _).eval = _
      unfold tuRight_step15_3
      refine ev_t (by simp; omega) (ev_g (by simp) (ev_opt hx (ev_f rfl (ev_f rfl (ev_opt (bet_in hq.s0 hq.s1) ?_)))))
      rw [e1]
      refine ev_opt (show tuRight_loop15_8 _ = _ from hin) ?_
      have en := next_i64 i (by omega)
      cases hs : q.sizes with
      | nil =>
        have hv := hq.v1 hs
        refine ev_f (by simp) (ev_f rfl (ev_f (by simp; omega) (ev_r ?_)))
        rw [en]
        have : decide ((1 : Int) ≤ q.saved) = false := by simp; omega
        rw [this]
      | cons x r =>
        have hx0 : q.sizes[0]? = some x := by rw [hs]; rfl
        have hv := hq.v2 x hx0
        have hv0 := hq.v0
        refine ev_t (by simp <;> omega) (ev_g rfl (ev_opt (b := x) rfl (ev_f rfl (ev_f (by simp; omega) (ev_r ?_)))))
        rw [en]
        have : decide (x ≤ q.saved) = false := by simp; omega
        rw [this]) (by
      show (tuRight_step15_3 _).eval = _
      exact ev_f (by simp) (ev_r rfl)) 18446744073709551616 (by omega)
  unfold tuRight_fn tuRight_tree
  have e2 : decide ((16 : Int) < (↑(List.length Q) : Int)) = false := by simp; omega
  simp only [e2]
  exact ev_opt (show tuRight_loop15_3 _ = _ from lp) (ev_f rfl (ev_f rfl (ev_f rfl (ev_r rfl))))

/-! ### What went out of each queue -/
def sentL : Nat → TQueue → List Int
  | 0, _ => []
  | n + 1, q => sentL n q ++ goes (rndN n q)
theorem sentL_all (q : TQueue) : ∀ n, sentL n q ++ (rndN n q).sizes = q.sizes
  | 0 => rfl
  | n + 1 => by
    show sentL n q ++ goes (rndN n q) ++ (rnd (rndN n q)).sizes = q.sizes
    rw [List.append_assoc, goes_rnd, sentL_all q n]
theorem sentL_len {q : TQueue} (h : QOk q) (n : Nat) : (sentL n q).length + (rndN n q).sizes.length ≤ 200 := by
  have := congrArg List.length (sentL_all q n)
  rw [List.length_append] at this
  have := h.len
  omega
def putAll (S : List (List Int)) (o : List TSent) : List (List Int) := o.foldl (fun S x => S.set x.queue.toNat ((S[x.queue.toNat]?).getD [] ++ [x.size])) S
theorem putAll_snoc (S : List (List Int)) (o : List TSent) (x : TSent) : putAll S (o ++ [x]) = (putAll S o).set x.queue.toNat (((putAll S o)[x.queue.toNat]?).getD [] ++ [x.size]) := by
  unfold putAll; rw [List.foldl_append]; rfl
theorem putAll_app (S : List (List Int)) (a b : List TSent) : putAll S (a ++ b) = putAll (putAll S a) b := by unfold putAll; rw [List.foldl_append]
theorem putAll_len (o : List TSent) : ∀ S : List (List Int), (putAll S o).length = S.length := by
  induction o with
  | nil => intro S; rfl
  | cons x o ih => intro S; show (putAll (S.set _ _) o).length = _; rw [ih]; simp
theorem putAll_one (A R : List (List Int)) : ∀ (l v : List Int), putAll (A ++ v :: R) (l.map (TSent.mk (A.length : Nat))) = A ++ (v ++ l) :: R
  | [], v => by simp [putAll]
  | x :: l, v => by
    show putAll ((A ++ v :: R).set (Int.toNat ((A.length : Nat) : Int)) (((A ++ v :: R)[Int.toNat ((A.length : Nat) : Int)]?).getD [] ++ [x])) (l.map _) = _
    rw [Int.toNat_natCast, get_at A v R _ rfl, set_at A v _ R _ rfl]
    rw [Option.getD_some, putAll_one A R l (v ++ [x]), List.append_assoc]; rfl
theorem putAll_bound (B : Nat) : ∀ (o : List TSent) (S : List (List Int)), (∀ v ∈ S, v.length ≤ B) → ∀ v ∈ putAll S o, v.length ≤ B + o.length := by
  intro o
  induction o generalizing B with
  | nil => intro S h v hv; exact h v hv
  | cons x o ih =>
    intro S h v hv
    have := ih (B + 1) (S.set x.queue.toNat ((S[x.queue.toNat]?).getD [] ++ [x.size])) (fun u hu => by
      rcases List.mem_or_eq_of_mem_set hu with hu | rfl
      · have := h u hu; omega
      · cases he : S[x.queue.toNat]? with
        | none => simp
        | some w =>
          have := h w (List.mem_iff_getElem?.2 ⟨_, he⟩)
          simp; omega) v hv
    rw [List.length_cons]; omega
theorem put_outs (t : Nat) : ∀ (Q : List TQueue) (A : List (List Int)), putAll (A ++ Q.map (sentL t)) (outs A.length (Q.map (rndN t))) = A ++ Q.map (sentL (t + 1))
  | [], A => rfl
  | q :: r, A => by
    show putAll (A ++ sentL t q :: r.map (sentL t)) ((goes (rndN t q)).map _ ++ outs (A.length + 1) (r.map (rndN t))) = _
    rw [putAll_app, putAll_one]
    have := put_outs t r (A ++ [sentL t q ++ goes (rndN t q)])
    rw [List.length_append, List.length_singleton, List.append_assoc, List.append_assoc] at this
    exact this
theorem modify_same {α : Type} {l : List α} {i : Nat} {x : α} (h : l[i]? = some x) : l.modify i (fun _ => x) = l := by
  apply List.ext_getElem?
  intro j
  rw [List.getElem?_modify]
  by_cases e : i = j
  · subst e; simp [h]
  · simp [e]

/-! ### The law -/
theorem turnsOrder_true {Q : List TQueue} {n : Int} (b0 : BndD 6 (D.st 12 Q)) (h1 : -9223372036854775808 ≤ n ∧ n ≤ 9223372036854775807) : (turnsOrder_tree (Q, (n, ()))).eval = some (true, ()) := by
  unfold turnsOrder_tree
  obtain ⟨c, hc, hc0⟩ := check_fn Q (q_lenO b0) (s_lenO b0)
  refine ev_opt livesO (ev_f rfl (ev_opt hc ?_))
  by_cases hz : c = 0
  case neg => exact ev_t (by simpa using hz) (ev_opt livesO (ev_r rfl))
  have hg := hc0.1 hz
  refine ev_f (by simpa using hz) ?_
  by_cases n0 : n < 0
  · exact ev_t (by simpa using n0) (ev_opt livesO (ev_r rfl))
  refine ev_f (by simpa using n0) ?_
  by_cases n1 : 100 < n
  · exact ev_t (by simpa using n1) (ev_opt livesO (ev_r rfl))
  refine ev_f (by simpa using n1) ?_
  obtain ⟨m, rfl⟩ : ∃ m : Nat, n = (m : Int) := ⟨n.toNat, by omega⟩
  have h16 := hg.1
  have hm : m ≤ 100 := by omega
  obtain ⟨K, hK⟩ : ∃ K : Nat, K = Int.toNat (Q.length : Int) := ⟨_, rfl⟩
  have l6 := loop_idx (tag := 30006) (f := fun x => (turnsOrder_step3_6 x).eval) m
    (fun t => (K, (Q, ((t : Int), (Q.map (rndN t), ((m : Int), (Q.map (sentL t), ()))))))) (Sum.inr (Q.map (rndN m), (K, (Q, (Q.map (sentL m), ())))))
    (fun t ht => by
      have hgt := good_rnd hg t
      have hgt1 := good_rnd hg (t + 1)
      have hr := round_fn _ hgt
      have hmm : (Q.map (rndN t)).map rnd = Q.map (rndN (t + 1)) := by rw [List.map_map]; rfl
      rw [hmm] at hr
      have hrr := right_fn _ hgt1
      have hol := outs_len (Q.map (rndN t)) 0 hgt.2
      have hom : ∀ x ∈ outs 0 (Q.map (rndN t)), (0 : Int) ≤ x.queue ∧ x.queue < (Q.length : Int) ∧ 1 ≤ x.size ∧ x.size ≤ 1000000 := fun x hx => by
        have := outs_mem _ 0 x hgt.2 hx
        simpa using this
      have hput : putAll (Q.map (sentL t)) (outs 0 (Q.map (rndN t))) = Q.map (sentL (t + 1)) := put_outs t Q []
      generalize hO : outs 0 (Q.map (rndN t)) = O at *
      rw [List.length_map] at hol
      have hsb : ∀ v ∈ Q.map (sentL t), v.length ≤ 200 := fun v hv => by
        obtain ⟨q, hq, rfl⟩ := List.mem_map.1 hv
        have := sentL_len (hg.2 q hq) t
        omega
      have l11 := loop_idx (tag := 30011) (f := fun x => (turnsOrder_step3_11 x).eval) O.length
        (fun j => ((j : Int), (K, (Q, (O, ((m : Int), ((t : Int), (Q.map (rndN (t + 1)), ((O.length : Int), (putAll (Q.map (sentL t)) (O.take j), ())))))))))) (Sum.inr (K, (Q, ((m : Int), ((t : Int), (Q.map (rndN (t + 1)), (Q.map (sentL (t + 1)), ())))))))
        (fun j hj => by
          have hx : O[j]? = some O[j] := List.getElem?_eq_getElem hj
          obtain ⟨s1, s2, s3⟩ := split_at hx
          have hxm := hom O[j] (List.getElem_mem hj)
          generalize O[j] = x at *
          have hb := putAll_bound 200 (O.take j) (Q.map (sentL t)) hsb
          have hlS := putAll_len (O.take j) (Q.map (sentL t))
          rw [List.length_map] at hlS
          have hsn := putAll_snoc (Q.map (sentL t)) (O.take j) x
          rw [← s2] at hsn
          show (turnsOrder_step3_11 _).eval = _
          rw [hsn]
          generalize putAll (Q.map (sentL t)) (O.take j) = S at *
          have hv : S[x.queue.toNat]? = some S[x.queue.toNat] := List.getElem?_eq_getElem (by omega)
          have hvb := hb _ (List.getElem_mem (show x.queue.toNat < S.length by omega))
          rw [s3] at hvb
          unfold turnsOrder_step3_11
          refine ev_t (by simp; omega) (ev_g (by simp) (ev_opt (show O[Int.toNat (j : Int)]? = some x by simpa using hx) (ev_f (by simp; omega) (ev_f (by simp; omega) (ev_g (by simp; omega) (ev_opt hv (ev_g (by simp; omega) (ev_g (by simp; omega) (ev_g (by simp) (ev_opt hv (ev_g (by simp) (ev_r ?_))))))))))))
          rw [next_i64 j (by omega), hv]; rfl)
        (by
          show (turnsOrder_step3_11 _).eval = _
          rw [List.take_length, hput]
          exact ev_f (by simp) (ev_g (by simp) (ev_r rfl))) 18446744073709551616 (by omega)
      show (turnsOrder_step3_6 _).eval = _
      unfold turnsOrder_step3_6
      have h11 := l11
      simp only [List.take_zero] at h11
      have h11' : turnsOrder_loop3_11 ((0 : Int), (K, (Q, (O, ((m : Int), ((t : Int), (Q.map (rndN (t + 1)), ((O.length : Int), (Q.map (sentL t), ()))))))))) = some (Sum.inr (K, (Q, ((m : Int), ((t : Int), (Q.map (rndN (t + 1)), (Q.map (sentL (t + 1)), ()))))))) := h11
      exact ev_t (by simp; omega) (ev_opt hr (ev_f rfl (ev_f (by simp) (ev_opt hrr (ev_f rfl (ev_g (by simp) (ev_opt h11' (ev_g (by simp) (ev_r (by rw [next_i64 t (by omega)])))))))))))
    (by
      show (turnsOrder_step3_6 _).eval = _
      exact ev_f (by simp) (ev_g (by simp) (ev_r rfl))) 18446744073709551616 (by omega)
  have l20 := loop_idx (tag := 30020) (f := fun x => (turnsOrder_step3_20 x).eval) Q.length
    (fun i => ((i : Int), (Q.map (rndN m), (K, (Q, ((Q.length : Int), (Q.map (sentL m), ()))))))) (Sum.inr ())
    (fun i hi => by
      have hq : Q[i]? = some Q[i] := List.getElem?_eq_getElem hi
      have hqo := hg.2 Q[i] (List.getElem_mem hi)
      generalize Q[i] = q at *
      have g1 : (Q.map (sentL m))[Int.toNat (i : Int)]? = some (sentL m q) := by rw [Int.toNat_natCast, List.getElem?_map, hq]; rfl
      have g3 : (Q.map (rndN m))[Int.toNat (i : Int)]? = some (rndN m q) := by rw [Int.toNat_natCast, List.getElem?_map, hq]; rfl
      have g4 : Q[Int.toNat (i : Int)]? = some q := by simpa using hq
      have hl := sentL_len hqo m
      have he : eqInts_fn (sentL m q ++ (rndN m q).sizes, (q.sizes, ())) = some (true, ()) := by
        rw [sentL_all]; exact eqInts_self _ (by have := hqo.len; omega)
      show (turnsOrder_step3_20 _).eval = _
      unfold turnsOrder_step3_20
      refine ev_t (by simp; omega) (ev_g (by simp) (ev_opt g4 (ev_g (by simp; omega) (ev_opt g1 (ev_g (by simp; omega) (ev_g (by simp) (ev_opt g3 (ev_g (by simp; omega) (ev_opt he (ev_f rfl (ev_g (by simp) (ev_r ?_))))))))))))
      rw [next_i64 i (by omega), modify_same g1])
    (by
      show (turnsOrder_step3_20 _).eval = _
      exact ev_f (by simp) (ev_r rfl)) 18446744073709551616 (by omega)
  have hz0 : List.replicate (Int.toNat (Q.length : Int)) nilI = Q.map (sentL 0) := by
    rw [Int.toNat_natCast]
    show _ = Q.map fun _ => nilI
    rw [List.map_const']
  have e0 : Q.map (rndN 0) = Q := by show Q.map (fun q => q) = Q; simp
  have h6 := l6
  simp only [e0] at h6
  have h6' : turnsOrder_loop3_6 (Int.toNat (Q.length : Int), (Q, ((0 : Int), (Q, ((m : Int), (List.replicate (Int.toNat (Q.length : Int)) nilI, ())))))) = some (Sum.inr (Q.map (rndN m), (K, (Q, (Q.map (sentL m), ()))))) := by
    rw [hz0, ← hK]; exact h6
  exact ev_g (by simp; omega) (ev_g (by simp) (ev_opt h6' (ev_g (by simp) (ev_opt (show turnsOrder_loop3_20 _ = _ from l20) (ev_r rfl)))))
end Go.Proofs.Ythnijeclidpooaa.X
