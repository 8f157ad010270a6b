/- proxy: the reference's SegmentText and ProxyRight. Conditions: none. -/
import Derived.Test.YtcdcdmfecglemaaPProxyB
import Derived.Test.YtcdcdmfecglemaaPProxyO
import Derived.Test.YtcdcdmfecglemaaNProxy
namespace Go.Proofs.Ytcdcdmfecglemaa.X
open Go Go.RowKit Go.Proofs.Ytcdcdmfecglemaa.Abs Go.Proofs.Ytcdcdmfecglemaa.Bits
set_option linter.unusedVariables false
set_option linter.unnecessarySimpa false
set_option linter.unusedSimpArgs false
set_option maxRecDepth 100000

theorem ev_opt_ex {α β R : Type} {o : Option β} {k : β → Tr α} {b : β} {r : R → Option α} (h : o = some b) (h2 : ∃ s, (k b).eval = r s) : ∃ s, (Tr.opt o k).eval = r s := by obtain ⟨s, h3⟩ := h2; exact ⟨s, ev_opt h h3⟩
theorem ev_f_ex {α R : Type} {c : Bool} {t e : Tr α} {r : R → Option α} (h : c = false) (h2 : ∃ s, e.eval = r s) : ∃ s, (Tr.ite c t e).eval = r s := by obtain ⟨s, h3⟩ := h2; exact ⟨s, ev_f h h3⟩
theorem ev_g_ex {α R : Type} {c : Bool} {t : Tr α} {r : R → Option α} (h : c = true) (h2 : ∃ s, t.eval = r s) : ∃ s, (Tr.grd c t).eval = r s := by obtain ⟨s, h3⟩ := h2; exact ⟨s, ev_g h h3⟩
theorem between_ok (x a b : Int) : rBetween_fn (x, (a, (b, ()))) = some (decide (a ≤ x ∧ x ≤ b), ()) := by
  unfold rBetween_fn rBetween_tree
  by_cases h : a ≤ x
  · exact ev_t (decide_eq_true h) (ev_r (by simp [h]))
  · exact ev_f (decide_eq_false h) (ev_r (by simp [h]))
theorem rBytes_lp (l : List Int) (hl : l.length ≤ 1000) (acc : List UInt8) (ha : acc.length = l.length) : ∃ r : List UInt8, r.length = l.length ∧ rBytes_loop64_3 ((0 : Int), (l, ((l.length : Int), (acc, ())))) = some (r, ()) := by
  have := loopO_ex (tag := 640003) (f := fun x => (rBytes_step64_3 x).eval) (fun a => ∃ (i : Nat) (r : List UInt8), i ≤ l.length ∧ r.length = l.length ∧ a = ((i : Int), (l, ((l.length : Int), (r, ()))))) (fun b => ∃ r : List UInt8, r.length = l.length ∧ b = (r, ())) (fun a => l.length - a.1.toNat)
    (by
      rintro _ ⟨i, r, hi, hr, rfl⟩
      by_cases hlt : i < l.length
      · have hx : l[i]? = some l[i] := List.getElem?_eq_getElem hlt
        have hy : r[i]? = some r[i] := List.getElem?_eq_getElem (by omega)
        refine .inr ⟨(((i + 1 : Nat) : Int), (l, ((l.length : Int), (r.set i (UInt8.ofNat (Int.toNat (IntKind.wrap IntKind.u8 l[i]))), ())))), ?_, ⟨i + 1, _, by omega, by simpa using hr, rfl⟩, ?_⟩
        · show (rBytes_step64_3 _).eval = _
          unfold rBytes_step64_3
          exact ev_t (by simp; omega) (ev_g (by simp) (ev_opt (b := l[i]) (by simpa using hx) (ev_g (by simp; omega) (ev_opt (b := r[i]) (by simpa using hy) (ev_g (w8g _) (ev_g (by simp) (ev_r (by rw [next_i64 i (by omega)]; simp))))))))
        · show l.length - (((i + 1 : Nat) : Int)).toNat < l.length - ((i : Nat) : Int).toNat; omega
      · refine .inl ⟨(r, ()), ?_, r, hr, rfl⟩
        show (rBytes_step64_3 _).eval = _
        exact ev_f (by simp; omega) (ev_g (by simp) (ev_r rfl))) 18446744073709551616 ((0 : Int), (l, ((l.length : Int), (acc, ())))) ⟨0, acc, by omega, ha, rfl⟩ (by show l.length - _ < _; omega)
  obtain ⟨b, h1, r, h2, rfl⟩ := this
  exact ⟨r, h2, h1⟩
theorem rWord_lp (l : List Int) (hl : l.length ≤ 1000) (acc : List UInt8) (ha : acc.length = l.length) : ∃ r : List UInt8, r.length = l.length ∧ rWord_loop64_3 ((0 : Int), (l, ((l.length : Int), (acc, ())))) = some (r, ()) := by
  have := loopO_ex (tag := 640003) (f := fun x => (rWord_step64_3 x).eval) (fun a => ∃ (i : Nat) (r : List UInt8), i ≤ l.length ∧ r.length = l.length ∧ a = ((i : Int), (l, ((l.length : Int), (r, ()))))) (fun b => ∃ r : List UInt8, r.length = l.length ∧ b = (r, ())) (fun a => l.length - a.1.toNat)
    (by
      rintro _ ⟨i, r, hi, hr, rfl⟩
      by_cases hlt : i < l.length
      · have hx : l[i]? = some l[i] := List.getElem?_eq_getElem hlt
        have hy : r[i]? = some r[i] := List.getElem?_eq_getElem (by omega)
        refine .inr ⟨(((i + 1 : Nat) : Int), (l, ((l.length : Int), (r.set i (UInt8.ofNat (Int.toNat (IntKind.wrap IntKind.u8 l[i]))), ())))), ?_, ⟨i + 1, _, by omega, by simpa using hr, rfl⟩, ?_⟩
        · show (rWord_step64_3 _).eval = _
          unfold rWord_step64_3
          exact ev_t (by simp; omega) (ev_g (by simp) (ev_opt (b := l[i]) (by simpa using hx) (ev_g (by simp; omega) (ev_opt (b := r[i]) (by simpa using hy) (ev_g (w8g _) (ev_g (by simp) (ev_r (by rw [next_i64 i (by omega)]; simp))))))))
        · show l.length - (((i + 1 : Nat) : Int)).toNat < l.length - ((i : Nat) : Int).toNat; omega
      · refine .inl ⟨(r, ()), ?_, r, hr, rfl⟩
        show (rWord_step64_3 _).eval = _
        exact ev_f (by simp; omega) (ev_g (by simp) (ev_r rfl))) 18446744073709551616 ((0 : Int), (l, ((l.length : Int), (acc, ())))) ⟨0, acc, by omega, ha, rfl⟩ (by show l.length - _ < _; omega)
  obtain ⟨b, h1, r, h2, rfl⟩ := this
  exact ⟨r, h2, h1⟩
theorem bytes_ok (l : List Int) (hl : l.length ≤ 1000) : ∃ r : List UInt8, r.length = l.length ∧ rBytes_fn (l, ()) = some (r, ()) := by
  obtain ⟨r, h1, h2⟩ := rBytes_lp l hl (List.replicate (Int.toNat (l.length : Int)) (UInt8.ofNat 0)) (by simp)
  exact ⟨r, h1, ev_g (by simp; omega) (ev_g rfl (ev_g (by simp) (ev_opt h2 (ev_r rfl))))⟩
theorem word_ok (n : Int) : ∃ r : List UInt8, r.length = 2 ∧ rWord_fn (n, ()) = some (r, ()) := by
  obtain ⟨r, h1, h2⟩ := rWord_lp [IntKind.wrap IntKind.i64 (Int.tdiv n (256 : Int)), Int.tmod n (256 : Int)] (by simp) (List.replicate (Int.toNat ((2 : Nat) : Int)) (UInt8.ofNat 0)) (by simp)
  exact ⟨r, h1, ev_g rfl (ev_g rfl (ev_g (by simp) (ev_g rfl (ev_g (by simp) (ev_opt h2 (ev_r rfl))))))⟩
theorem long_ok (n : Int) : ∃ r : List UInt8, r.length = 4 ∧ rLong_fn (n, ()) = some (r, ()) := by
  obtain ⟨r, h1, h2⟩ := word_ok (IntKind.wrap IntKind.i64 (IntKind.wrap IntKind.u32 (Int.tdiv n (65536 : Int))))
  obtain ⟨s, h3, h4⟩ := word_ok (IntKind.wrap IntKind.i64 (Int.tmod n (65536 : Int)))
  exact ⟨r ++ s, by simp [h1, h3], ev_g rfl (ev_opt h2 (ev_g rfl (ev_opt h4 (ev_g (by simp [h1, h3]) (ev_r rfl)))))⟩
theorem under_ok (f t p n : Int) : ∃ r : List UInt8, r.length = 12 ∧ rUnderText_fn (f, (t, (p, (n, ())))) = some (r, ()) := by
  obtain ⟨r1, a1, b1⟩ := long_ok f
  obtain ⟨r2, a2, b2⟩ := long_ok t
  obtain ⟨r3, a3, b3⟩ := word_ok (Int.tmod (IntKind.wrap IntKind.i64 (Int.tmod p (256 : Int) + (256 : Int))) (256 : Int))
  obtain ⟨r4, a4, b4⟩ := word_ok (Int.tmod (IntKind.wrap IntKind.i64 (Int.tmod n (65536 : Int) + (65536 : Int))) (65536 : Int))
  exact ⟨r1 ++ r2 ++ r3 ++ r4, by simp [a1, a2, a3, a4], ev_opt b1 (ev_opt b2 (ev_g (by simp [a1, a2]) (ev_g rfl (ev_g rfl (ev_opt b3 (ev_g (by simp [a1, a2, a3]) (ev_g rfl (ev_g rfl (ev_opt b4 (ev_g (by simp [a1, a2, a3, a4]) (ev_r rfl)))))))))))⟩
theorem wordAt_ok (s : List UInt8) (i : Nat) (hi : i < s.length) (hs : s.length ≤ 1048576) : ∃ n : Int, rWordAt_fn (s, ((i : Int), ())) = some (n, ()) := by
  unfold rWordAt_fn rWordAt_tree
  by_cases h : i + 1 < s.length
  · exact ⟨_, ev_g (by simp; omega) (ev_t (by rw [next_i64 i (by omega)]; simp; omega) (ev_g (by rw [next_i64 i (by omega)]; simp; omega) (ev_r rfl)))⟩
  · exact ⟨_, ev_g (by simp; omega) (ev_f (by rw [next_i64 i (by omega)]; simp; omega) (ev_r rfl))⟩
theorem end_ok (a b : Int) : ∃ n : Int, rEndAround_fn (a, (b, ())) = some (n, ()) := by
  unfold rEndAround_fn rEndAround_tree
  by_cases h : (65535 : Int) < IntKind.wrap IntKind.i64 (a + b)
  · exact ⟨_, ev_t (decide_eq_true h) (ev_r rfl)⟩
  · exact ⟨_, ev_f (decide_eq_false h) (ev_r rfl)⟩
theorem sumOf_any (s : List UInt8) (a : Int) (hs : s.length ≤ 1048576) : ∃ n : Int, rSumOf_fn (a, (s, ())) = some (n, ()) := by
  have := loopO_ex (tag := 900002) (f := fun x => (rSumOf_step90_2 x).eval) (fun x => ∃ (i : Nat) (n : Int), i ≤ s.length + 2 ∧ x = ((i : Int), (s, (n, ())))) (fun b => ∃ n : Int, b = (n, ())) (fun x => s.length + 2 - x.1.toNat)
    (by
      rintro _ ⟨i, n, hi, rfl⟩
      by_cases hlt : i < s.length
      · obtain ⟨w, h1⟩ := wordAt_ok s i hlt hs
        obtain ⟨m, h2⟩ := end_ok n w
        refine .inr ⟨(((i + 2 : Nat) : Int), (s, (m, ()))), ?_, ⟨i + 2, m, by omega, rfl⟩, ?_⟩
        · show (rSumOf_step90_2 _).eval = _
          exact ev_t (by simp; omega) (ev_opt h1 (ev_opt h2 (ev_r (by rw [wrapI64 (x := (i : Int) + 2) ⟨by omega, by omega⟩]; rfl))))
        · show s.length + 2 - (((i + 2 : Nat) : Int)).toNat < s.length + 2 - ((i : Nat) : Int).toNat; omega
      · refine .inl ⟨(n, ()), ?_, n, rfl⟩
        show (rSumOf_step90_2 _).eval = _
        exact ev_f (by simp; omega) (ev_r rfl)) 18446744073709551616 ((0 : Int), (s, (a, ()))) ⟨0, a, by omega, rfl⟩ (by show s.length + 2 - _ < _; omega)
  obtain ⟨b, h1, n, rfl⟩ := this
  exact ⟨n, ev_opt (show rSumOf_loop90_2 _ = _ from h1) (ev_r rfl)⟩
theorem rCheck_any (s : List UInt8) (hs : s.length ≤ 1048576) : ∃ n : Int, rCheck_fn (s, ()) = some (n, ()) := by
  obtain ⟨n, h⟩ := sumOf_any s 0 hs
  exact ⟨_, ev_opt h (ev_r rfl)⟩
theorem okO_in {o : TOption} (h : okO o = true) : 1 ≤ o.kind ∧ o.kind ≤ 255 ∧ o.data.length ≤ 38 ∧ (o.kind = 1 → o.data = []) := by
  unfold okO at h
  simp only [Bool.and_eq_true, Bool.not_eq_true', decide_eq_false_iff_not, Bool.and_eq_false_imp, Bool.not_eq_false', decide_eq_true_eq] at h
  obtain ⟨h1, h2, h3, h4⟩ := h
  exact ⟨by omega, by omega, by omega, h4⟩
theorem optText_ok (o : TOption) (h : okO o = true) : ∃ s : List UInt8, s.length = (ob o).length ∧ rOptionText_fn (o.kind, (o.data, ())) = some (s, (true, ())) := by
  obtain ⟨h1, h2, h3, h4⟩ := okO_in h
  unfold rOptionText_fn rOptionText_tree
  by_cases hk : o.kind = 1
  · obtain ⟨r, a1, a2⟩ := bytes_ok [(1 : Int)] (by simp)
    exact ⟨r, by rw [a1]; unfold ob; rw [if_neg (by omega)]; rfl, ev_t (decide_eq_true hk) (ev_t (decide_eq_true (h4 hk)) (ev_opt a2 (ev_r rfl)))⟩
  · obtain ⟨r, a1, a2⟩ := bytes_ok [o.kind, IntKind.wrap IntKind.i64 ((o.data.length : Int) + (2 : Int))] (by simp)
    refine ⟨r ++ o.data, by rw [List.length_append, a1]; unfold ob; rw [if_pos (by omega)]; simp; omega, ev_f (decide_eq_false hk) (ev_opt (between_ok _ _ _) (ev_t (by simp; omega) (ev_t (by simp; omega) (ev_opt a2 (ev_g (by simp [a1]; omega) (ev_r rfl))))))⟩
theorem obs_take {l : List TOption} {i : Nat} {x : TOption} (h : l[i]? = some x) : (obs (l.take (i + 1))).length = (obs (l.take i)).length + (ob x).length := by
  rw [List.take_add_one, h]
  unfold obs
  rw [List.flatMap_append, List.length_append]
  simp
theorem obs_take_le (l : List TOption) (i : Nat) : (obs (l.take i)).length ≤ (obs l).length := by
  have e : obs l = obs (l.take i) ++ obs (l.drop i) := by
    unfold obs
    rw [← List.flatMap_append, List.take_append_drop]
  rw [e, List.length_append]; omega
/-- A loop over a list that keeps something, by place. -/
theorem loop_invI {A B S T : Type} {tag : Nat} {f : A → Option (A ⊕ B)} {l : List T} (st : Nat → S → A) (I : Nat → S → Prop) (out : S → B)
    (h1 : ∀ (i : Nat) (x : T) (s : S), l[i]? = some x → I i s → ∃ s', I (i + 1) s' ∧ f (st i s) = some (.inl (st (i + 1) s')))
    (h2 : ∀ s, I l.length s → f (st l.length s) = some (.inr (out s))) (n : Nat) (hn : l.length < n) (s0 : S) (h0 : I 0 s0) : ∃ s', I l.length s' ∧ loopO tag f n (st 0 s0) = some (out s') := by
  have key : ∀ (c k n : Nat) (s : S), k + c = l.length → c < n → I k s → ∃ s', I l.length s' ∧ loopO tag f n (st k s) = some (out s') := by
    intro c
    induction c with
    | zero =>
      intro k n s hk hn hs
      obtain ⟨n, rfl⟩ : ∃ m, n = m + 1 := ⟨n - 1, by omega⟩
      obtain rfl : k = l.length := by omega
      exact ⟨s, hs, loopO_out (h2 s hs)⟩
    | succ c ih =>
      intro k n s hk hn hs
      obtain ⟨n, rfl⟩ : ∃ m, n = m + 1 := ⟨n - 1, by omega⟩
      obtain ⟨s', i1, i2⟩ := h1 k l[k] s (List.getElem?_eq_getElem (by omega)) hs
      obtain ⟨s2, j1, j2⟩ := ih (k + 1) n s' (by omega) (by omega) i1
      exact ⟨s2, j1, by rw [loopO_in i2]; exact j2⟩
  exact key l.length 0 n s0 (by omega) hn h0
theorem segText_ok (g : TSegment) (h : werr g = 0) (hl : g.options.length ≤ 1048576) : ∃ s : List UInt8, rSegmentText_fn (g9 g ((1 : Int), ((2 : Int), ()))) = some (s, (0, ())) := by
  obtain ⟨h1, h2, h3, h4, h5, h6, h7, h8⟩ := werr_in h
  have h6' : ∀ o ∈ g.options, okO o = true := List.all_eq_true.1 h6
  unfold rSegmentText_fn rSegmentText_tree
  refine ev_opt_ex (between_ok _ _ _) (ev_f_ex (by simp; exact h1) (ev_opt_ex (between_ok _ _ _) (ev_f_ex (by simp; exact h2) (ev_opt_ex (between_ok _ _ _) (ev_f_ex (by simp; exact h3) (ev_opt_ex (between_ok _ _ _) (ev_f_ex (by simp; exact h4) (ev_opt_ex (between_ok _ _ _) (ev_f_ex (by simp; exact h5) ?_)))))))))
  have lp := loop_invI (tag := 310005) (f := fun x => (rSegmentText_step31_5 x).eval) (l := g.options) (fun i (acc : List UInt8) => ((i : Int), (acc, (g.options, ((2 : Int), ((1 : Int), ((g.options.length : Int), (g.from', (g.to, (g.seq, (g.ack, (g.flags, (g.window, (g.urgent, (g.options, (g.data, ()))))))))))))))))
      (fun i acc => acc.length = (obs (g.options.take i)).length) (fun acc => Sum.inr ((2 : Int), ((1 : Int), (acc, (g.from', (g.to, (g.seq, (g.ack, (g.flags, (g.window, (g.urgent, (g.options, (g.data, ())))))))))))))
      (fun i x acc hx hI => by
        have hi := (List.getElem?_eq_some_iff.1 hx).1
        obtain ⟨s, a1, a2⟩ := optText_ok x (h6' x (List.mem_of_getElem? hx))
        have hle := obs_take_le g.options (i + 1)
        have ht := obs_take hx
        refine ⟨acc ++ s, by rw [List.length_append, hI, a1, ht], ?_⟩
        show (rSegmentText_step31_5 _).eval = _
        unfold rSegmentText_step31_5
        exact ev_t (by simp; omega) (ev_g (by simp) (ev_opt (show g.options[Int.toNat (i : Int)]? = some x by simpa using hx) (ev_opt a2 (ev_f rfl (ev_t (by simp; omega) (ev_g (by simp; omega) (ev_r (by rw [next_i64 i (by omega)]))))))))
        )
      (fun acc _ => by show (rSegmentText_step31_5 _).eval = _; exact ev_f (by simp) (ev_r rfl)) 18446744073709551616 (by omega) [] (by simp [obs])
  obtain ⟨acc, hacc, lp⟩ := lp
  rw [List.take_length] at hacc
  have lq := loop_all (tag := 890002) (f := fun x => (rSegmentText_step89_2 x).eval) (l := g.options) (fun i => ((i : Int), (g.options, ((g.options.length : Int), ())))) (fun _ _ => True) (Sum.inr ()) (Sum.inr ())
      (fun i x hx => by
        have hi := (List.getElem?_eq_some_iff.1 hx).1
        obtain ⟨s, a1, a2⟩ := optText_ok x (h6' x (List.mem_of_getElem? hx))
        refine ⟨fun _ => ?_, fun h => absurd trivial h⟩
        show (rSegmentText_step89_2 _).eval = _
        exact ev_t (by simp; omega) (ev_g (by simp) (ev_opt (show g.options[Int.toNat (i : Int)]? = some x by simpa using hx) (ev_opt a2 (ev_f rfl (ev_r (by rw [next_i64 i (by omega)])))))))
      (by show (rSegmentText_step89_2 _).eval = _; exact ev_f (by simp) (ev_r rfl)) 18446744073709551616 (by omega)
  have lq' : rSegmentText_loop89_2 ((0 : Int), (g.options, ((g.options.length : Int), ()))) = some (Sum.inr ()) := by
    rcases lq with ⟨_, h⟩ | ⟨h, _⟩
    · exact h
    · exact (h fun _ _ _ => trivial).elim
  refine ev_opt_ex (show rSegmentText_loop31_5 ((0 : Int), ([], (g.options, ((2 : Int), ((1 : Int), ((g.options.length : Int), (g.from', (g.to, (g.seq, (g.ack, (g.flags, (g.window, (g.urgent, (g.options, (g.data, ()))))))))))))))) = _ from lp) ?_
  refine ev_opt_ex lq' ?_
  show ∃ s, (Tr.ite false _ _).eval = some (s, (0, ()))
  refine ev_f_ex rfl ?_
  dsimp only
  have hP : IntKind.wrap IntKind.i64 (IntKind.wrap IntKind.i64 (Int.tdiv (IntKind.wrap IntKind.i64 ((acc.length : Int) + (3 : Int))) (4 : Int)) * (4 : Int)) = (((acc.length + 3) / 4 * 4 : Nat) : Int) := by
    rw [wrapI64 (x := (acc.length : Int) + 3) ⟨by omega, by omega⟩, Int.tdiv_eq_ediv_of_nonneg (by omega), wrapI64 (x := ((acc.length : Int) + 3) / 4) ⟨by omega, by omega⟩, wrapI64 ⟨by omega, by omega⟩]; omega
  generalize IntKind.wrap IntKind.i64 (IntKind.wrap IntKind.i64 (Int.tdiv (IntKind.wrap IntKind.i64 ((acc.length : Int) + (3 : Int))) (4 : Int)) * (4 : Int)) = Q at *
  generalize hp : (acc.length + 3) / 4 * 4 = P at hP
  have hP3 : P ≤ acc.length + 3 := by omega
  have hpl : (List.drop 0 (List.take (Int.toNat Q) (acc ++ [(0 : UInt8), (0 : UInt8), (0 : UInt8)]))).length = P := by rw [hP]; simp; omega
  generalize List.drop 0 (List.take (Int.toNat Q) (acc ++ [(0 : UInt8), (0 : UInt8), (0 : UInt8)])) = pd at *
  obtain ⟨r9, a9, b9⟩ := word_ok g.from'
  obtain ⟨r10, a10, b10⟩ := word_ok g.to
  obtain ⟨r11, a11, b11⟩ := long_ok g.seq
  obtain ⟨r12, a12, b12⟩ := long_ok g.ack
  obtain ⟨r13, a13, b13⟩ := bytes_ok [IntKind.wrap IntKind.i64 ((4 : Int) * IntKind.wrap IntKind.i64 ((pd.length : Int) + (20 : Int))), g.flags] (by simp)
  obtain ⟨r14, a14, b14⟩ := word_ok g.window
  obtain ⟨r15, a15, b15⟩ := word_ok 0
  obtain ⟨r16, a16, b16⟩ := word_ok g.urgent
  have a13' : r13.length = 2 := a13
  refine ev_f_ex (by simp; omega) (ev_f_ex (by simp; omega) (ev_g_ex (by simp; omega) (ev_g_ex rfl (ev_g_ex (by simp; omega) (ev_opt_ex b9 (ev_opt_ex b10 (ev_g_ex (by simp [a9, a10]) (ev_opt_ex b11 (ev_g_ex (by simp [a9, a10, a11]) (ev_opt_ex b12 (ev_g_ex (by simp [a9, a10, a11, a12]) (ev_opt_ex b13 (ev_g_ex (by simp [a9, a10, a11, a12, a13']) (ev_opt_ex b14 (ev_g_ex (by simp [a9, a10, a11, a12, a13', a14]) (ev_opt_ex b15 (ev_g_ex (by simp [a9, a10, a11, a12, a13', a14, a15]) (ev_opt_ex b16 (ev_g_ex (by simp [a9, a10, a11, a12, a13', a14, a15, a16]) ?_)))))))))))))))))))
  dsimp only
  have hS : (r9 ++ r10 ++ r11 ++ r12 ++ r13 ++ r14 ++ r15 ++ r16 ++ pd ++ g.data).length = 20 + P + g.data.length := by simp [a9, a10, a11, a12, a13', a14, a15, a16, hpl]; omega
  refine ev_g_ex (by simp [a9, a10, a11, a12, a13', a14, a15, a16, hpl]; omega) (ev_g_ex (by simp [a9, a10, a11, a12, a13', a14, a15, a16, hpl]; omega) ?_)
  generalize r9 ++ r10 ++ r11 ++ r12 ++ r13 ++ r14 ++ r15 ++ r16 ++ pd ++ g.data = Sx at *
  obtain ⟨r17, a17, b17⟩ := under_ok 1 2 6 (Sx.length : Int)
  obtain ⟨r18, b18⟩ := rCheck_any (r17 ++ Sx) (by rw [List.length_append]; omega)
  obtain ⟨r19, a19, b19⟩ := word_ok r18
  refine ev_g_ex (by simp; omega) (ev_opt_ex b17 (ev_g_ex (by simp; omega) (ev_opt_ex b18 (ev_opt_ex b19 (ev_g_ex (by simp; omega) (ev_g_ex (by simp; omega) (ev_g_ex (by simp; omega) ⟨_, rfl⟩)))))))

/-! ### ProxyRight -/
theorem right_ok (k0 k1 sz : Int) (l : List TGuarded) (hz : portG sz = true) (hg : GoodG l) : rProxyRight_fn (k0, (k1, (sz, (l, ())))) = some (0, ()) := by
  have hlen := hg.1
  have hz' := portG_iff.1 hz
  unfold rProxyRight_fn rProxyRight_tree
  refine ev_opt (between_ok _ _ _) (ev_f (by simp; exact hz') (ev_f (by simp; omega) ?_))
  have inner : ∀ (i : Nat) (x : TGuarded), l[i]? = some x → rProxyRight_loop32_11 ((0 : Int), (List.drop (0 : Nat) (List.take (Int.toNat (i : Int)) l), (l, ((l.length : Int), ((i : Int), ((↑(List.length (List.drop (0 : Nat) (List.take (Int.toNat (i : Int)) l))) : Int), (x.from', (x.to, (x.fromPort, (x.toPort, (x.seq, (x.cookie, (x.delta, (x.open', (x.at', (k0, (k1, (sz, (l, ()))))))))))))))))))) = some (Sum.inr (l, ((l.length : Int), ((i : Int), (k0, (k1, (sz, (l, ())))))))) := by
    intro i x hx
    obtain ⟨hi, hxe⟩ := List.getElem?_eq_some_iff.1 hx
    simp only [Int.toNat_natCast, List.drop_zero]
    have := loop_all (tag := 320011) (f := fun x => (rProxyRight_step32_11 x).eval) (l := l.take i) (fun j => ((j : Int), (l.take i, (l, ((l.length : Int), ((i : Int), (((l.take i).length : Int), (x.from', (x.to, (x.fromPort, (x.toPort, (x.seq, (x.cookie, (x.delta, (x.open', (x.at', (k0, (k1, (sz, (l, ())))))))))))))))))))) (fun _ _ => True) (Sum.inl ((4 : Int), ())) (Sum.inr (l, ((l.length : Int), ((i : Int), (k0, (k1, (sz, (l, ()))))))))
      (fun j y hy => by
        refine ⟨fun _ => ?_, fun h => absurd trivial h⟩
        have hj := (List.getElem?_eq_some_iff.1 hy).1
        have hj2 : j < i := by simp at hj; omega
        have hyl : l[j]? = some y := by rw [List.getElem?_take_of_lt hj2] at hy; exact hy
        obtain ⟨hjl, hye⟩ := List.getElem?_eq_some_iff.1 hyl
        have hpw := (List.pairwise_iff_getElem.1 hg.2.2) j i hjl hi hj2
        rw [hye, hxe] at hpw
        have hne : onR (rwOf x) y = false := by
          cases h : onR (rwOf x) y with
          | false => rfl
          | true => have := onR_iff.1 h; rw [this, onR_self] at hpw; cases hpw.2
        have hat := hpw.1
        show (rProxyRight_step32_11 _).eval = _
        unfold rProxyRight_step32_11
        exact ev_t (by simp at hj ⊢; omega) (ev_g (by simp) (ev_opt (show (l.take i)[Int.toNat (j : Int)]? = some y by simpa using hy) (ev_f ((rw_eq y (rwOf x)).trans hne) (ev_f (by simp; omega) (ev_r (by rw [next_i64 j (by omega)])))))))
      (by show (rProxyRight_step32_11 _).eval = _; exact ev_f (by simp) (ev_r rfl)) 18446744073709551616 (by simp; omega)
    rcases this with ⟨_, h⟩ | ⟨h, _⟩
    · exact h
    · exact (h fun _ _ _ => trivial).elim
  have := loop_all (tag := 320006) (f := fun x => (rProxyRight_step32_6 x).eval) (l := l) (fun i => ((i : Int), (l, ((l.length : Int), (k0, (k1, (sz, (l, ())))))))) (fun _ _ => True) (Sum.inl ((4 : Int), ())) (Sum.inr ())
      (fun i x hx => by
        have hi := (List.getElem?_eq_some_iff.1 hx).1
        refine ⟨fun _ => ?_, fun h => absurd trivial h⟩
        have hx0 := hg.2.1 x (List.mem_of_getElem? hx)
        obtain ⟨⟨f1, f2, f3, f4⟩, f5⟩ := hx0
        have hr : rRoadRight_fn (x.from', (x.to, (x.fromPort, (x.toPort, ())))) = some (true, ()) := by
          have := road_ok (rwOf x)
          rw [show portG (rwOf x).p = true from f1, show portG (rwOf x).q = true from f2] at this
          exact this
        have hin := inner i x hx
        show (rProxyRight_step32_6 _).eval = _
        unfold rProxyRight_step32_6
        refine ev_t (by simp; omega) (ev_g (by simp) (ev_opt (show l[Int.toNat (i : Int)]? = some x by simpa using hx) (ev_opt hr (ev_f rfl (ev_opt (between_ok _ _ _) (ev_f (by simp; exact ⟨f5, f3⟩) ?_))))))
        cases ho : x.open' with
        | true =>
          rw [ho] at hin
          exact ev_f rfl (ev_g (by simp; omega) (ev_opt hin (ev_r (by rw [show IntKind.wrap IntKind.i64 ((i : Int) + 1) = _ from next_i64 i (by omega)]))))
        | false =>
          rw [ho] at hin f4
          have hd : x.delta = 0 := by rcases f4 with h | h; cases h; exact h
          exact ev_t rfl (ev_f (by simp [hd]) (ev_g (by simp; omega) (ev_opt hin (ev_r (by rw [show IntKind.wrap IntKind.i64 ((i : Int) + 1) = _ from next_i64 i (by omega)]))))))
      (by show (rProxyRight_step32_6 _).eval = _; exact ev_f (by simp) (ev_r rfl)) 18446744073709551616 (by omega)
  rcases this with ⟨_, h⟩ | ⟨h, _⟩
  · exact ev_opt (show rProxyRight_loop32_6 ((0 : Int), (l, ((l.length : Int), (k0, (k1, (sz, (l, ()))))))) = _ from h) rfl
  · exact (h fun _ _ _ => trivial).elim
end Go.Proofs.Ytcdcdmfecglemaa.X
