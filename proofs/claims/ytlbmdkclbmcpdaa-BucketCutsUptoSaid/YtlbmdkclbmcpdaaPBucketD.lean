/- bucket: Run, and the law BucketCuts, in plain terms. Conditions: none. -/
import Derived.Test.YtlbmdkclbmcpdaaPBucketC
namespace Go.Proofs.Ytlbmdkclbmcpdaa.X
open Go Go.RowKit Go.Proofs.Ytlbmdkclbmcpdaa.Abs Go.Proofs.Ytlbmdkclbmcpdaa.Bits
set_option linter.unusedVariables false
set_option linter.unnecessarySimpa false
set_option linter.unusedSimpArgs false
set_option maxRecDepth 100000

inductive Rn : Bu → List Bool → List TDrop → Bu → List Bool → Prop
  | nil (b : Bu) (t : List Bool) : Rn b t [] b t
  | cons (b : Bu) (t : List Bool) (d : TDrop) (r : List TDrop) (b' : Bu) (t' : List Bool) (h : tkOk b d.at' d.n) (hr : Rn (tkR b d.at' d.n).1 (t ++ [(tkR b d.at' d.n).2]) r b' t') : Rn b t (d :: r) b' t'
theorem Rn.fn {b : Bu} {t : List Bool} {l : List TDrop} {b1 b2 : Bu} {t1 t2 : List Bool} (h : Rn b t l b1 t1) (k : Rn b t l b2 t2) : b1 = b2 ∧ t1 = t2 := by
  induction h with
  | nil b t => cases k; exact ⟨rfl, rfl⟩
  | cons b t d r b' t' h hr ih => cases k with | cons _ _ _ _ _ _ _ k => exact ih k
theorem Rn.app {b : Bu} {t : List Bool} {l m : List TDrop} {b1 b2 : Bu} {t1 t2 : List Bool} (h : Rn b t l b1 t1) (k : Rn b1 t1 m b2 t2) : Rn b t (l ++ m) b2 t2 := by
  induction h with
  | nil b t => exact k
  | cons b t d r b' t' h hr ih => exact .cons _ _ _ _ _ _ h (ih k)
theorem Rn.pre {b : Bu} {t : List Bool} {l : List TDrop} {b1 : Bu} {t1 : List Bool} (h : Rn b t l b1 t1) (s : List Bool) : Rn b (s ++ t) l b1 (s ++ t1) := by
  induction h with
  | nil b t => exact .nil _ _
  | cons b t d r b' t' h hr ih => exact .cons _ _ _ _ _ _ h (by rw [List.append_assoc]; exact ih)
theorem Rn.ok {b : Bu} {t : List Bool} {l : List TDrop} {b1 : Bu} {t1 : List Bool} (h : Rn b t l b1 t1) (hb : BOk b) : BOk b1 ∧ t1.length = t.length + l.length := by
  induction h with
  | nil b t => exact ⟨hb, by simp⟩
  | cons b t d r b' t' h hr ih =>
    obtain ⟨i1, i2⟩ := ih (tk_bok h)
    exact ⟨i1, by simp at i2 ⊢; omega⟩
abbrev rA (l : List TDrop) (i : Nat) (b : Bu) (t : List Bool) := ((i : Int), (l, ((l.length : Int), ((0 : Int), ((0 : Int), ((0 : Int), ((0 : Int), (b.rate, (b.most, (b.has, (b.at', (t, ()))))))))))))
theorem run_loop (l : List TDrop) (hl : l.length ≤ 500) : ∀ (r pre : List TDrop) (b : Bu) (t : List Bool) (n : Nat), l = pre ++ r → r.length < n → t.length ≤ pre.length →
    (∃ b' t', Rn b t r b' t' ∧ loopO 150008 (fun x => (buRun_step15_8 x).eval) n (rA l pre.length b t) = some (.inr (0, (0, (0, (0, (t', (b'.rate, (b'.most, (b'.has, (b'.at', ()))))))))))) ∨
    ((¬ ∃ b' t', Rn b t r b' t') ∧ ∃ e : Int, e ≠ 0 ∧ loopO 150008 (fun x => (buRun_step15_8 x).eval) n (rA l pre.length b t) = some (.inl (e, (0, (0, (0, (0, ()))))))) := by
  intro r
  induction r with
  | nil =>
    intro pre b t n h hn ht
    obtain ⟨n, rfl⟩ : ∃ m, n = m + 1 := ⟨n - 1, by simp at hn; omega⟩
    simp only [List.append_nil] at h
    subst h
    exact .inl ⟨b, t, .nil _ _, loopO_out (ev_f (by simp) (ev_g (by simp) (ev_r rfl)))⟩
  | cons d r ih =>
    intro pre b t n h hn ht
    obtain ⟨n, rfl⟩ : ∃ m, n = m + 1 := ⟨n - 1, by simp at hn; omega⟩
    have hlen : l.length = pre.length + (r.length + 1) := by rw [h]; simp
    have hx : l[Int.toNat (pre.length : Int)]? = some d := by rw [h]; simp
    by_cases hk : tkOk b d.at' d.n
    · have step : (buRun_step15_8 (rA l pre.length b t)).eval = some (.inl (rA l (pre ++ [d]).length (tkR b d.at' d.n).1 (t ++ [(tkR b d.at' d.n).2]))) := by
        refine ev_t (by simp; omega) (ev_g (by simp) (ev_opt hx (ev_opt (take_ok hk) (ev_f rfl (ev_g (by simp; omega) (ev_g (by simp) (ev_r ?_)))))))
        rw [next_i64 pre.length (by omega)]
        simp
      rw [loopO_in step]
      rcases ih (pre ++ [d]) (tkR b d.at' d.n).1 (t ++ [(tkR b d.at' d.n).2]) n (by rw [h]; simp) (by simp at hn; omega) (by simp; omega) with ⟨b', t', h1, h2⟩ | ⟨h1, h2⟩
      · exact .inl ⟨b', t', .cons _ _ _ _ _ _ hk h1, h2⟩
      · refine .inr ⟨fun ⟨b', t', h3⟩ => h1 ?_, h2⟩
        cases h3 with | cons _ _ _ _ _ _ _ h4 => exact ⟨_, _, h4⟩
    · obtain ⟨e, he, hb⟩ := take_bad hk
      refine .inr ⟨fun ⟨b', t', h3⟩ => ?_, e, he, loopO_out (ev_t (by simp; omega) (ev_g (by simp) (ev_opt hx (ev_opt hb (ev_t (by simpa using he) (ev_r rfl))))))⟩
      cases h3 with | cons _ _ _ _ _ _ h4 _ => exact hk h4

theorem run_fn (b : Bu) (l : List TDrop) : (BOk b ∧ l.length ≤ 500 ∧ ∃ b' t', Rn b [] l b' t' ∧ buRun_fn (b.rate, (b.most, (b.has, (b.at', (l, ()))))) = some (b'.rate, (b'.most, (b'.has, (b'.at', (t', (0, ()))))))) ∨
    ((¬ (BOk b ∧ l.length ≤ 500 ∧ ∃ b' t', Rn b [] l b' t')) ∧ ∃ e : Int, e ≠ 0 ∧ buRun_fn (b.rate, (b.most, (b.has, (b.at', (l, ()))))) = some (0, (0, (0, (0, ([], (e, ()))))))) := by
  obtain ⟨c, hc, hc0⟩ := buCheck_ex b
  unfold buRun_fn buRun_tree
  by_cases hb : c = 0
  case neg => exact .inr ⟨fun h => hb (hc0.2 h.1), c, hb, ev_opt hc (ev_t (by simpa using hb) (ev_r rfl))⟩
  by_cases hl : 500 < l.length
  · exact .inr ⟨fun h => by have := h.2.1; omega, 2, by decide, ev_opt hc (ev_f (by simp [hb]) (ev_t (by simp; omega) (ev_r rfl)))⟩
  rcases run_loop l (by omega) l [] b [] 18446744073709551616 rfl (by omega) (by simp) with ⟨b', t', h1, h2⟩ | ⟨h1, e, he, h2⟩
  · exact .inl ⟨hc0.1 hb, by omega, b', t', h1, ev_opt hc (ev_f (by simp [hb]) (ev_f (by simp; omega) (ev_g rfl (ev_opt (show buRun_loop15_8 _ = _ from h2) rfl))))⟩
  · exact .inr ⟨fun h => h1 h.2.2, e, he, ev_opt hc (ev_f (by simp [hb]) (ev_f (by simp; omega) (ev_g rfl (ev_opt (show buRun_loop15_8 _ = _ from h2) rfl))))⟩
theorem eqBool_self (l : List Bool) (hlen : l.length ≤ 1000) : eqBool_fn (l, (l, ())) = some (true, ()) := by
  unfold eqBool_fn eqBool_tree
  have := loop_hit (tag := 230004) (f := fun x => (eqBool_step23_4 x).eval) (l := l) (fun i => ((i : Int), (l, (l, ((l.length : Int), ()))))) (fun _ => false)
      (fun q => match q with | some q => Sum.inl (false, ()) | none => Sum.inr ())
      (fun i x hx => by
        have hi := (List.getElem?_eq_some_iff.1 hx).1
        show (eqBool_step23_4 _).eval = _
        unfold eqBool_step23_4
        exact ev_t (by simp; omega) (ev_g (by simp) (ev_opt (show l[Int.toNat (i : Int)]? = some x by simpa using hx) (ev_g (by simp) (ev_opt (show l[Int.toNat (i : Int)]? = some x by simpa using hx) (ev_f (by simp) (ev_r (by rw [next_i64 i (by omega)]))))))))
      (by show (eqBool_step23_4 _).eval = _; exact ev_f (by simp) (ev_r rfl)) 18446744073709551616 (by omega)
  have h0 : hit (fun _ => false) l = none := hit_none.2 fun _ _ => rfl
  rw [h0] at this
  exact ev_f (by simp) (ev_opt (show eqBool_loop23_4 ((0 : Int), (l, (l, ((l.length : Int), ())))) = _ from this) rfl)
end Go.Proofs.Ytlbmdkclbmcpdaa.X
