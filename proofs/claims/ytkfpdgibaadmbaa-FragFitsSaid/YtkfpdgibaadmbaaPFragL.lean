/- The law FragFits, in plain terms. Conditions: none. -/
import Derived.Test.YtkfpdgibaadmbaaPFragS
namespace Go.Proofs.Ytkfpdgibaadmbaa.X
open Go Go.RowKit Go.Proofs.Ytkfpdgibaadmbaa.Abs Go.Proofs.Ytkfpdgibaadmbaa.Bits
set_option linter.unusedVariables false
set_option linter.unnecessarySimpa false
set_option linter.unusedSimpArgs false
set_option maxRecDepth 100000

abbrev fArg (p : TPacket) {R : Type} (r : R) := (p.tos, (p.id, (p.whole, (p.more, (p.start, (p.life, (p.proto, (p.from', (p.to, (p.options, (p.data, r)))))))))))
theorem fits_loop (p : TPacket) (size other : Int) (l : List TPacket) (hl : l.length ≤ 65517) (hp0 : 0 ≤ p.start ∧ p.start ≤ 8191) : ∀ (L pre again : List TPacket) (d : List UInt8) (n : Nat), l = pre ++ L → Seq p size d.length L → L.length < n → d.length + (cat L).length ≤ 65515 → again.length ≤ d.length + pre.length →
    (loopO 60007 (fun x => (fragFits_step6_7 x).eval) n (other, ((pre.length : Int), (d, (size, (l, (l, ((l.length : Int), fArg p (again, ()))))))) ) = some (.inl (true, ()))) ∨
    ∃ again' : List TPacket, loopO 60007 (fun x => (fragFits_step6_7 x).eval) n (other, ((pre.length : Int), (d, (size, (l, (l, ((l.length : Int), fArg p (again, ()))))))) ) = some (.inr (l, (d ++ cat L, fArg p (again', ())))) ∧ cat again' = cat again ++ cat L ∧ again'.length ≤ d.length + (cat L).length + pre.length + L.length := by
  intro L
  induction L with
  | nil =>
    intro pre again d n h hs hn hd ha
    obtain ⟨n, rfl⟩ : ∃ m, n = m + 1 := ⟨n - 1, by simp at hn; omega⟩
    simp only [List.append_nil] at h
    subst h
    refine .inr ⟨again, loopO_out (ev_f (by simp) (ev_g (by simp) (ev_r (by simp [cat])))), by simp [cat], by simp [cat]; omega⟩
  | cons q L ih =>
    intro pre again d n h hs hn hd ha
    obtain ⟨n, rfl⟩ : ∃ m, n = m + 1 := ⟨n - 1, by simp at hn; omega⟩
    obtain ⟨hq, hsz, hst, hwh, hrest⟩ := hs
    have hlen : l.length = pre.length + (L.length + 1) := by rw [h]; simp
    have hx : l[Int.toNat (pre.length : Int)]? = some q := by rw [h]; simp
    obtain ⟨s, hw, hsl⟩ := write_ok hq
    have hcat : (cat (q :: L)).length = q.data.length + (cat L).length := by simp [cat]
    have hqs := hq.start
    have hqd := hq.data
    have w1 : IntKind.wrap IntKind.i64 ((8 : Int) * q.start) = 8 * q.start := wrap_mid _ (by omega)
    have w2 : IntKind.wrap IntKind.i64 (IntKind.wrap IntKind.i64 ((8 : Int) * p.start) + (d.length : Int)) = 8 * p.start + d.length := by rw [wrap_mid (8 * p.start) (by omega), wrap_mid _ (by omega)]
    have w3 : IntKind.wrap IntKind.i64 (IntKind.wrap IntKind.i64 ((8 : Int) * q.start) + (q.data.length : Int)) = 8 * q.start + q.data.length := by rw [w1, wrap_mid _ (by omega)]
    obtain ⟨M, c, hsp, hR⟩ := split_fn q other
    by_cases hc : c = 0
    · subst hc
      obtain ⟨_, _, hcm, _, hml⟩ := splitR_facts hR
      have step : (fragFits_step6_7 (other, ((pre.length : Int), (d, (size, (l, (l, ((l.length : Int), fArg p (again, ()))))))))).eval = some (.inl (other, (((pre ++ [q]).length : Int), (d ++ q.data, (size, (l, (l, ((l.length : Int), fArg p (again ++ M, ()))))))))) := by
        refine ev_t (by simp; omega) (ev_g (by simp) (ev_opt hx (ev_opt hw (ev_f rfl (ev_f (by simp; omega) (ev_f (by rw [w1, w2, hst]; simp) (ev_g (by simp; omega) (ev_opt hsp (ev_f rfl (ev_g (by simp; omega) (ev_g (by simp) (ev_r ?_))))))))))))
        rw [next_i64 _ (by omega)]
        simp
      rw [loopO_in step]
      have := ih (pre ++ [q]) (again ++ M) (d ++ q.data) n (by rw [h]; simp) (by rw [List.length_append]; exact hrest) (by simp at hn; omega) (by rw [List.length_append]; omega) (by simp; omega)
      rcases this with h1 | ⟨ag, h1, h2, h3⟩
      · exact .inl h1
      · refine .inr ⟨ag, ?_, ?_, ?_⟩
        · rw [h1]; simp [cat]
        · rw [h2]; simp only [cat, List.flatMap_append, List.flatMap_cons] at hcm ⊢; rw [hcm, List.append_assoc]
        · rw [hcat]; simp at h3 ⊢; omega
    · left
      have hno : RefOk q → (other < 68 ∨ 65535 < other ∨ q.whole = true ∨ 65515 < 8 * q.start + q.data.length) := by
        cases hR with
        | no _ _ hw => exact hw
        | one => exact absurd rfl hc
        | many => exact absurd rfl hc
      have hno := hno hq
      refine loopO_out ?_
      refine ev_t (by simp; omega) (ev_g (by simp) (ev_opt hx (ev_opt hw (ev_f rfl (ev_f (by simp; omega) (ev_f (by rw [w1, w2, hst]; simp) (ev_g (by simp; omega) (ev_opt hsp (ev_t (by simpa using hc) ?_)))))))))
      refine ev_ite (fun _ => ev_r rfl) fun g1 => ev_ite (fun _ => ev_r rfl) fun g2 => ev_ite (fun _ => ev_r rfl) fun g3 => ev_r ?_
      simp at g1 g2
      rw [w3]
      have : 65515 < 8 * q.start + q.data.length := by
        rcases hno with h1 | h1 | h1 | h1
        · omega
        · omega
        · rw [hwh] at h1
          have g3' : p.whole = false := g3
          rw [h1] at g3'; cases g3'
        · exact h1
      rw [decide_eq_true this]
theorem cat_loop (p : TPacket) (l : List TPacket) (dd : List UInt8) (again : List TPacket) (ha : again.length ≤ 1000000) (hc : (cat again).length ≤ 65515) : fragFits_loop6_20 ((0 : Int), ([], (l, (dd, ((again.length : Int), (again, fArg p ())))))) = some (l, (cat again, (dd, fArg p ()))) := by
  have := loop_fold (tag := 60020) (f := fun x => (fragFits_step6_20 x).eval) (l := again) (fun i (s : List UInt8) => ((i : Int), (s, (l, (dd, ((again.length : Int), (again, fArg p ()))))))) (fun i s => s = cat (again.take i)) (fun s q => s ++ q.data) (fun s => (l, (s, (dd, fArg p ()))))
    (fun i x s hx hI => by
      have hi := (List.getElem?_eq_some_iff.1 hx).1
      have hn : cat (again.take (i + 1)) = s ++ x.data := by rw [List.take_add_one, hx, hI]; simp [cat]
      refine ⟨?_, hn.symm⟩
      have hle : (s ++ x.data).length ≤ 65515 := by
        rw [← hn]
        have e : cat again = cat (again.take (i + 1)) ++ cat (again.drop (i + 1)) := by unfold cat; rw [← List.flatMap_append, List.take_append_drop]
        rw [e, List.length_append] at hc
        omega
      show (fragFits_step6_20 _).eval = _
      simp at hle
      exact ev_t (by simp; omega) (ev_g (by simp; omega) (ev_opt (b := x) (by simpa using hx) (ev_g (by simp; omega) (ev_g (by simp) (ev_r (by rw [next_i64 i (by omega)])))))))
    (fun s hI => by show (fragFits_step6_20 _).eval = _; exact ev_f (by simp) (ev_r rfl)) 18446744073709551616 [] (by simp [cat]) (by omega)
  obtain ⟨h1, h2⟩ := this
  rw [List.take_length] at h2
  rw [h2] at h1
  exact h1
theorem fits_law (p : TPacket) (size other : Int) : (fragFits_tree (fArg p (size, (other, ())))).eval = some (true, ()) := by
  obtain ⟨L, c, hsp, hR⟩ := split_fn p size
  unfold fragFits_tree
  refine ev_opt hsp (ev_opt fragLives_ok (ev_f rfl ?_))
  by_cases hc : c = 0
  case neg =>
    have : L = [] := by
      cases hR with
      | no => rfl
      | one => exact absurd rfl hc
      | many => exact absurd rfl hc
    subst this
    exact ev_t (by simpa using hc) (ev_opt fragLives_ok (ev_t rfl (ev_r rfl)))
  subst hc
  obtain ⟨hp, hsq, hcat, ⟨q, hq, hqm⟩, hL⟩ := splitR_facts hR
  have hd := hp.data
  refine ev_f rfl (ev_g rfl ?_)
  have main := fits_loop p size other L (by omega) hp.start L [] [] [] 18446744073709551616 rfl hsq (by omega) (by rw [hcat]; simp; omega) (by simp)
  rcases main with h1 | ⟨ag, h1, h2, h3⟩
  · exact ev_opt (show fragFits_loop6_7 _ = _ from h1) rfl
  · rw [hcat] at h1 h2 h3
    simp at h1 h2 h3
    refine ev_opt (show fragFits_loop6_7 _ = _ from h1) ?_
    have h2' : cat ag = p.data := by rw [h2]; simp [cat]
    refine (show (Tr.grd (decide (ag.length = ag.length)) _).eval = _ from ev_g (by simp) (ev_opt (cat_loop p L p.data ag (by omega) (by rw [h2']; omega)) ?_))
    have hLp : 0 < L.length := by cases L with | nil => cases hq | cons => simp
    refine ev_t (by simp) (ev_t (by simp [h2']) ?_)
    show (Tr.grd (decide ((0 : Int) ≤ IntKind.wrap IntKind.i64 ((L.length : Int) - (1 : Int)))) _).eval = _
    rw [prev_i64 _ hLp (by omega)]
    refine ev_g (by simp) (ev_opt (b := q) (by rw [Int.toNat_natCast, ← List.getLast?_eq_getElem?]; exact hq) (ev_r ?_))
    rw [hqm]; simp
theorem fragFits_true {a0 a1 : Int} {a2 a3 : Bool} {a4 a5 a6 a7 a8 : Int} {a9 a10 : List UInt8} {size other : Int} (b0 : -9223372036854775808 ≤ a0 ∧ a0 ≤ 9223372036854775807) (b1 : -9223372036854775808 ≤ a1 ∧ a1 ≤ 9223372036854775807) (b4 : -9223372036854775808 ≤ a4 ∧ a4 ≤ 9223372036854775807) (b5 : -9223372036854775808 ≤ a5 ∧ a5 ≤ 9223372036854775807) (b6 : -9223372036854775808 ≤ a6 ∧ a6 ≤ 9223372036854775807) (b7 : 0 ≤ a7 ∧ a7 ≤ 4294967295) (b8 : 0 ≤ a8 ∧ a8 ≤ 4294967295) (b9 : a9.length ≤ 140737488351232) (b10 : a10.length ≤ 140737488351232) (b11 : -9223372036854775808 ≤ size ∧ size ≤ 9223372036854775807) (b12 : -9223372036854775808 ≤ other ∧ other ≤ 9223372036854775807) :
    (fragFits_tree (a0, (a1, (a2, (a3, (a4, (a5, (a6, (a7, (a8, (a9, (a10, (size, (other, ())))))))))))))).eval = some (true, ()) := fits_law ⟨a0, a1, a2, a3, a4, a5, a6, a7, a8, a9, a10⟩ size other
end Go.Proofs.Ytkfpdgibaadmbaa.X
