/- frag: own, Delete, IndexFunc, put, whole: in plain terms. Conditions: none. -/
import Derived.Test.YthnijeclidpooaaPFeedB
namespace Go.Proofs.Ythnijeclidpooaa.X
open Go Go.RowKit Go.Proofs.Ythnijeclidpooaa.Abs Go.Proofs.Ythnijeclidpooaa.Bits
set_option linter.unusedVariables false
set_option linter.unnecessarySimpa false
set_option linter.unusedSimpArgs false
set_option maxRecDepth 100000
theorem own_fnF {l : List THeap} (h16 : l.length ≤ 16) (h64 : ∀ h ∈ l, h.parts.length ≤ 64) : ∃ rm, fOwn_fn (l, ()) = some (rm, (l, ())) ∧ l.length ≤ rm := by
  have := loop_fold (tag := 550003) (f := fun x => (fOwn_step55_3 x).eval) (l := l) (S := Nat × List THeap) (fun i s => ((i : Int), (s.1, (l, ((l.length : Int), (s.2, ()))))))
    (fun i s => s.2.length = i ∧ i ≤ s.1) (fun s q => ((s.2 ++ [q]).length, s.2 ++ [q])) (fun s => (s.1, (s.2, ())))
    (fun i q s hq hi => by
      have hil := (List.getElem?_eq_some_iff.1 hq).1
      have hl := h64 q (List.mem_iff_getElem?.2 ⟨i, hq⟩)
      obtain ⟨hi1, hi2⟩ := hi
      refine ⟨?_, by simp; omega⟩
      show (fOwn_step55_3 _).eval = _
      unfold fOwn_step55_3
      exact ev_t (by simp; omega) (ev_g (by simp) (ev_opt (show l[Int.toNat (i : Int)]? = some q by simpa using hq) (ev_g (by simp; omega) (ev_g (by simp; omega) (ev_g (by simp) (ev_r (by rw [next_i64 i (by omega)])))))))
    )
    (fun s hi => by show (fOwn_step55_3 _).eval = _; exact ev_f (by simp) (ev_g (by simp) (ev_r rfl))) 18446744073709551616 (l.length, []) ⟨rfl, Nat.zero_le _⟩ (by omega)
  have hf : ∀ (r : List THeap) (a : Nat × List THeap), (r.foldl (fun s q => ((s.2 ++ [q]).length, s.2 ++ [q])) a).2 = a.2 ++ r := by
    intro r
    induction r with
    | nil => intro a; simp
    | cons x r ih => intro a; rw [List.foldl_cons, ih]; simp
  obtain ⟨h1, h2, h3⟩ := this
  generalize hF : l.foldl (fun s q => ((s.2 ++ [q]).length, s.2 ++ [q])) (l.length, []) = F at h1 h2 h3
  have hF2 : F.2 = l := by rw [← hF, hf]; rfl
  refine ⟨F.1, ?_, h3⟩
  unfold fOwn_fn fOwn_tree
  refine ev_g (by simp; omega) (ev_g rfl (ev_opt h1 (ev_g (by simp) (ev_r ?_))))
  rw [hF2]
theorem del_fnF {l : List THeap} {rm i : Nat} (hi : i < l.length) (hr : l.length ≤ rm) (h16 : l.length ≤ 1000) : fDel_fn (rm, ((i : Int), (((i + 1 : Nat) : Int), (l, ())))) = some (l.length, (l.eraseIdx i, ())) := by
  have he : l.take i ++ l.drop (i + 1) = l.eraseIdx i := by rw [List.eraseIdx_eq_take_drop_succ]
  have e1 : Int.toNat ((i : Int) - (0 : Int)) = i := by omega
  have e2 : Int.toNat ((i + 1 : Nat) : Int) = i + 1 := by omega
  have hl : (l.take i ++ l.drop (i + 1)).length = l.length - 1 := by rw [List.length_append, List.length_take, List.length_drop]; omega
  unfold fDel_fn fDel_tree
  simp only [e1, e2, hl]
  refine ev_g (by simp <;> omega) (ev_f (by simp <;> omega) (ev_g (by simp <;> omega) (ev_g (by simp <;> omega) (ev_g (by simp <;> omega) (ev_g (by simp <;> omega) (ev_g (by simp) (ev_g (by simp) (ev_r ?_))))))))
  rw [he]
abbrev kF (k : THeap) : Int × (Int × (Int × (Int × (Int × (Int × (List UInt8 × Unit)))))) := (k.from', (k.to, (k.proto, (k.id, (k.tos, (k.life, (k.options, ())))))))
/-- Where a heap of such a key stands. -/
theorem idx_fnF {l : List THeap} (h16 : l.length ≤ 1000) (k : THeap) (hk : k.parts = []) :
    (∃ (i : Nat) (g : THeap), l[i]? = some g ∧ keyOf g = keyOf k ∧ fIdx_fn (l, kF k) = some ((i : Int), kF k)) ∨ ((∀ g ∈ l, keyOf g ≠ keyOf k) ∧ fIdx_fn (l, kF k) = some (-1, kF k)) := by
  have := loop_hit (tag := 570002) (f := fun x => (fIdx_step57_2 x).eval) (l := l) (fun i => ((i : Int), (l, ((l.length : Int), kF k)))) (fun g => sameK g k)
    (fun o => match o with | some (i, _) => .inl ((i : Int), kF k) | none => .inr (kF k))
    (fun i g hg => by
      have hil := (List.getElem?_eq_some_iff.1 hg).1
      have hsk : fSameKey_fn (aHeap g (k.from', (k.to, (k.proto, (k.id, (k.tos, (k.life, (k.options, ([], ()))))))))) = some (sameK g k, ()) := by rw [← hk]; exact sameKey_fn g k
      show (fIdx_step57_2 _).eval = _
      unfold fIdx_step57_2
      refine ev_t (by simp; omega) (ev_g (by simp) (ev_opt (show l[Int.toNat (i : Int)]? = some g by simpa using hg) (ev_opt hsk ?_)))
      cases hs : sameK g k with
      | true => exact ev_t rfl (ev_r rfl)
      | false => exact ev_f rfl (ev_r (by rw [next_i64 i (by omega)])))
    (by show (fIdx_step57_2 _).eval = _; exact ev_f (by simp) (ev_r rfl)) 18446744073709551616 (by omega)
  cases hh : hit (fun g => sameK g k) l with
  | some q =>
    obtain ⟨i, g⟩ := q
    rw [hh] at this
    obtain ⟨h1, h2⟩ := hit_at hh
    refine .inl ⟨i, g, h1, sameK_iff.1 h2, ?_⟩
    unfold fIdx_fn fIdx_tree
    refine ev_opt this ?_
    refine ev_slF ?_
    exact ev_r rfl
  | none =>
    rw [hh] at this
    refine .inr ⟨fun g hg e => ?_, ?_⟩
    · have := hit_none.1 hh g hg
      rw [sameK_iff.2 e] at this; cases this
    · unfold fIdx_fn fIdx_tree
      refine ev_opt this ?_
      refine ev_srF ?_
      exact ev_r rfl
end Go.Proofs.Ythnijeclidpooaa.X
