/- frag: what PoolRight tells of a right pool; own, Delete, IndexFunc. Conditions: none. -/
import Derived.Test.YthnijeclidpooaaPFeed
namespace Go.Proofs.Ythnijeclidpooaa.X
open Go Go.RowKit Go.Proofs.Ythnijeclidpooaa.Abs Go.Proofs.Ythnijeclidpooaa.Bits
set_option linter.unusedVariables false
set_option linter.unnecessarySimpa false
set_option linter.unusedSimpArgs false
set_option maxRecDepth 100000
theorem pr_inner {l : List THeap} (ho : POk l) {i : Nat} {h : THeap} (hh : l[i]? = some h) :
    poolRight_loop32_18 ((0 : Int), (List.drop (0 : Nat) (List.take i l), (l, (l, ((l.length : Int), ((i : Int), ((↑(List.length (List.drop (0 : Nat) (List.take i l))) : Int), aHeap h ()))))))) = some (.inr (l, (l, ((l.length : Int), ((i : Int), ()))))) := by
  have hil := (List.getElem?_eq_some_iff.1 hh).1
  have h16 := ho.len
  rw [List.drop_zero]
  have hlen : (List.take i l).length = i := by rw [List.length_take]; omega
  rw [hlen]
  exact loop_idxF (tag := 320018) (f := fun x => (poolRight_step32_18 x).eval) i
    (fun j => ((j : Int), (List.take i l, (l, (l, ((l.length : Int), ((i : Int), ((i : Int), aHeap h ())))))))) (.inr (l, (l, ((l.length : Int), ((i : Int), ())))))
    (fun j hj => by
      obtain ⟨g, hg⟩ := get_lt (l := l) (i := j) (by omega)
      have hne : ¬ keyOf g = keyOf h := ho.keys j i g h hj hg hh
      have hg' : (List.take i l)[Int.toNat (j : Int)]? = some g := by rw [toNat_cast, List.getElem?_take, if_pos hj]; exact hg
      have fin : IntKind.wrap IntKind.i64 ((j : Int) + (1 : Int)) = ((j + 1 : Nat) : Int) := next_i64 j (by omega)
      show (poolRight_step32_18 _).eval = _
      unfold poolRight_step32_18
      by_cases h1 : g.from' = h.from'
      · by_cases h2 : g.to = h.to
        · by_cases h3 : g.proto = h.proto
          · have h4 : ¬ g.id = h.id := fun e => hne (by simp [keyOf, h1, h2, h3, e])
            refine ev_t (by simp; omega) (ev_g (by simp) (ev_opt hg' (ev_opt (ev_t (by simpa using h1) (ev_t (by simpa using h2) (ev_t (by simpa using h3) (ev_r rfl)))) ?_)))
            exact ev_f (by simpa using h4) (ev_r (by rw [fin]))
          · refine ev_t (by simp; omega) (ev_g (by simp) (ev_opt hg' (ev_opt (ev_t (by simpa using h1) (ev_t (by simpa using h2) (ev_f (by simpa using h3) (ev_r rfl)))) ?_)))
            exact ev_f rfl (ev_r (by rw [fin]))
        · refine ev_t (by simp; omega) (ev_g (by simp) (ev_opt hg' (ev_opt (ev_t (by simpa using h1) (ev_f (by simpa using h2) (ev_r rfl))) ?_)))
          exact ev_f rfl (ev_r (by rw [fin]))
      · refine ev_t (by simp; omega) (ev_g (by simp) (ev_opt hg' (ev_opt (ev_f (by simpa using h1) (ev_r rfl)) ?_)))
        exact ev_f rfl (ev_r (by rw [fin])))
    (by show (poolRight_step32_18 _).eval = _; exact ev_f (by simp) (ev_r rfl)) 18446744073709551616 (by omega)
/-- Where the part ahead ends. -/
def prevE (ps : List TPart) : Nat → Int
  | 0 => 0
  | i + 1 => match ps[i]? with | some p => pend p | none => 0
theorem pr_parts {l : List THeap} (ho : POk l) {i : Nat} {h : THeap} (hk : HOk h) :
    poolRight_loop32_8 ((0 : Int), ((0 : Int), (h.parts, (l, (l, ((l.length : Int), ((i : Int), ((i : Int), ((h.parts.length : Int), aHeap h ()))))))))) = some (.inr (l, (l, ((l.length : Int), ((i : Int), ((i : Int), aHeap h ())))))) := by
  have hlen := hk.len
  exact loop_idxF (tag := 320008) (f := fun x => (poolRight_step32_8 x).eval) h.parts.length
    (fun j => ((j : Int), (prevE h.parts j, (h.parts, (l, (l, ((l.length : Int), ((i : Int), ((i : Int), ((h.parts.length : Int), aHeap h ())))))))))) (.inr (l, (l, ((l.length : Int), ((i : Int), ((i : Int), aHeap h ()))))))
    (fun j hj => by
      obtain ⟨p, hp⟩ := get_lt hj
      have hrp := hk.rp j p hp
      have r1 := hrp.a0; have r2 := hrp.e; have r3 := hrp.pos; have r4 := hrp.a8
      have r2' := r2
      unfold pend at r2'
      have hpe : prevE h.parts j ≤ p.at' := by
        cases j with
        | zero => exact r1
        | succ j =>
          obtain ⟨q, hq⟩ := get_lt (l := h.parts) (i := j) (by omega)
          show (match h.parts[j]? with | some p => pend p | none => 0) ≤ p.at'
          rw [hq]
          exact (hk.ord j q p hq hp).2
      have hnx : prevE h.parts (j + 1) = pend p := by
        show (match h.parts[j]? with | some p => pend p | none => 0) = pend p
        rw [hp]
      have fin : IntKind.wrap IntKind.i64 ((j : Int) + (1 : Int)) = ((j + 1 : Nat) : Int) := next_i64 j (by omega)
      have fin2 : IntKind.wrap IntKind.i64 (p.at' + (p.data.length : Int)) = pend p := by rw [wrap_mid _ (by omega)]; rfl
      have hp' : h.parts[Int.toNat (j : Int)]? = some p := by rw [toNat_cast]; exact hp
      show (poolRight_step32_8 _).eval = _
      unfold poolRight_step32_8
      refine ev_t (by simp; omega) (ev_g (by simp) (ev_opt hp' (ev_opt (ev_t (by simpa using hrp.ne) (ev_t (by simpa using hpe) (ev_g rfl (ev_t (by rw [Int.tmod_eq_emod_of_nonneg r1]; simpa using r4) (ev_t (by simp; omega) (ev_r rfl)))))) ?_)))
      have c1 : (!decide (IntKind.wrap IntKind.i64 (p.at' + (p.data.length : Int)) ≤ (65515 : Int))) = false := by rw [fin2]; simpa using r2
      cases hla : p.last with
      | true =>
        have hend : ¬ ((j + 1 : Nat) : Int) < (h.parts.length : Int) := fun hlt => by
          obtain ⟨q, hq⟩ := get_lt (l := h.parts) (i := j + 1) (by omega)
          have := (hk.ord j p q hp hq).1
          rw [hla] at this; cases this
        refine ev_opt (ev_f c1 (ev_t rfl (ev_f (by rw [fin]; simpa using hend) (ev_f rfl (ev_r rfl))))) ?_
        exact ev_f rfl (ev_r (by rw [fin, fin2, hnx]))
      | false =>
        have hl8 : p.data.length % 8 = 0 := by
          rcases hrp.l8 with e | e
          · rw [hla] at e; cases e
          · exact e
        refine ev_opt (ev_f c1 (ev_f rfl (ev_t rfl (ev_g rfl (ev_r rfl))))) ?_
        exact ev_f (by rw [Int.tmod_eq_emod_of_nonneg (by omega)]; simp; omega) (ev_r (by rw [fin, fin2, hnx])))
    (by show (poolRight_step32_8 _).eval = _; exact ev_f (by simp) (ev_r rfl)) 18446744073709551616 (by omega)
theorem poolRight_ok {l : List THeap} (ho : POk l) : poolRight_fn (l, ()) = some ((0 : Int), ()) := by
  have h16 := ho.len
  have l1 := loop_idxF (tag := 570002) (f := fun x => (poolRight_step57_2 x).eval) l.length
    (fun i => ((i : Int), (l, ((l.length : Int), ())))) (.inr ())
    (fun i hi => by
      obtain ⟨h, hh⟩ := get_lt hi
      have hlen := (ho.all h (List.mem_of_getElem? hh)).len
      show (poolRight_step57_2 _).eval = _
      unfold poolRight_step57_2
      exact ev_t (by simp; omega) (ev_g (by simp) (ev_opt (show l[Int.toNat (i : Int)]? = some h by simpa using hh) (ev_f (by simp; omega) (ev_r (by rw [next_i64 i (by omega)]))))))
    (by show (poolRight_step57_2 _).eval = _; exact ev_f (by simp) (ev_r rfl)) 18446744073709551616 (by omega)
  have l2 := loop_idxF (tag := 320004) (f := fun x => (poolRight_step32_4 x).eval) l.length
    (fun i => ((i : Int), (l, (l, ((l.length : Int), ()))))) (.inr ())
    (fun i hi => by
      obtain ⟨h, hh⟩ := get_lt hi
      have hk := ho.all h (List.mem_of_getElem? hh)
      have hin := pr_inner ho hh
      have hne := hk.ne
      obtain ⟨p, hp⟩ := get_lt (l := h.parts) (i := 0) (by cases hh : h.parts with | nil => exact absurd hh hne | cons => simp)
      have fin : IntKind.wrap IntKind.i64 ((i : Int) + (1 : Int)) = ((i + 1 : Nat) : Int) := next_i64 i (by omega)
      show (poolRight_step32_4 _).eval = _
      unfold poolRight_step32_4
      refine ev_t (by simp; omega) (ev_g (by simp) (ev_opt (show l[Int.toNat (i : Int)]? = some h by simpa using hh) (ev_opt (pr_parts ho hk) ?_)))
      refine ev_srF ?_
      have fin2 : ∀ {Q : Prop}, (Q → Q) := fun h => h
      rcases (show p.at' = 0 ∨ ¬ p.at' = 0 from Classical.em _) with e | e
      · refine ev_opt (ev_f (by simpa using hne) (ev_g rfl (ev_opt hp (ev_f (by simp; omega) (ev_r rfl))))) ?_
        refine ev_f rfl (ev_g (by simp; omega) (ev_opt (b := .inr (l, (l, ((l.length : Int), ((i : Int), ()))))) (by simp only [toNat_cast]; exact hin) ?_))
        refine ev_srF ?_
        exact ev_r (by rw [fin])
      · have ha0 := (hk.rp 0 p hp).a0
        obtain ⟨e1, e2, e3⟩ : h.tos = 0 ∧ h.life = 0 ∧ h.options = [] := by
          rcases hk.fst p hp with q | q
          · exact absurd q e
          · exact q
        refine ev_opt (ev_f (by simpa using hne) (ev_g rfl (ev_opt hp (ev_t (by simp; omega) (ev_f (by simpa using e1) (ev_f (by simpa using e2) (ev_r rfl))))))) ?_
        refine ev_f (by simpa using e3) (ev_g (by simp; omega) (ev_opt (b := .inr (l, (l, ((l.length : Int), ((i : Int), ()))))) (by simp only [toNat_cast]; exact hin) ?_))
        refine ev_srF ?_
        exact ev_r (by rw [fin]))
    (by show (poolRight_step32_4 _).eval = _; exact ev_f (by simp) (ev_r rfl)) 18446744073709551616 (by omega)
  unfold poolRight_fn poolRight_tree
  exact ev_f (by simp; omega) (ev_opt l1 (ev_srF (ev_f rfl (ev_opt l2 (ev_srF (ev_r rfl))))))
end Go.Proofs.Ythnijeclidpooaa.X
