/- frag: FragBounds. Conditions: none. -/
import Derived.Test.YthnijeclidpooaaPFeedH
namespace Go.Proofs.Ythnijeclidpooaa.X
open Go Go.RowKit Go.Proofs.Ythnijeclidpooaa.Abs Go.Proofs.Ythnijeclidpooaa.Bits
set_option linter.unusedVariables false
set_option linter.unnecessarySimpa false
set_option linter.unusedSimpArgs false
set_option maxRecDepth 100000
theorem erase_last {l : List THeap} {x : THeap} : (l ++ [x]).eraseIdx l.length = l := by
  rw [List.eraseIdx_eq_take_drop_succ, List.take_left']
  · rw [List.drop_eq_nil_of_le (by simp), List.append_nil]
  · rfl
theorem erase_set {l : List THeap} {i : Nat} {x : THeap} (hi : i < l.length) : (l.set i x).eraseIdx i = l.eraseIdx i := by
  rw [List.eraseIdx_eq_take_drop_succ, List.eraseIdx_eq_take_drop_succ, List.take_set_of_le (Nat.le_refl _), List.drop_set_of_lt (by omega)]
/-- Of a pool with the packet's heap. -/
theorem Found.facts {l : List THeap} {p : TPacket} {l1 : List THeap} {i : Nat} {h : THeap} (hf : Found l p l1 i h) (ho : POk l) :
    (∀ (j : Nat) (g : THeap), l1[j]? = some g → j ≠ i → HOk g) ∧ (∀ (j k : Nat) (a b : THeap), j < k → l1[j]? = some a → l1[k]? = some b → keyOf a ≠ keyOf b) ∧ POk (l1.eraseIdx i) ∧ HW h := by
  cases hf with
  | old i h hi hk => exact ⟨fun j g hg _ => ho.all g (List.mem_of_getElem? hg), ho.keys, ho.erase i, (ho.all h (List.mem_of_getElem? hi)).w⟩
  | new l0 hn h0 =>
    have ho0 : POk l0 := by
      rcases h0 with ⟨_, rfl⟩ | ⟨_, rfl⟩
      · exact ho.erase 0
      · exact ho
    have hsub : ∀ g ∈ l0, g ∈ l := fun g hg => by
      rcases h0 with ⟨_, rfl⟩ | ⟨_, rfl⟩
      · exact List.mem_of_mem_eraseIdx hg
      · exact hg
    have hget : ∀ (j : Nat) (g : THeap), (l0 ++ [kHeap p])[j]? = some g → l0[j]? = some g ∨ (j = l0.length ∧ g = kHeap p) := fun j g hg => by
      by_cases hj : j < l0.length
      · rw [List.getElem?_append_left hj] at hg; exact .inl hg
      · rw [List.getElem?_append_right (by omega)] at hg
        have hlt := (List.getElem?_eq_some_iff.1 hg).1
        simp at hlt
        have e : j = l0.length := by omega
        subst e
        simp at hg
        exact .inr ⟨rfl, hg.symm⟩
    refine ⟨fun j g hg hne => ?_, fun j k a b hjk ha hb => ?_, by rw [erase_last]; exact ho0, kHeap_w p⟩
    · rcases hget j g hg with h | ⟨h, _⟩
      · exact ho0.all g (List.mem_of_getElem? h)
      · exact absurd h hne
    · rcases hget j a ha with h1 | ⟨h1, _⟩
      · rcases hget k b hb with h2 | ⟨_, rfl⟩
        · exact ho0.keys j k a b hjk h1 h2
        · exact hn a (hsub a (List.mem_of_getElem? h1))
      · rcases hget k b hb with h2 | ⟨h2, _⟩
        · have := (List.getElem?_eq_some_iff.1 h2).1; omega
        · omega
theorem fed_ok {l : List THeap} (ho : POk l) {p : TPacket} {l' : List THeap} {q : TPacket} {ok : Bool} {e : Int} (hf : Fed l p l' q ok e) : POk l' ∧ (ok = true → q.more = false ∧ q.start = 0) := by
  cases hf with
  | bad e h1 he => exact ⟨ho, fun h => (by cases h)⟩
  | one h1 h2 h3 => exact ⟨ho, fun _ => ⟨h2, h3⟩⟩
  | ref e h1 h3 he => exact ⟨ho, fun h => (by cases h)⟩
  | dup h1 h2 h3 hf hp =>
    cases hf with
    | old i h hi hk => exact ⟨ho, fun h => (by cases h)⟩
    | new l0 hn h0 => simp [kHeap, putL] at hp
  | no e h1 h2 h3 hf hp he => exact ⟨(hf.facts ho).2.2.1, fun h => (by cases h)⟩
  | put h1 h2 h3 hf hp hl hw =>
    rename_i l1 i h a
    obtain ⟨f1, f2, f3, f4⟩ := hf.facts ho
    have hat := hf.at'
    have hil := (List.getElem?_eq_some_iff.1 hat).1
    have hok := putIn_ok f4 h1.start.1 h3 hp hl
    refine ⟨⟨by rw [List.length_set]; exact hf.len ho.len, fun g hg => ?_, fun j k x y hjk hx hy => ?_⟩, fun h => (by cases h)⟩
    · obtain ⟨j, hj⟩ := List.mem_iff_getElem?.1 hg
      by_cases e : i = j
      · subst e; rw [List.getElem?_set_self hil] at hj; cases hj; exact hok
      · rw [List.getElem?_set_ne e] at hj; exact f1 j g hj (fun h => e h.symm)
    · have hk : ∀ (j : Nat) (x : THeap), (l1.set i (putIn h p a))[j]? = some x → ∃ z, l1[j]? = some z ∧ keyOf z = keyOf x := fun j x hx => by
        by_cases e : i = j
        · subst e; rw [List.getElem?_set_self hil] at hx; cases hx; exact ⟨h, hat, (putIn_key h p a).symm⟩
        · rw [List.getElem?_set_ne e] at hx; exact ⟨x, hx, rfl⟩
      obtain ⟨z1, a1, b1⟩ := hk j x hx
      obtain ⟨z2, a2, b2⟩ := hk k y hy
      rw [← b1, ← b2]
      exact f2 j k z1 z2 hjk a1 a2
  | full h1 h2 h3 hf hp hl hw =>
    rw [erase_set (List.getElem?_eq_some_iff.1 hf.at').1]
    exact ⟨(hf.facts ho).2.2.1, fun _ => ⟨rfl, rfl⟩⟩
theorem bounds_loop (l : List TPacket) (hl : l.length ≤ 9223372036854775806) : ∀ (r : List TPacket) (i n : Nat) (pool : List THeap), l.drop i = r → i ≤ l.length → r.length < n → POk pool →
    loopO 100003 (fun x => (fragBounds_step10_3 x).eval) n ((i : Int), (pool, (l, ((l.length : Int), ())))) = some (.inr ()) := by
  intro r
  induction r with
  | nil =>
    intro i n pool hd hle hn ho
    obtain ⟨n, rfl⟩ : ∃ m, n = m + 1 := ⟨n - 1, by simp at hn; omega⟩
    have : i = l.length := by have := congrArg List.length hd; simp at this; omega
    subst this
    refine loopO_out ?_
    show (fragBounds_step10_3 _).eval = _
    exact ev_f (by simp) (ev_r rfl)
  | cons p r ih =>
    intro i n pool hd hle hn ho
    obtain ⟨n, rfl⟩ : ∃ m, n = m + 1 := ⟨n - 1, by simp at hn; omega⟩
    have hp : l[i]? = some p := by have := congrArg (·[0]?) hd; simpa using this
    have hd2 : l.drop (i + 1) = r := by rw [← List.drop_drop, hd]; rfl
    have hlt := (List.getElem?_eq_some_iff.1 hp).1
    obtain ⟨l', q, ok, e, hfd, hfed⟩ := feed_fn ho p
    obtain ⟨ho', hq⟩ := fed_ok ho hfed
    have hs : (fragBounds_step10_3 ((i : Int), (pool, (l, ((l.length : Int), ()))))).eval = some (.inl (((i + 1 : Nat) : Int), (l', (l, ((l.length : Int), ()))))) := by
      unfold fragBounds_step10_3
      refine ev_t (by simp; omega) (ev_g (by simp) (ev_opt (show l[Int.toNat (i : Int)]? = some p by simpa using hp) (ev_opt hfd (ev_opt (poolRight_ok ho') (ev_f rfl (ev_opt (check_fn ho') (ev_f rfl ?_)))))))
      cases hok : ok with
      | false => exact ev_f rfl (ev_r (by rw [next_i64 i (by omega)]))
      | true =>
        obtain ⟨q1, q2⟩ := hq hok
        exact ev_t rfl (ev_f q1 (ev_f (by simpa using q2) (ev_r (by rw [next_i64 i (by omega)]))))
    rw [loopO_in hs]
    exact ih (i + 1) n l' hd2 (by omega) (by simp at hn; omega) ho'
theorem fragBounds_true {l : List TPacket} (b0 : BndD 6 (D.st 20 l)) : (fragBounds_tree (l, ())).eval = some (true, ()) := by
  have hl : l.length ≤ 9223372036854775806 := by
    have h1 : l.length * bsz 20 ≤ 140737488351232 := b0.1
    have h2 : bsz 20 = 88 := rfl
    rw [h2] at h1; omega
  have h := bounds_loop l hl l 0 18446744073709551616 [] rfl (Nat.zero_le _) (by omega) ⟨by simp, fun h hh => (by cases hh), fun j k a b hjk ha => (by simp at ha)⟩
  unfold fragBounds_tree
  refine ev_opt h ?_
  refine ev_srF ?_
  exact ev_opt fragLives_ok (ev_r rfl)
end Go.Proofs.Ythnijeclidpooaa.X
