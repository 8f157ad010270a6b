/- frag: FragBack. Conditions: none. -/
import Derived.Test.YthnijeclidpooaaPBackI
namespace Go.Proofs.Ythnijeclidpooaa.X
open Go Go.RowKit Go.Proofs.Ythnijeclidpooaa.Abs Go.Proofs.Ythnijeclidpooaa.Bits
set_option linter.unusedVariables false
set_option linter.unnecessarySimpa false
set_option linter.unusedSimpArgs false
set_option linter.unusedSectionVars false
set_option maxRecDepth 100000
section
variable {p : TPacket} {st : Nat} {L : List TPacket} (hc : Cut p st L)
include hc
theorem Cut.whole_iff {S : Nat → Bool} : (X.wholeR (came L S)).2 = true ↔ ∀ j, j < L.length → S j = true := by
  constructor
  · intro h
    rcases first_not L.length S with h1 | ⟨j, h1, h2, h3⟩
    · exact h1
    · rw [hc.lacks h1 h2 h3] at h; cases h
  · intro h; rw [hc.all h]
/-- What one more piece does, by Feed itself. -/
theorem Cut.fed {S : Nat → Bool} (ho : POk (poolOf p L S)) {k : Nat} {q : TPacket} (hq : L[k]? = some q) :
    ∃ l' q' ok, fFeed_fn (poolOf p L S, wArg q) = some (fRes l' q' ok 0) ∧ POk l' ∧
      ((S k = true ∧ ok = false ∧ l' = poolOf p L S) ∨ (S k = false ∧ ¬ (∀ j, j < L.length → plus S k j = true) ∧ ok = false ∧ l' = poolOf p L (plus S k)) ∨ (S k = false ∧ (∀ j, j < L.length → plus S k j = true) ∧ ok = true ∧ l' = [] ∧ q' = p)) := by
  obtain ⟨l', q', ok, e, hfd, hf⟩ := feed_fn ho q
  obtain ⟨ho', _⟩ := fed_ok ho hf
  obtain ⟨rfl, h⟩ := hc.feed hq hf
  refine ⟨l', q', ok, hfd, ho', ?_⟩
  rcases h with h | ⟨h1, h2, h3, h4⟩ | ⟨h1, h2, h3, h4, h5⟩
  · exact .inl h
  · exact .inr (.inl ⟨h1, fun hall => (by rw [hc.whole_iff.2 hall] at h2; cases h2), h3, h4⟩)
  · have hall := hc.whole_iff.1 h2
    refine .inr (.inr ⟨h1, hall, h3, h4, ?_⟩)
    have h2l := hc.two
    rw [h5]
    have h0 := hall 0 (by omega)
    have hw := hc.all hall
    have e1 := hc.whole; have e2 := hc.more; have e3 := hc.start
    unfold outOf heapOf
    simp only [h0, if_true, hw]
    cases p
    simp only at e1 e2 e3
    subst e1; subst e2; subst e3
    rfl
abbrev b11 {R : Type} (p : TPacket) (r : R) := (p.tos, (p.id, (p.whole, (p.more, (p.start, (p.life, (p.proto, (p.from', (p.to, (p.options, (p.data, r)))))))))))
theorem Cut.loop1 (O : List Int) (hO : O.length ≤ 9223372036854775806) : ∀ (r : List Int) (i n : Nat) (S : Nat → Bool), O.drop i = r → i ≤ O.length → r.length < n → POk (poolOf p L S) → S (L.length - 1) = false →
    ∃ S', POk (poolOf p L S') ∧ S' (L.length - 1) = false ∧ loopO 90007 (fun x => (fragBack_step9_7 x).eval) n ((i : Int), (L, (poolOf p L S, (O, ((O.length : Int), b11 p ()))))) = some (.inr (L, (poolOf p L S', b11 p ()))) := by
  intro r
  induction r with
  | nil =>
    intro i n S hd hle hn ho hS
    obtain ⟨n, rfl⟩ : ∃ m, n = m + 1 := ⟨n - 1, by simp at hn; omega⟩
    have : i = O.length := by have := congrArg List.length hd; simp at this; omega
    subst this
    refine ⟨S, ho, hS, loopO_out ?_⟩
    show (fragBack_step9_7 _).eval = _
    exact ev_f (by simp) (ev_r rfl)
  | cons x r ih =>
    intro i n S hd hle hn ho hS
    obtain ⟨n, rfl⟩ : ∃ m, n = m + 1 := ⟨n - 1, by simp at hn; omega⟩
    have hx : O[i]? = some x := by have := congrArg (·[0]?) hd; simpa using this
    have hd2 : O.drop (i + 1) = r := by rw [← List.drop_drop, hd]; rfl
    have hlt := (List.getElem?_eq_some_iff.1 hx).1
    have hx' : O[Int.toNat (i : Int)]? = some x := by simpa using hx
    have fin : IntKind.wrap IntKind.i64 ((i : Int) + (1 : Int)) = ((i + 1 : Nat) : Int) := next_i64 i (by omega)
    have h2 := hc.two
    have h64 := hc.most
    have hw : IntKind.wrap IntKind.i64 ((L.length : Int) - (1 : Int)) = ((L.length - 1 : Nat) : Int) := by rw [wrap_mid _ (by omega)]; omega
    have go : ∀ (S2 : Nat → Bool), POk (poolOf p L S2) → S2 (L.length - 1) = false → (fragBack_step9_7 ((i : Int), (L, (poolOf p L S, (O, ((O.length : Int), b11 p ())))))).eval = some (.inl (((i + 1 : Nat) : Int), (L, (poolOf p L S2, (O, ((O.length : Int), b11 p ())))))) →
        ∃ S', POk (poolOf p L S') ∧ S' (L.length - 1) = false ∧ loopO 90007 (fun x => (fragBack_step9_7 x).eval) (n + 1) ((i : Int), (L, (poolOf p L S, (O, ((O.length : Int), b11 p ()))))) = some (.inr (L, (poolOf p L S', b11 p ()))) := fun S2 h1 h2 hs => by
      rw [loopO_in hs]
      exact ih (i + 1) n S2 hd2 (by omega) (by simp at hn; omega) h1 h2
    by_cases h0 : x < 0
    · refine go S ho hS ?_
      unfold fragBack_step9_7
      exact ev_t (by simp; omega) (ev_g (by simp) (ev_opt hx' (ev_t (by simpa using h0) (ev_r (by rw [fin])))))
    by_cases h1 : ((L.length - 1 : Nat) : Int) ≤ x
    · refine go S ho hS ?_
      unfold fragBack_step9_7
      exact ev_t (by simp; omega) (ev_g (by simp) (ev_opt hx' (ev_f (by simpa using h0) (ev_t (by rw [hw]; simpa using h1) (ev_r (by rw [fin]))))))
    obtain ⟨q, hq⟩ := get_lt (l := L) (i := x.toNat) (by omega)
    obtain ⟨l', q', ok, hfd, ho', hcase⟩ := hc.fed ho hq
    have key : ok = false ∧ ∃ S2, l' = poolOf p L S2 ∧ S2 (L.length - 1) = false := by
      have hpl : plus S x.toNat (L.length - 1) = false := by simp [plus, hS]; omega
      rcases hcase with ⟨_, a, b⟩ | ⟨_, _, a, b⟩ | ⟨_, hall, _⟩
      · exact ⟨a, S, b, hS⟩
      · exact ⟨a, _, b, hpl⟩
      · have := hall (L.length - 1) (by omega); rw [hpl] at this; cases this
    obtain ⟨rfl, S2, rfl, hS2⟩ := key
    refine go S2 ho' hS2 ?_
    unfold fragBack_step9_7
    exact ev_t (by simp; omega) (ev_g (by simp) (ev_opt hx' (ev_f (by simpa using h0) (ev_f (by rw [hw]; simpa using h1) (ev_g (by simp; omega) (ev_opt hq (ev_opt hfd (ev_f rfl (ev_f rfl (ev_r (by rw [fin])))))))))))
theorem Cut.loop2 : ∀ (m k n : Nat) (S : Nat → Bool), k + m = L.length → m < n → POk (poolOf p L S) → (∀ j, L.length - k ≤ j → j < L.length → S j = true) → ¬ (∀ j, j < L.length → S j = true) →
    loopO 90016 (fun x => (fragBack_step9_16 x).eval) n ((k : Int), (L, (poolOf p L S, ((L.length : Int), b11 p ())))) = some (.inl (true, ())) := by
  intro m
  induction m with
  | zero => intro k n S hk hn ho h1 h2; exact absurd (fun j hj => h1 j (by omega) hj) h2
  | succ m ih =>
    intro k n S hk hn ho h1 hnot
    obtain ⟨n, rfl⟩ : ∃ m, n = m + 1 := ⟨n - 1, by omega⟩
    have h2 := hc.two
    have h64 := hc.most
    have hw : IntKind.wrap IntKind.i64 (IntKind.wrap IntKind.i64 ((L.length : Int) - (1 : Int)) - (k : Int)) = ((L.length - 1 - k : Nat) : Int) := by rw [wrap_mid ((L.length : Int) - 1) (by omega), wrap_mid _ (by omega)]; omega
    have fin : IntKind.wrap IntKind.i64 ((k : Int) + (1 : Int)) = ((k + 1 : Nat) : Int) := next_i64 k (by omega)
    obtain ⟨q, hq⟩ := get_lt (l := L) (i := L.length - 1 - k) (by omega)
    have hq' : L[Int.toNat (IntKind.wrap IntKind.i64 (IntKind.wrap IntKind.i64 ((L.length : Int) - (1 : Int)) - (k : Int)))]? = some q := by rw [hw, toNat_cast]; exact hq
    obtain ⟨l', q', ok, hfd, ho', hcase⟩ := hc.fed ho hq
    have go : ∀ (S2 : Nat → Bool), ok = false → l' = poolOf p L S2 → (∀ j, L.length - (k + 1) ≤ j → j < L.length → S2 j = true) → ¬ (∀ j, j < L.length → S2 j = true) →
        loopO 90016 (fun x => (fragBack_step9_16 x).eval) (n + 1) ((k : Int), (L, (poolOf p L S, ((L.length : Int), b11 p ())))) = some (.inl (true, ())) := fun S2 e1 e2 h3 h4 => by
      subst e1; subst e2
      have hs : (fragBack_step9_16 ((k : Int), (L, (poolOf p L S, ((L.length : Int), b11 p ()))))).eval = some (.inl (((k + 1 : Nat) : Int), (L, (poolOf p L S2, ((L.length : Int), b11 p ()))))) := by
        unfold fragBack_step9_16
        exact ev_t (by simp; omega) (ev_g (by rw [hw]; simp) (ev_opt hq' (ev_opt hfd (ev_f rfl (ev_f rfl (ev_r (by rw [fin])))))))
      rw [loopO_in hs]
      exact ih (k + 1) n S2 (by omega) (by omega) ho' h3 h4
    rcases hcase with ⟨a1, a2, a3⟩ | ⟨a1, a2, a3, a4⟩ | ⟨a1, a2, a3, a4, a5⟩
    · refine go S a2 a3 (fun j hj hjl => ?_) hnot
      by_cases e : j = L.length - 1 - k
      · rw [e]; exact a1
      · exact h1 j (by omega) hjl
    · refine go _ a3 a4 (fun j hj hjl => ?_) a2
      by_cases e : j = L.length - 1 - k
      · simp [plus, e]
      · simp [plus, h1 j (by omega) hjl]
    · subst a3; subst a4; subst a5
      refine loopO_out ?_
      show (fragBack_step9_16 _).eval = _
      unfold fragBack_step9_16
      exact ev_t (by simp; omega) (ev_g (by rw [hw]; simp) (ev_opt hq' (ev_opt hfd (ev_f rfl (ev_t rfl (ev_t (by simp) (ev_r rfl)))))))
end
theorem back_law {a0 a1 : Int} {a2 a3 : Bool} {a4 a5 a6 a7 a8 : Int} {a9 a10 : List UInt8} {most : Int} {O : List Int} (hO : O.length ≤ 9223372036854775806) : (fragBack_tree (a0, (a1, (a2, (a3, (a4, (a5, (a6, (a7, (a8, (a9, (a10, (most, (O, ())))))))))))))).eval = some (true, ()) := by
  obtain ⟨L, c, hsp, hR⟩ := split_fn ⟨a0, a1, false, false, 0, a5, a6, a7, a8, a9, a10⟩ most
  unfold fragBack_tree
  refine ev_opt hsp (ev_opt fragLives_ok (ev_f rfl ?_))
  by_cases h0 : c = 0
  case neg => exact ev_t (by simpa using h0) (ev_opt fragLives_ok (ev_r rfl))
  subst h0
  refine ev_f rfl ?_
  by_cases h64 : 64 < L.length
  · exact ev_t (by simp; omega) (ev_opt fragLives_ok (ev_r rfl))
  refine ev_f (by simp; omega) ?_
  by_cases h2 : L.length < 2
  · exact ev_t (by simp; omega) (ev_opt fragLives_ok (ev_r rfl))
  refine ev_f (by simp; omega) ?_
  obtain ⟨st, hc⟩ : ∃ st, Cut ⟨a0, a1, false, false, 0, a5, a6, a7, a8, a9, a10⟩ st L := by
    generalize hcc : (0 : Int) = c at hR
    cases hR with
    | no c h hw => exact absurd hcc.symm h
    | one h hs hl => simp at h2
    | many h hs hl hw hb st h8 hm hst L hL => exact ⟨st, h, rfl, rfl, rfl, h8, hm, (by show a10.length ≤ 65515; have hb2 : 8 * (0 : Int) + (a10.length : Int) ≤ 65515 := hb; omega), hL, by omega, by omega⟩
  have hnil : came L (fun _ => false) = [] := by simp [came, ids]
  have hp0 : poolOf ⟨a0, a1, false, false, 0, a5, a6, a7, a8, a9, a10⟩ L (fun _ => false) = [] := by unfold poolOf; rw [if_pos hnil]
  have ho0 : POk (poolOf ⟨a0, a1, false, false, 0, a5, a6, a7, a8, a9, a10⟩ L (fun _ => false)) := by rw [hp0]; exact ⟨by simp, fun h hh => (by cases hh), fun j k a b hjk ha => (by simp at ha)⟩
  obtain ⟨S, ho, hS, hl1⟩ := hc.loop1 O hO O 0 18446744073709551616 (fun _ => false) rfl (Nat.zero_le _) (by omega) ho0 rfl
  rw [hp0] at hl1
  refine ev_opt hl1 ?_
  refine ev_srF ?_
  have hl2 := hc.loop2 L.length 0 18446744073709551616 S (by omega) (by omega) ho (fun j h1 h2 => by omega) (fun h => by have := h (L.length - 1) (by omega); rw [hS] at this; cases this)
  refine ev_opt hl2 ?_
  refine ev_slF ?_
  exact ev_r rfl
theorem fragBack_true {a0 a1 : Int} {a2 a3 : Bool} {a4 a5 a6 a7 a8 : Int} {a9 a10 : List UInt8} {most : Int} {O : List Int} (b0 : -9223372036854775808 ≤ a0 ∧ a0 ≤ 9223372036854775807) (b1 : -9223372036854775808 ≤ a1 ∧ a1 ≤ 9223372036854775807) (b4 : -9223372036854775808 ≤ a4 ∧ a4 ≤ 9223372036854775807) (b5 : -9223372036854775808 ≤ a5 ∧ a5 ≤ 9223372036854775807) (b6 : -9223372036854775808 ≤ a6 ∧ a6 ≤ 9223372036854775807) (b7 : 0 ≤ a7 ∧ a7 ≤ 4294967295) (b8 : 0 ≤ a8 ∧ a8 ≤ 4294967295) (b9 : a9.length ≤ 140737488351232) (b10 : a10.length ≤ 140737488351232) (c1 : -9223372036854775808 ≤ most ∧ most ≤ 9223372036854775807) (c2 : BndD 6 (D.st 0 O)) :
    (fragBack_tree (a0, (a1, (a2, (a3, (a4, (a5, (a6, (a7, (a8, (a9, (a10, (most, (O, ())))))))))))))).eval = some (true, ()) := by
  refine back_law ?_
  have h1 : O.length * bsz 0 ≤ 140737488351232 := c2.1
  have h2 : bsz 0 = 8 := rfl
  rw [h2] at h1; omega
end Go.Proofs.Ythnijeclidpooaa.X
