/- frag: pools that are right, and what Check and PoolRight tell of them. Conditions: none. -/
import Derived.Test.YthnijeclidpooaaKFrag
import Derived.Test.YthnijeclidpooaaPFragS
import Derived.Test.YthnijeclidpooaaPDel
namespace Go.Proofs.Ythnijeclidpooaa.X
open Go Go.RowKit Go.Proofs.Ythnijeclidpooaa.Abs Go.Proofs.Ythnijeclidpooaa.Bits
set_option linter.unusedVariables false
set_option linter.unnecessarySimpa false
set_option linter.unusedSimpArgs false
set_option maxRecDepth 100000
theorem ev_srF {α β γ : Type} {x : γ} {f : β → Tr α} {g : γ → Tr α} {r : Option α} (h : (g x).eval = r) : (Tr.sum (.inr x) f g).eval = r := h
theorem ev_slF {α β γ : Type} {x : β} {f : β → Tr α} {g : γ → Tr α} {r : Option α} (h : (f x).eval = r) : (Tr.sum (.inl x) f g).eval = r := h
/-- A loop whose state is told by its round. -/
theorem loop_idxF {A B : Type} {tag : Nat} {f : A → Option (A ⊕ B)} (n : Nat) (st : Nat → A) (out : B) (h1 : ∀ i, i < n → f (st i) = some (.inl (st (i + 1)))) (h2 : f (st n) = some (.inr out)) (N : Nat) (hN : n < N) : loopO tag f N (st 0) = some out := by
  have key : ∀ (c k N : Nat), k + c = n → c < N → loopO tag f N (st k) = some out := by
    intro c
    induction c with
    | zero =>
      intro k N hk hN
      obtain ⟨N, rfl⟩ : ∃ m, N = m + 1 := ⟨N - 1, by omega⟩
      obtain rfl : k = n := by omega
      exact loopO_out h2
    | succ c ih =>
      intro k N hk hN
      obtain ⟨N, rfl⟩ : ∃ m, N = m + 1 := ⟨N - 1, by omega⟩
      rw [loopO_in (h1 k (by omega))]
      exact ih (k + 1) N (by omega) (by omega)
  exact key n 0 N (by omega) hN
def pend (p : TPart) : Int := p.at' + p.data.length
/-- A part that may be one. -/
structure RP (p : TPart) : Prop where
  ne : p.data ≠ []
  a0 : 0 ≤ p.at'
  a8 : p.at' % 8 = 0
  e : pend p ≤ 65515
  l8 : p.last = true ∨ p.data.length % 8 = 0
theorem RP.pos {p : TPart} (h : RP p) : 0 < (p.data.length : Int) := by
  have := h.ne
  cases hd : p.data with
  | nil => exact absurd hd this
  | cons x l => simp only [List.length_cons]; omega
abbrev aPart (p : TPart) := (p.at', (p.data, (p.last, ())))
theorem end_fn {p : TPart} (h : RP p) : fEnd_fn (aPart p) = some (pend p, ()) := by
  have h1 := h.a0; have h2 := h.e; have h3 := h.pos
  unfold pend at h2
  unfold fEnd_fn fEnd_tree
  exact ev_r (by rw [wrap_mid _ (by omega)]; rfl)
theorem rightPart_fn {p : TPart} (h : RP p) : fRightPart_fn (aPart p) = some (true, ()) := by
  have h1 := h.a0; have h2 := h.e; have h3 := h.pos; have h4 := h.a8
  have h2' := h2
  unfold pend at h2'
  unfold fRightPart_fn fRightPart_tree
  refine ev_t (by simpa using h.ne) (ev_t (by simpa using h1) (ev_g rfl (ev_t (by rw [Int.tmod_eq_emod_of_nonneg h1]; simpa using h4) (ev_t (by simp; omega) (ev_opt (end_fn h) (ev_t (by simpa using h2) ?_))))))
  rcases h.l8 with hl | hl
  · exact ev_t hl (ev_r rfl)
  · cases hla : p.last with
    | true => exact ev_t rfl (ev_r rfl)
    | false => exact ev_f rfl (ev_g rfl (ev_r (by rw [Int.tmod_eq_emod_of_nonneg (by omega)]; simp; omega)))
/-- A heap that may be one. -/
structure HOk (h : THeap) : Prop where
  ne : h.parts ≠ []
  len : h.parts.length ≤ 64
  rp : ∀ (i : Nat) (p : TPart), h.parts[i]? = some p → RP p
  ord : ∀ (i : Nat) (p q : TPart), h.parts[i]? = some p → h.parts[i + 1]? = some q → p.last = false ∧ pend p ≤ q.at'
  fst : ∀ (p : TPart), h.parts[0]? = some p → p.at' = 0 ∨ (h.tos = 0 ∧ h.life = 0 ∧ h.options = [])
abbrev aHeap {R : Type} (h : THeap) (r : R) := (h.from', (h.to, (h.proto, (h.id, (h.tos, (h.life, (h.options, (h.parts, r))))))))
theorem get_lt {α : Type} {l : List α} {i : Nat} (h : i < l.length) : ∃ x, l[i]? = some x := ⟨l[i], List.getElem?_eq_getElem h⟩
theorem wrap_pred (i : Nat) (h : i < 1000000) : IntKind.wrap IntKind.i64 (((i + 1 : Nat) : Int) - (1 : Int)) = (i : Int) := by
  rw [wrap_mid _ (by omega)]; omega
theorem rightHeap_fn {h : THeap} (ho : HOk h) : fRightHeap_fn (aHeap h ()) = some (true, ()) := by
  have hl := ho.len
  have hloop := loop_idxF (tag := 650002) (f := fun x => (fRightHeap_step65_2 x).eval) h.parts.length
    (fun i => ((i : Int), (h.parts, ((h.parts.length : Int), aHeap h ())))) (.inr (aHeap h ()))
    (fun i hi => by
      obtain ⟨p, hp⟩ := get_lt hi
      have hrp := ho.rp i p hp
      show (fRightHeap_step65_2 _).eval = _
      unfold fRightHeap_step65_2
      refine ev_t (by simp; omega) (ev_g (by simp) (ev_opt (show h.parts[Int.toNat (i : Int)]? = some p by simpa using hp) (ev_opt (rightPart_fn hrp) (ev_f rfl ?_))))
      cases i with
      | zero => exact ev_f rfl (ev_r rfl)
      | succ i =>
        obtain ⟨q, hq⟩ := get_lt (l := h.parts) (i := i) (by omega)
        obtain ⟨o1, o2⟩ := ho.ord i q p hq hp
        have hw := wrap_pred i (by omega)
        have hq' : h.parts[Int.toNat (IntKind.wrap IntKind.i64 (((i + 1 : Nat) : Int) - (1 : Int)))]? = some q := by rw [hw]; simpa using hq
        exact ev_t (by simp <;> omega) (ev_g (by rw [hw]; simp) (ev_opt hq' (ev_f o1 (ev_g (by rw [hw]; simp) (ev_opt hq' (ev_opt (end_fn (ho.rp i q hq)) (ev_f (by simp; omega) (ev_r (by rw [next_i64 (i + 1) (by omega)])))))))))
    )
    (by show (fRightHeap_step65_2 _).eval = _; exact ev_f (by simp) (ev_r rfl)) 18446744073709551616 (by omega)
  unfold fRightHeap_fn fRightHeap_tree
  refine ev_opt hloop (ev_srF ?_)
  have hne := ho.ne
  obtain ⟨p, hp⟩ := get_lt (l := h.parts) (i := 0) (by cases hh : h.parts with | nil => exact absurd hh hne | cons => simp)
  refine ev_f (by simpa using hne) (ev_g rfl (ev_opt hp ?_))
  rcases ho.fst p hp with e | ⟨e1, e2, e3⟩
  · exact ev_t (by simpa using e) (ev_r rfl)
  · by_cases e : p.at' = 0
    · exact ev_t (by simpa using e) (ev_r rfl)
    · exact ev_f (by simpa using e) (ev_t (by simpa using e1) (ev_t (by simpa using e2) (ev_r (by simp [e3]))))
def keyOf (h : THeap) : Int × Int × Int × Int := (h.from', h.to, h.proto, h.id)
def sameK (a b : THeap) : Bool := decide (a.from' = b.from') && (decide (a.to = b.to) && (decide (a.proto = b.proto) && decide (a.id = b.id)))
theorem sameK_iff {a b : THeap} : sameK a b = true ↔ keyOf a = keyOf b := by
  simp [sameK, keyOf]
theorem sameKey_fn (a b : THeap) : fSameKey_fn (aHeap a (aHeap b ())) = some (sameK a b, ()) := by
  unfold fSameKey_fn fSameKey_tree sameK
  by_cases h1 : a.from' = b.from'
  · by_cases h2 : a.to = b.to
    · by_cases h3 : a.proto = b.proto
      · exact ev_t (by simpa using h1) (ev_t (by simpa using h2) (ev_t (by simpa using h3) (ev_r (by simp [h1, h2, h3]))))
      · exact ev_t (by simpa using h1) (ev_t (by simpa using h2) (ev_f (by simpa using h3) (ev_r (by simp [h3]))))
    · exact ev_t (by simpa using h1) (ev_f (by simpa using h2) (ev_r (by simp [h2])))
  · exact ev_f (by simpa using h1) (ev_r (by simp [h1]))
/-- A pool that may be one. -/
structure POk (l : List THeap) : Prop where
  len : l.length ≤ 16
  all : ∀ h ∈ l, HOk h
  keys : ∀ (i j : Nat) (a b : THeap), i < j → l[i]? = some a → l[j]? = some b → keyOf a ≠ keyOf b
theorem toNat_cast (i : Nat) : Int.toNat (i : Int) = i := by omega
theorem check_inner {l : List THeap} (ho : POk l) {i : Nat} {h : THeap} (hh : l[i]? = some h) :
    fCheck_loop57_2 ((0 : Int), (List.drop (0 : Nat) (List.take i l), ((↑(List.length (List.drop (0 : Nat) (List.take i l))) : Int), aHeap h ()))) = some (.inr (aHeap h ())) := by
  have hil := (List.getElem?_eq_some_iff.1 hh).1
  have h16 := ho.len
  rw [List.drop_zero]
  have hlen : (List.take i l).length = i := by rw [List.length_take]; omega
  rw [hlen]
  exact loop_idxF (tag := 570002) (f := fun x => (fCheck_step57_2 x).eval) i
    (fun j => ((j : Int), (List.take i l, ((i : Int), aHeap h ())))) (.inr (aHeap h ()))
    (fun j hj => by
      obtain ⟨g, hg⟩ := get_lt (l := l) (i := j) (by omega)
      have hne : sameK g h = false := by
        cases hs : sameK g h with
        | false => rfl
        | true => exact absurd (sameK_iff.1 hs) (ho.keys j i g h hj hg hh)
      have hsk := sameKey_fn g h
      rw [hne] at hsk
      show (fCheck_step57_2 _).eval = _
      unfold fCheck_step57_2
      exact ev_t (by simp; omega) (ev_g (by simp) (ev_opt (show (List.take i l)[Int.toNat (j : Int)]? = some g by rw [toNat_cast, List.getElem?_take, if_pos hj]; exact hg) (ev_opt hsk (ev_f rfl (ev_r (by rw [next_i64 j (by omega)])))))))
    (by show (fCheck_step57_2 _).eval = _; exact ev_f (by simp) (ev_r rfl)) 18446744073709551616 (by omega)
theorem check_fn {l : List THeap} (ho : POk l) : fCheck_fn (l, ()) = some ((0 : Int), ()) := by
  have h16 := ho.len
  have l1 := loop_idxF (tag := 330004) (f := fun x => (fCheck_step33_4 x).eval) l.length
    (fun i => ((i : Int), (l, (l, ((l.length : Int), ()))))) (.inr (l, ()))
    (fun i hi => by
      obtain ⟨h, hh⟩ := get_lt hi
      have hlen := (ho.all h (List.mem_of_getElem? hh)).len
      show (fCheck_step33_4 _).eval = _
      unfold fCheck_step33_4
      exact ev_t (by simp; omega) (ev_g (by simp) (ev_opt (show l[Int.toNat (i : Int)]? = some h by simpa using hh) (ev_f (by simp; omega) (ev_r (by rw [next_i64 i (by omega)]))))))
    (by show (fCheck_step33_4 _).eval = _; exact ev_f (by simp) (ev_r rfl)) 18446744073709551616 (by omega)
  have l2 := loop_idxF (tag := 330010) (f := fun x => (fCheck_step33_10 x).eval) l.length
    (fun i => ((i : Int), (l, (l, ((l.length : Int), ()))))) (.inr ())
    (fun i hi => by
      obtain ⟨h, hh⟩ := get_lt hi
      have hok := ho.all h (List.mem_of_getElem? hh)
      have hin := check_inner ho hh
      show (fCheck_step33_10 _).eval = _
      unfold fCheck_step33_10
      refine ev_t (by simp; omega) (ev_g (by simp) (ev_opt (show l[Int.toNat (i : Int)]? = some h by simpa using hh) (ev_opt (rightHeap_fn hok) (ev_f rfl (ev_g (by simp; omega) (ev_opt (b := .inr (aHeap h ())) ?_ ?_))))))
      · simp only [toNat_cast]
        exact hin
      · refine ev_srF ?_
        exact ev_f rfl (ev_r (by rw [next_i64 i (by omega)])))
    (by show (fCheck_step33_10 _).eval = _; exact ev_f (by simp) (ev_r rfl)) 18446744073709551616 (by omega)
  unfold fCheck_fn fCheck_tree
  exact ev_f (by simp; omega) (ev_opt l1 (ev_srF (ev_opt l2 (ev_srF (ev_r rfl)))))
end Go.Proofs.Ythnijeclidpooaa.X
