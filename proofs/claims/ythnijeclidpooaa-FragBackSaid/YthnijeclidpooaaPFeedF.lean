/- frag: whole; refused; what Feed comes to. Conditions: none. -/
import Derived.Test.YthnijeclidpooaaPFeedE
namespace Go.Proofs.Ythnijeclidpooaa.X
open Go Go.RowKit Go.Proofs.Ythnijeclidpooaa.Abs Go.Proofs.Ythnijeclidpooaa.Bits
set_option linter.unusedVariables false
set_option linter.unnecessarySimpa false
set_option linter.unusedSimpArgs false
set_option maxRecDepth 100000
/-- The data, if it is all there. -/
def wholeL : List UInt8 → List TPart → Option (List UInt8)
  | acc, [] => some acc
  | acc, o :: r => if o.at' = (acc.length : Int) then wholeL (acc ++ o.data) r else none
abbrev wSt (h : THeap) (i : Nat) (acc : List UInt8) := ((i : Int), (h.parts, ((h.parts.length : Int), aHeap h (acc, ()))))
theorem whole_loop {h : THeap} (hrp : ∀ (i : Nat) (q : TPart), h.parts[i]? = some q → RP q) (hlen : h.parts.length ≤ 64) :
    ∀ (r : List TPart) (i n : Nat) (acc : List UInt8), h.parts.drop i = r → i ≤ h.parts.length → r.length < n → loopO 620003 (fun x => (fWhole_step62_3 x).eval) n (wSt h i acc) =
      some (match wholeL acc r with | none => .inl ([], (false, ())) | some d => .inr (aHeap h (d, ()))) := by
  intro r
  induction r with
  | nil =>
    intro i n acc hd hle hn
    obtain ⟨n, rfl⟩ : ∃ m, n = m + 1 := ⟨n - 1, by simp at hn; omega⟩
    have : i = h.parts.length := by have := congrArg List.length hd; simp at this; omega
    subst this
    refine loopO_out ?_
    show (fWhole_step62_3 _).eval = _
    unfold fWhole_step62_3
    exact ev_f (by simp) (ev_r rfl)
  | cons o r ih =>
    intro i n acc hd hle hn
    obtain ⟨n, rfl⟩ : ∃ m, n = m + 1 := ⟨n - 1, by simp at hn; omega⟩
    have ho : h.parts[i]? = some o := by have := congrArg (·[0]?) hd; simpa using this
    have hd2 : h.parts.drop (i + 1) = r := by rw [← List.drop_drop, hd]; rfl
    have hlt := (List.getElem?_eq_some_iff.1 ho).1
    have hro := hrp i o ho
    have r2 := hro.e
    have r1 := hro.a0
    unfold pend at r2
    unfold wholeL
    by_cases he : o.at' = (acc.length : Int)
    · rw [if_pos he]
      have hs : (fWhole_step62_3 (wSt h i acc)).eval = some (.inl (wSt h (i + 1) (acc ++ o.data))) := by
        unfold fWhole_step62_3
        exact ev_t (by simp; omega) (ev_g (by simp) (ev_opt (show h.parts[Int.toNat (i : Int)]? = some o by simpa using ho) (ev_f (by simpa using he) (ev_g (decide_eq_true (show acc.length + o.data.length ≤ 140737488355328 by omega)) (ev_r (by rw [next_i64 i (by omega)]; rfl))))))
      rw [loopO_in hs]
      exact ih (i + 1) n _ hd2 (by omega) (by simp at hn; omega)
    · rw [if_neg he]
      refine loopO_out ?_
      show (fWhole_step62_3 _).eval = _
      unfold fWhole_step62_3
      exact ev_t (by simp; omega) (ev_g (by simp) (ev_opt (show h.parts[Int.toNat (i : Int)]? = some o by simpa using ho) (ev_t (by simpa using he) (ev_r rfl))))
/-- What whole tells. -/
def wholeR (ps : List TPart) : List UInt8 × Bool := match wholeL [] ps, ps.getLast? with
  | some d, some q => (d, q.last)
  | _, _ => ([], false)
theorem whole_fnF {h : THeap} (hne : h.parts ≠ []) (hrp : ∀ (i : Nat) (q : TPart), h.parts[i]? = some q → RP q) (hlen : h.parts.length ≤ 64) : fWhole_fn (aHeap h ()) = some ((wholeR h.parts).1, ((wholeR h.parts).2, ())) := by
  have hloop := whole_loop hrp hlen h.parts 0 18446744073709551616 [] rfl (Nat.zero_le _) (by omega)
  have hpos : 0 < h.parts.length := by cases hh : h.parts with | nil => exact absurd hh hne | cons => simp
  obtain ⟨q, hq⟩ := get_lt (l := h.parts) (i := h.parts.length - 1) (by omega)
  have hlast : h.parts.getLast? = some q := by rw [List.getLast?_eq_getElem?]; exact hq
  unfold fWhole_fn fWhole_tree
  refine ev_opt hloop ?_
  unfold wholeR
  cases hw : wholeL [] h.parts with
  | none => refine ev_slF ?_; exact ev_r rfl
  | some d =>
    refine ev_srF ?_
    have e1 : IntKind.wrap IntKind.i64 ((h.parts.length : Int) - (1 : Int)) = ((h.parts.length - 1 : Nat) : Int) := by rw [wrap_mid _ (by omega)]; omega
    refine ev_g (by show decide ((0 : Int) ≤ IntKind.wrap IntKind.i64 ((h.parts.length : Int) - (1 : Int))) = true; rw [e1]; simp) (ev_opt (b := q) ?_ (ev_r ?_))
    · show h.parts[Int.toNat (IntKind.wrap IntKind.i64 ((h.parts.length : Int) - (1 : Int)))]? = some q
      rw [e1, toNat_cast]; exact hq
    · rw [hlast]
/-- Which packets can't be parts. -/
theorem refused_fnF (p : TPacket) (hs : 0 ≤ p.start ∧ p.start ≤ 8191) (hd : p.data.length ≤ 65515) : ∃ c : Int, fRefused_fn (wArg p) = some (c, ()) ∧ (c = 0 → RP ⟨8 * p.start, p.data, !p.more⟩) ∧ (RP ⟨8 * p.start, p.data, !p.more⟩ → c = 0) := by
  have w1 : IntKind.wrap IntKind.i64 ((8 : Int) * p.start) = 8 * p.start := wrap_mid _ (by omega)
  have w2 : IntKind.wrap IntKind.i64 (8 * p.start + (p.data.length : Int)) = 8 * p.start + (p.data.length : Int) := wrap_mid _ (by omega)
  unfold fRefused_fn fRefused_tree
  by_cases h1 : (65515 : Int) < 8 * p.start + (p.data.length : Int)
  · refine ⟨2, ev_t (by rw [w1, w2]; simpa using h1) (ev_r rfl), fun e => (by cases e), fun h => ?_⟩
    have := h.e
    unfold pend at this
    simp only at this
    omega
  have hf : ∀ {T : Tr (Int × Unit)} {r : Option (Int × Unit)}, T.eval = r → (Tr.ite (decide ((65515 : Int) < IntKind.wrap IntKind.i64 (IntKind.wrap IntKind.i64 ((8 : Int) * p.start) + (p.data.length : Int)))) (.ret ((2 : Int), ())) T).eval = r := fun h => ev_f (by rw [w1, w2]; simpa using h1) h
  by_cases h2 : p.data = []
  · exact ⟨4, hf (ev_t (by simpa using h2) (ev_r rfl)), fun e => (by cases e), fun h => absurd h2 h.ne⟩
  have ok : (p.more = true → p.data.length % 8 = 0) → RP ⟨8 * p.start, p.data, !p.more⟩ := fun h => ⟨h2, by show 0 ≤ 8 * p.start; omega, by show 8 * p.start % 8 = 0; omega, by unfold pend; show 8 * p.start + (p.data.length : Int) ≤ 65515; omega, by
    cases hm : p.more with
    | false => exact .inl rfl
    | true => exact .inr (h hm)⟩
  cases hm : p.more with
  | false => exact ⟨0, hf (ev_f (by simpa using h2) (ev_f hm (ev_r rfl))), fun _ => by rw [← hm]; exact ok (fun e => by rw [hm] at e; cases e), fun _ => rfl⟩
  | true =>
    have ht : Int.tmod (p.data.length : Int) (8 : Int) = ((p.data.length % 8 : Nat) : Int) := by rw [Int.tmod_eq_emod_of_nonneg (by omega)]; omega
    by_cases h8 : p.data.length % 8 = 0
    · exact ⟨0, hf (ev_f (by simpa using h2) (ev_t hm (ev_g rfl (ev_f (by rw [ht, h8]; rfl) (ev_r rfl))))), fun _ => by rw [← hm]; exact ok (fun _ => h8), fun _ => rfl⟩
    · refine ⟨4, hf (ev_f (by simpa using h2) (ev_t hm (ev_g rfl (ev_t (by rw [ht]; simp; omega) (ev_r rfl))))), fun e => (by cases e), fun h => ?_⟩
      rcases h.l8 with e | e
      · cases e
      · exact absurd e h8
end Go.Proofs.Ythnijeclidpooaa.X
