/- frag: put as a whole; whole. Conditions: none. -/
import Derived.Test.YthnijeclidpooaaPFeedD
namespace Go.Proofs.Ythnijeclidpooaa.X
open Go Go.RowKit Go.Proofs.Ythnijeclidpooaa.Abs Go.Proofs.Ythnijeclidpooaa.Bits
set_option linter.unusedVariables false
set_option linter.unnecessarySimpa false
set_option linter.unusedSimpArgs false
set_option maxRecDepth 100000
abbrev PutE := (Bool × (Int × (List THeap × Unit))) ⊕ (Int × (Nat × (Int × (List UInt8 × (Bool × (List THeap × Unit))))))
def putE (p : TPart) (l : List THeap) (hi : Nat) : PutR → PutE
  | .dup => .inl (false, ((0 : Int), (l, ())))
  | .bad => .inl (false, ((8 : Int), (l, ())))
  | .at' a => .inr ((a : Int), (hi, (p.at', (p.data, (p.last, (l, ()))))))
theorem put_loop {p : TPart} {h : THeap} {l : List THeap} {hi : Nat} (hp : RP p) (hh : l[hi]? = some h) (hrp : ∀ (i : Nat) (q : TPart), h.parts[i]? = some q → RP q) (hlen : h.parts.length ≤ 64) :
    ∀ (r : List TPart) (i a n : Nat), h.parts.drop i = r → i ≤ h.parts.length → r.length < n → loopO 610003 (fun x => (fPut_step61_3 x).eval) n (pSt p h.parts l hi i a) = some (putE p l hi (putL p i a r)) := by
  intro r
  induction r with
  | nil =>
    intro i a n hd hle hn
    obtain ⟨n, rfl⟩ : ∃ m, n = m + 1 := ⟨n - 1, by simp at hn; omega⟩
    have : i = h.parts.length := by have := congrArg List.length hd; simp at this; omega
    subst this
    refine loopO_out ?_
    show (fPut_step61_3 _).eval = _
    unfold fPut_step61_3
    exact ev_f (by simp) (ev_r (by rw [modify_same hh]; rfl))
  | cons o r ih =>
    intro i a n hd hle hn
    obtain ⟨n, rfl⟩ : ∃ m, n = m + 1 := ⟨n - 1, by simp at hn; omega⟩
    have ho : h.parts[i]? = some o := by have := congrArg (·[0]?) hd; simpa using this
    have hd2 : h.parts.drop (i + 1) = r := by rw [← List.drop_drop, hd]; rfl
    have hlt := (List.getElem?_eq_some_iff.1 ho).1
    have hs := put_step (a := a) hp hh hrp hlen ho
    unfold putL
    cases he : eqP o p with
    | true =>
      rw [he, if_pos rfl] at hs
      rw [loopO_out hs]; rfl
    | false =>
      rw [he, if_neg (by decide)] at hs
      cases hc : clash o p with
      | true =>
        rw [hc, if_pos rfl] at hs
        rw [loopO_out hs]; rfl
      | false =>
        rw [hc, if_neg (by decide)] at hs
        rw [loopO_in hs]
        exact ih (i + 1) _ n hd2 (by omega) (by simp at hn; omega)
theorem putL_le (p : TPart) : ∀ (r : List TPart) (i a : Nat), a ≤ i → ∀ b, putL p i a r = .at' b → a ≤ b ∧ b ≤ i + r.length
  | [], i, a, ha, b, h => by unfold putL at h; cases h; exact ⟨Nat.le_refl _, by simpa using ha⟩
  | o :: r, i, a, ha, b, h => by
    unfold putL at h
    split at h
    · cases h
    · split at h
      · cases h
      · split at h
        · obtain ⟨h1, h2⟩ := putL_le p r (i + 1) (i + 1) (Nat.le_refl _) b h
          simp only [List.length_cons]; omega
        · obtain ⟨h1, h2⟩ := putL_le p r (i + 1) a (by omega) b h
          simp only [List.length_cons]; omega
/-- What put comes to. -/
def putRes (p : TPart) (l : List THeap) (hi : Nat) (h : THeap) : Bool × (Int × (List THeap × Unit)) :=
  match putL p 0 0 h.parts with
  | .dup => (false, ((0 : Int), (l, ())))
  | .bad => (false, ((8 : Int), (l, ())))
  | .at' a => if h.parts.length = 64 then (false, ((6 : Int), (l, ()))) else (true, ((0 : Int), (l.set hi ⟨h.from', h.to, h.proto, h.id, h.tos, h.life, h.options, h.parts.take a ++ p :: h.parts.drop a⟩, ())))
theorem put_fnF {p : TPart} {h : THeap} {l : List THeap} {hi : Nat} (hp : RP p) (hh : l[hi]? = some h) (hrp : ∀ (i : Nat) (q : TPart), h.parts[i]? = some q → RP q) (hlen : h.parts.length ≤ 64) :
    fPut_fn (hi, (p.at', (p.data, (p.last, (l, ()))))) = some (putRes p l hi h) := by
  have hloop := put_loop hp hh hrp hlen h.parts 0 0 18446744073709551616 rfl (Nat.zero_le _) (by omega)
  unfold fPut_fn fPut_tree
  refine ev_opt hh (ev_g (by simp) (ev_opt hloop ?_))
  unfold putRes
  cases hq : putL p 0 0 h.parts with
  | dup => refine ev_slF ?_; exact ev_r rfl
  | bad => refine ev_slF ?_; exact ev_r rfl
  | at' a =>
    refine ev_srF ?_
    have hle := (putL_le p h.parts 0 0 (Nat.le_refl _) a hq).2
    rw [Nat.zero_add] at hle
    have hm := modify_same hh
    refine ev_opt hh ?_
    by_cases h64 : h.parts.length = 64
    · exact ev_t (by simp; omega) (ev_r (by show (false, ((6 : Int), (List.modify l hi _, ()))) = (if h.parts.length = 64 then _ else _); rw [if_pos h64, hm]))
    · refine ev_f (by simp; omega) ?_
      show _ = some (if h.parts.length = 64 then _ else _)
      rw [if_neg h64]
      simp only [hm]
      refine ev_opt hh (ev_g (by simp <;> omega) (ev_g (by simp) (ev_opt hh (ev_r ?_))))
      rw [toNat_cast]
end Go.Proofs.Ythnijeclidpooaa.X
