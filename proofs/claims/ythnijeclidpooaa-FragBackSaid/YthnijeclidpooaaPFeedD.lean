/- frag: put, in plain terms. Conditions: none. -/
import Derived.Test.YthnijeclidpooaaPFeedC
namespace Go.Proofs.Ythnijeclidpooaa.X
open Go Go.RowKit Go.Proofs.Ythnijeclidpooaa.Abs Go.Proofs.Ythnijeclidpooaa.Bits
set_option linter.unusedVariables false
set_option linter.unnecessarySimpa false
set_option linter.unusedSimpArgs false
set_option maxRecDepth 100000
/-- Of two parts that are not the same, one says what the other can't be with. -/
def clash (o p : TPart) : Bool := (decide (p.at' < pend o) && decide (o.at' < pend p)) || ((o.last && decide (o.at' < p.at')) || (p.last && decide (p.at' < o.at')))
def eqP (o p : TPart) : Bool := decide (o.at' = p.at') && (decide (o.data = p.data) && (o.last == p.last && true))
theorem eqP_iff {o p : TPart} : eqP o p = true ↔ o = p := by
  constructor
  · intro hb
    simp only [eqP, Bool.and_eq_true, decide_eq_true_eq, beq_iff_eq, and_true] at hb
    obtain ⟨e1, e2, e3⟩ := hb
    cases o; cases p
    simp only at e1 e2 e3
    rw [e1, e2, e3]
  · rintro rfl; simp [eqP]
inductive PutR where
  | dup
  | bad
  | at' (i : Nat)
/-- What is found of a part among others. -/
def putL (p : TPart) : Nat → Nat → List TPart → PutR
  | _, a, [] => .at' a
  | i, a, o :: r => if eqP o p = true then .dup else if clash o p then .bad else putL p (i + 1) (if o.at' < p.at' then i + 1 else a) r
theorem modify_same {l : List THeap} {i : Nat} {h : THeap} (hh : l[i]? = some h) : (List.modify l i fun x => THeap.mk x.from' x.to x.proto x.id x.tos x.life x.options h.parts) = l := by
  rw [modify_set hh]
  obtain ⟨hlt, rfl⟩ := List.getElem?_eq_some_iff.1 hh
  exact List.set_getElem_self hlt
abbrev pSt (p : TPart) (ps : List TPart) (l : List THeap) (hi : Nat) (i a : Nat) := ((i : Int), ((a : Int), (hi, ((ps.length : Int), (p.at', (p.data, (p.last, (ps, (hi, (l, ()))))))))))
theorem put_step {p : TPart} {h : THeap} {l : List THeap} {hi : Nat} (hp : RP p) (hh : l[hi]? = some h) (hrp : ∀ (i : Nat) (q : TPart), h.parts[i]? = some q → RP q) (hlen : h.parts.length ≤ 64) {i a : Nat} {o : TPart} (ho : h.parts[i]? = some o) :
    (fPut_step61_3 (pSt p h.parts l hi i a)).eval = some (if eqP o p = true then .inr (.inl (false, ((0 : Int), (l, ())))) else if clash o p then .inr (.inl (false, ((8 : Int), (l, ())))) else .inl (pSt p h.parts l hi (i + 1) (if o.at' < p.at' then i + 1 else a))) := by
  have hil := (List.getElem?_eq_some_iff.1 ho).1
  have hro := hrp i o ho
  have hm := modify_same hh
  have fin : IntKind.wrap IntKind.i64 ((i : Int) + (1 : Int)) = ((i + 1 : Nat) : Int) := next_i64 i (by omega)
  unfold fPut_step61_3
  refine ev_t (by simp <;> omega) (ev_g (by simp <;> omega) (ev_opt (show h.parts[Int.toNat (i : Int)]? = some o by simpa using ho) ?_))
  cases he : eqP o p with
  | true => exact ev_t he (ev_r (by rw [hm]; rfl))
  | false =>
  rw [if_neg (by decide)]
  refine ev_f he ?_
  refine ev_opt (b := (clash o p, (hi, ((h.parts.length : Int), ((i : Int), ((i : Int), ((a : Int), (p.at', (p.data, (p.last, (h.parts, (hi, (l, (o.at', (o.data, (o.last, ())))))))))))))))) ?_ ?_
  · cases k1 : decide (p.at' < pend o) <;> cases k2 : decide (o.at' < pend p) <;> cases k3 : decide (o.at' < p.at') <;> cases k4 : decide (p.at' < o.at') <;> cases hol : o.last <;> cases hpl : p.last <;> ((repeat' (first | (refine ev_g (decide_eq_true rfl) ?_) | (refine ev_opt (end_fn hro) ?_) | (refine ev_opt (end_fn hp) ?_) | (refine ev_t k1 ?_) | (refine ev_f k1 ?_) | (refine ev_t k2 ?_) | (refine ev_f k2 ?_) | (refine ev_t hol ?_) | (refine ev_f hol ?_) | (refine ev_t k3 ?_) | (refine ev_f k3 ?_) | (refine ev_t hpl ?_) | (refine ev_f hpl ?_) | (refine ev_t rfl ?_) | (refine ev_f rfl ?_))); exact ev_r (by simp only [clash, k1, k2, k3, k4, hol, hpl]; rfl))
  · cases hc : clash o p with
    | true => exact ev_t rfl (ev_r (by rw [hm]; rfl))
    | false =>
      refine ev_f rfl (ev_opt (ev_g (by simp) (ev_r rfl)) ?_)
      by_cases c3 : o.at' < p.at'
      · exact ev_t (by simpa using c3) (ev_g (by simp) (ev_r (by rw [if_pos c3]; simp [fin])))
      · exact ev_f (by simpa using c3) (ev_g (by simp) (ev_r (by rw [if_neg c3]; simp [fin])))
end Go.Proofs.Ythnijeclidpooaa.X
