/- prefix: Put and Remove, told with rows of the call's own. Conditions: none. -/
import Derived.Test.YthnijeclidpooaaPfxK
namespace Go.Proofs.Ythnijeclidpooaa.X
open Go Go.RowKit Go.Proofs.Ythnijeclidpooaa.Abs
set_option linter.unusedVariables false
set_option linter.unusedSimpArgs false
/-- A call that is handed data alone, and tells a row of its own beside a number. -/
theorem acall_row {f : FuncId} {ys : List V} {ns : List TNode} {err : Int}
    (h : ∀ (w : World) (U : Nat → Prop) (β : Nat → Option Abs.Place) (us : Array Value), us.size = ys.length → (∀ t, RepV w β U w.heap.size (us.getD t undef) ((Abs.look t (argsEnv 0 ys)).getD (.one .bad))) → Glob U w → (∀ b, U b → b < w.heap.size) →
      Calls Try.prog f us w fun e w' => ∃ v, e = .returned (.tuple #[.agg #[v], .int .i64 err]) ∧ NewNodes w w' v ns ∧ Below w.heap.size w w') :
    ACall Try.prog f ys [] fun r' m'' => r' = .tup [.agg [.own 2000000 0 ns.length], vi .i64 err] ∧ m'' = [(2000000, .rowT 0 66 9 true true ns)] := by
  intro w U0 X β0 us hs
  refine (h w U0 β0 us hs.n hs.env hs.glob hs.stab).mono ?_
  rintro e w' ⟨v, rfl, hnew, hb⟩
  have hno : ∀ k, β0 k = none := fun k => by
    cases hk : β0 k with
    | none => rfl
    | some p => have := hs.dom k p hk; cases this
  refine ⟨_, _, _, rfl, ⟨rfl, rfl⟩, ?_⟩
  have hv1 := new_one hnew
  have h0 : SimB w U0 X β0 β0 U0 ⟨1, [(0, .one .bad)], []⟩ ⟨#[.tuple #[.agg #[v], .int .i64 err]], []⟩ w := { hs with
    n := rfl, small := by simp, defers := rfl
    hist := fun k p hp _ => by rw [hno k] at hp; cases hp
    env := fun t => by
      show RepV w β0 U0 w.heap.size _ ((Abs.look t [(0, V.one .bad)]).getD (.one .bad))
      cases t with
      | zero => exact .bad _
      | succ t => simp [Abs.look]; exact .bad _
    mem := fun k b e => by cases e
    dom := fun k p hp => by rw [hno k] at hp; cases hp
    inj := fun k k' p p' b b' x j _ hp => by rw [hno k] at hp; cases hp
    may := fun k p b x j hp => by rw [hno k] at hp; cases hp }
  obtain ⟨h1, _⟩ := h0.newKeyR (k := 2000000) (p := .row v 0) (blk := .rowT 0 66 9 true true ns) (w' := w') (Nat.le_refl _) rfl hb.os hb.tape hb.output hb.size hb.block (fun b hb2 => hnew.lt b hb2) (new_row hnew)
  refine ⟨_, U0, { h1 with env := fun t => ?_ }⟩
  cases t with
  | zero =>
    refine rep_pair ?_ hv1
    have hsh := hnew.form
    obtain ⟨ao, cap, rfl⟩ := hsh
    rcases hnew.own.2 with ⟨e1, e2⟩ | ⟨g, cap', cur, e1, q2, q3, q4, _⟩
    · have hns : ns = [] := List.eq_nil_of_length_eq_zero e2
      subst hns
      cases e1
      exact ⟨none, 0, _, 0, rfl, Nat.le_refl _, fun _ => ⟨rfl, rfl⟩, fun x hx => (by cases hx), upd_self _ _ _, Nat.le_refl _, fun _ => rfl⟩
    · cases e1
      exact ⟨some ⟨g, 0, none⟩, cap, _, 0, rfl, q4, fun e => (by cases e), fun x hx => ⟨g, (Option.some.inj hx).symm⟩, upd_self _ _ _, Nat.le_refl _, fun _ => rfl⟩
  | succ t =>
    show RepV _ _ U0 w.heap.size _ ((Abs.look (t + 1) [(0, _)]).getD (.one .bad))
    simp [Abs.look]; exact .bad _
def pfPutO : PF Try.prog where
  f := 24
  own := []
  tr := putTrO
  ok := by
    intro ys m T r m' h hT
    unfold putTrO at h
    split at h
    case h_2 => cases h
    rename_i t a L x
    obtain ⟨ns, hns, rfl⟩ := Option.map_eq_some_iff.1 h
    obtain ⟨hn, hT⟩ := Tr.eval_grd hT
    simp only [okA, okL, Bool.and_eq_true, decide_eq_true_eq] at hn
    cases hT
    refine ⟨_, [], WkVs_rfl _, trivial, acall_row fun w U β us hsz henv hg hst => ?_⟩
    obtain ⟨v, h0, k1, k2⟩ := arg_trie hns (show RepV w β U w.heap.size (us.getD 0 undef) t from henv 0) hst
    have h1 := arg_net (show RepV w β U w.heap.size (us.getD 1 undef) (.agg [.d (.i .u32 a), .d (.i .i64 L)]) from henv 1)
    have h2 := (show RepV w β U w.heap.size (us.getD 2 undef) (vi .i64 x) from henv 2).int
    rw [us3' hsz h0 h1 h2]
    exact Put_walk ns a L x w v k1 k2 hn.1 hn.2
def pfRemO : PF Try.prog where
  f := 26
  own := []
  tr := remTrO
  ok := by
    intro ys m T r m' h hT
    unfold remTrO at h
    split at h
    case h_2 => cases h
    rename_i t a L
    obtain ⟨ns, hns, rfl⟩ := Option.map_eq_some_iff.1 h
    obtain ⟨hn, hT⟩ := Tr.eval_grd hT
    simp only [okA, okL, Bool.and_eq_true, decide_eq_true_eq] at hn
    cases hT
    refine ⟨_, [], WkVs_rfl _, trivial, acall_row fun w U β us hsz henv hg hst => ?_⟩
    obtain ⟨v, h0, k1, k2⟩ := arg_trie hns (show RepV w β U w.heap.size (us.getD 0 undef) t from henv 0) hst
    have h1 := arg_net (show RepV w β U w.heap.size (us.getD 1 undef) (.agg [.d (.i .u32 a), .d (.i .i64 L)]) from henv 1)
    rw [us2' hsz h0 h1]
    exact Rem_walk ns a L w v k1 k2 hn.1 hn.2
end Go.Proofs.Ythnijeclidpooaa.X
