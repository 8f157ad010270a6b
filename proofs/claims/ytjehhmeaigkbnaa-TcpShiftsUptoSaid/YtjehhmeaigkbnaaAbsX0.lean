/- More operations of an abstract walk: arrays seen as slices, prefixes of rows, clear, make, bytes and strings, what is nil. For whatever program. Conditions: none. -/
import Derived.Test.YtjehhmeaigkbnaaAbsUs
import Derived.Deep.AppendSrc
import Derived.Deep.Upon
import Derived.Laws.MakeOwn
import Derived.Lib.SliceRun
namespace Go.Proofs.Ytjehhmeaigkbnaa.Abs
open Go Go.RowKit
set_option linter.unusedVariables false
set_option linter.unusedSimpArgs false

/-- A prefix, seen as a part. -/
def unpreC : C → C
  | .pre k ver sz len => .sub k ver sz 0 len
  | c => c
def unpre : V → V
  | .one c => .one (unpreC c)
  | v => v
theorem unpre_keys (v : V) : (unpre v).keys = v.keys := by
  cases v with
  | one c => cases c <;> rfl
  | _ => rfl

section
variable {P : Program} {w0 : World} {U0 : Nat → Prop} {X : Nat → Nat → Prop} {β0 β : Nat → Option Place} {U : Nat → Prop} {s : St} {a : Act} {w : World}

theorem SimB.rowAt (h : SimB w0 U0 X β0 β U s a w) {k : Nat} {v0 : Value} {ver0 : Nat} (hk : β k = some (.row v0 ver0)) : ∃ n : Nat, v0 = .slice none 0 0 ∨ ∃ g cap, v0 = .slice (some ⟨g, 0, none⟩) n cap ∧ n ≤ cap := by
  obtain ⟨b, hb⟩ := Option.isSome_iff_exists.1 (h.dom k _ hk)
  obtain ⟨p, hp, hr⟩ := h.mem k b hb
  rw [hk] at hp; cases hp
  have key : ∀ {ver e sz ap fr rows}, RepB0 w β U w0.heap.size (.row v0 ver0) (.row ver e sz ap fr rows) → ∃ n : Nat, v0 = .slice none 0 0 ∨ ∃ g cap, v0 = .slice (some ⟨g, 0, none⟩) n cap ∧ n ≤ cap := by
    intro ver e sz ap fr rows hr
    obtain ⟨_, _, ⟨e1, _⟩ | ⟨g, cap, cur, fz, e1, _, h3, _⟩⟩ := hr
    · exact ⟨0, .inl e1⟩
    · exact ⟨rows.length, .inr ⟨g, cap, e1, h3⟩⟩
  cases b with
  | cells => exact hr.elim
  | row => exact key hr
  | rowT => exact key hr

theorem SimB.preSub (h : SimB w0 U0 X β0 β U s a w) {v : Value} {k ver sz len : Nat} (hc : RepC w β U w0.heap.size v (.pre k ver sz len)) : RepC w β U w0.heap.size v (.sub k ver sz 0 len) := by
  obtain ⟨ao, cap, v0, ver0, h1, h2, h3, h4, h5, h6⟩ := hc
  refine ⟨ao, cap, v0, ver0, h1, h2, h3, h4, h5, fun hv hpos => ?_⟩
  obtain ⟨n, hv0, hln⟩ := h6 hv
  obtain ⟨m, hm | ⟨g, cap', hm, hle⟩⟩ := h.rowAt h4
  · rw [hm] at hv0; cases hv0; omega
  · rw [hm] at hv0; cases hv0
    exact ⟨g, _, _, hm, by simp⟩
theorem SimB.evalUnpre (h : SimB w0 U0 X β0 β U s a w) {ρ : Operand → V} (hρ : ∀ y, RepV w β U w0.heap.size (a.eval y) (ρ y)) : ∀ y, RepV w β U w0.heap.size (a.eval y) (unpre (ρ y)) := by
  intro y
  have hy := hρ y
  generalize ρ y = v at hy ⊢
  generalize a.eval y = u at hy
  cases hy with
  | one v c hc =>
    refine .one _ _ ?_
    cases c with
    | pre k ver sz len => exact h.preSub hc
    | _ => exact hc
  | agg vs cs hl h1 hr => exact .agg vs cs hl h1 hr
  | tup vs xs hl hr => exact .tup vs xs hl hr

theorem eff_sound' (h : SimB w0 U0 X β0 β U s a w) {ρ : Operand → V} (hρ : ∀ y, RepV w β U w0.heap.size (a.eval y) (ρ y)) (o : Oper) (hd : ∀ d, o.dst = some d → d < s.n) {E : Eff} (he : eff P o.dst o.op ρ s.blk = some E) :
    ∃ v w', ((execOp a.eval o).run P w = .ok (.value v) w' ∨ ((execOp a.eval o).run P w = .ok .skip w' ∧ v = undef)) ∧ Sim w0 U0 X β0 (s.app o.dst E) (a.put o.dst v) w' := by
  unfold eff at he
  split at he
  · rename_i x hx
    obtain rfl := Option.some.inj he
    obtain ⟨v, h1, h2⟩ := effQ_sound (P := P) hρ o hx
    exact ⟨v, w, .inl h1, _, _, h.put h2 hd⟩
  · split at he
    · rename_i x hx
      obtain rfl := Option.some.inj he
      obtain ⟨v, h1, h2⟩ := effR_sound h hρ o hx
      exact ⟨v, w, .inl h1, _, _, h.put h2 hd⟩
    · exact effW_sound h hρ o hd he
end

/-- The last way: with prefixes seen as parts. -/
def effP (P : Program) (cod : TypeId → Nat) (dst : Option Nat) (op : Op) (ρ : Operand → V) (m : Nat → Option Blk) : Option (Tr Out) :=
  match effX P cod dst op (fun y => unpre (ρ y)) m with
  | some T => some T
  | none => match eff P dst op (fun y => unpre (ρ y)) m with
    | some E => some (.ret E.out)
    | none => none

theorem effKeys_same {dst : Option Nat} {op : Op} {ρ ρ' : Operand → V} (h : ∀ x, (ρ x).keys = (ρ' x).keys) : effKeys dst op ρ = effKeys dst op ρ' := by
  have hm : ∀ l : List Operand, (l.map ρ).flatMap V.keys = (l.map ρ').flatMap V.keys := by
    intro l
    induction l with
    | nil => rfl
    | cons x l ih => simp only [List.map_cons, List.flatMap_cons, h x, ih]
  unfold effKeys
  split <;> simp only [h, hm]

theorem effKeys_congrK {dst : Option Nat} {op : Op} {ρ ρ' : Operand → V} (h : ∀ x ∈ op.operands, (ρ x).keys = (ρ' x).keys) : effKeys dst op ρ = effKeys dst op ρ' := by
  have hm : ∀ l : List Operand, (∀ x ∈ l, (ρ x).keys = (ρ' x).keys) → (l.map ρ).flatMap V.keys = (l.map ρ').flatMap V.keys := by
    intro l
    induction l with
    | nil => intro _; rfl
    | cons x l ih => intro hl; simp only [List.map_cons, List.flatMap_cons, hl x (by simp), ih (fun y hy => hl y (by simp [hy]))]
  cases op <;> simp only [Op.operands] at h
  case load t a => simp only [effKeys, h a (by simp)]
  case slice t a lo hi mx => simp only [effKeys, h a (by cases lo <;> cases hi <;> cases mx <;> simp)]
  case convert t t' a => simp only [effKeys, h a (by simp)]
  case store t a b => simp only [effKeys, h a (by simp)]
  case call c =>
    obtain ⟨cal, args, ats⟩ := c
    have e := hm args.toList fun x hx => h x (by simp [Call.operands]; exact Or.inr (by simpa using hx))
    cases cal with
    | builtin b => cases b <;> simp only [effKeys, e]
    | value f => rfl
    | invoke r m => rfl
  all_goals rfl

theorem effP_sem {P : Program} {cod : TypeId → Nat} {o : Oper} {s : St} {ρ : Operand → V} {m : Nat → Option Blk} (hρ : ∀ x ∈ o.op.operands, s.eval x = ρ x) (hm : ∀ k ∈ effKeys o.dst o.op ρ, s.blk k = m k) (hd : ∀ d, o.dst = some d → d < s.n) {T : Tr Out} {E : Out} (h : effP P cod o.dst o.op ρ m = some T) (hT : T.eval = some E) :
    SemStep P o s E := by
  have main : ∀ {E0 : Eff} {E : Out}, eff P o.dst o.op (fun y => unpre (ρ y)) m = some E0 → OutWk E0 E → SemStep P o s E := by
    intro E0 E he hw
    have he' : eff P o.dst o.op (fun y => unpre (s.eval y)) s.blk = some E0 := by
      rw [← he]
      refine (eff_congr (fun x hx => by rw [hρ x hx]) (fun k hk => ?_))
      refine hm k ?_
      rw [← effKeys_same (ρ := fun y => unpre (ρ y)) (fun x => unpre_keys _)]
      have : effKeys o.dst o.op (fun y => unpre (s.eval y)) = effKeys o.dst o.op (fun y => unpre (ρ y)) := effKeys_congrK fun x hx => by rw [hρ x hx]
      rw [← this]; exact hk
    obtain ⟨hv, ⟨h1, h2⟩ | ⟨k, b, b', h1, h2, h3⟩⟩ := hw
    · intro w0 U0 X β0 β U a w hs
      obtain ⟨u, w', q1, q2⟩ := eff_sound' hs (hs.evalUnpre hs.eval) o hd he'
      refine ⟨u, w', q1, ?_⟩
      rw [St.app_out] at q2
      have : E0.out = E := by
        obtain ⟨ev, em⟩ := E0; obtain ⟨v', m'⟩ := E
        simp only at h1 h2 hv; subst h1; subst h2; subst hv; rfl
      rw [← this]; exact q2
    · intro w0 U0 X β0 β U a w hs
      obtain ⟨u, w', q1, q2⟩ := eff_sound' hs (hs.evalUnpre hs.eval) o hd he'
      refine ⟨u, w', q1, ?_⟩
      rw [St.app_out] at q2
      obtain ⟨ev, em⟩ := E0; obtain ⟨v', m'⟩ := E
      simp only at h1 h2 hv; subst h1; subst h2; subst hv
      obtain ⟨β2, U2, q3⟩ := q2
      refine ⟨β2, U2, q3.blkWk (by cases o.dst <;> rfl) (by cases o.dst <;> rfl) fun k' => ?_⟩
      have e1 : ∀ B : Blk, (s.out o.dst ⟨v', [(k, B)]⟩).blk k' = if k = k' then some B else s.blk k' := by
        intro B
        show (St.put (s.upd [(k, B)]) o.dst v').blk k' = _
        rw [St.blk_put]
        show look k' ([(k, B)] ++ s.mem) = _
        rw [List.singleton_append, look_cons]; rfl
      show OptWk ((s.out o.dst ⟨v', [(k, b)]⟩).blk k') _
      rw [e1, e1]
      split
      · exact h3
      · cases s.blk k' with
        | none => trivial
        | some B => exact BlkWk.rfl B
  unfold effP at h
  split at h
  · rename_i T' hX
    cases h
    obtain ⟨E0, he, hw⟩ := effX_out hX hT
    exact main he hw
  · split at h
    · rename_i E0 he
      cases h; cases hT
      refine main he ⟨rfl, ?_⟩
      obtain ⟨v, mm⟩ := E0
      cases mm with
      | none => exact .inl ⟨rfl, rfl⟩
      | some kb => obtain ⟨k, b⟩ := kb; exact .inr ⟨k, b, b, rfl, rfl, BlkWk.rfl b⟩
    · cases h
end Go.Proofs.Ytjehhmeaigkbnaa.Abs
