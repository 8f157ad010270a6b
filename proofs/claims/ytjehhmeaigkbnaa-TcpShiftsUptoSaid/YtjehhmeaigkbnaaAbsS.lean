/- An abstract walk: an operation's step looks only at its operands and at some blocks. For whatever program. -/
import Derived.Test.YtjehhmeaigkbnaaAbsI
namespace Go.Proofs.Ytjehhmeaigkbnaa.Abs
open Go Go.RowKit
set_option linter.unusedVariables false
set_option linter.unusedSimpArgs false

def C.keys : C → List Nat
  | .own k _ _ | .sub k _ _ _ _ | .ptr k _ | .pr k _ _ _ _ | .asl k _ _ | .pre k _ _ _ => [k]
  | .clp _ ks => ks.map (·.1)
  | _ => []
def V.keys : V → List Nat
  | .one c => c.keys
  | _ => []

/-- The blocks that an operation looks at. -/
def effKeys (dst : Option Nat) (op : Op) (ρ : Operand → V) : List Nat :=
  match op with
  | .load _ x => (ρ x).keys
  | .slice _ x _ _ _ => (ρ x).keys
  | .convert _ _ x => (ρ x).keys ++ dst.toList
  | .alloc _ | .box _ _ | .buildSlice _ _ _ | .makeSlice _ _ _ => dst.toList
  | .store _ x _ => (ρ x).keys
  | .call { callee := .builtin .append, args, .. } => (args.toList.map ρ).flatMap V.keys ++ dst.toList
  | .call { callee := .builtin .clear, args, .. } => (args.toList.map ρ).flatMap V.keys
  | _ => []

section
variable {P : Program} {ρ ρ' : Operand → V} {m m' : Nat → Option Blk} {op : Op} {dst : Option Nat}

theorem effQ_congr (h : ∀ x ∈ op.operands, ρ x = ρ' x) : effQ P op ρ = effQ P op ρ' := by
  have pairs : ∀ ps : Array (Nat × Operand), (∀ x ∈ (ps.toList.map (·.2)).toArray, ρ x = ρ' x) →
      (ps.toList.map fun p => (p.1, ρ p.2)) = (ps.toList.map fun p => (p.1, ρ' p.2)) := fun ps hp =>
    List.map_congr_left fun p hm => by rw [hp p.2 (by simp; exact ⟨p.1, by simpa using hm⟩)]
  cases op <;> simp only [Op.operands] at h
  case build t ps => simp only [effQ]; rw [pairs ps h]
  case buildSlice t n ps => rfl
  case makeFunc fn first captured =>
    have e : captured.toList.map ρ = captured.toList.map ρ' := List.map_congr_left fun x hx => h x (by simp; exact Or.inr (by simpa using hx))
    unfold effQ; cases fn <;> simp only [e]
  case slice t x lo hi mx => cases lo <;> cases hi <;> cases mx <;> simp_all [effQ]
  case call c =>
    obtain ⟨cal, args, ats⟩ := c
    have e : ∀ x ∈ args.toList, ρ x = ρ' x := fun x hx => h x (by simp [Call.operands]; exact Or.inr (by simpa using hx))
    have e2 : args.toList.map ρ = args.toList.map ρ' := List.map_congr_left e
    cases cal with
    | builtin b =>
      cases b <;> simp only [effQ, e2]
      generalize args.toList = l at e
      generalize ats.toList = tl
      rcases tl with _ | ⟨t, _ | ⟨t2, r2⟩⟩ <;> rcases l with _ | ⟨x, _ | ⟨y, r⟩⟩ <;> first | rfl | (simp only [e x (by simp)])
    | value f => rfl
    | invoke r m => rfl
  all_goals (first | rfl | (simp_all [effQ]; done))

theorem rowsOf_congr {x : V} (h : ∀ k ∈ x.keys, m k = m' k) : rowsOf m x = rowsOf m' x := by
  unfold rowsOf
  split <;> simp only [V.keys, C.keys, List.mem_singleton, forall_eq] at h <;> simp only [h]

theorem effR_congr (h : ∀ x ∈ op.operands, ρ x = ρ' x) (hm : ∀ k ∈ effKeys dst op ρ, m k = m' k) : effR P op ρ m = effR P op ρ' m' := by
  cases op <;> simp only [Op.operands] at h
  case load t a =>
    have e := h a (by simp)
    simp only [effKeys] at hm
    unfold effR
    simp only [← e]
    cases hx : ρ a with
    | one c => cases c <;> (rw [hx] at hm; try simp only [V.keys, C.keys, List.mem_singleton, forall_eq] at hm) <;> first | rfl | simp only [hm]
    | _ => rfl
  case convert s d x =>
    have e := h x (by simp)
    have hm2 : ∀ k ∈ (ρ x).keys, m k = m' k := fun k hk => hm k (List.mem_append_left _ hk)
    unfold effR
    have e3 := rowsOf_congr hm2
    simp only [← e]
    cases hx : ρ x with
    | one c => rw [hx] at e3; cases c <;> first | rfl | simp only [e3]
    | _ => rfl
  all_goals rfl

theorem effW_congr (h : ∀ x ∈ op.operands, ρ x = ρ' x) (hm : ∀ k ∈ effKeys dst op ρ, m k = m' k) : effW P dst op ρ m = effW P dst op ρ' m' := by
  have pairs : ∀ ps : Array (Nat × Operand), (∀ x ∈ (ps.toList.map (·.2)).toArray, ρ x = ρ' x) →
      (ps.toList.map fun p => (p.1, ρ p.2)) = (ps.toList.map fun p => (p.1, ρ' p.2)) := fun ps hp =>
    List.map_congr_left fun p hm => by rw [hp p.2 (by simp; exact ⟨p.1, by simpa using hm⟩)]
  cases dst with
  | none =>
    cases op <;> simp only [Op.operands] at h
    case store t a x =>
      have e := h a (by simp)
      have e2 := h x (by simp)
      simp only [effKeys] at hm
      unfold effW
      simp only [← e, ← e2]
      cases hx : ρ a with
      | one c =>
        cases c <;> (rw [hx] at hm; try simp only [V.keys, C.keys, List.mem_singleton, forall_eq] at hm) <;> first | rfl | simp only [hm]
      | _ => rfl
    all_goals rfl
  | some d =>
    cases op <;> simp only [Op.operands] at h
    case alloc t => simp only [effKeys, Option.toList_some, List.mem_singleton, forall_eq] at hm; unfold effW; simp only [hm]
    case box t x => simp only [effKeys, Option.toList_some, List.mem_singleton, forall_eq] at hm; unfold effW; simp only [hm, h x (by simp)]
    case buildSlice t n ps => simp only [effKeys, Option.toList_some, List.mem_singleton, forall_eq] at hm; unfold effW; simp only [hm, pairs ps h]
    case convert s t x =>
      have hd : m d = m' d := hm d (List.mem_append_right _ (by simp))
      unfold effW; simp only [hd, h x (by simp)]
    case call c =>
      obtain ⟨cal, args, ats⟩ := c
      have e : ∀ x ∈ args.toList, ρ x = ρ' x := fun x hx => h x (by simp [Call.operands]; exact Or.inr (by simpa using hx))
      cases cal with
      | builtin b =>
        cases b
        case append =>
          simp only [effKeys] at hm
          have hd : m d = m' d := hm d (List.mem_append_right _ (by simp))
          have hk : ∀ x ∈ args.toList, ∀ k ∈ (ρ x).keys, m k = m' k := fun x hx k hk => hm k (List.mem_append_left _ (List.mem_flatMap.2 ⟨ρ x, List.mem_map.2 ⟨x, hx, rfl⟩, hk⟩))
          unfold effW
          simp only
          generalize args.toList = l at e hk
          generalize ats.toList = tl
          rcases l with _ | ⟨x, _ | ⟨y, _ | ⟨z, r⟩⟩⟩ <;> rcases tl with _ | ⟨t, _ | ⟨t', _ | ⟨t2, r2⟩⟩⟩ <;> try rfl
          have e1 := e x (by simp)
          have e2 := e y (by simp)
          have k1 := hk x (by simp)
          have k2 := hk y (by simp)
          simp only [← e1, ← e2, rowsOf_congr k2, hd]
          cases hx : ρ x with
          | one c =>
            cases c <;> (rw [hx] at k1; try simp only [V.keys, C.keys, List.mem_singleton, forall_eq] at k1) <;> first | rfl | simp only [k1]
          | _ => rfl
        all_goals rfl
      | value f => rfl
      | invoke r m => rfl
    all_goals rfl

theorem eff_congr (h : ∀ x ∈ op.operands, ρ x = ρ' x) (hm : ∀ k ∈ effKeys dst op ρ, m k = m' k) : eff P dst op ρ m = eff P dst op ρ' m' := by
  unfold eff
  rw [effQ_congr h, effR_congr h hm, effW_congr h hm]

theorem effKeys_congr (h : ∀ x ∈ op.operands, ρ x = ρ' x) : effKeys dst op ρ = effKeys dst op ρ' := by
  cases op <;> simp only [Op.operands] at h
  case call c =>
    obtain ⟨cal, args, ats⟩ := c
    have e : ∀ x ∈ args.toList, ρ x = ρ' x := fun x hx => h x (by simp [Call.operands]; exact Or.inr (by simpa using hx))
    have e2 : args.toList.map ρ = args.toList.map ρ' := List.map_congr_left e
    cases cal with
    | builtin b => cases b <;> simp only [effKeys, e2]
    | value f => rfl
    | invoke r m => rfl
  all_goals (first | rfl | (simp_all [effKeys]; done))
end
end Go.Proofs.Ytjehhmeaigkbnaa.Abs
