/- What an argument of small bulk looks like ('..UptoSaid'): XRead's readings once more, each with its bulk. -/
import Derived.Test.YtjehhmeaigkbnaaRead
namespace Go.Proofs.Ytjehhmeaigkbnaa.Read
open Go.ChangeShapes Go.WideShapes Go.ChangeAt Go.RowKit
open Go.Proofs.Ytjehhmeaigkbnaa.Rows (uptoBulk uptoBulkAll)
set_option linter.unusedVariables false

theorem bulk_pos {H : Type} (d : DataW H) : 1 ≤ uptoBulk d := by
  cases d with
  | lit l => cases l <;> simp [uptoBulk]
  | nil => simp [uptoBulk]
  | ptr d => simp [uptoBulk]
  | slice a b => simp [uptoBulk]
  | agg a => simp [uptoBulk]
  | iface t d => simp [uptoBulk]
  | map m => simp [uptoBulk]
  | held h => simp [uptoBulk]

theorem bulk_mem {H : Type} : ∀ {l : List (DataW H)} {d : DataW H}, d ∈ l → uptoBulk d ≤ uptoBulkAll l
  | a :: r, d, hd => by
    simp only [uptoBulkAll]
    rcases List.mem_cons.1 hd with rfl | h
    · omega
    · have := bulk_mem h; omega

theorem bulk_len {H : Type} : ∀ {l : List (DataW H)}, l.length ≤ uptoBulkAll l
  | [] => by simp
  | a :: r => by
    have := bulk_len (l := r)
    have := bulk_pos a
    simp only [uptoBulkAll, List.length_cons]; omega

/-- The cells read as data of type t, of bulk at most B. -/
def RdU (B : Nat) (P : Program) (w : World) (t : TypeId) (cs : List Value) : Prop :=
  ∃ (H : Type) (enc : TypeId × Value → H) (fuel : Nat) (x : DataW H × List MemPlace), DataW.trod enc P w 0 (fun _ => true) true fuel t cs = some x ∧ (∀ n ∈ x.1.weights P t, n ≤ reachBytes) ∧ uptoBulk x.1 ≤ B

section
variable {P : Program} {w : World} {t : TypeId} {cs : List Value} {B : Nat}

theorem RdU.rd (h : RdU B P w t cs) : Rd P w t cs := let ⟨H, enc, f, x, h1, h2, _⟩ := h; ⟨H, enc, f, x, h1, h2⟩

theorem RdU.of_trod {H : Type} {enc : TypeId × Value → H} {v : Value} {d : DataW H} {ps : List MemPlace} (h : DataW.Trod enc P w 0 (fun _ => true) true t v d ps)
    (hz : ∀ n ∈ d.weights P t, n ≤ reachBytes) (hb : uptoBulk d ≤ B) : RdU B P w t v.cells.toList := by
  obtain ⟨fuel, hf⟩ := h
  exact ⟨H, enc, fuel, (d, ps), hf, hz, hb⟩

theorem RdU.string (ht : P.underlying t = some .string) (h : RdU B P w t cs) : ∃ s : ByteArray, cs = [.string s] ∧ s.size < B := by
  obtain ⟨H, enc, fuel, x, hf, hz, hb⟩ := h
  obtain ⟨s, h1, h2, _⟩ := DataW.trod_string ht hf
  refine ⟨s, h1, ?_⟩
  subst h2
  have e : s.data.toList.length = s.size := by rw [Array.length_toList]; rfl
  simp only [uptoBulk] at hb
  omega

theorem RdU.struct {fs : Array Field} (ht : P.underlying t = some (.struct fs)) (h : RdU B P w t cs) :
    cs.length = P.cellsOf t ∧ ∀ (i : Nat) (f : Field), fs[i]? = some f → RdU B P w f.type ((cs.drop f.offset).take (P.cellsOf f.type)) := by
  obtain ⟨H, enc, fuel, x, hf, hz, hb⟩ := h
  obtain ⟨xs, n, _, rfl, hl, hlen, hfs⟩ := DataW.trod_struct ht hf
  refine ⟨hl, fun i f hi => ?_⟩
  have hi' : i < xs.length := by
    have := (Array.getElem?_eq_some_iff.1 hi).1
    omega
  refine ⟨H, enc, n, xs[i], by rw [hfs i f hi]; exact List.getElem?_eq_getElem hi', fun m hm => hz m ?_, ?_⟩
  · simp only [DataW.weights, ht]
    exact DataW.weights_mem_each (j := i) (t := f.type) (d := xs[i].1) (by simp [hi]) (by simp [hi']) m hm
  · have := bulk_mem (l := xs.map (·.1)) (List.mem_map.2 ⟨xs[i], List.getElem_mem _, rfl⟩)
    simp only [uptoBulk] at hb
    omega

theorem RdU.array {n : Nat} {e : TypeId} (ht : P.underlying t = some (.array n e)) (h : RdU B P w t cs) :
    cs.length = P.cellsOf t ∧ ∀ i, i < n → RdU B P w e ((cs.drop (i * P.cellsOf e)).take (P.cellsOf e)) := by
  obtain ⟨H, enc, fuel, x, hf, hz, hb⟩ := h
  obtain ⟨xs, m, _, rfl, hl, hlen, hfs⟩ := DataW.trod_array ht hf
  refine ⟨hl, fun i hi => ?_⟩
  refine ⟨H, enc, m, xs[i], by rw [hfs i hi]; exact List.getElem?_eq_getElem (by omega), fun q hq => hz q ?_, ?_⟩
  · simp only [DataW.weights, ht]
    exact weightsAll_mem (d := xs[i].1) (List.mem_map.2 ⟨xs[i], List.getElem_mem _, rfl⟩) q hq
  · have := bulk_mem (l := xs.map (·.1)) (List.mem_map.2 ⟨xs[i], List.getElem_mem _, rfl⟩)
    simp only [uptoBulk] at hb
    omega

theorem RdU.slice {e : TypeId} (ht : P.underlying t = some (.slice e)) (h : RdU B P w t cs) :
    ∃ (a : Option Addr) (len cap : Nat), cs = [.slice a len cap] ∧ len ≤ cap ∧ cap ≤ maxLen ∧ cap * P.bytesOf e ≤ 140737488351232 ∧ cap ≤ B ∧ (a = none → cap = 0) ∧
    ∀ x, a = some x → ∀ i, i < cap → ∃ row, w.cells? 0 (x.add (i * P.cellsOf e)) (P.cellsOf e) = some row ∧ RdU B P w e row := by
  obtain ⟨H, enc, fuel, x, hf, hz, hb⟩ := h
  rcases Go.Deep.open_slice ht hf with ⟨rfl, _⟩ | ⟨a, len, cap, m, n, D, Pl, rfl, _, hl, hm, hmm, rfl, hx⟩
  · exact ⟨none, 0, 0, rfl, Nat.le_refl _, Nat.zero_le _, by simp, Nat.zero_le _, fun _ => rfl, fun x hx => by cases hx⟩
  · have hmc : m = cap := by simpa using hmm
    subst hmc
    have e2 : reachBytes = 140737488351232 := by decide
    have hw : m * P.bytesOf e ≤ reachBytes := by
      refine hz _ ?_
      simp only [DataW.weights, ht, List.length_map, List.length_range]
      rw [show len + (m - len) = m by omega]
      exact List.mem_cons_self
    simp only [uptoBulk] at hb
    have b1 := bulk_len (l := (List.range len).map D)
    have b2 := bulk_len (l := (List.range (m - len)).map fun j => D (len + j))
    simp only [List.length_map, List.length_range] at b1 b2
    refine ⟨some a, len, m, rfl, hl, hm, by omega, by omega, (fun h => by cases h), fun x hxa i hi => ?_⟩
    cases hxa
    obtain ⟨row, h1, h2⟩ := hx i hi
    refine ⟨row, h1, H, enc, n, _, h2, fun q hq => hz q ?_, ?_⟩
    · simp only [DataW.weights, ht, List.mem_cons, List.mem_append]
      right
      by_cases hil : i < len
      · exact Or.inl (weightsAll_mem (d := D i) (List.mem_map.2 ⟨i, List.mem_range.2 hil, rfl⟩) q hq)
      · exact Or.inr (weightsAll_mem (d := D i) (List.mem_map.2 ⟨i - len, List.mem_range.2 (by omega), by rw [show len + (i - len) = i by omega]⟩) q hq)
    · by_cases hil : i < len
      · have := bulk_mem (l := (List.range len).map D) (d := D i) (List.mem_map.2 ⟨i, List.mem_range.2 hil, rfl⟩)
        show uptoBulk (D i) ≤ B
        omega
      · have := bulk_mem (l := (List.range (m - len)).map fun j => D (len + j)) (d := D i) (List.mem_map.2 ⟨i - len, List.mem_range.2 (by omega), by rw [show len + (i - len) = i by omega]⟩)
        show uptoBulk (D i) ≤ B
        omega
end
end Go.Proofs.Ytjehhmeaigkbnaa.Read
