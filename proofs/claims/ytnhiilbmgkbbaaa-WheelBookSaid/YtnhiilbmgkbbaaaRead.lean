/- What an argument that can be read looks like, for whatever program: integers, bools, strings, structs, arrays, slices. Conditions: none but that it can be read. -/
import Derived.Test.YtnhiilbmgkbbaaaRows
import Derived.WalkKit
import Derived.ProofKit
import Derived.OpenShut
import Derived.ShutString
import Derived.SizedLaws
import Derived.Below
import Derived.Carry
import Derived.ChangeOld
import Derived.Deep.Slices
namespace Go.Proofs.Ytnhiilbmgkbbaaa.Read
open Go.ChangeShapes Go.WideShapes Go.ChangeAt Go.RowKit

/-- The cells read as data of type t, no string or slice in it beyond the form's reach. -/
def Rd (P : Program) (w : World) (t : TypeId) (cs : List Value) : Prop :=
  ∃ (H : Type) (enc : TypeId × Value → H) (fuel : Nat) (x : DataW H × List MemPlace), DataW.trod enc P w 0 (fun _ => true) true fuel t cs = some x ∧ ∀ n ∈ x.1.weights P t, n ≤ reachBytes

section
variable {P : Program} {w : World} {t : TypeId} {cs : List Value}

theorem Rd.of_trod {H : Type} {enc : TypeId × Value → H} {v : Value} {d : DataW H} {ps : List MemPlace} (h : DataW.Trod enc P w 0 (fun _ => true) true t v d ps)
    (hz : ∀ n ∈ d.weights P t, n ≤ reachBytes) : Rd P w t v.cells.toList := by
  obtain ⟨fuel, hf⟩ := h
  exact ⟨H, enc, fuel, (d, ps), hf, hz⟩

theorem Rd.bool (ht : P.underlying t = some .bool) (h : Rd P w t cs) : ∃ b, cs = [.bool b] := by
  obtain ⟨H, enc, fuel, x, hf, _⟩ := h
  obtain ⟨b, h1, _⟩ := DataW.trod_bool ht hf
  exact ⟨b, h1⟩

theorem Rd.int {k : IntKind} (ht : P.underlying t = some (.int k)) (h : Rd P w t cs) : ∃ n, cs = [.int k n] ∧ (Lit.int k n).wf = true := by
  obtain ⟨H, enc, fuel, x, hf, _⟩ := h
  obtain ⟨n, h1, _, h2⟩ := DataW.trod_int ht hf
  exact ⟨n, h1, h2⟩

theorem Rd.string (ht : P.underlying t = some .string) (h : Rd P w t cs) : ∃ s : ByteArray, cs = [.string s] ∧ s.size ≤ 140737488351232 := by
  obtain ⟨H, enc, fuel, x, hf, hz⟩ := h
  obtain ⟨s, h1, h2, _⟩ := DataW.trod_string ht hf
  refine ⟨s, h1, ?_⟩
  subst h2
  have := hz s.data.toList.length (by simp [DataW.weights])
  have e : s.data.toList.length = s.size := by rw [Array.length_toList]; rfl
  have e2 : reachBytes = 140737488351232 := by decide
  omega

theorem weightsAll_mem {H : Type} {e : TypeId} : ∀ {l : List (DataW H)} {d : DataW H}, d ∈ l → ∀ n ∈ d.weights P e, n ∈ DataW.weightsAll P e l
  | a :: r, d, hd, n, hn => by
    simp only [DataW.weightsAll, List.mem_append]
    rcases List.mem_cons.1 hd with rfl | h
    · exact Or.inl hn
    · exact Or.inr (weightsAll_mem h n hn)

theorem Rd.struct {fs : Array Field} (ht : P.underlying t = some (.struct fs)) (h : Rd P w t cs) :
    cs.length = P.cellsOf t ∧ ∀ (i : Nat) (f : Field), fs[i]? = some f → Rd P w f.type ((cs.drop f.offset).take (P.cellsOf f.type)) := by
  obtain ⟨H, enc, fuel, x, hf, hz⟩ := h
  obtain ⟨xs, n, _, rfl, hl, hlen, hfs⟩ := DataW.trod_struct ht hf
  refine ⟨hl, fun i f hi => ?_⟩
  have hi' : i < xs.length := by
    have := (Array.getElem?_eq_some_iff.1 hi).1
    omega
  refine ⟨H, enc, n, xs[i], by rw [hfs i f hi]; exact List.getElem?_eq_getElem hi', fun m hm => hz m ?_⟩
  simp only [DataW.weights, ht]
  exact DataW.weights_mem_each (j := i) (t := f.type) (d := xs[i].1) (by simp [hi]) (by simp [hi']) m hm

theorem Rd.array {n : Nat} {e : TypeId} (ht : P.underlying t = some (.array n e)) (h : Rd P w t cs) :
    cs.length = P.cellsOf t ∧ ∀ i, i < n → Rd P w e ((cs.drop (i * P.cellsOf e)).take (P.cellsOf e)) := by
  obtain ⟨H, enc, fuel, x, hf, hz⟩ := h
  obtain ⟨xs, m, _, rfl, hl, hlen, hfs⟩ := DataW.trod_array ht hf
  refine ⟨hl, fun i hi => ?_⟩
  refine ⟨H, enc, m, xs[i], by rw [hfs i hi]; exact List.getElem?_eq_getElem (by omega), fun q hq => hz q ?_⟩
  simp only [DataW.weights, ht]
  exact weightsAll_mem (d := xs[i].1) (List.mem_map.2 ⟨xs[i], List.getElem_mem _, rfl⟩) q hq

theorem Rd.slice {e : TypeId} (ht : P.underlying t = some (.slice e)) (h : Rd P w t cs) :
    ∃ (a : Option Addr) (len cap : Nat), cs = [.slice a len cap] ∧ len ≤ cap ∧ cap ≤ maxLen ∧ cap * P.bytesOf e ≤ 140737488351232 ∧ (a = none → cap = 0) ∧
    ∀ x, a = some x → ∀ i, i < cap → ∃ row, w.cells? 0 (x.add (i * P.cellsOf e)) (P.cellsOf e) = some row ∧ Rd P w e row := by
  obtain ⟨H, enc, fuel, x, hf, hz⟩ := h
  rcases Go.Deep.open_slice ht hf with ⟨rfl, _⟩ | ⟨a, len, cap, m, n, D, Pl, rfl, _, hl, hm, hmm, rfl, hx⟩
  · exact ⟨none, 0, 0, rfl, Nat.le_refl _, Nat.zero_le _, by simp, fun _ => rfl, fun x hx => by cases hx⟩
  · have hmc : m = cap := by simpa using hmm
    subst hmc
    have e2 : reachBytes = 140737488351232 := by decide
    have hw : m * P.bytesOf e ≤ reachBytes := by
      refine hz _ ?_
      simp only [DataW.weights, ht, List.length_map, List.length_range]
      rw [show len + (m - len) = m by omega]
      exact List.mem_cons_self
    refine ⟨some a, len, m, rfl, hl, hm, by omega, (fun h => by cases h), fun x hxa i hi => ?_⟩
    cases hxa
    obtain ⟨row, h1, h2⟩ := hx i hi
    refine ⟨row, h1, H, enc, n, _, h2, fun q hq => hz q ?_⟩
    simp only [DataW.weights, ht, List.mem_cons, List.mem_append]
    right
    by_cases hil : i < len
    · exact Or.inl (weightsAll_mem (d := D i) (List.mem_map.2 ⟨i, List.mem_range.2 hil, rfl⟩) q hq)
    · exact Or.inr (weightsAll_mem (d := D i) (List.mem_map.2 ⟨i - len, List.mem_range.2 (by omega), by rw [show len + (i - len) = i by omega]⟩) q hq)

/-- A row of cells, cell by cell. -/
theorem cells_at {x : Addr} {n : Nat} {row : List Value} (h : w.cells? 0 x n = some row) : row.length = n ∧ ∀ j (hj : j < row.length), w.cell? (x.add j) = some row[j] := by
  unfold World.cells? at h
  rw [if_pos (Nat.zero_le _)] at h
  have hl : row.length = n := by rw [mapM_some_length h, List.length_range]
  refine ⟨hl, fun j hj => ?_⟩
  have := mapM_some_get h j j (by rw [List.getElem?_range (by omega)])
  rw [this]
  exact List.getElem?_eq_getElem hj

theorem spot_none {w : World} {x : Addr} {v : Value} (h : w.cell? x = some v) : x.spot = none ∧ x.block < w.heap.size := by
  unfold World.cell? at h
  constructor
  · cases hs : x.spot with
    | none => rfl
    | some k =>
      rw [hs] at h
      split at h <;> simp at h
  · by_cases hb : x.block < w.heap.size
    · exact hb
    · rw [Array.getElem?_eq_none (by simpa using hb)] at h; simp at h

theorem add_none (b o k : Nat) : (⟨b, o, none⟩ : Addr).add k = ⟨b, o + k, none⟩ := by
  unfold Addr.add; split
  · rename_i h; subst h; rfl
  · rfl

theorem exists_list {α : Type} {P : Nat → α → Prop} : ∀ (n : Nat), (∀ i, i < n → ∃ a, P i a) → ∃ l : List α, l.length = n ∧ ∀ i (hi : i < l.length), P i l[i]
  | 0, _ => ⟨[], rfl, fun i hi => by simp at hi⟩
  | n + 1, h => by
    obtain ⟨l, hl, hP⟩ := exists_list n fun i hi => h i (by omega)
    obtain ⟨a, ha⟩ := h n (by omega)
    refine ⟨l ++ [a], by simp [hl], fun i hi => ?_⟩
    by_cases hin : i < l.length
    · rw [List.getElem_append_left hin]; exact hP i hin
    · have : i = n := by simp at hi; omega
      subst this
      rw [List.getElem_append_right (by omega)]
      simpa [hl] using ha

end

/-- The reach, of each argument. -/
theorem weights_at {H : Type} {P : Program} {ts us : List TypeId} {ds gs : List (DataW H)} (h : (DataW.weightsEach P (ts ++ us) (ds ++ gs)).all (fun x => decide (x ≤ reachBytes)) = true) {j : Nat} {t : TypeId} {d : DataW H}
    (ht : ts[j]? = some t) (hd : ds[j]? = some d) : ∀ n ∈ d.weights P t, n ≤ reachBytes := by
  intro n hn
  have ht' : (ts ++ us)[j]? = some t := by
    rw [List.getElem?_append_left (by have := (List.getElem?_eq_some_iff.1 ht).1; omega)]; exact ht
  have hd' : (ds ++ gs)[j]? = some d := by
    rw [List.getElem?_append_left (by have := (List.getElem?_eq_some_iff.1 hd).1; omega)]; exact hd
  simpa using List.all_eq_true.1 h _ (DataW.weights_mem_each ht' hd' n hn)

end Go.Proofs.Ytnhiilbmgkbbaaa.Read
