/- An abstract walk: what the arguments of a law stand for. For whatever program. -/
import Derived.Test.YtnhiilbmgkbbaaaAbsL
import Derived.Test.YtnhiilbmgkbbaaaRead
namespace Go.Proofs.Ytnhiilbmgkbbaaa.Abs
open Go Go.RowKit Go.Proofs.Ytnhiilbmgkbbaaa.Read
set_option linter.unusedVariables false

/-- A list in parts, one for each type. -/
def ShAll (Q : TypeId → List D → Prop) : List TypeId → List D → Prop
  | [], ds => ds = []
  | t :: r, ds => ∃ a b, ds = a ++ b ∧ Q t a ∧ ShAll Q r b

/-- What data of a type look like. -/
def Sh (P : Program) : Nat → TypeId → List D → Prop
  | 0, _, _ => False
  | n + 1, t, ds => match P.underlying t with
    | some .bool => ∃ b, ds = [.b b]
    | some (.int k) => ∃ x, ds = [.i k x] ∧ k.min ≤ x ∧ x ≤ k.max
    | some .string => ∃ l : List UInt8, ds = [.s l] ∧ l.length ≤ 140737488351232
    | some (.struct fs) => ShAll (Sh P n) (fs.toList.map (·.type)) ds
    | some (.array m e) => ShAll (Sh P n) (List.replicate m e) ds
    | some (.slice e) => ∃ rows, ds = [.sl (P.cellsOf e) rows] ∧ rows.length ≤ maxLen ∧ rows.length * P.bytesOf e ≤ 140737488351232 ∧ ∀ r ∈ rows, Sh P n e r
    | _ => False

def contig (P : Program) : List Field → Nat → Option Nat
  | [], o => some o
  | f :: r, o => if f.offset = o then contig P r (o + P.cellsOf f.type) else none

def okT (P : Program) : Nat → TypeId → Bool
  | 0, _ => false
  | n + 1, t => match P.underlying t with
    | some .bool | some (.int _) | some .string => true
    | some (.struct fs) => contig P fs.toList 0 == some (P.cellsOf t) && fs.toList.all (fun f => okT P n f.type)
    | some (.array m e) => P.cellsOf t == m * P.cellsOf e && okT P n e
    | some (.slice e) => decide (0 < P.cellsOf e) && okT P n e
    | _ => false

def RepAll (w : World) (U : Nat → Prop) : List Value → List D → Prop
  | [], [] => True
  | v :: r, d :: q => RepI w U v d ∧ RepAll w U r q
  | _, _ => False
theorem RepAll.length {w : World} {U : Nat → Prop} : ∀ {l : List Value} {q : List D}, RepAll w U l q → l.length = q.length
  | [], [], _ => rfl
  | v :: r, d :: q, h => by simp [RepAll.length h.2]
  | [], d :: q, h => h.elim
  | v :: r, [], h => h.elim
theorem RepAll.app {w : World} {U : Nat → Prop} : ∀ {l l2 : List Value} {q q2 : List D}, RepAll w U l q → RepAll w U l2 q2 → RepAll w U (l ++ l2) (q ++ q2)
  | [], l2, [], q2, _, h2 => h2
  | v :: r, l2, d :: q, q2, h, h2 => ⟨h.1, RepAll.app h.2 h2⟩
  | [], l2, d :: q, q2, h, h2 => h.elim
  | v :: r, l2, [], q2, h, h2 => h.elim
theorem RepAll.at {w : World} {U : Nat → Prop} : ∀ {l : List Value} {q : List D}, RepAll w U l q → ∀ (j : Nat) v d, l[j]? = some v → q[j]? = some d → RepI w U v d
  | v :: r, d :: q, h, 0, v', d', h1, h2 => by simp at h1 h2; subst h1; subst h2; exact h.1
  | v :: r, d :: q, h, j + 1, v', d', h1, h2 => RepAll.at h.2 j v' d' (by simpa using h1) (by simpa using h2)
  | [], [], h, j, v', d', h1, h2 => by simp at h1
  | [], d :: q, h, j, v', d', h1, h2 => h.elim
  | v :: r, [], h, j, v', d', h1, h2 => h.elim

theorem struct_all {P : Program} {w : World} {U : Nat → Prop} {cs : List Value} {n : Nat} (ih : ∀ t l, okT P n t = true → Rd P w t l → ∃ ds, RepAll w U l ds ∧ Sh P n t ds) :
    ∀ (fs : List Field) (o tot : Nat), contig P fs o = some tot → tot = cs.length → (∀ f ∈ fs, okT P n f.type = true ∧ Rd P w f.type ((cs.drop f.offset).take (P.cellsOf f.type))) →
      ∃ ds, RepAll w U (cs.drop o) ds ∧ ShAll (Sh P n) (fs.map (·.type)) ds
  | [], o, tot, h, ht, _ => by
    simp only [contig, Option.some.injEq] at h
    subst h; subst ht
    exact ⟨[], by simp [RepAll], rfl⟩
  | f :: r, o, tot, h, ht, hf => by
    unfold contig at h
    split at h
    · rename_i e
      obtain ⟨h1, h2⟩ := hf f List.mem_cons_self
      obtain ⟨d1, k1, k2⟩ := ih _ _ h1 h2
      obtain ⟨d2, k3, k4⟩ := struct_all ih r _ tot h ht fun g hg => hf g (List.mem_cons_of_mem _ hg)
      refine ⟨d1 ++ d2, ?_, d1, d2, rfl, k2, k4⟩
      have := k1.app k3
      rw [e, ← List.drop_drop, List.take_append_drop] at this
      exact this
    · cases h

theorem array_all {P : Program} {w : World} {U : Nat → Prop} {cs : List Value} {n : Nat} {e : TypeId} (ih : ∀ l, Rd P w e l → ∃ ds, RepAll w U l ds ∧ Sh P n e ds) :
    ∀ (m k : Nat), (k + m) * P.cellsOf e = cs.length → (∀ i, i < k + m → Rd P w e ((cs.drop (i * P.cellsOf e)).take (P.cellsOf e))) →
      ∃ ds, RepAll w U (cs.drop (k * P.cellsOf e)) ds ∧ ShAll (Sh P n) (List.replicate m e) ds
  | 0, k, h, _ => ⟨[], by rw [List.drop_eq_nil_of_le (by rw [← h]; exact Nat.le_refl _)]; trivial, rfl⟩
  | m + 1, k, h, hf => by
    obtain ⟨d1, k1, k2⟩ := ih _ (hf k (by omega))
    obtain ⟨d2, k3, k4⟩ := array_all ih m (k + 1) (by rw [← h]; congr 1; omega) fun i hi => hf i (by omega)
    refine ⟨d1 ++ d2, ?_, d1, d2, rfl, k2, k4⟩
    have := k1.app k3
    rw [show (k + 1) * P.cellsOf e = k * P.cellsOf e + P.cellsOf e by rw [Nat.succ_mul], ← List.drop_drop, List.take_append_drop] at this
    exact this


theorem bounds_wf {k : IntKind} {x : Int} (h : (Lit.int k x).wf = true) : k.min ≤ x ∧ x ≤ k.max := by
  cases k <;> (simp only [Lit.wf, Bool.and_eq_true, decide_eq_true_eq] at h; exact h)

theorem rd_rep {P : Program} {w : World} {U : Nat → Prop} (hU : ∀ b, b < w.heap.size → U b) : ∀ (n : Nat) (t : TypeId) (cs : List Value), okT P n t = true → Rd P w t cs → ∃ ds, RepAll w U cs ds ∧ Sh P n t ds
  | 0, t, cs, h, _ => by simp [okT] at h
  | n + 1, t, cs, h, hr => by
    unfold okT at h
    split at h
    · rename_i ht
      obtain ⟨b, rfl⟩ := hr.bool ht
      simp only [Sh, ht]
      exact ⟨[.b b], ⟨.b b, trivial⟩, b, rfl⟩
    · rename_i k ht
      obtain ⟨x, rfl, hx⟩ := hr.int ht
      simp only [Sh, ht]
      exact ⟨[.i k x], ⟨.i k x, trivial⟩, x, rfl, bounds_wf hx⟩
    · rename_i ht
      obtain ⟨s, rfl, hs⟩ := hr.string ht
      simp only [Sh, ht]
      refine ⟨[.s s.data.toList], ⟨?_, trivial⟩, _, rfl, by rw [Array.length_toList]; exact hs⟩
      exact RepI.s s.data.toList
    · rename_i fs ht
      simp only [Sh, ht]
      simp only [Bool.and_eq_true, beq_iff_eq, List.all_eq_true] at h
      obtain ⟨hl, hf⟩ := hr.struct ht
      obtain ⟨ds, h1, h2⟩ := struct_all (U := U) (n := n) (fun t l => rd_rep hU n t l) fs.toList 0 _ h.1 hl.symm fun f hf' => by
        obtain ⟨i, hi, rfl⟩ := List.getElem_of_mem hf'
        exact ⟨h.2 _ (List.getElem_mem _), hf i _ (by simp)⟩
      exact ⟨ds, h1, h2⟩
    · rename_i m e ht
      simp only [Sh, ht]
      simp only [Bool.and_eq_true, beq_iff_eq] at h
      obtain ⟨hl, hf⟩ := hr.array ht
      obtain ⟨ds, h1, h2⟩ := array_all (U := U) (n := n) (fun l => rd_rep hU n e l h.2) m 0 (by rw [hl, h.1, Nat.zero_add]) fun i hi => hf i (by omega)
      exact ⟨ds, by simpa using h1, h2⟩
    · rename_i e ht
      simp only [Sh, ht]
      obtain ⟨a, len, cap, rfl, hlc, hcm, hcb, hn, hx⟩ := hr.slice ht
      have hb : ∀ l : Nat, l ≤ cap → l * P.bytesOf e ≤ 140737488351232 := fun l hl => Nat.le_trans (Nat.mul_le_mul_right _ hl) hcb
      by_cases h0 : len = 0
      · subst h0
        exact ⟨[.sl (P.cellsOf e) []], ⟨.nil a cap _ hn, trivial⟩, [], rfl, by simp, by simp, by simp⟩
      · cases a with
        | none => have := hn rfl; omega
        | some x =>
          obtain ⟨vals, hvl, hv⟩ := exists_list (P := fun i (p : List Value × List D) => w.cells? 0 (x.add (i * P.cellsOf e)) (P.cellsOf e) = some p.1 ∧ RepAll w U p.1 p.2 ∧ Sh P n e p.2) len fun i hi => by
            obtain ⟨row, h1, h2⟩ := hx x rfl i (by omega)
            obtain ⟨ds, h3, h4⟩ := rd_rep hU n e row (by simp at h; exact h.2) h2
            exact ⟨(row, ds), h1, h3, h4⟩
          refine ⟨[.sl (P.cellsOf e) (vals.map (·.2))], ⟨?_, trivial⟩, _, rfl, by simp; omega, by simp only [List.length_map, hvl]; exact hb len hlc, ?_⟩
          · by_cases hz : P.cellsOf e = 0
            · simp [hz] at h
            · have hx0 := hv 0 (by omega)
              obtain ⟨q1, q2⟩ := cells_at hx0.1
              obtain ⟨q3, q4⟩ := spot_none (q2 0 (by omega))
              obtain ⟨b, o, sp⟩ := x
              have hsp : sp = none ∧ b < w.heap.size := by
                rw [Nat.zero_mul] at q3 q4
                unfold Addr.add at q3 q4
                simp at q3 q4
                exact ⟨q3, q4⟩
              obtain ⟨rfl, hb2⟩ := hsp
              have := RepI.sl (w := w) (U := U) b o cap (P.cellsOf e) (vals.map (·.2)) (fun i j => ((vals[i]?).bind fun p => p.1[j]?).getD undef) (hU b hb2)
              rw [List.length_map, hvl] at this
              refine this ?_ hlc ?_ ?_
              · intro r hr'
                obtain ⟨p, hp, rfl⟩ := List.mem_map.1 hr'
                obtain ⟨i, hi, rfl⟩ := List.getElem_of_mem hp
                rw [← (hv i hi).2.1.length, (cells_at (hv i hi).1).1]
              · intro i j r d h1 h2
                rw [List.getElem?_map, Option.map_eq_some_iff] at h1
                obtain ⟨p, hp, rfl⟩ := h1
                obtain ⟨hi, rfl⟩ := List.getElem?_eq_some_iff.1 hp
                obtain ⟨k1, k2, k3⟩ := hv i hi
                obtain ⟨m1, m2⟩ := cells_at k1
                obtain ⟨hj, -⟩ := List.getElem?_eq_some_iff.1 h2
                have hj' : j < (vals[i]).1.length := by rw [k2.length]; exact hj
                have := m2 j hj'
                rw [add_none, add_none] at this
                rw [hp]
                simp only [Option.bind_some]
                rw [List.getElem?_eq_getElem hj', Option.getD_some]
                exact this
              · intro i j r d h1 h2
                rw [List.getElem?_map, Option.map_eq_some_iff] at h1
                obtain ⟨p, hp, rfl⟩ := h1
                obtain ⟨hi, rfl⟩ := List.getElem?_eq_some_iff.1 hp
                obtain ⟨k1, k2, k3⟩ := hv i hi
                obtain ⟨hj, -⟩ := List.getElem?_eq_some_iff.1 h2
                have hj' : j < (vals[i]).1.length := by rw [k2.length]; exact hj
                rw [hp]
                simp only [Option.bind_some]
                rw [List.getElem?_eq_getElem hj', Option.getD_some]
                exact k2.at j _ d (List.getElem?_eq_getElem hj') h2
          · intro r hr'
            obtain ⟨p, hp, rfl⟩ := List.mem_map.1 hr'
            obtain ⟨i, hi, rfl⟩ := List.getElem_of_mem hp
            exact (hv i hi).2.2
    · cases h

/-! ### Arguments -/
/-- Values and what they stand for at the door of a law. -/
def RepArgs (w : World) (us : List Value) (ys : List V) : Prop := us.length = ys.length ∧ ∀ (j : Nat) u y, us[j]? = some u → ys[j]? = some y → RepV w (fun _ => none) (fun b => b < w.heap.size) w.heap.size u y
theorem RepArgs.nil {w : World} : RepArgs w [] [] := ⟨rfl, fun j u y h => by simp at h⟩
theorem RepArgs.cons {w : World} {u : Value} {y : V} {us : List Value} {ys : List V} (h : RepV w (fun _ => none) (fun b => b < w.heap.size) w.heap.size u y) (hr : RepArgs w us ys) : RepArgs w (u :: us) (y :: ys) := by
  refine ⟨by simp [hr.1], fun j u' y' h1 h2 => ?_⟩
  cases j with
  | zero => simp at h1 h2; subst h1; subst h2; exact h
  | succ j => exact hr.2 j u' y' (by simpa using h1) (by simpa using h2)

theorem RepArgs.agg {w : World} {cs : Array Value} {ds : List D} {us : List Value} {ys : List V} (h : RepAll w (fun b => b < w.heap.size) cs.toList ds) (hr : RepArgs w us ys) : RepArgs w (.agg cs :: us) (.agg (ds.map C.d) :: ys) := by
  refine hr.cons ?_
  have := RepV.agg (w := w) (β := fun _ => none) (U := fun b => b < w.heap.size) (base := w.heap.size) cs.toList (ds.map C.d) (by rw [h.length, List.length_map]) ?_ ?_
  · exact this
  · intro u hu
    obtain ⟨j, hj, rfl⟩ := List.getElem_of_mem hu
    have hj2 : j < ds.length := by rw [← h.length]; exact hj
    exact (h.at j _ _ (List.getElem?_eq_getElem hj) (List.getElem?_eq_getElem hj2)).oneCell
  · intro j u c hu hc
    rw [List.getElem?_map, Option.map_eq_some_iff] at hc
    obtain ⟨d, hd, rfl⟩ := hc
    exact h.at j u d hu hd
theorem RepArgs.one {w : World} {v : Value} {d : D} {us : List Value} {ys : List V} (h : RepI w (fun b => b < w.heap.size) v d) (hr : RepArgs w us ys) : RepArgs w (v :: us) (vd d :: ys) := hr.cons (.one _ _ h)
theorem RepArgs.s {w : World} {s : ByteArray} {us : List Value} {ys : List V} (hr : RepArgs w us ys) : RepArgs w (.string s :: us) (Abs.vs s.data.toList :: ys) := hr.one (.s s.data.toList)
theorem RepArgs.i {w : World} {k : IntKind} {n : Int} {us : List Value} {ys : List V} (hr : RepArgs w us ys) : RepArgs w (.int k n :: us) (vi k n :: ys) := hr.one (.i k n)
theorem RepArgs.b {w : World} {x : Bool} {us : List Value} {ys : List V} (hr : RepArgs w us ys) : RepArgs w (.bool x :: us) (vb x :: ys) := hr.one (.b x)

theorem glob_of {w : World} (h : ∀ e ∈ globs, ∃ x y, w.heap[e.1]? = some (.cells e.2 x y)) (h2 : ∀ g ∈ gints, g < w.heap.size ∧ ∃ m, w.cell? ⟨g, 0, none⟩ = some (.int .i64 m))
    (h3 : ∀ g ∈ gerrs, g < w.heap.size ∧ ∃ v, w.cell? ⟨g, 0, none⟩ = some v ∧ (v = .nilIface ∨ ∃ te pe, v = .iface te pe)) : Glob (fun b => b < w.heap.size) w := by
  refine ⟨fun e he => ?_, h2, h3⟩
  obtain ⟨x, y, hx⟩ := h e he
  exact ⟨(Array.getElem?_eq_some_iff.1 hx).1, x, y, hx⟩
theorem law_calls {P : Program} {f : FuncId} {ys : List V} {w : World} {us : Array Value} (h : AFn P f ys (vb true)) (hr : RepArgs w us.toList ys) (hn : decide (ys.length ≤ 900) = true) (hgl : Glob (fun b => b < w.heap.size) w) : Calls P f us w fun e w' => e = .returned (.bool true) ∧ Below w.heap.size w w' := by
  have h0 : SimB w (fun b => b < w.heap.size) (fun _ _ => False) (fun _ => none) (fun _ => none) (fun b => b < w.heap.size) ⟨ys.length, argsEnv 0 ys, []⟩ ⟨us, []⟩ w := by
    refine { n := by simpa using hr.1, small := of_decide_eq_true hn, args := fun _ _ => rfl, ver0 := ⟨fun k v ver e => (by cases e), fun k v ver us e => (by cases e)⟩, hist := (fun k p e => by cases e), defers := rfl, env := fun t => ?_, mem := (fun k b e => by cases e), dom := (fun k p e => by cases e), apart := (fun k p b e => by cases e), inj := (fun k k' p p' b b' x j _ e => by cases e), stab := fun b h => h, glob := hgl, old := fun b h => h, new := fun b h _ => h, chg := Chg.refl _ _ _, may := (fun k p b c j e => by cases e) }
    show RepV _ _ _ _ _ ((look t (argsEnv 0 ys)).getD (.one .bad))
    rw [look_argsEnv, if_pos (Nat.zero_le _), Nat.sub_zero]
    cases hy : ys[t]? with
    | none => exact .one _ _ trivial
    | some y =>
      have ht : t < ys.length := (List.getElem?_eq_some_iff.1 hy).1
      have ht2 : t < us.toList.length := by rw [hr.1]; exact ht
      have := hr.2 t _ y (List.getElem?_eq_getElem ht2) hy
      have e : us.getD t undef = us.toList[t] := by simp only [Array.length_toList] at ht2; simp [Array.getD, ht2]
      rw [e]; exact this
  refine (h w _ _ _ us h0).mono ?_
  rintro e w' ⟨v, r, m', rfl, ⟨rfl, rfl⟩, β, U, hs⟩
  have := hs.env 0
  refine ⟨?_, hs.chg.below fun _ _ h => h⟩
  have e : (⟨1, [(0, vb true)], []⟩ : St).get 0 = vb true := rfl
  rw [e] at this
  have hv := this.bool
  simp at hv
  subst hv; rfl
end Go.Proofs.Ytnhiilbmgkbbaaa.Abs
