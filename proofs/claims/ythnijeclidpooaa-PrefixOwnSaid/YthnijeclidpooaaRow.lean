/- A whole struct stored into, or loaded from, memory as ONE operation of the walk ('World.setCells'), and how cells read behind it. For whatever program. -/
import Derived.WalkKit
import Derived.Handy
import Derived.Test.YthnijeclidpooaaMem
import Derived.Laws.IdiomCopy
namespace Go.Proofs.Ythnijeclidpooaa.Row
open Go Go.RowKit Go.Proofs.Ythnijeclidpooaa.Mem

/-- n cells from ⟨b, o⟩ on are there and may be written. -/
def Wr (w : World) (b o n : Nat) : Prop := ∀ j, j < n → (w.cell? ⟨b, o + j, none⟩).isSome = true ∧ w.frozen? ⟨b, o + j, none⟩ = false
/-- n cells from ⟨b, o⟩ on hold the values cs. -/
def Holds (w : World) (b o : Nat) (cs : List Value) : Prop := ∀ j (hj : j < cs.length), w.cell? ⟨b, o + j, none⟩ = some (cs[j]'hj)

section
variable {P : Program} {w : World}

theorem Wr.of_blk {g : Nat} {cs : Array Value} (h : Blk w g cs) : Wr w g 0 cs.size := fun j hj => by
  rw [Nat.zero_add, h.cell]
  exact ⟨by simp [hj], h.frozen j hj⟩
theorem Holds.of_blk {g : Nat} {cs : Array Value} (h : Blk w g cs) : Holds w g 0 cs.toList := fun j hj => by
  rw [Nat.zero_add, h.cell]; simp at hj; simp [hj]

theorem run_storeVar_cells (ty : TypeId) (b o : Nat) (cs : Array Value) (hi : (P.info? ty).map (·.size) = some cs.size) (hw : Wr w b o cs.size) (h1 : ∀ v ∈ cs.toList, v.oneCell' = true) :
    (storeVar ty ⟨b, o, none⟩ (.agg cs)).run P w = .ok () (w.setCells b o cs.toList) := by
  have := run_storeCells_cells (P := P) b o cs.toList 0 w (fun j hj => by rw [Nat.add_zero]; exact (hw j (by simpa using hj)).1) (fun j hj => by rw [Nat.add_zero]; exact (hw j (by simpa using hj)).2) h1
  cases hq : P.info? ty with
  | none => simp [hq] at hi
  | some i =>
    have hs : cs.size = i.size := by simp [hq] at hi; omega
    simp [storeVar, sizeOf, typeInfo, hq, Value.cells, hs, this]

theorem run_storeAt_cells (ty : TypeId) (b o : Nat) (cs : Array Value) (hi : (P.info? ty).map (·.size) = some cs.size) (hw : Wr w b o cs.size) (h1 : ∀ v ∈ cs.toList, v.oneCell' = true) :
    (Instr.storeAt ty (.pointer (some ⟨b, o, none⟩)) (.agg cs)).run P w = .ok () (w.setCells b o cs.toList) := by
  simp only [Instr.storeAt, Instr.sureAddr, Sem.run_bind, Sem.run_pure, Result.andThen_ok, run_storeVar_cells ty b o cs hi hw h1]

theorem run_loadVar_cells (ty : TypeId) (b o : Nat) (cs : List Value) (d : TypeDesc) (hu : P.underlying ty = some d) (hd : (match d with | .struct _ | .array _ _ => true | _ => false) = true) (hi : (P.info? ty).map (·.size) = some cs.length) (hh : Holds w b o cs) :
    (loadVar ty ⟨b, o, none⟩).run P w = .ok (.agg cs.toArray) w := by
  have hl : (loadCells ⟨b, o, none⟩ cs.length).run P w = .ok cs.toArray w :=
    run_loadCells_list (P := P) w ⟨b, o, none⟩ cs (fun j v hv => by
      have hadd : (⟨b, o, none⟩ : Addr).add j = ⟨b, o + j, none⟩ := by unfold Addr.add; split <;> simp_all
      obtain ⟨hj, rfl⟩ := List.getElem?_eq_some_iff.1 hv
      rw [hadd]; exact hh j hj)
  cases hq : P.info? ty with
  | none => simp [hq] at hi
  | some i =>
    have hs : i.size = cs.length := by simpa [hq] using hi
    have hagg : (isAgg ty).run P w = .ok true w := by
      unfold isAgg
      rw [Sem.run_bind, run_underlying hu w]
      cases d <;> simp_all
    simp [loadVar, Sem.run_bind, hagg, sizeOf, typeInfo, hq, hs, hl]

/-- A whole struct stored into cells that are there: one step. -/
theorem wpList_store_cells {ops : Array Oper} {rest : List Oper} {o : Oper} {a : Act} {Q : Exit → Act → World → Prop} (hgd : o.guard = none) (ty : TypeId) (x y : Operand) (ho : o.op = .store ty x y)
    (b off : Nat) (cs : Array Value) (hx : a.eval x = .pointer (some ⟨b, off, none⟩)) (hy : a.eval y = .agg cs) (hi : (P.info? ty).map (·.size) = some cs.size) (hw : Wr w b off cs.size) (h1 : cs.all (·.oneCell') = true)
    (h : wpList P ops Q rest (a.put o.dst undef) (w.setCells b off cs.toList)) : wpList P ops Q (o :: rest) a w := by
  refine wpList_plain hgd fun K hK => ?_
  unfold Oper.wp execOp
  simp only [ho, hx, hy, Instr.storeAt, Instr.sureAddr, Sem.run_bind, Sem.run_pure, Result.andThen_ok, run_storeVar_cells ty b off cs hi hw (fun v hv => (Array.all_eq_true_iff_forall_mem.1 h1) v (by simpa using hv))]
  exact hK _ _ h

/-- A whole struct loaded: one step. -/
theorem wpList_load_cells {ops : Array Oper} {rest : List Oper} {o : Oper} {a : Act} {Q : Exit → Act → World → Prop} (hgd : o.guard = none) (ty : TypeId) (x : Operand) (ho : o.op = .load ty x)
    (b off : Nat) (cs : List Value) (hx : a.eval x = .pointer (some ⟨b, off, none⟩)) (d : TypeDesc) (hu : P.underlying ty = some d) (hd : (match d with | .struct _ | .array _ _ => true | _ => false) = true) (hi : (P.info? ty).map (·.size) = some cs.length) (hh : Holds w b off cs)
    (h : wpList P ops Q rest (a.put o.dst (.agg cs.toArray)) w) : wpList P ops Q (o :: rest) a w := by
  refine wpList_plain hgd fun K hK => ?_
  unfold Oper.wp execOp
  simp only [ho, hx, Instr.loadAt, Instr.sureAddr, Sem.run_bind, Sem.run_pure, Result.andThen_ok, run_loadVar_cells ty b off cs d hu hd hi hh]
  exact hK _ _ h

/-! ### Cells behind 'setCells' -/
@[go_sem] theorem cell_setCells_block (b o n i : Nat) (cs : List Value) (h : n ≠ b) : (w.setCells b o cs).cell? ⟨n, i, none⟩ = w.cell? ⟨n, i, none⟩ :=
  World.cell?_setCells_out b cs o w _ (fun e => absurd e h)
@[go_sem] theorem cell_setCells_off (b o i : Nat) (cs : List Value) (h : i < o ∨ o + cs.length ≤ i) : (w.setCells b o cs).cell? ⟨b, i, none⟩ = w.cell? ⟨b, i, none⟩ :=
  World.cell?_setCells_out b cs o w _ (fun _ _ => h)
theorem cell_setCells_in (b o i : Nat) (cs : List Value) (hw : Wr w b o cs.length) (h1 : o ≤ i) (h2 : i < o + cs.length) : (w.setCells b o cs).cell? ⟨b, i, none⟩ = cs[i - o]? := by
  have := World.cell?_setCells_in b cs o w (fun j hj => (hw j hj).1) (i - o) (by omega)
  rw [show o + (i - o) = i by omega] at this
  rw [this, List.getElem?_eq_getElem (by omega)]
@[go_sem] theorem cell_setCells_zero (b i : Nat) (cs : List Value) (hw : Wr w b 0 cs.length) (h2 : i < cs.length) : (w.setCells b 0 cs).cell? ⟨b, i, none⟩ = cs[i]? := by
  have := cell_setCells_in b 0 i cs hw (Nat.zero_le _) (by omega)
  simpa using this
@[go_sem] theorem frozen_setCells (b o : Nat) (cs : List Value) (x : Addr) : (w.setCells b o cs).frozen? x = w.frozen? x := World.frozen?_setCells b cs o w x
@[go_sem] theorem size_setCells (b : Nat) : ∀ (cs : List Value) (o : Nat) (w : World), (w.setCells b o cs).heap.size = w.heap.size
  | [], _, _ => rfl
  | v :: r, o, w => by
    show ((w.setCell ⟨b, o, none⟩ v).setCells b (o + 1) r).heap.size = _
    rw [size_setCells b r]; simp [World.setCell]

theorem holds_setCells (b o : Nat) (cs : List Value) (hw : Wr w b o cs.length) : Holds (w.setCells b o cs) b o cs := fun j hj => by
  rw [cell_setCells_in b o (o + j) cs hw (by omega) (by omega), show o + j - o = j by omega, List.getElem?_eq_getElem hj]

theorem below_setCells {B : Nat} {a : World} (b : Nat) (hb : B ≤ b) : ∀ (cs : List Value) (o : Nat) {w : World}, Below B a w → Below B a (w.setCells b o cs)
  | [], _, _, h => h
  | v :: r, o, w, h => below_setCells b hb r (o + 1) (w := w.setCell ⟨b, o, none⟩ v) (h.setCell hb v)

theorem blk_setCells_all : ∀ (b : Nat) (cs : List Value) (w : World) (old : Array Value), Blk w b old → cs.length = old.size → Blk (w.setCells b 0 cs) b cs.toArray := by
  intro b cs w old h hl
  have gen : ∀ (r : List Value) (o : Nat) (w : World) (cur : Array Value), Blk w b cur → o + r.length = cur.size → Blk (w.setCells b o r) b ((cur.toList.take o) ++ r).toArray := by
    intro r
    induction r with
    | nil =>
      intro o w cur hb he
      have e : ((cur.toList.take o) ++ ([] : List Value)).toArray = cur := by
        rw [List.append_nil, List.take_of_length_le (by simp at he ⊢; omega)]
      rw [e]; exact hb
    | cons v r ih =>
      intro o w cur hb he
      simp at he
      have := ih (o + 1) (w.setCell ⟨b, o, none⟩ v) _ (hb.set o v) (by simp; omega)
      show Blk ((w.setCell ⟨b, o, none⟩ v).setCells b (o + 1) r) b _
      have e : ((cur.setIfInBounds o v).toList.take (o + 1)) ++ r = cur.toList.take o ++ (v :: r) := by
        rw [Array.toList_setIfInBounds, List.take_set]
        have h1 : o < cur.toList.length := by simp; omega
        rw [List.take_succ_eq_append_getElem h1, List.set_append_right _ _ (by rw [List.length_take]; omega)]
        have h2 : o - (cur.toList.take o).length = 0 := by rw [List.length_take]; omega
        rw [h2]; simp
      rw [← e]; exact this
  have := gen cs 0 w old h (by omega)
  simpa using this

theorem blk_setCells_other {g b : Nat} {cur : Array Value} (hne : g ≠ b) : ∀ (cs : List Value) (o : Nat) {w : World}, Blk w g cur → Blk (w.setCells b o cs) g cur
  | [], _, _, h => h
  | v :: r, o, _, h => blk_setCells_other hne r (o + 1) (h.other (fun e => hne e.symm) v)

/-- A struct in the cell of a result, and a temporary behind it. -/
theorem results_blk {fn : Func} {p u : Tmp} {ty : TypeId} (h : fn.results = #[.cell p ty, .tmp u]) (tmps : Array Value) (g : Nat) (cs : Array Value) (d : TypeDesc)
    (hp : tmps.getD p undef = .pointer (some ⟨g, 0, none⟩)) (hb : Blk w g cs) (hu : P.underlying ty = some d) (hd : (match d with | .struct _ | .array _ _ => true | _ => false) = true) (hi : (P.info? ty).map (·.size) = some cs.size) :
    (results fn tmps).run P w = .ok (.tuple #[.agg cs, tmps.getD u undef]) w := by
  have hl := run_loadVar_cells (P := P) (w := w) ty g 0 cs.toList d hu hd (by simpa using hi) (Holds.of_blk hb)
  rw [results_cell_tmp h tmps P w, hp]
  simp [asAddr, Result.andThen, Sem.run_pure, hl]

theorem results_cell_tmp2 {fn : Func} {p u v : Tmp} {ty : TypeId} (h : fn.results = #[.cell p ty, .tmp u, .tmp v]) (tmps : Array Value) (P : Program) (w : World) :
    (results fn tmps).run P w =
      ((asAddr (tmps.getD p undef)).run P w).andThen fun a w₁ => ((loadVar ty a).run P w₁).andThen fun x w₂ => .ok (.tuple #[x, tmps.getD u undef, tmps.getD v undef]) w₂ := by
  simp only [results, h]
  simp [Sem.run_bind, Result.andThen]

/-- A struct in the cell of a result, and two temporaries behind it. -/
theorem results_blk3 {fn : Func} {p u v : Tmp} {ty : TypeId} (h : fn.results = #[.cell p ty, .tmp u, .tmp v]) (tmps : Array Value) (g : Nat) (cs : Array Value) (d : TypeDesc)
    (hp : tmps.getD p undef = .pointer (some ⟨g, 0, none⟩)) (hb : Blk w g cs) (hu : P.underlying ty = some d) (hd : (match d with | .struct _ | .array _ _ => true | _ => false) = true) (hi : (P.info? ty).map (·.size) = some cs.size) :
    (results fn tmps).run P w = .ok (.tuple #[.agg cs, tmps.getD u undef, tmps.getD v undef]) w := by
  have hl := run_loadVar_cells (P := P) (w := w) ty g 0 cs.toList d hu hd (by simpa using hi) (Holds.of_blk hb)
  rw [results_cell_tmp2 h tmps P w, hp]
  simp [asAddr, Result.andThen, Sem.run_pure, hl]
end
end Go.Proofs.Ythnijeclidpooaa.Row
