/- prefix: rows of nodes of a call's own whose room is known to hold nodes too. Conditions: none. -/
import Derived.Test.YthnijeclidpooaaPfxY
import Derived.Laws.AppendOwn
import Derived.Deep.AppendLies
import Derived.Deep.RegionLaw
namespace Go.Proofs.Ythnijeclidpooaa.X
open Go Go.RowKit Go.Proofs.Ythnijeclidpooaa.Abs Go.Proofs.Ythnijeclidpooaa.Bits
set_option linter.unusedVariables false
set_option linter.unusedSimpArgs false
def nodeCells (x : TNode) : List Value := [.int .i64 x.next0, .int .i64 x.next1, .bool x.set, .int .i64 x.value]
def cellsN (ns : List TNode) : List Value := ns.flatMap nodeCells
theorem cellsN_len : ∀ (ns : List TNode), (cellsN ns).length = ns.length * 4
  | [] => rfl
  | x :: r => by have := cellsN_len r; simp only [cellsN, List.flatMap_cons, List.length_append, List.length_cons] at this ⊢; rw [this]; simp [nodeCells]; omega
theorem cellsN_app (a b : List TNode) : cellsN (a ++ b) = cellsN a ++ cellsN b := by simp [cellsN]
/-- A row of nodes of the call's own; behind them lie nodes too. -/
def OwnN (w : World) (base : Nat) (v : Value) (ns : List TNode) : Prop :=
  (v = .slice none 0 0 ∧ ns = []) ∨ ∃ (g : Nat) (ys : List TNode), v = .slice (some ⟨g, 0, none⟩) ns.length (ns.length + ys.length) ∧ base ≤ g ∧ w.heap[g]? = some (.cells (cellsN (ns ++ ys)).toArray 66 (0, 0)) ∧ ns.length + ys.length ≤ maxLen
theorem OwnN.nil (w : World) (base : Nat) : OwnN w base (.slice none 0 0) [] := .inl ⟨rfl, rfl⟩
theorem OwnN.own {w : World} {base : Nat} {v : Value} {ns : List TNode} (h : OwnN w base v ns) : w.ownsRow base 66 4 v ns.length (cellsN ns) := by
  refine ⟨cellsN_len ns, ?_⟩
  rcases h with ⟨rfl, rfl⟩ | ⟨g, ys, rfl, h2, h3, h4⟩
  · exact .inl ⟨rfl, rfl⟩
  · refine .inr ⟨g, _, _, rfl, h2, h3, Nat.le_add_right _ _, h4, ?_, ?_⟩
    · rw [List.size_toArray, cellsN_len, List.length_append]
    · show List.take _ (cellsN (ns ++ ys)) = _
      rw [cellsN_app, ← cellsN_len ns]; exact List.take_left
theorem OwnN.lt {w : World} {base : Nat} {v : Value} {ns : List TNode} (h : OwnN w base v ns) : ∀ k, v.ownBlock = some k → base ≤ k ∧ k < w.heap.size := h.own.lt
theorem OwnN.kept {w w' : World} {base : Nat} {v : Value} {ns : List TNode} (h : OwnN w base v ns) (hk : ∀ g, v.ownBlock = some g → w'.heap[g]? = w.heap[g]?) : OwnN w' base v ns := by
  rcases h with h | ⟨g, ys, rfl, h2, h3, h4⟩
  · exact .inl h
  · exact .inr ⟨g, ys, rfl, h2, (hk g rfl).trans h3, h4⟩
theorem OwnN.base {w : World} {a b : Nat} {v : Value} {ns : List TNode} (h : OwnN w b v ns) (hab : a ≤ b) : OwnN w a v ns := by
  rcases h with h | ⟨g, ys, h1, h2, h3⟩
  · exact .inl h
  · exact .inr ⟨g, ys, h1, Nat.le_trans hab h2, h3⟩
theorem OwnN.form {w : World} {base : Nat} {v : Value} {ns : List TNode} (h : OwnN w base v ns) : ∃ ao cap, v = .slice ao ns.length cap := by
  rcases h with ⟨rfl, rfl⟩ | ⟨g, ys, rfl, _⟩
  · exact ⟨_, _, rfl⟩
  · exact ⟨_, _, rfl⟩
theorem zero_nodes (k : Nat) : (Builtin.zeroCells (Value.agg #[.int .i64 0, .int .i64 0, .bool false, .int .i64 0]).cells k).toList = cellsN (List.replicate k ⟨0, 0, false, 0⟩) := by
  have hz : (Value.agg #[.int .i64 0, .int .i64 0, .bool false, .int .i64 0]).cells = #[.int .i64 0, .int .i64 0, .bool false, .int .i64 0] := rfl
  rw [hz]
  induction k with
  | zero => simp [Builtin.zeroCells, cellsN]
  | succ k ih =>
    rw [List.replicate_succ', cellsN_app, ← ih]
    simp only [Builtin.zeroCells, Array.toList_map, Array.toList_range, List.size_toArray, List.length_cons, List.length_nil] at ih ⊢
    rw [show (k + 1) * (0 + 1 + 1 + 1 + 1) = k * (0 + 1 + 1 + 1 + 1) + 4 by omega, show List.range (k * (0 + 1 + 1 + 1 + 1) + 4) = List.range (k * (0 + 1 + 1 + 1 + 1)) ++ [k * 4, k * 4 + 1, k * 4 + 2, k * 4 + 3] by simp [List.range_succ], List.map_append]
    congr 1
    simp [cellsN, nodeCells]
section
variable (w : World)
/-- One node more. -/
theorem run_append_node (t ty : TypeId) (base : Nat) (i : TypeInfo) (ht : Try.prog.underlying t = some (.slice 66)) (hi : Try.prog.info? 66 = some i) (hz : i.zero = some (.agg #[.int .i64 0, .int .i64 0, .bool false, .int .i64 0]))
    (hsize : i.size = 4) (hby : i.bytes = 32) (v : Value) (ns : List TNode) (x : TNode) (hown : OwnN w base v ns)
    (ad : Addr) (hnews : ∀ j u, (nodeCells x)[j]? = some u → w.cell? (ad.add j) = some u)
    (h63 : ns.length + 1 ≤ maxLen) (hbytes : (ns.length + 1) * 32 ≤ 140737488355328) (hbase : base ≤ w.heap.size) (H : Nat) (hH : w.heap.size = H) :
    ∃ g cap w', (Builtin.append_ #[t, t] ty #[v, .slice (some ad) 1 1]).run Try.prog w = .ok (.slice (some ⟨g, 0, none⟩) (ns.length + 1) cap) w' ∧
      OwnN w' base (.slice (some ⟨g, 0, none⟩) (ns.length + 1) cap) (ns ++ [x]) ∧ w.grownBy w' v.ownBlock ∧ (v.ownBlock = some g ∨ g = H) ∧ g < w'.heap.size := by
  have hl : (nodeCells x).length = 1 * i.size := by rw [hsize]; rfl
  have hsmall : ns.length + 1 ≤ 9223372036854775807 := by simp only [maxLen] at h63; omega
  have grown : ∀ (old : Nat), old < ns.length + 1 → ∀ (row : Option Nat),
      OwnN (w.drew.alloc (.cells ((cellsN ns).toArray ++ (nodeCells x).toArray ++ Builtin.zeroCells (Value.agg #[.int .i64 0, .int .i64 0, .bool false, .int .i64 0]).cells (grownCap w (ns.length + 1) old 66 - (ns.length + 1))) 66)) base
        (.slice (some ⟨w.heap.size, 0, none⟩) (ns.length + 1) (grownCap w (ns.length + 1) old 66)) (ns ++ [x]) ∧
      w.grownBy (w.drew.alloc (.cells ((cellsN ns).toArray ++ (nodeCells x).toArray ++ Builtin.zeroCells (Value.agg #[.int .i64 0, .int .i64 0, .bool false, .int .i64 0]).cells (grownCap w (ns.length + 1) old 66 - (ns.length + 1))) 66)) row := by
    intro old ho row
    have hge := grownCap_ge w (ns.length + 1) old 66
    have hcm : grownCap w (ns.length + 1) old 66 ≤ maxLen := grownCap_le_maxLen w (ns.length + 1) old 66 h63
    generalize grownCap w (ns.length + 1) old 66 = C at hge hcm ⊢
    refine ⟨.inr ⟨w.heap.size, List.replicate (C - (ns.length + 1)) ⟨0, 0, false, 0⟩, ?_, hbase, ?_, ?_⟩, ⟨rfl, rfl, rfl, by simp, fun k hk _ => Below.heap_alloc w.drew _ _ hk⟩⟩
    · rw [List.length_append, List.length_replicate, List.length_singleton, show ns.length + 1 + (C - (ns.length + 1)) = C by omega]
    · refine (heap_alloc_new w.drew _).trans ?_
      have e1 : (cellsN ns).toArray ++ (nodeCells x).toArray ++ Builtin.zeroCells (Value.agg #[.int .i64 0, .int .i64 0, .bool false, .int .i64 0]).cells (C - (ns.length + 1)) = (cellsN (ns ++ [x] ++ List.replicate (C - (ns.length + 1)) ⟨0, 0, false, 0⟩)).toArray := by
        apply Array.ext'
        simp only [Array.toList_append, zero_nodes]
        rw [cellsN_app, cellsN_app]
        simp [cellsN]
      rw [e1]
    · rw [List.length_append, List.length_replicate, List.length_singleton]; omega
  rcases hown with ⟨rfl, rfl⟩ | ⟨g, ys, rfl, hbg, hg, hcm⟩
  · have hr := run_append_nil (P := Try.prog) w t ty 66 i _ ht hi hz ad 1 1 (nodeCells x) hl hnews (by omega) (by omega) (by rw [hby]; omega)
    have hgr := grown 0 (by omega) (Value.ownBlock (.slice none 0 0))
    simp only [List.length_nil, Nat.zero_add, cellsN, List.flatMap_nil, Array.empty_append, List.nil_append] at hgr ⊢
    exact ⟨_, _, _, hr, hgr.1, hgr.2, .inr hH, by rw [size_alloc]; exact Nat.lt_succ_self _⟩
  · have hglt : g < w.heap.size := (Array.getElem?_eq_some_iff.1 hg).1
    cases ys with
    | cons y ys =>
      have hfit : ns.length * i.size + (nodeCells x).length ≤ (cellsN (ns ++ y :: ys)).toArray.size := by
        rw [hl, hsize, List.size_toArray, cellsN_len, List.length_append, List.length_cons]; omega
      have hr := run_append_room (P := Try.prog) w t ty 66 i ht hi g ns.length (ns.length + (y :: ys).length) _ hg ad 1 1 (nodeCells x) hl hnews (by simp [nodeCells, Value.oneCell']) (by simp) hfit
      refine ⟨_, _, _, hr, .inr ⟨g, ys, ?_, hbg, ?_, ?_⟩, ⟨rfl, rfl, rfl, by simp, fun k _ hk => setRow_other w g k _ (fun e => hk (by simp [Value.ownBlock, e]))⟩, .inl rfl, ?_⟩
      · rw [List.length_append, List.length_singleton, List.length_cons, show ns.length + (ys.length + 1) = ns.length + 1 + ys.length by omega]
      · refine (setRow_heap w g _ _ 66 _ hg).trans ?_
        have e1 : cellsN (ns ++ y :: ys) = cellsN ns ++ (nodeCells y ++ cellsN ys) := by rw [cellsN_app]; rfl
        have e2 : cellsN (ns ++ [x] ++ ys) = cellsN ns ++ (nodeCells x ++ cellsN ys) := by rw [cellsN_app, cellsN_app]; simp [cellsN]
        have e3 : ns.length * i.size = (cellsN ns).length := by rw [hsize, cellsN_len]
        have e4 : List.take (cellsN ns).length (cellsN (ns ++ y :: ys)) ++ nodeCells x ++ List.drop ((cellsN ns).length + (nodeCells x).length) (cellsN (ns ++ y :: ys)) = cellsN (ns ++ [x] ++ ys) := by
          rw [e1, e2, List.take_left, List.append_assoc, ← List.drop_drop, List.drop_left, show (nodeCells x).length = (nodeCells y).length from rfl, List.drop_left]
        rw [e3]
        exact congrArg (fun l : List Value => some (Obj.cells l.toArray 66 (0, 0))) e4
      · rw [List.length_append, List.length_singleton]; simp only [List.length_cons] at hcm; omega
      · show g < (w.setRow g _).heap.size
        simpa using hglt
    | nil =>
      rw [List.append_nil] at hg
      have h0 : OwnN w base (.slice (some ⟨g, 0, none⟩) ns.length (ns.length + 0)) ns := .inr ⟨g, [], rfl, hbg, by rw [List.append_nil]; exact hg, hcm⟩
      have holds : ∀ j u, (cellsN ns)[j]? = some u → w.cell? ((⟨g, 0, none⟩ : Addr).add j) = some u := h0.own.cells (g := g) rfl
      have hr := run_append_grow (P := Try.prog) w t ty 66 i _ ht hi hz ⟨g, 0, none⟩ ns.length (ns.length + 0) (cellsN ns) (by rw [hsize]; exact cellsN_len ns) holds ad 1 1 (nodeCells x) hl hnews (by omega) (by omega) (growslice_fits (by omega) (by rw [hby]; exact hbytes))
      have hgr := grown (ns.length + 0) (by omega) (some g)
      exact ⟨_, _, _, hr, hgr.1, hgr.2, .inr hH, by rw [size_alloc]; exact Nat.lt_succ_self _⟩
theorem step_append_node {ops : Array Oper} {o : Oper} {a : Act} {K : Act → World → Prop} {Q : Exit → Act → World → Prop} {E : Prop} (hgd : o.guard = none) (s y : Operand) (t : TypeId)
    (ho : o.op = .call { callee := .builtin .append, args := #[s, y], argTypes := #[t, t] })
    (base : Nat) (i : TypeInfo) (ht : Try.prog.underlying t = some (.slice 66)) (hi : Try.prog.info? 66 = some i) (hz : i.zero = some (.agg #[.int .i64 0, .int .i64 0, .bool false, .int .i64 0])) (hsize : i.size = 4) (hby : i.bytes = 32)
    (v : Value) (ns : List TNode) (x : TNode) (hs : a.eval s = v) (hown : OwnN w base v ns)
    (ad : Addr) (hx : a.eval y = .slice (some ad) 1 1) (hnews : ∀ j u, (nodeCells x)[j]? = some u → w.cell? (ad.add j) = some u)
    (h63 : ns.length + 1 ≤ maxLen) (hbytes : (ns.length + 1) * 32 ≤ 140737488355328) (hbase : base ≤ w.heap.size) (H : Nat) (hH : w.heap.size = H)
    (h : ∀ g cap w', OwnN w' base (.slice (some ⟨g, 0, none⟩) (ns.length + 1) cap) (ns ++ [x]) → w.grownBy w' v.ownBlock → (v.ownBlock = some g ∨ g = H) → g < w'.heap.size → K (a.put o.dst (.slice (some ⟨g, 0, none⟩) (ns.length + 1) cap)) w') :
    if Region.wanted o (yielded ops a.tmps) = true then Oper.wp Try.prog o a w K Q else E := by
  have hw : Region.wanted o (yielded ops a.tmps) = true := by simp [Region.wanted, hgd]
  rw [if_pos hw]
  obtain ⟨g, cap, w', hr, h2, h3, h4, h5⟩ := run_append_node w t o.type base i ht hi hz hsize hby v ns x hown ad hnews h63 hbytes hbase H hH
  unfold Oper.wp execOp
  simp only [ho, resolve, invoke, builtin, Sem.run_bind, Sem.run_pure, Result.andThen_ok, List.map_toArray, List.map_cons, List.map_nil, hs, hx, hr]
  exact h g cap w' h2 h3 h4 h5
end
theorem OwnN.set {w : World} {base g cap : Nat} {n : Nat} {ns ns' : List TNode} (h : OwnN w base (.slice (some ⟨g, 0, none⟩) n cap) ns) {j : Nat} (hj : j < (cellsN ns).length) (u : Value) (e : (cellsN ns).set j u = cellsN ns') (hl : ns'.length = ns.length) :
    OwnN (w.setCell ⟨g, j, none⟩ u) base (.slice (some ⟨g, 0, none⟩) n cap) ns' := by
  rcases h with ⟨h1, _⟩ | ⟨g', ys, h1, h2, h3, h4⟩
  · cases h1
  · cases h1
    have hjc : j < (cellsN (ns ++ ys)).toArray.size := by rw [List.size_toArray, cellsN_app, List.length_append]; omega
    obtain ⟨e1, _⟩ := set_heap (v := u) h3 hjc
    refine .inr ⟨g, ys, by rw [hl], h2, e1.trans ?_, by rw [hl]; exact h4⟩
    congr 2
    apply Array.ext'
    rw [Array.toList_set]
    show (cellsN (ns ++ ys)).set j u = cellsN (ns' ++ ys)
    rw [cellsN_app, cellsN_app, ← e, List.set_append_left _ _ hj]
end Go.Proofs.Ythnijeclidpooaa.X
