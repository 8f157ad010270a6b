/- frag: slices.Insert of one Part, as a told call. Conditions: none. -/
import Derived.Test.YthnijeclidpooaaFragI
namespace Go.Proofs.Ythnijeclidpooaa.X
open Go Go.RowKit Go.Lib Go.Proofs.Ythnijeclidpooaa.Abs
set_option linter.unusedVariables false
set_option linter.unusedSimpArgs false
theorem stored {w : World} {g off : Nat} {cur : Array Value} {e : TypeId} {fz : Nat × Nat} (ul : List Value) (hg : w.heap[g]? = some (.cells cur e fz)) (hin : off + ul.length ≤ cur.size) :
    ∃ cur' : Array Value, (w.setCells g off ul).heap[g]? = some (.cells cur' e fz) ∧ cur'.size = cur.size ∧ (∀ q, q < off ∨ off + ul.length ≤ q → cur'[q]? = cur[q]?) ∧ ∀ q, q < ul.length → cur'[off + q]? = ul[q]? := by
  obtain ⟨cur', p1, p2, p3⟩ := setCells_shape g ul off w cur e fz hg
  refine ⟨cur', p1, p2.symm, p3, fun q hq => ?_⟩
  have := World.cell?_setCells_in g ul off w (fun j hj => by
    simp only [World.cell?, hg]; rw [Array.getElem?_eq_getElem (by omega)]; rfl) q hq
  simp only [World.cell?, p1] at this
  rw [List.getElem?_eq_getElem hq]
  exact this
theorem ins_get {α : Type} {l : List α} {i : Nat} (hi : i ≤ l.length) (x : α) (q : Nat) : (l.take i ++ x :: l.drop i)[q]? = if q < i then l[q]? else if q = i then some x else l[q - 1]? := by
  have hl : (l.take i).length = i := by rw [List.length_take]; omega
  split
  · rename_i h; rw [List.getElem?_append_left (by omega), List.getElem?_take, if_pos h]
  · rename_i h
    rw [List.getElem?_append_right (by omega), hl]
    split
    · rename_i h2; subst h2; simp
    · rename_i h2
      rw [show q - i = (q - i - 1) + 1 by omega, List.getElem?_cons_succ, List.getElem?_drop]
      congr 1; omega
theorem ins_len {α : Type} {l : List α} {i : Nat} (hi : i ≤ l.length) (x : α) : (l.take i ++ x :: l.drop i).length = l.length + 1 := by
  simp only [List.length_append, List.length_take, List.length_cons, List.length_drop]; omega
/-- The cells after the call. -/
theorem ins_rows {w w' : World} {rows : List (List D)} {r : List D} {i : Nat} {cur cur' : Array Value} {vb voff : Nat} {vs : List Value} (hi : i ≤ rows.length) (hrl : ∀ r ∈ rows, r.length = 3) (hv : OnePart w vb voff vs r)
    (h8 : ∀ (i j : Nat) (r : List D) (d : D), rows[i]? = some r → r[j]? = some d → ∃ u, cur[i * 3 + j]? = some u ∧ u.oneCell' = true ∧ RepI w (fun _ => False) u d)
    (k1 : ∀ q, q < i * 3 → cur'[q]? = cur[q]?) (k2 : ∀ q, q < 3 → cur'[i * 3 + q]? = vs[q]?) (k3 : ∀ q, q < (rows.length - i) * 3 → cur'[(i + 1) * 3 + q]? = cur[i * 3 + q]?) :
    ∀ (i' j : Nat) (r' : List D) (d : D), (rows.take i ++ r :: rows.drop i)[i']? = some r' → r'[j]? = some d → ∃ u, cur'[i' * 3 + j]? = some u ∧ u.oneCell' = true ∧ RepI w' (fun _ => False) u d := by
  have up : ∀ {u : Value} {d : D}, RepI w (fun _ => False) u d → RepI w' (fun _ => False) u d := fun hr => hr.mono (fun _ hb => hb) (fun _ hb => hb.elim)
  intro i' j r' d hr hd
  rw [ins_get hi] at hr
  split at hr
  · rename_i hlt
    have hj : j < 3 := by have := (List.getElem?_eq_some_iff.1 hd).1; rwa [hrl _ (List.mem_of_getElem? hr)] at this
    obtain ⟨u, z1, z2, z3⟩ := h8 i' j r' d hr hd
    exact ⟨u, by rw [k1 _ (by omega)]; exact z1, z2, up z3⟩
  · split at hr
    · rename_i h2
      subst h2; cases hr
      have hj : j < 3 := by have := (List.getElem?_eq_some_iff.1 hd).1; rwa [hv.rlen] at this
      have hjv : j < vs.length := by rw [hv.len]; exact hj
      exact ⟨vs[j], by rw [k2 j hj]; exact List.getElem?_eq_getElem hjv, hv.one _ (List.getElem_mem hjv), up (hv.rep j _ d (List.getElem?_eq_getElem hjv) hd)⟩
    · rename_i h1 h2
      have hj : j < 3 := by have := (List.getElem?_eq_some_iff.1 hd).1; rwa [hrl _ (List.mem_of_getElem? hr)] at this
      have hil := (List.getElem?_eq_some_iff.1 hr).1
      obtain ⟨u, z1, z2, z3⟩ := h8 (i' - 1) j r' d hr hd
      refine ⟨u, ?_, z2, up z3⟩
      have := k3 ((i' - 1 - i) * 3 + j) (by omega)
      rw [show (i + 1) * 3 + ((i' - 1 - i) * 3 + j) = i' * 3 + j by omega, show i * 3 + ((i' - 1 - i) * 3 + j) = (i' - 1) * 3 + j by omega] at this
      rw [this]; exact z1
theorem Insert_walk (v0 : Value) (rows : List (List D)) (i : Nat) (vb voff vc : Nat) (vs : List Value) (r : List D) (w : World) (h0 : RowRel w (fun _ => False) 86 3 v0 rows) (hrl : ∀ r ∈ rows, r.length = 3) (hi : i ≤ rows.length)
    (hv : OnePart w vb voff vs r) (hn : rows.length ≤ 1000000) (hvb : ∀ b, v0.ownBlock = some b → vb ≠ b) (tA : TypeId) (kA : Nat) (hsa : w.shape? vb = some (tA, kA)) (hfa : w.frozen? ⟨vb, voff, none⟩ = false) (hfe : w.frozen? ⟨vb, kA, none⟩ = false) :
    Calls Try.prog 80 #[v0, .int .i64 i, .slice (some ⟨vb, voff, none⟩) 1 vc] w fun e w' => ∃ v', e = .returned v' ∧ InsOk w w' v0 v' (rows.take i ++ r :: rows.drop i) := by
  rcases Nat.lt_or_ge i rows.length with hlt | hge
  case inr =>
    obtain rfl : i = rows.length := by omega
    rw [List.take_length, List.drop_length]
    exact Insert_end v0 rows vb voff vc vs r w h0 hrl hv hn
  rcases h0 with ⟨_, rfl⟩ | ⟨g, cap, cur, fz, rfl, hg, h3, h4, h5, rfl, h8⟩
  · simp at hlt
  have hgw : g < w.heap.size := (Array.getElem?_eq_some_iff.1 hg).1
  have hone : ∀ j, j < rows.length * 3 → ∀ v, cur[j]? = some v → v.oneCell' = true := fun j hj v hjv => by
    have h1 : j / 3 < rows.length := by omega
    have h2 := hrl rows[j / 3] (List.getElem_mem h1)
    obtain ⟨u, z1, z2, _⟩ := h8 (j / 3) (j % 3) rows[j / 3] ((rows[j / 3])[j % 3]'(by omega)) (List.getElem?_eq_getElem h1) (List.getElem?_eq_getElem _)
    rw [show j / 3 * 3 + j % 3 = j by omega, hjv] at z1
    cases z1; exact z2
  have hct : cur.toList.length = cap * 3 := (Array.length_toList (xs := cur)).trans h5
  have hcl : ((cur.toList.drop (i * 3)).take ((rows.length - i) * 3)).length = (rows.length - i) * 3 := by rw [List.length_take, List.length_drop, hct]; omega
  have hcg : ∀ q, q < (rows.length - i) * 3 → ((cur.toList.drop (i * 3)).take ((rows.length - i) * 3))[q]? = cur[i * 3 + q]? := fun q hq => by
    rw [List.getElem?_take, if_pos hq, List.getElem?_drop, Array.getElem?_toList]
  generalize hCS : (cur.toList.drop (i * 3)).take ((rows.length - i) * 3) = CS at hcl hcg
  have hil := ins_len hi r
  by_cases hroom : rows.length + 1 ≤ cap
  · refine (Insert_room g rows.length cap i cur vb voff vc vs r w hg hlt hroom h4 h5 hone hv (hvb g rfl) tA kA hsa hfa hfe).mono ?_
    rintro e w' ⟨rfl, hw'⟩
    rw [hCS] at hw'
    obtain ⟨c1, p1, p2, p3, p4⟩ := stored (w := w.drew) (g := g) (off := (i + 1) * 3) CS hg (by omega)
    obtain ⟨c2, r1, r2, r3, r4⟩ := stored (g := g) (off := i * 3) vs p1 (by rw [hv.len]; omega)
    rw [← hw'] at r1
    have hoth : ∀ b, b ≠ g → w'.heap[b]? = w.heap[b]? := fun b hb => by rw [hw', setCells_other g vs _ _ b hb, setCells_other g CS _ _ b hb]; rfl
    have hrest : w'.os = w.os ∧ w'.tape = w.tape ∧ w'.output = w.output := by
      obtain ⟨a1, a2, a3⟩ := setCells_rest g vs (i * 3) (w.drew.setCells g ((i + 1) * 3) CS)
      obtain ⟨b1, b2, b3⟩ := setCells_rest g CS ((i + 1) * 3) w.drew
      rw [hw']; exact ⟨a1.trans b1, a2.trans b2, a3.trans b3⟩
    have hsz : w'.heap.size = w.heap.size := by rw [hw', setCells_size, setCells_size]; rfl
    refine ⟨_, rfl, ⟨hrest.1, hrest.2.1, hrest.2.2, by omega, fun k hk hne => hoth k fun e => hne (by rw [e]; rfl)⟩, .inl rfl, fun b hb => by (have : g = b := by simpa [Value.ownBlock] using hb); omega, .inr ⟨g, cap, c2, (0, 0), by rw [hil], r1, by omega, h4, by omega, rfl, ?_⟩⟩
    refine ins_rows hi hrl hv h8 (fun q hq => ?_) (fun q hq => r4 q (by rw [hv.len]; exact hq)) (fun q hq => ?_)
    · rw [r3 _ (.inl hq), p3 _ (.inl (by omega))]
    · rw [r3 _ (.inr (by rw [hv.len]; omega)), p4 q (by omega), hcg q hq]
  · refine (Insert_grow g rows.length cap i cur vb voff vc vs r w hg hlt h3 (by omega) hn h5 hone hv).mono ?_
    rintro e w' ⟨rfl, hw'⟩
    rw [hCS] at hw'
    have hG := grownCap_ge w (rows.length + 1) cap 86
    have hGm := grownCap_le_maxLen w (rows.length + 1) cap 86 (by unfold maxLen; omega)
    generalize grownCap w (rows.length + 1) cap 86 = G at hG hGm hw' ⊢
    have hzc : zPart.cells.size = 3 := rfl
    have hol : (cur.toList.take (i * 3)).length = i * 3 := by rw [List.length_take, hct]; omega
    obtain ⟨ROW, hROW⟩ : ∃ ROW : Array Value, ROW = (cur.toList.take (i * 3)).toArray ++ Builtin.zeroCells zPart.cells (rows.length + 1 - i) ++ Builtin.zeroCells zPart.cells (G - (rows.length + 1)) := ⟨_, rfl⟩
    rw [← hROW] at hw'
    have hRl : ROW.size = G * 3 := by
      rw [hROW]
      simp only [Array.size_append, size_zeroCells, hzc, List.size_toArray, hol]
      omega
    have hRg : ∀ q, q < i * 3 → ROW[q]? = cur[q]? := fun q hq => by
      rw [hROW, Array.append_assoc, Array.getElem?_append_left (by rw [List.size_toArray, hol]; exact hq), List.getElem?_toArray, List.getElem?_take, if_pos hq, Array.getElem?_toList]
    have hg1 : (w.alloc (.cells ROW 86)).drew.heap[w.heap.size]? = some (.cells ROW 86 (0, 0)) := heap_alloc_new w _
    obtain ⟨c1, p1, p2, p3, p4⟩ := stored (g := w.heap.size) (off := i * 3) vs hg1 (by rw [hv.len]; omega)
    have p1 : ((w.alloc (.cells ROW 86)).drew.setCells w.heap.size (i * 3) vs).drew.heap[w.heap.size]? = some (.cells c1 86 (0, 0)) := p1
    obtain ⟨c2, r1, r2, r3, r4⟩ := stored (g := w.heap.size) (off := (i + 1) * 3) CS p1 (by omega)
    rw [← hw'] at r1
    have hoth : ∀ b, b < w.heap.size → w'.heap[b]? = w.heap[b]? := fun b hb => by
      rw [hw', setCells_other _ CS _ _ b (by omega)]
      show ((w.alloc (.cells ROW 86)).drew.setCells w.heap.size (i * 3) vs).heap[b]? = _
      rw [setCells_other _ vs _ _ b (by omega)]
      exact Below.heap_alloc _ _ _ hb
    have hrest : w'.os = w.os ∧ w'.tape = w.tape ∧ w'.output = w.output := by
      obtain ⟨a1, a2, a3⟩ := setCells_rest w.heap.size CS ((i + 1) * 3) ((w.alloc (.cells ROW 86)).drew.setCells w.heap.size (i * 3) vs).drew
      obtain ⟨b1, b2, b3⟩ := setCells_rest w.heap.size vs (i * 3) (w.alloc (.cells ROW 86)).drew
      rw [hw']; exact ⟨a1.trans b1, a2.trans b2, a3.trans b3⟩
    have hsz : w'.heap.size = w.heap.size + 1 := by
      rw [hw', setCells_size]
      show ((w.alloc (.cells ROW 86)).drew.setCells w.heap.size (i * 3) vs).heap.size = _
      rw [setCells_size]; exact size_alloc _ _
    refine ⟨_, rfl, ⟨hrest.1, hrest.2.1, hrest.2.2, by omega, fun k hk _ => hoth k hk⟩, .inr rfl, fun b hb => by (have : w.heap.size = b := by simpa [Value.ownBlock] using hb); omega, .inr ⟨w.heap.size, G, c2, (0, 0), by rw [hil], r1, by omega, hGm, by omega, rfl, ?_⟩⟩
    refine ins_rows hi hrl hv h8 (fun q hq => ?_) (fun q hq => ?_) (fun q hq => ?_)
    · rw [r3 _ (.inl (by omega)), p3 _ (.inl hq), hRg q hq]
    · rw [r3 _ (.inl (by omega)), p4 q (by rw [hv.len]; exact hq)]
    · rw [r4 q (by omega), hcg q hq]
end Go.Proofs.Ythnijeclidpooaa.X
