/- frag: slices.Insert of one Part. Conditions: none. -/
import Derived.Test.YthnijeclidpooaaAbsN
import Derived.Test.YthnijeclidpooaaProg
import Derived.Shelf.Spec.SlicesInsertGrow
import Derived.WalkKit
import Derived.Handy
import Derived.BigQuiet
import Derived.Deep.QuietTactic
import Derived.RegionTactic
import Derived.Outline
namespace Go.Proofs.Ythnijeclidpooaa.X
open Go Go.RowKit Go.Lib Go.Proofs.Ythnijeclidpooaa.Abs
set_option linter.unusedVariables false
set_option linter.unusedSimpArgs false
/-- copy, for elements of whatever size. -/
theorem run_copyN {P : Program} (w : World) (dT sT ty elem : TypeId) (sz b o dLen dCap : Nat) (a : Addr) (sLen sCap : Nat) (cs : List Value)
    (hu : P.underlying dT = some (.slice elem)) (hs : (P.info? elem).map (·.size) = some sz) (hn : cs.length = Nat.min sLen dLen * sz)
    (hsrc : ∀ j v, cs[j]? = some v → w.cell? (a.add j) = some v) (hc : ∀ j, j < cs.length → (w.cell? ⟨b, o + j, none⟩).isSome = true) (hf : ∀ j, j < cs.length → w.frozen? ⟨b, o + j, none⟩ = false) (h1 : ∀ v ∈ cs, v.oneCell' = true) :
    (Builtin.copy_ #[dT, sT] ty #[.slice (some ⟨b, o, none⟩) dLen dCap, .slice (some a) sLen sCap]).run P w = .ok (goInt (Nat.min sLen dLen)) (w.setCells b o cs) := by
  have hl := run_loadCells_list (P := P) w a cs hsrc
  have hst := run_storeCells_cells (P := P) b o cs 0 w (by simpa using hc) (by simpa using hf) h1
  cases hq : P.info? elem with
  | none => simp [hq] at hs
  | some i =>
    have hi : i.size = sz := by simpa [hq] using hs
    rw [hn] at hl
    simp [Builtin.copy_, run_underlying hu, Builtin.lenOf, Builtin.firstCells, sizeOf, typeInfo, hq, hi, hl, hst]
/-- What the call leaves of a row. -/
def InsOk (w w' : World) (v0 v' : Value) (rows : List (List D)) : Prop :=
  w.grownBy w' v0.ownBlock ∧ (v'.ownBlock = v0.ownBlock ∨ v'.ownBlock = some w.heap.size) ∧ (∀ b, v'.ownBlock = some b → b < w'.heap.size) ∧ RowRel w' (fun _ => False) 86 3 v' rows
/-- One Part, as a row of three cells. -/
structure OnePart (w : World) (b o : Nat) (vs : List Value) (r : List D) : Prop where
  len : vs.length = 3
  cell : ∀ j v, vs[j]? = some v → w.cell? ⟨b, o + j, none⟩ = some v
  one : ∀ v ∈ vs, v.oneCell' = true
  rep : ∀ (j : Nat) (v : Value) (d : D), vs[j]? = some v → r[j]? = some d → RepI w (fun _ => False) v d
  rlen : r.length = 3
set_option maxRecDepth 100000 in
set_option maxHeartbeats 4000000 in
theorem Insert_end (v0 : Value) (rows : List (List D)) (vb voff vc : Nat) (vs : List Value) (r : List D) (w : World) (h0 : RowRel w (fun _ => False) 86 3 v0 rows) (hrl : ∀ r ∈ rows, r.length = 3)
    (hv : OnePart w vb voff vs r) (hn : rows.length ≤ 1000000) :
    Calls Try.prog 80 #[v0, .int .i64 rows.length, .slice (some ⟨vb, voff, none⟩) 1 vc] w fun e w' => ∃ v', e = .returned v' ∧ InsOk w w' v0 v' (rows ++ [r]) := by
  have hform : ∃ ao c, v0 = .slice ao rows.length c := by
    rcases h0 with ⟨rfl, rfl⟩ | ⟨g, cap, cur, fz, rfl, _⟩
    · exact ⟨_, _, rfl⟩
    · exact ⟨_, _, rfl⟩
  obtain ⟨v', w', hrun, hgrow, hob, hlt, hrow⟩ := append_core (P := Try.prog) (w := w) (UU := fun _ => False) (t := 81) (ty := 81) (e := 86) (sz := 3) (zs := [.d (.i .i64 0), .d (.s []), .d (.b false)]) (rows := rows) (new := [r]) (v0 := v0) (ao := some ⟨vb, voff, none⟩) (cap := vc) (by kernel_rfl) (by kernel_rfl) (by kernel_rfl) (by decide) h0 hrl (fun x hx => by rw [List.mem_singleton] at hx; rw [hx]; exact hv.rlen) (fun e => by cases e)
    (fun ad e _ => by
      cases e
      refine ⟨rfl, fun i j r' d hi hj => ?_⟩
      cases i with
      | succ i => simp at hi
      | zero =>
        cases hi
        have hjl : j < vs.length := by have := (List.getElem?_eq_some_iff.1 hj).1; rw [hv.rlen] at this; rw [hv.len]; exact this
        refine ⟨vs[j], ?_, hv.one _ (List.getElem_mem hjl), hv.rep j _ d (List.getElem?_eq_getElem hjl) hj⟩
        rw [Nat.zero_mul, Nat.add_zero]
        exact hv.cell j _ (List.getElem?_eq_getElem hjl))
    (by show rows.length + 1 ≤ maxLen; unfold maxLen; omega) (by show (rows.length + 1) * 32 ≤ 140737488355328; omega) (fun b hb => hb.elim)
  obtain ⟨ao, c, rfl⟩ := hform
  cases ao with
  | none =>
    go_enter Try.func80, Try.ntmps80
    go_wp2_with (at_builtin; refine Lib.wpList_append_run _ rfl _ _ _ _ rfl _ _ rfl rfl _ _ hrun ?_)
    go_ret
    exact ⟨_, rfl, hgrow, hob, hlt, hrow⟩
  | some ad =>
    obtain ⟨ab, ao, asp⟩ := ad
    go_enter Try.func80, Try.ntmps80
    go_wp2_with (at_builtin; refine Lib.wpList_append_run _ rfl _ _ _ _ rfl _ _ rfl rfl _ _ hrun ?_)
    all_goals (go_ret; exact ⟨_, rfl, hgrow, hob, hlt, hrow⟩)
set_option maxRecDepth 100000 in
set_option maxHeartbeats 4000000 in
theorem Insert_room (g n cap i : Nat) (cur : Array Value) (vb voff vc : Nat) (vs : List Value) (r : List D) (w : World) (hg : w.heap[g]? = some (.cells cur 86 (0, 0))) (hi : i < n) (hroom : n + 1 ≤ cap) (hcap : cap ≤ maxLen) (hsz : cur.size = cap * 3)
    (hone : ∀ j, j < n * 3 → ∀ v, cur[j]? = some v → v.oneCell' = true) (hv : OnePart w vb voff vs r) (hvb : vb ≠ g) (tA : TypeId) (kA : Nat) (hsa : w.shape? vb = some (tA, kA)) (hfa : w.frozen? ⟨vb, voff, none⟩ = false) (hfe : w.frozen? ⟨vb, kA, none⟩ = false) :
    Calls Try.prog 80 #[.slice (some ⟨g, 0, none⟩) n cap, .int .i64 i, .slice (some ⟨vb, voff, none⟩) 1 vc] w fun e w' =>
      e = .returned (.slice (some ⟨g, 0, none⟩) (n + 1) cap) ∧ w' = (w.drew.setCells g ((i + 1) * 3) ((cur.toList.drop (i * 3)).take ((n - i) * 3))).setCells g (i * 3) vs := by
  have hz2 : ¬ ((i : Int) = (n : Int)) := by omega
  have hlim : cap ≤ 9223372036854775807 := hcap
  have hw1 : IntKind.i64.wrap ((i : Int) + 1) = (i : Int) + 1 := by rw [IntKind.wrap_i64]; omega
  have hb1 : (0 : Int) ≤ (i : Int) + 1 := by omega
  have hin : i ≤ n := by omega
  have htn : ((i : Int) + 1).toNat = i + 1 := by omega
  have hb2 : ¬ (cap = i + 1) := by omega
  have hb3 : (i : Int) ≤ (n : Int) + 1 := by omega
  have hb4 : ¬ (cap = i) := by omega
  have hsa' : w.shape? (⟨vb, voff, none⟩ : Addr).block = some (tA, kA) := hsa
  have hsb : w.shape? (⟨g, (i + 1) * 3, none⟩ : Addr).block = some (86, cur.size) := by simp [World.shape?, hg]
  have hov : ∀ lb cb, (callFunc 87 #[.slice (some ⟨vb, voff, none⟩) 1 vc, .slice (some ⟨g, (i + 1) * 3, none⟩) lb cb]).run Try.prog w = .ok (.value (.bool false)) w := fun lb cb => by
    rw [run_callFunc_extern Try.func87 (by kernel_rfl) (by kernel_rfl) (by kernel_rfl) (e := Extern.SlicesOverlaps.overlaps #[81, 81] #[4]) (by kernel_rfl),
      Lib.run_overlaps_apart w 81 4 86 (by kernel_rfl) 3 (fun _ => by kernel_rfl) ⟨vb, voff, none⟩ ⟨g, (i + 1) * 3, none⟩ 1 vc lb cb hvb tA _ kA _ hsa' hsb (by omega) hfa hfe]
    rfl
  have mixed : Try.prog.follows Departure.mixedOrders = true := by kernel_rfl
  obtain ⟨CS, hCS⟩ : ∃ CS, CS = (cur.toList.drop (i * 3)).take ((n - i) * 3) := ⟨_, rfl⟩
  rw [← hCS]
  have hmul : (n - i) * 3 + i * 3 = n * 3 := by omega
  have hcl : CS.length = (n - i) * 3 := by rw [hCS, List.length_take, List.length_drop, Array.length_toList]; omega
  have hcget : ∀ j v, CS[j]? = some v → j < (n - i) * 3 ∧ cur[i * 3 + j]? = some v := fun j v hj => by
    have h1 := (List.getElem?_eq_some_iff.1 hj).1
    rw [hCS, List.getElem?_take] at hj
    split at hj
    · rename_i h2; rw [List.getElem?_drop, Array.getElem?_toList] at hj; exact ⟨h2, hj⟩
    · cases hj
  have hin1 : ∀ k, k < cap * 3 → (w.cell? ⟨g, k, none⟩).isSome = true := fun k hk => by simp only [World.cell?, hg]; rw [Array.getElem?_eq_getElem (by omega)]; rfl
  have hfz : ∀ k, w.frozen? ⟨g, k, none⟩ = false := fun k => by simp [World.frozen?, hg]
  have hsz3 : (Try.prog.info? 86).map (·.size) = some 3 := by kernel_rfl
  have htu : Try.prog.underlying 81 = some (.slice 86) := by kernel_rfl
  have hcp1 : ∀ ty dc sc, (Builtin.copy_ #[81, 81] ty #[.slice (some ⟨g, (i + 1) * 3, none⟩) (n - i) dc, .slice (some ⟨g, i * 3, none⟩) (n + 1 - i) sc]).run Try.prog w.drew = .ok (goInt ((n - i : Nat) : Int)) (w.drew.setCells g ((i + 1) * 3) CS) := fun ty dc sc => by
    have h := run_copyN (P := Try.prog) w.drew 81 81 ty 86 3 g ((i + 1) * 3) (n - i) dc ⟨g, i * 3, none⟩ (n + 1 - i) sc CS htu hsz3 (by rw [hcl]; congr 1; simp only [Nat.min_def]; split <;> omega)
      (fun j v hj => by
        rw [Addr.add_lit]
        obtain ⟨_, h2⟩ := hcget j v hj
        show w.cell? _ = _
        simp only [World.cell?, hg]; exact h2)
      (fun j hj => hin1 _ (by omega)) (fun j hj => hfz _) (fun v hv => by
        obtain ⟨j, hj⟩ := List.mem_iff_getElem?.1 hv
        obtain ⟨h1, h2⟩ := hcget j v hj
        exact hone _ (by omega) v h2)
    have hm : Nat.min (n + 1 - i) (n - i) = n - i := by simp only [Nat.min_def]; split <;> omega
    rw [hm] at h
    exact h
  obtain ⟨W1, hW1⟩ : ∃ W1, W1 = w.drew.setCells g ((i + 1) * 3) CS := ⟨_, rfl⟩
  have hsp1 : ∀ k, k < cap * 3 → (W1.cell? ⟨g, k, none⟩).isSome = true := fun k hk => by
    rw [hW1]
    exact isSome_setCells g CS ((i + 1) * 3) w.drew (fun j hj => hin1 _ (by rw [hcl] at hj; omega)) _ (hin1 k hk)
  have hcp2 : ∀ (W : World), (∀ x, W.cell? x = W1.cell? x) → (∀ x, W.frozen? x = W1.frozen? x) → ∀ ty dc, (Builtin.copy_ #[81, 81] ty #[.slice (some ⟨g, i * 3, none⟩) (n + 1 - i) dc, .slice (some ⟨vb, voff, none⟩) 1 vc]).run Try.prog W = .ok (goInt 1) (W.setCells g (i * 3) vs) := fun W hWc hWf ty dc => by
    have h := run_copyN (P := Try.prog) W 81 81 ty 86 3 g (i * 3) (n + 1 - i) dc ⟨vb, voff, none⟩ 1 vc vs htu hsz3 (by rw [hv.len]; simp only [Nat.min_def]; split <;> omega)
      (fun j v hj => by
        rw [Addr.add_lit, hWc, hW1, World.cell?_setCells_out g _ _ _ _ (fun h _ => absurd h hvb)]
        exact hv.cell j v hj)
      (fun j hj => by rw [hWc]; exact hsp1 _ (by rw [hv.len] at hj; omega)) (fun j hj => by rw [hWf, hW1, World.frozen?_setCells]; exact hfz _) hv.one
    have hm : Nat.min 1 (n + 1 - i) = 1 := by simp only [Nat.min_def]; split <;> omega
    rw [hm] at h
    exact h
  rw [← hW1] at hcp1
  go_enter Try.func80, Try.ntmps80
  go_wp2_with (simp only [hov])
  go_region_law_o (refine step_copy_runI rfl _ _ 81 81 rfl _ _ (by simp [Act.eval, Act.put]) (by simp [Act.eval, Act.put]) (hcp1 _ _ _) ?_)
  go_wp2_with (at_builtin; refine wpList_copy_runI _ rfl _ _ 81 81 rfl _ _ rfl rfl (hcp2 _ (fun _ => rfl) (fun _ => rfl) _ _) ?_)
  go_ret
  first | exact ⟨rfl, rfl⟩ | exact ⟨rfl, by rw [hW1]⟩ | exact ⟨rfl, by rw [hCS]⟩ | exact ⟨rfl, by rw [hW1, hCS]⟩
def zPart : Value := .agg #[.int .i64 0, .string ⟨#[]⟩, .bool false]
set_option maxRecDepth 100000 in
set_option maxHeartbeats 4000000 in
theorem Insert_grow (g n cap i : Nat) (cur : Array Value) (vb voff vc : Nat) (vs : List Value) (r : List D) (w : World) (hg : w.heap[g]? = some (.cells cur 86 (0, 0))) (hi : i < n) (hnc : n ≤ cap) (hroom : cap < n + 1) (hbig : n ≤ 1000000) (hsz : cur.size = cap * 3)
    (hone : ∀ j, j < n * 3 → ∀ v, cur[j]? = some v → v.oneCell' = true) (hv : OnePart w vb voff vs r) :
    Calls Try.prog 80 #[.slice (some ⟨g, 0, none⟩) n cap, .int .i64 i, .slice (some ⟨vb, voff, none⟩) 1 vc] w fun e w' =>
      e = .returned (.slice (some ⟨w.heap.size, 0, none⟩) (n + 1) (grownCap w (n + 1) cap 86)) ∧
      w' = (((w.alloc (.cells ((cur.toList.take (i * 3)).toArray ++ Builtin.zeroCells zPart.cells (n + 1 - i) ++ Builtin.zeroCells zPart.cells (grownCap w (n + 1) cap 86 - (n + 1))) 86)).drew.setCells w.heap.size (i * 3) vs).drew).setCells w.heap.size ((i + 1) * 3) ((cur.toList.drop (i * 3)).take ((n - i) * 3)) := by
  have mixed : Try.prog.follows Departure.mixedOrders = true := by kernel_rfl
  have hz2 : ¬ ((i : Int) = (n : Int)) := by omega
  have hz3 : (cap : Int) < (n : Int) + 1 := by omega
  obtain ⟨i0, hi0⟩ := Option.isSome_iff_exists.1 (show (Try.prog.info? 86).isSome = true by kernel_rfl)
  have hz0 : i0.zero = some zPart := by have h : (Try.prog.info? 86).bind (·.zero) = some zPart := (by kernel_rfl); rw [hi0] at h; exact h
  have hzs : i0.size = 3 := by have h : (Try.prog.info? 86).map (·.size) = some 3 := (by kernel_rfl); rw [hi0] at h; exact Option.some.inj h
  have hzb : i0.bytes = 32 := by have h : (Try.prog.info? 86).map (·.bytes) = some 32 := (by kernel_rfl); rw [hi0] at h; exact Option.some.inj h
  have hsz3 : (Try.prog.info? 86).map (·.size) = some 3 := by kernel_rfl
  have htu : Try.prog.underlying 81 = some (.slice 86) := by kernel_rfl
  have htn : Try.prog.underlying 3 = some (.int .i64) := by kernel_rfl
  have hgw : g < w.heap.size := (Array.getElem?_eq_some_iff.1 hg).1
  have hvw : vb < w.heap.size := block_lt_of_cell (hv.cell 0 _ (List.getElem?_eq_getElem (by rw [hv.len]; decide)))
  have hkk : (n : Int) + 1 - (i : Int) = ((n + 1 - i : Nat) : Int) := by omega
  have hik : i + (n + 1 - i) = n + 1 := by omega
  have hcapn : cap = n := by omega
  obtain ⟨CS, hCS⟩ : ∃ CS, CS = (cur.toList.drop (i * 3)).take ((n - i) * 3) := ⟨_, rfl⟩
  obtain ⟨OLD, hOLD⟩ : ∃ OLD, OLD = cur.toList.take (i * 3) := ⟨_, rfl⟩
  rw [← hCS, ← hOLD]
  have hol : OLD.length = i * 3 := by rw [hOLD, List.length_take, Array.length_toList]; omega
  have hcl : CS.length = (n - i) * 3 := by rw [hCS, List.length_take, List.length_drop, Array.length_toList]; omega
  have hcget : ∀ j v, CS[j]? = some v → j < (n - i) * 3 ∧ cur[i * 3 + j]? = some v := fun j v hj => by
    rw [hCS, List.getElem?_take] at hj
    split at hj
    · rename_i h2; rw [List.getElem?_drop, Array.getElem?_toList] at hj; exact ⟨h2, hj⟩
    · cases hj
  have hold : (Builtin.firstCells i0.size i (.slice (some ⟨g, 0, none⟩) i cap)).run Try.prog w.drew = .ok OLD.toArray w.drew := by
    rw [hzs]
    exact run_firstCells_some w.drew 3 i ⟨g, 0, none⟩ i cap OLD hol (fun j v hj => by
      rw [Addr.add_lit, Nat.zero_add]
      rw [hOLD, List.getElem?_take] at hj
      split at hj
      · rw [Array.getElem?_toList] at hj
        show w.cell? _ = _
        simp only [World.cell?, hg]; exact hj
      · cases hj)
  have hrz : ∀ ty, (Builtin.append_ #[81, 3] ty #[.slice (some ⟨g, 0, none⟩) i cap, .int .i64 ((n : Int) + 1 - (i : Int))]).run Try.prog w =
      .ok (.slice (some ⟨w.heap.size, 0, none⟩) (n + 1) (grownCap w (n + 1) cap 86)) (w.drew.alloc (.cells (OLD.toArray ++ Builtin.zeroCells zPart.cells (n + 1 - i) ++ Builtin.zeroCells zPart.cells (grownCap w (n + 1) cap 86 - (n + 1))) 86)) := fun ty => by
    have h := Lib.run_append_grow_zeros w 81 3 ty 86 i0 _ .i64 .i64 htu htn hi0 hz0 (some ⟨g, 0, none⟩) i cap OLD hold (n + 1 - i) (by omega) (by omega) (by omega) (by omega) (by rw [hzb]; omega) (by rw [hzb, hik]; exact growslice_fits hroom (by omega))
    rw [hik] at h
    rw [hkk]
    exact h
  obtain ⟨G, hG⟩ : ∃ G, G = grownCap w (n + 1) cap 86 := ⟨_, rfl⟩
  obtain ⟨ROW, hROW⟩ : ∃ ROW : Array Value, ROW = OLD.toArray ++ Builtin.zeroCells zPart.cells (n + 1 - i) ++ Builtin.zeroCells zPart.cells (G - (n + 1)) := ⟨_, rfl⟩
  rw [← hG] at hrz ⊢
  rw [← hROW] at hrz ⊢
  have hGn : n + 1 ≤ G := by rw [hG]; exact grownCap_ge w _ _ _
  have hzc : zPart.cells.size = 3 := rfl
  have hRl : ROW.size = G * 3 := by
    rw [hROW]
    simp only [Array.size_append, size_zeroCells, hzc, List.size_toArray, hol]
    omega
  obtain ⟨W1, hW1⟩ : ∃ W1, W1 = w.drew.alloc (.cells ROW 86) := ⟨_, rfl⟩
  rw [← hW1] at hrz
  have hN : ∀ j, j < (n + 1) * 3 → (W1.cell? ⟨w.heap.size, j, none⟩).isSome = true := fun j hj => by
    rw [hW1, World.cell?_alloc_at (w := w.drew) ROW _ w.heap.size j rfl, Array.getElem?_eq_getElem (by omega)]; rfl
  have hNf : ∀ j, W1.frozen? ⟨w.heap.size, j, none⟩ = false := fun j => by rw [hW1]; exact World.frozen?_alloc_at (w := w.drew) ROW _ w.heap.size j rfl
  have hOb : ∀ j v, cur[j]? = some v → W1.cell? ⟨g, j, none⟩ = some v := fun j v h => by
    rw [hW1, World.cell?_alloc_past (w := w.drew) _ g j hgw]
    show w.cell? _ = _
    simp only [World.cell?, hg]; exact h
  have hOv : ∀ j v, w.cell? ⟨vb, j, none⟩ = some v → W1.cell? ⟨vb, j, none⟩ = some v := fun j v h => by rw [hW1, World.cell?_alloc_past (w := w.drew) _ vb j hvw]; exact h
  have hcpA : ∀ (W : World), (∀ x, W.cell? x = W1.cell? x) → (∀ x, W.frozen? x = W1.frozen? x) → ∀ ty dc, (Builtin.copy_ #[81, 81] ty #[.slice (some ⟨w.heap.size, i * 3, none⟩) (n + 1 - i) dc, .slice (some ⟨vb, voff, none⟩) 1 vc]).run Try.prog W = .ok (goInt 1) (W.setCells w.heap.size (i * 3) vs) := fun W hWc hWf ty dc => by
    have h := run_copyN (P := Try.prog) W 81 81 ty 86 3 w.heap.size (i * 3) (n + 1 - i) dc ⟨vb, voff, none⟩ 1 vc vs htu hsz3 (by rw [hv.len]; simp only [Nat.min_def]; split <;> omega)
      (fun j v hj => by rw [Addr.add_lit, hWc]; exact hOv _ v (hv.cell j v hj))
      (fun j hj => by rw [hWc]; exact hN _ (by rw [hv.len] at hj; omega)) (fun j hj => by rw [hWf]; exact hNf _) hv.one
    have hm : Nat.min 1 (n + 1 - i) = 1 := by simp only [Nat.min_def]; split <;> omega
    rw [hm] at h
    exact h
  have hG63 : G ≤ 9223372036854775807 := by
    have := grownCap_le_maxLen w (n + 1) cap 86 (by unfold maxLen; omega)
    rw [← hG] at this
    unfold maxLen at this
    omega
  have hGi : ¬ (G = i) := by omega
  have hGim : ¬ (G = i + 1) := by omega
  have hci : ¬ (cap = i) := by omega
  have hbN : g ≠ w.heap.size := by omega
  have hcpB : ∀ (W : World), (∀ x, W.cell? x = (W1.setCells w.heap.size (i * 3) vs).cell? x) → (∀ x, W.frozen? x = (W1.setCells w.heap.size (i * 3) vs).frozen? x) → ∀ ty dc sc, (Builtin.copy_ #[81, 81] ty #[.slice (some ⟨w.heap.size, (i + 1) * 3, none⟩) (n - i) dc, .slice (some ⟨g, i * 3, none⟩) (n - i) sc]).run Try.prog W = .ok (goInt ((n - i : Nat) : Int)) (W.setCells w.heap.size ((i + 1) * 3) CS) := fun W hWc hWf ty dc sc => by
    have h := run_copyN (P := Try.prog) W 81 81 ty 86 3 w.heap.size ((i + 1) * 3) (n - i) dc ⟨g, i * 3, none⟩ (n - i) sc CS htu hsz3 (by rw [hcl]; congr 1; simp only [Nat.min_def]; split <;> omega)
      (fun j v hj => by
        rw [Addr.add_lit, hWc, World.cell?_setCells_out _ _ _ _ _ (fun h _ => absurd h hbN)]
        exact hOb _ v (hcget j v hj).2)
      (fun j hj => by rw [hWc]; exact isSome_setCells _ vs (i * 3) W1 (fun t ht => hN _ (by rw [hv.len] at ht; omega)) _ (hN _ (by rw [hcl] at hj; omega)))
      (fun j hj => by rw [hWf, World.frozen?_setCells]; exact hNf _) (fun v hv => by
        obtain ⟨j, hj⟩ := List.mem_iff_getElem?.1 hv
        obtain ⟨h1, h2⟩ := hcget j v hj
        exact hone _ (by omega) v h2)
    have hm : Nat.min (n - i) (n - i) = n - i := by simp only [Nat.min_def]; split <;> omega
    rw [hm] at h
    exact h
  subst hW1
  have hE1 : ∀ x, ((w.alloc (.cells ROW 86)).drew).cell? x = (w.drew.alloc (.cells ROW 86)).cell? x := fun x => rfl
  have hE2 : ∀ x, ((w.alloc (.cells ROW 86)).drew).frozen? x = (w.drew.alloc (.cells ROW 86)).frozen? x := fun x => rfl
  have hF1 : ∀ x, (((w.alloc (.cells ROW 86)).drew.setCells w.heap.size (i * 3) vs).drew).cell? x = ((w.drew.alloc (.cells ROW 86)).setCells w.heap.size (i * 3) vs).cell? x := fun x => rfl
  have hF2 : ∀ x, (((w.alloc (.cells ROW 86)).drew.setCells w.heap.size (i * 3) vs).drew).frozen? x = ((w.drew.alloc (.cells ROW 86)).setCells w.heap.size (i * 3) vs).frozen? x := fun x => rfl
  have hw1 : IntKind.i64.wrap ((i : Int) + 1) = (i : Int) + 1 := by rw [IntKind.wrap_i64]; omega
  have hb1 : (0 : Int) ≤ (i : Int) + 1 := by omega
  have hin : i ≤ n := by omega
  have htn' : ((i : Int) + 1).toNat = i + 1 := by omega
  have hb3 : (i : Int) ≤ (n : Int) := by omega
  clear hkk hik hold hROW hG hRl hcapn hcget hol hcl hN hNf hOb hOv hCS hOLD hone hsz hz0 hzs hzb hi0 hzc
  go_enter Try.func80, Try.ntmps80
  go_wp2_with (first
    | (at_builtin; refine Lib.wpList_append_run _ rfl _ _ _ _ rfl _ _ rfl rfl _ _ (hrz _) ?_)
    | (at_builtin; refine wpList_copy_runI _ rfl _ _ 81 81 rfl _ _ rfl rfl (hcpA _ hE1 hE2 _ _) ?_))
  go_region_law_o (refine step_copy_runI rfl _ _ 81 81 rfl _ _ (by simp [Act.eval, Act.put]) (by simp [Act.eval, Act.put]) (hcpB _ hF1 hF2 3 (G - (i + 1)) (cap - i)) ?_)
  clear hrz hcpA hcpB hE1 hE2 hF1 hF2
  go_wp2
  go_ret
  exact ⟨rfl, rfl⟩
end Go.Proofs.Ythnijeclidpooaa.X
