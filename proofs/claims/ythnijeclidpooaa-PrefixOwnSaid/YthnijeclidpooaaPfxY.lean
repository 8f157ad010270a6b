/- prefix: grow, walked. Conditions: none. -/
import Derived.Test.YthnijeclidpooaaPfxX
import Derived.LoopN
namespace Go.Proofs.Ythnijeclidpooaa.X
open Go Go.RowKit Go.Proofs.Ythnijeclidpooaa.Abs Go.Proofs.Ythnijeclidpooaa.Bits
set_option linter.unusedVariables false
set_option linter.unusedSimpArgs false
theorem idx_at {e t : TypeId} {len n : Nat} {i : TypeInfo} (hu : Try.prog.underlying t = some (.array len e)) (he : Try.prog.info? e = some i) (hn : Try.prog.cellsOf e = 1) (h1 : Try.prog.plainKey e = true ∨ ∃ x, Try.prog.underlying e = some (.pointer x)) (cs : Array Value) (v : Value) (hv : cs[n]? = some v) (hl : n < len) (w : World) :
    (Instr.index t (.agg cs) (.int .i64 (n : Int))).run Try.prog w = .ok v w := by
  have hp : (part e cs n).run Try.prog w = .ok v w := by
    rcases h1 with h1 | ⟨x, h1⟩
    · exact run_part_plain w h1 hv
    · simp [part, isAgg, run_underlying h1, hv]
  simp [Instr.index, asIntOf, run_underlying hu, hl, run_sizeOf w he, hn, hp]
@[go_sem] theorem idxI_0 (a b : Value) (w : World) : (Instr.index 64 (.agg #[a, b]) (.int .i64 0)).run Try.prog w = .ok a w :=
  idx_at (n := 0) (e := 3) (i := Try.prog.types[3]!) (by kernel_rfl) (by kernel_rfl) (by kernel_rfl) (.inl (by kernel_rfl)) _ _ rfl (len := 2) (by decide) w
@[go_sem] theorem idxI_1 (a b : Value) (w : World) : (Instr.index 64 (.agg #[a, b]) (.int .i64 1)).run Try.prog w = .ok b w :=
  idx_at (n := 1) (e := 3) (i := Try.prog.types[3]!) (by kernel_rfl) (by kernel_rfl) (by kernel_rfl) (.inl (by kernel_rfl)) _ _ rfl (len := 2) (by decide) w
@[go_sem] theorem idxP_0 (a b : Value) (w : World) : (Instr.index 103 (.agg #[a, b]) (.int .i64 0)).run Try.prog w = .ok a w :=
  idx_at (n := 0) (e := 99) (i := Try.prog.types[99]!) (by kernel_rfl) (by kernel_rfl) (by kernel_rfl) (.inr ⟨105, by kernel_rfl⟩) _ _ rfl (len := 2) (by decide) w
@[go_sem] theorem idxP_1 (a b : Value) (w : World) : (Instr.index 103 (.agg #[a, b]) (.int .i64 1)).run Try.prog w = .ok b w :=
  idx_at (n := 1) (e := 99) (i := Try.prog.types[99]!) (by kernel_rfl) (by kernel_rfl) (by kernel_rfl) (.inr ⟨105, by kernel_rfl⟩) _ _ rfl (len := 2) (by decide) w
/-- Nodes that stand in a block. -/
def NodesAt (w : World) (b o : Nat) (ns : List TNode) : Prop := ∀ (i : Nat) (x : TNode), ns[i]? = some x →
  w.cell? ⟨b, o + i * 4, none⟩ = some (.int .i64 x.next0) ∧ w.cell? ⟨b, o + i * 4 + 1, none⟩ = some (.int .i64 x.next1) ∧ w.cell? ⟨b, o + i * 4 + 2, none⟩ = some (.bool x.set) ∧ w.cell? ⟨b, o + i * 4 + 3, none⟩ = some (.int .i64 x.value)
theorem NodesAt.frame {w w' : World} {b o : Nat} {ns : List TNode} (h : NodesAt w b o ns) (hb : w'.heap[b]? = w.heap[b]?) : NodesAt w' b o ns := fun i x hx => by
  simp only [World.cell?_of_block (w := w) (a := ⟨b, _, none⟩) hb]; exact h i x hx
/-- In the midst of growing: the counter, and the new node. -/
structure Mid (w w1 : World) (ba : Nat) (j : Int) (p0 p1 : Value) (s : Bool) (x : Int) : Prop where
  os : w1.os = w.os
  tape : w1.tape = w.tape
  output : w1.output = w.output
  size : w.heap.size + 2 ≤ w1.heap.size
  block : ∀ k, k < w.heap.size → k ≠ ba → w1.heap[k]? = w.heap[k]?
  at' : w1.heap[ba]? = some (.cells #[.int .i64 j] 3 (0, 0))
  node : w1.heap[w.heap.size + 1]? = some (.cells #[p0, p1, .bool s, .int .i64 x] 105 (0, 0))
  lt : ba < w.heap.size
section
variable {w w1 w2 : World} {ba : Nat} {i j : Int} {p0 p1 : Value} {s : Bool} {x : Int}
theorem Mid.start (hba : w.heap[ba]? = some (.cells #[.int .i64 i] 3 (0, 0))) (o1 : Obj) (p0 p1 : Value) (s : Bool) (x : Int) : Mid w ((w.alloc o1).alloc (.cells #[p0, p1, .bool s, .int .i64 x] 105)) ba i p0 p1 s x := by
  have hlt := (Array.getElem?_eq_some_iff.1 hba).1
  have h1 := below_alloc w o1
  have h2 := below_alloc (w.alloc o1) (.cells #[p0, p1, .bool s, .int .i64 x] 105)
  refine ⟨rfl, rfl, rfl, by rw [size_alloc, size_alloc]; omega, fun k hk _ => (h2.block k (by rw [size_alloc]; omega)).trans (h1.block k hk), ((h2.block ba (by rw [size_alloc]; omega)).trans (h1.block ba hlt)).trans hba, ?_, hlt⟩
  rw [← size_alloc w o1]; exact heap_alloc_new _ _
theorem Mid.start2 (hba : w.heap[ba]? = some (.cells #[.int .i64 i] 3 (0, 0))) (j : Int) (o1 : Obj) (p0 p1 : Value) (s : Bool) (x : Int) : Mid w (((w.setCell ⟨ba, 0, none⟩ (.int .i64 j)).alloc o1).alloc (.cells #[p0, p1, .bool s, .int .i64 x] 105)) ba j p0 p1 s x := by
  have hlt := (Array.getElem?_eq_some_iff.1 hba).1
  obtain ⟨e1, e2, e3, e4, e5, e6⟩ := set_heap (v := .int .i64 j) hba (show 0 < 1 by decide)
  have h := Mid.start e1 o1 p0 p1 s x
  refine ⟨h.os.trans e4, h.tape.trans e5, h.output.trans e6, by have := h.size; omega, fun k hk hne => (h.block k (by omega) hne).trans (e2 k hne), h.at', ?_, hlt⟩
  have := h.node
  rw [e3] at this; exact this
theorem Mid.inc (h : Mid w w1 ba i p0 p1 s x) (j : Int) : Mid w (w1.setCell ⟨ba, 0, none⟩ (.int .i64 j)) ba j p0 p1 s x := by
  obtain ⟨e1, e2, e3, e4, e5, e6⟩ := set_heap (v := .int .i64 j) h.at' (show 0 < 1 by decide)
  have := h.lt
  exact ⟨e4.trans h.os, e5.trans h.tape, e6.trans h.output, by rw [e3]; exact h.size, fun k hk hne => (e2 k hne).trans (h.block k hk hne), e1, (e2 _ (by omega)).trans h.node, h.lt⟩
theorem Mid.drew (h : Mid w w1 ba i p0 p1 s x) : Mid w w1.drew ba i p0 p1 s x := ⟨h.os, h.tape, h.output, h.size, h.block, h.at', h.node, h.lt⟩
theorem Mid.call (h : Mid w w1 ba i p0 p1 s x) (hk : Kept [ba] [] w1 w2) (hj : w2.heap[ba]? = some (.cells #[.int .i64 j] 3 (0, 0))) : Mid w w2 ba j p0 p1 s x := by
  have := h.lt
  have := h.size
  exact ⟨hk.os.trans h.os, hk.tape.trans h.tape, hk.output.trans h.output, Nat.le_trans h.size hk.size, fun k hk1 hne => (hk.block k (by omega) (by simpa using hne)).trans (h.block k hk1 hne), hj, (hk.block _ (by omega) (by simp; omega)).trans h.node, h.lt⟩
theorem Mid.set0 (h : Mid w w1 ba i p0 p1 s x) (q : Value) : Mid w (w1.setCell ⟨w.heap.size + 1, 0, none⟩ q) ba i q p1 s x := by
  obtain ⟨e1, e2, e3, e4, e5, e6⟩ := set_heap (v := q) h.node (show 0 < 4 by decide)
  have := h.lt
  exact ⟨e4.trans h.os, e5.trans h.tape, e6.trans h.output, by rw [e3]; exact h.size, fun k hk hne => (e2 k (by omega)).trans (h.block k hk hne), (e2 _ (by omega)).trans h.at', e1, h.lt⟩
theorem Mid.set1 (h : Mid w w1 ba i p0 p1 s x) (q : Value) : Mid w (w1.setCell ⟨w.heap.size + 1, 1, none⟩ q) ba i p0 q s x := by
  obtain ⟨e1, e2, e3, e4, e5, e6⟩ := set_heap (v := q) h.node (show 1 < 4 by decide)
  have := h.lt
  exact ⟨e4.trans h.os, e5.trans h.tape, e6.trans h.output, by rw [e3]; exact h.size, fun k hk hne => (e2 k (by omega)).trans (h.block k hk hne), (e2 _ (by omega)).trans h.at', e1, h.lt⟩
theorem Mid.keptBa (h : Mid w w1 ba i p0 p1 s x) : Kept [ba] [] w w1 := by
  have := h.size
  exact ⟨h.os, h.tape, h.output, by omega, fun k hk hne => h.block k hk (by simpa using hne), fun k hm => by cases hm⟩
theorem Mid.szOf (h : Mid w w1 ba i p0 p1 s x) {bs : List Nat} (_ : Kept bs [] w1 w2) : w.heap.size + 2 ≤ w1.heap.size := h.size
theorem Mid.facts (h : Mid w w1 ba i p0 p1 s x) : NodeF w1 (w.heap.size + 1) p0 p1 s x := node_facts h.node
theorem Mid.atc (h : Mid w w1 ba i p0 p1 s x) : w1.cell? ⟨ba, 0, none⟩ = some (.int .i64 i) ∧ w1.frozen? ⟨ba, 0, none⟩ = false := by
  constructor <;> simp [World.cell?, World.frozen?, h.at']
/-- A tree that was laid meanwhile stays. -/
theorem tree_set {t : TT} {p v : Value} {bs : List Nat} {b k : Nat} {cs : Array Value} {T : TypeId} (ht : TreeAt w1 t p bs) (hb : w1.heap[b]? = some (.cells cs T (0, 0))) (hk : k < cs.size) (hn : b ∉ bs) : TreeAt (w1.setCell ⟨b, k, none⟩ v) t p bs := by
  obtain ⟨e1, e2, e3, e4, e5, e6⟩ := set_heap (v := v) hb hk
  exact ht.frame fun c hc => e2 c (fun e => hn (e ▸ hc))
theorem tree_kept {t : TT} {p : Value} {bs : List Nat} (ht : TreeAt w1 t p bs) (hk : Kept [ba] [] w1 w2) (hn : ba ∉ bs) : TreeAt w2 t p bs :=
  ht.frame fun c hc => hk.block c (ht.lt c hc) (by simp; exact fun e => hn (e ▸ hc))
def Far (w w1 w2 : World) : Prop := w1.heap.size ≤ w2.heap.size ∧ ∀ k, w.heap.size + 2 ≤ k → k < w1.heap.size → w2.heap[k]? = w1.heap[k]?
theorem Far.refl (w w1 : World) : Far w w1 w1 := ⟨Nat.le_refl _, fun _ _ _ => rfl⟩
theorem Far.drew {w w1 w2 : World} (h : Far w w1 w2) : Far w w1 w2.drew := h
theorem Far.inc {w3 : World} (h : Far w w3 w1) (hM : Mid w w1 ba i p0 p1 s x) (j : Int) : Far w w3 (w1.setCell ⟨ba, 0, none⟩ (.int .i64 j)) := by
  obtain ⟨e1, e2, e3, e4, e5, e6⟩ := set_heap (v := .int .i64 j) hM.at' (show 0 < 1 by decide)
  have := hM.lt
  exact ⟨by rw [e3]; exact h.1, fun k h1 h2 => (e2 k (by omega)).trans (h.2 k h1 h2)⟩
theorem Far.set0 {w3 : World} (h : Far w w3 w1) (hM : Mid w w1 ba i p0 p1 s x) (q : Value) : Far w w3 (w1.setCell ⟨w.heap.size + 1, 0, none⟩ q) := by
  obtain ⟨e1, e2, e3, e4, e5, e6⟩ := set_heap (v := q) hM.node (show 0 < 4 by decide)
  exact ⟨by rw [e3]; exact h.1, fun k h1 h2 => (e2 k (by omega)).trans (h.2 k h1 h2)⟩
theorem Far.set1 {w3 : World} (h : Far w w3 w1) (hM : Mid w w1 ba i p0 p1 s x) (q : Value) : Far w w3 (w1.setCell ⟨w.heap.size + 1, 1, none⟩ q) := by
  obtain ⟨e1, e2, e3, e4, e5, e6⟩ := set_heap (v := q) hM.node (show 1 < 4 by decide)
  exact ⟨by rw [e3]; exact h.1, fun k h1 h2 => (e2 k (by omega)).trans (h.2 k h1 h2)⟩
theorem Far.call {w3 : World} (h : Far w w3 w1) (hk : Kept [ba] [] w1 w2) (hl : ba < w.heap.size) : Far w w3 w2 := by
  have h1 := h.1
  exact ⟨Nat.le_trans h.1 hk.size, fun k h1 h2 => (hk.block k (by omega) (by simp; omega)).trans (h.2 k h1 h2)⟩
theorem Far.tree {w3 : World} {t : TT} {p : Value} {bs : List Nat} (h : Far w w3 w1) (ht : TreeAt w3 t p bs) (hb : ∀ k ∈ bs, w.heap.size + 2 ≤ k) : TreeAt w1 t p bs := ht.frame fun k hk => h.2 k (hb k hk) (ht.lt k hk)
theorem tree_some {t : TT} {p : Value} {bs : List Nat} (ht : TreeAt w1 t p bs) (hn : t ≠ .nil) : ∃ a, p = .pointer (some a) := by
  cases t with
  | nil => exact absurd rfl hn
  | node l r s x => obtain ⟨b, _, _, _, _, h1, _⟩ := ht; exact ⟨_, h1⟩
theorem Mid.done (h : Mid w w1 ba i p0 p1 s x) {l r : TT} {bl br : List Nat} (hl : TreeAt w1 l p0 bl) (hr : TreeAt w1 r p1 br) (n : Nat) (h1 : ∀ k ∈ bl, w.heap.size + 2 ≤ k ∧ k < n) (h2 : ∀ k ∈ br, n ≤ k) (hn : w.heap.size + 2 ≤ n) :
    TreeAt w1 (.node l r s x) (.pointer (some ⟨w.heap.size + 1, 0, none⟩)) ((w.heap.size + 1) :: (bl ++ br)) ∧ ∀ k ∈ (w.heap.size + 1) :: (bl ++ br), w.heap.size ≤ k := by
  refine ⟨⟨w.heap.size + 1, p0, p1, bl, br, rfl, h.node, hl, hr, rfl, ?_⟩, fun k hk => ?_⟩
  · refine List.nodup_cons.2 ⟨fun hm => ?_, List.nodup_append.2 ⟨hl.nodup, hr.nodup, fun a ha b hb e => ?_⟩⟩
    · rcases List.mem_append.1 hm with hm | hm
      · have := h1 _ hm; omega
      · have := h2 _ hm; omega
    · have := h1 a ha; have := h2 b hb; omega
  · simp only [List.mem_cons, List.mem_append] at hk
    rcases hk with rfl | hk | hk
    · omega
    · have := h1 k hk; omega
    · have := h2 k hk; omega
end
theorem grow_lt {ns : List TNode} {m i j : Nat} {t : TT} (h : growT ns m i = some (t, j)) : i ≤ j ∧ j < ns.length := by
  obtain ⟨h1, h2, h3, _⟩ := grow_is m h
  have hp := size_pos h1
  have hf : (flatL i t)[t.size - 1]? = some ((flatL i t)[t.size - 1]'(by rw [flatL_len]; omega)) := List.getElem?_eq_getElem _
  have := h3 _ _ hf
  rw [show i + (t.size - 1) = j by omega] at this
  exact ⟨by omega, (List.getElem?_eq_some_iff.1 this).1⟩
theorem wrap_inc (i : Nat) (h : i < 9223372036854775807) : IntKind.i64.wrap ((i : Int) + 1) = (i : Int) + 1 := by rw [IntKind.wrap_i64]; omega
def Grown' (w w' : World) (ba : Nat) (ns : List TNode) (m i : Nat) (e : Ending) : Prop :=
  Kept [ba] [] w w' ∧ match growT ns m i with
    | some (t, j) => ∃ p bs, e = .returned p ∧ TreeAt w' t p bs ∧ (∀ k ∈ bs, w.heap.size ≤ k) ∧ w'.heap[ba]? = some (.cells #[.int .i64 (j : Int)] 3 (0, 0))
    | none => e = .returned (.pointer none) ∧ ∃ j : Int, w'.heap[ba]? = some (.cells #[.int .i64 j] 3 (0, 0))
theorem Grown'.some' {w w' : World} {ba : Nat} {ns : List TNode} {m i : Nat} {e : Ending} {t : TT} {j : Nat} (hg : growT ns m i = some (t, j)) (h1 : Kept [ba] [] w w') {p : Value} {bs : List Nat} (h2 : e = .returned p) (h3 : TreeAt w' t p bs) (h4 : ∀ k ∈ bs, w.heap.size ≤ k) (h5 : w'.heap[ba]? = some (.cells #[.int .i64 (j : Int)] 3 (0, 0))) : Grown' w w' ba ns m i e := by
  refine ⟨h1, ?_⟩; rw [hg]; exact ⟨p, bs, h2, h3, h4, h5⟩
theorem Grown'.none' {w w' : World} {ba : Nat} {ns : List TNode} {m i : Nat} {e : Ending} (hg : growT ns m i = none) (h1 : Kept [ba] [] w w') (h2 : e = .returned (.pointer none)) {j : Int} (h5 : w'.heap[ba]? = some (.cells #[.int .i64 j] 3 (0, 0))) : Grown' w w' ba ns m i e := by
  refine ⟨h1, ?_⟩; rw [hg]; exact ⟨h2, j, h5⟩
theorem kid_zero {g : Nat → Option (TT × Nat)} {d : Bool} {len i : Nat} : kid g d len 0 i = some (.nil, i) := rfl
theorem kid_bad {g : Nat → Option (TT × Nat)} {d : Bool} {len i : Nat} {n : Int} (h0 : n ≠ 0) (h : n ≠ (i : Int) + 1 ∨ len ≤ i + 1 ∨ d = true) : kid g d len n i = none := by
  unfold kid
  rw [if_neg h0, if_pos (by rcases h with h | h | h; exact .inl (by omega); exact .inr (.inl h); exact .inr (.inr h))]
theorem kid_good {g : Nat → Option (TT × Nat)} {len i : Nat} {n : Int} (h : n = (i : Int) + 1) (h2 : i + 1 < len) : kid g false len n i = g (i + 1) := by
  unfold kid
  rw [if_neg (by omega), if_neg (by simp; omega)]
theorem grow0 {ns : List TNode} {i : Nat} {x : TNode} (hx : ns[i]? = some x) : growT ns 0 i = (kid (fun _ => none) true ns.length x.next0 i).bind fun p => (kid (fun _ => none) true ns.length x.next1 p.2).map fun q => (.node p.1 q.1 x.set x.value, q.2) := by
  unfold growT; rw [hx]
theorem growS {ns : List TNode} {m i : Nat} {x : TNode} (hx : ns[i]? = some x) : growT ns (m + 1) i = (kid (growT ns m) false ns.length x.next0 i).bind fun p => (kid (growT ns m) false ns.length x.next1 p.2).map fun q => (.node p.1 q.1 x.set x.value, q.2) := by
  conv => lhs; unfold growT
  rw [hx]
set_option maxRecDepth 100000 in
set_option maxHeartbeats 4000000 in
theorem grow_walk (b o cap : Nat) (ns : List TNode) (hcap : ns.length ≤ cap) (hlen : ns.length ≤ 100000) : ∀ (m d i : Nat) (w : World) (ba : Nat), m + d = 32 → i < ns.length → NodesAt w b o ns → w.heap[ba]? = some (.cells #[.int .i64 (i : Int)] 3 (0, 0)) → ba ≠ b → b < w.heap.size →
    Calls Try.prog 72 #[.slice (some ⟨b, o, none⟩) ns.length cap, .pointer (some ⟨ba, 0, none⟩), .int .i64 (d : Int)] w fun e w' => Grown' w w' ba ns m i e := by
  intro m
  induction m with
  | zero =>
    intro d i w ba hd hi hn hba hne hb
    obtain ⟨x, hx⟩ : ∃ x, ns[i]? = some x := ⟨_, List.getElem?_eq_getElem hi⟩
    obtain ⟨c0, c1, c2, c3⟩ := hn i x hx
    have a0 : w.cell? ⟨ba, 0, none⟩ = some (.int .i64 (i : Int)) := by simp [World.cell?, hba]
    have af : w.frozen? ⟨ba, 0, none⟩ = false := by simp [World.frozen?, hba]
    have halt : ba < w.heap.size := (Array.getElem?_eq_some_iff.1 hba).1
    have S0 := Mid.start hba (.cells #[.int .i64 x.next0, .int .i64 x.next1, .bool x.set, .int .i64 x.value] 66) (.pointer none) (.pointer none) x.set x.value
    have hd32 : (d : Int) = 32 := by omega
    by_cases h0 : x.next0 = 0
    · by_cases h1 : x.next1 = 0
      · rw [h0] at c0 S0; rw [h1] at c1 S0
        go_enter Try.func72, Try.ntmps72
        go_wp2
        refine wp_loop_rounds 3 ?_
        rw [rounds_succ]; go_wp2
        rw [rounds_succ]; go_wp2
        rw [rounds_succ]; go_wp2
        go_ret
        obtain ⟨y1, y2⟩ := S0.done (l := .nil) (r := .nil) (bl := []) (br := []) ⟨rfl, rfl⟩ ⟨rfl, rfl⟩ (w.heap.size + 2) (fun k hk => by cases hk) (fun k hk => by cases hk) (Nat.le_refl _)
        exact Grown'.some' (by rw [grow0 hx, h0, h1]; rfl) S0.keptBa rfl y1 y2 S0.at'
      · rw [h0] at c0 S0
        have z1 : (x.next1 == 0) = false := by simpa using h1
        by_cases h2 : x.next1 = (i : Int) + 1
        · have w1 : (x.next1 == (i : Int) + 1) = true := by simpa using h2
          by_cases h3 : i + 1 < ns.length
          · have w2 : (i : Int) + 1 < (ns.length : Int) := by omega
            go_enter Try.func72, Try.ntmps72
            go_wp2
            refine wp_loop_rounds 3 ?_
            rw [rounds_succ]; go_wp2
            rw [rounds_succ]; go_wp2
            go_ret
            exact Grown'.none' (by rw [grow0 hx, h0, kid_zero, Option.bind_some, kid_bad h1 (.inr (.inr rfl))]; rfl) (Mid.start2 hba _ _ _ _ _ _).keptBa rfl (Mid.start2 hba _ _ _ _ _ _).at'
          · have w2 : ¬ (i : Int) + 1 < (ns.length : Int) := by omega
            go_enter Try.func72, Try.ntmps72
            go_wp2
            refine wp_loop_rounds 3 ?_
            rw [rounds_succ]; go_wp2
            rw [rounds_succ]; go_wp2
            go_ret
            exact Grown'.none' (by rw [grow0 hx, h0, kid_zero, Option.bind_some, kid_bad h1 (.inr (.inl (by omega)))]; rfl) (Mid.start2 hba _ _ _ _ _ _).keptBa rfl (Mid.start2 hba _ _ _ _ _ _).at'
        · have w1 : (x.next1 == (i : Int) + 1) = false := by simpa using h2
          go_enter Try.func72, Try.ntmps72
          go_wp2
          refine wp_loop_rounds 3 ?_
          rw [rounds_succ]; go_wp2
          rw [rounds_succ]; go_wp2
          go_ret
          exact Grown'.none' (by rw [grow0 hx, h0, kid_zero, Option.bind_some, kid_bad h1 (.inl h2)]; rfl) (Mid.start2 hba _ _ _ _ _ _).keptBa rfl (Mid.start2 hba _ _ _ _ _ _).at'
    · skip
      have z0 : (x.next0 == 0) = false := by simpa using h0
      by_cases h2 : x.next0 = (i : Int) + 1
      · have w1 : (x.next0 == (i : Int) + 1) = true := by simpa using h2
        by_cases h3 : i + 1 < ns.length
        · have w2 : (i : Int) + 1 < (ns.length : Int) := by omega
          go_enter Try.func72, Try.ntmps72
          go_wp2
          refine wp_loop_rounds 3 ?_
          rw [rounds_succ]; go_wp2
          go_ret
          exact Grown'.none' (by rw [grow0 hx, kid_bad h0 (.inr (.inr rfl))]; rfl) (Mid.start2 hba _ _ _ _ _ _).keptBa rfl (Mid.start2 hba _ _ _ _ _ _).at'
        · have w2 : ¬ (i : Int) + 1 < (ns.length : Int) := by omega
          go_enter Try.func72, Try.ntmps72
          go_wp2
          refine wp_loop_rounds 3 ?_
          rw [rounds_succ]; go_wp2
          go_ret
          exact Grown'.none' (by rw [grow0 hx, kid_bad h0 (.inr (.inl (by omega)))]; rfl) (Mid.start2 hba _ _ _ _ _ _).keptBa rfl (Mid.start2 hba _ _ _ _ _ _).at'
      · have w1 : (x.next0 == (i : Int) + 1) = false := by simpa using h2
        go_enter Try.func72, Try.ntmps72
        go_wp2
        refine wp_loop_rounds 3 ?_
        rw [rounds_succ]; go_wp2
        go_ret
        exact Grown'.none' (by rw [grow0 hx, kid_bad h0 (.inl h2)]; rfl) (Mid.start2 hba _ _ _ _ _ _).keptBa rfl (Mid.start2 hba _ _ _ _ _ _).at'
  | succ m ih =>
    intro d i w ba hd hi hn hba hne hb
    obtain ⟨x, hx⟩ : ∃ x, ns[i]? = some x := ⟨_, List.getElem?_eq_getElem hi⟩
    obtain ⟨c0, c1, c2, c3⟩ := hn i x hx
    have a0 : w.cell? ⟨ba, 0, none⟩ = some (.int .i64 (i : Int)) := by simp [World.cell?, hba]
    have af : w.frozen? ⟨ba, 0, none⟩ = false := by simp [World.frozen?, hba]
    have halt : ba < w.heap.size := (Array.getElem?_eq_some_iff.1 hba).1
    have S0 := Mid.start hba (.cells #[.int .i64 x.next0, .int .i64 x.next1, .bool x.set, .int .i64 x.value] 66) (.pointer none) (.pointer none) x.set x.value
    have hd32 : ((d : Int) == 32) = false := by simp; omega
    have call : ∀ (n : Nat) (w1 : World), n < ns.length → w1.heap[ba]? = some (.cells #[.int .i64 (n : Int)] 3 (0, 0)) → w1.heap[b]? = w.heap[b]? → b < w1.heap.size → Calls Try.prog 72 #[.slice (some ⟨b, o, none⟩) ns.length cap, .pointer (some ⟨ba, 0, none⟩), .int .i64 (IntKind.i64.wrap ((d : Int) + 1))] w1 fun e w' => Grown' w1 w' ba ns m n e := fun n w1 k0 k1 k2 k3 => by
      rw [next1 d (by omega)]; exact ih (d + 1) n w1 ba (by omega) k0 (hn.frame k2) k1 hne k3
    by_cases h0 : x.next0 = 0
    · by_cases h1 : x.next1 = 0
      · rw [h0] at c0 S0; rw [h1] at c1 S0
        go_enter Try.func72, Try.ntmps72
        go_wp2
        refine wp_loop_rounds 3 ?_
        rw [rounds_succ]; go_wp2
        rw [rounds_succ]; go_wp2
        rw [rounds_succ]; go_wp2
        go_ret
        obtain ⟨y1, y2⟩ := S0.done (l := .nil) (r := .nil) (bl := []) (br := []) ⟨rfl, rfl⟩ ⟨rfl, rfl⟩ (w.heap.size + 2) (fun k hk => by cases hk) (fun k hk => by cases hk) (Nat.le_refl _)
        exact Grown'.some' (by rw [growS hx, h0, h1]; rfl) S0.keptBa rfl y1 y2 S0.at'
      · rw [h0] at c0 S0
        have z1 : (x.next1 == 0) = false := by simpa using h1
        by_cases h2 : x.next1 = (i : Int) + 1
        · have w1 : (x.next1 == (i : Int) + 1) = true := by simpa using h2
          by_cases h3 : i + 1 < ns.length
          · have w2 : (i : Int) + 1 < (ns.length : Int) := by omega
            cases hg1 : growT ns m (i + 1) with
            | none =>
              go_enter Try.func72, Try.ntmps72
              go_wp2
              refine wp_loop_rounds 3 ?_
              rw [rounds_succ]; go_wp2
              rw [rounds_succ]; go_wp2
              go_region_with (go_at_call 72; refine (call (i + 1) _ h3 (Mid.start2 hba _ _ _ _ _ _).drew.at' ((Mid.start2 hba _ _ _ _ _ _).drew.block b hb (Ne.symm hne)) (Nat.lt_of_lt_of_le hb (Nat.le_trans (Nat.le_add_right _ 2) (Mid.start2 hba _ _ _ _ _ _).drew.size))).mono ?_; rintro e w1 ⟨hk1, hr1⟩; rw [hg1] at hr1; obtain ⟨rfl, j1, hj1⟩ := hr1; have M1 := (Mid.start2 hba _ _ _ _ _ _).drew.call hk1 hj1; have hsW1 := (Mid.start2 hba _ _ _ _ _ _).drew.szOf hk1; obtain ⟨g0, g1, g2, g3, e0, e1, e2, e3⟩ := M1.facts; obtain ⟨a1, a2⟩ := M1.atc)
              all_goals go_wp2
              all_goals go_ret
              all_goals exact Grown'.none' (by rw [growS hx, h0, kid_zero, Option.bind_some, kid_good h2 h3, hg1]; rfl) (M1.set1 _).keptBa rfl (M1.set1 _).at'
            | some r1 =>
              obtain ⟨t1, j1⟩ := r1
              go_enter Try.func72, Try.ntmps72
              go_wp2
              refine wp_loop_rounds 3 ?_
              rw [rounds_succ]; go_wp2
              rw [rounds_succ]; go_wp2
              go_region_with (go_at_call 72; refine (call (i + 1) _ h3 (Mid.start2 hba _ _ _ _ _ _).drew.at' ((Mid.start2 hba _ _ _ _ _ _).drew.block b hb (Ne.symm hne)) (Nat.lt_of_lt_of_le hb (Nat.le_trans (Nat.le_add_right _ 2) (Mid.start2 hba _ _ _ _ _ _).drew.size))).mono ?_; rintro e w1 ⟨hk1, hr1⟩; rw [hg1] at hr1; obtain ⟨p1, bs1, rfl, ht1, hb1, hj1⟩ := hr1; obtain ⟨q1, rfl⟩ := tree_some ht1 (grow_is m hg1).1; have M1 := (Mid.start2 hba _ _ _ _ _ _).drew.call hk1 hj1; have hsW1 := (Mid.start2 hba _ _ _ _ _ _).drew.szOf hk1; obtain ⟨g0, g1, g2, g3, e0, e1, e2, e3⟩ := M1.facts; obtain ⟨a1, a2⟩ := M1.atc)
              all_goals go_wp2
              all_goals (rw [rounds_succ]; go_wp2)
              all_goals go_ret
              all_goals (obtain ⟨y1, y2⟩ := (M1.set1 _).done (l := .nil) (bl := []) ⟨rfl, rfl⟩ (((Far.refl w w1).set1 M1 _).tree ht1 (fun k hk => Nat.le_trans hsW1 (hb1 k hk))) (w.heap.size + 2) (fun k hk => by cases hk) (fun k hk => Nat.le_trans hsW1 (hb1 k hk)) (Nat.le_refl _))
              all_goals exact Grown'.some' (by rw [growS hx, h0, kid_zero, Option.bind_some, kid_good h2 h3, hg1]; rfl) (M1.set1 _).keptBa rfl y1 y2 (M1.set1 _).at'
          · have w2 : ¬ (i : Int) + 1 < (ns.length : Int) := by omega
            go_enter Try.func72, Try.ntmps72
            go_wp2
            refine wp_loop_rounds 3 ?_
            rw [rounds_succ]; go_wp2
            rw [rounds_succ]; go_wp2
            go_ret
            exact Grown'.none' (by rw [growS hx, h0, kid_zero, Option.bind_some, kid_bad h1 (.inr (.inl (by omega)))]; rfl) (Mid.start2 hba _ _ _ _ _ _).keptBa rfl (Mid.start2 hba _ _ _ _ _ _).at'
        · have w1 : (x.next1 == (i : Int) + 1) = false := by simpa using h2
          go_enter Try.func72, Try.ntmps72
          go_wp2
          refine wp_loop_rounds 3 ?_
          rw [rounds_succ]; go_wp2
          rw [rounds_succ]; go_wp2
          go_ret
          exact Grown'.none' (by rw [growS hx, h0, kid_zero, Option.bind_some, kid_bad h1 (.inl h2)]; rfl) (Mid.start2 hba _ _ _ _ _ _).keptBa rfl (Mid.start2 hba _ _ _ _ _ _).at'
    · have z0 : (x.next0 == 0) = false := by simpa using h0
      by_cases h20 : x.next0 = (i : Int) + 1
      · have w10 : (x.next0 == (i : Int) + 1) = true := by simpa using h20
        by_cases h30 : i + 1 < ns.length
        · have w20 : (i : Int) + 1 < (ns.length : Int) := by omega
          cases hg0 : growT ns m (i + 1) with
          | none =>
            go_enter Try.func72, Try.ntmps72
            go_wp2
            refine wp_loop_rounds 3 ?_
            rw [rounds_succ]; go_wp2
            have h3 := h30
            go_region_with (go_at_call 72; refine (call (i + 1) _ h3 (Mid.start2 hba _ _ _ _ _ _).drew.at' ((Mid.start2 hba _ _ _ _ _ _).drew.block b hb (Ne.symm hne)) (Nat.lt_of_lt_of_le hb (Nat.le_trans (Nat.le_add_right _ 2) (Mid.start2 hba _ _ _ _ _ _).drew.size))).mono ?_; rintro e w1 ⟨hk1, hr1⟩; rw [hg0] at hr1; obtain ⟨rfl, j1, hj1⟩ := hr1; have M1 := (Mid.start2 hba _ _ _ _ _ _).drew.call hk1 hj1; have hsW1 := (Mid.start2 hba _ _ _ _ _ _).drew.szOf hk1; obtain ⟨g0, g1, g2, g3, e0, e1, e2, e3⟩ := M1.facts; obtain ⟨a1, a2⟩ := M1.atc)
            all_goals go_wp2
            all_goals go_ret
            all_goals exact Grown'.none' (by rw [growS hx, kid_good h20 h30, hg0]; rfl) (M1.set0 _).keptBa rfl (M1.set0 _).at'
          | some r0 =>
            obtain ⟨t0, j0⟩ := r0
            have hj0l := (grow_lt hg0).2
            by_cases h1 : x.next1 = 0
            · rw [h1] at c1 S0
              go_enter Try.func72, Try.ntmps72
              go_wp2
              refine wp_loop_rounds 3 ?_
              rw [rounds_succ]; go_wp2
              go_region_with (go_at_call 72; refine (call (i + 1) _ h30 (Mid.start2 hba _ _ _ _ _ _).drew.at' ((Mid.start2 hba _ _ _ _ _ _).drew.block b hb (Ne.symm hne)) (Nat.lt_of_lt_of_le hb (Nat.le_trans (Nat.le_add_right _ 2) (Mid.start2 hba _ _ _ _ _ _).drew.size))).mono ?_; rintro e w0 ⟨hk0, hr0⟩; rw [hg0] at hr0; obtain ⟨p0, bs0, rfl, ht0, hb0, hj0⟩ := hr0; obtain ⟨q0, rfl⟩ := tree_some ht0 (grow_is m hg0).1; have M0 := (Mid.start2 hba _ _ _ _ _ _).drew.call hk0 hj0; have hsW0 := (Mid.start2 hba _ _ _ _ _ _).drew.szOf hk0; obtain ⟨f0, f1, f2, f3, d0, d1, d2, d3⟩ := M0.facts; obtain ⟨b1, b2⟩ := M0.atc; have hsq := M0.size)
              all_goals go_wp2
              all_goals (rw [rounds_succ]; go_wp2)
              all_goals (rw [rounds_succ]; go_wp2)
              all_goals go_ret
              all_goals (obtain ⟨y1, y2⟩ := (M0.set0 _).done (r := .nil) (br := []) (((Far.refl w w0).set0 M0 _).tree ht0 (fun k hk => Nat.le_trans hsW0 (hb0 k hk))) ⟨rfl, rfl⟩ w0.heap.size (fun k hk => ⟨Nat.le_trans hsW0 (hb0 k hk), ht0.lt k hk⟩) (fun k hk => by cases hk) M0.size)
              all_goals exact Grown'.some' (by rw [growS hx, kid_good h20 h30, hg0, Option.bind_some, h1]; rfl) (M0.set0 _).keptBa rfl y1 y2 (M0.set0 _).at'
            · skip
              have z1 : (x.next1 == 0) = false := by simpa using h1
              by_cases h2 : x.next1 = (j0 : Int) + 1
              · have w1 : (x.next1 == (j0 : Int) + 1) = true := by simpa using h2
                by_cases h3 : j0 + 1 < ns.length
                · have w2 : (j0 : Int) + 1 < (ns.length : Int) := by omega
                  cases hg1 : growT ns m (j0 + 1) with
                  | none =>
                    go_enter Try.func72, Try.ntmps72
                    go_wp2
                    refine wp_loop_rounds 3 ?_
                    rw [rounds_succ]; go_wp2
                    go_region_with (go_at_call 72; refine (call (i + 1) _ h30 (Mid.start2 hba _ _ _ _ _ _).drew.at' ((Mid.start2 hba _ _ _ _ _ _).drew.block b hb (Ne.symm hne)) (Nat.lt_of_lt_of_le hb (Nat.le_trans (Nat.le_add_right _ 2) (Mid.start2 hba _ _ _ _ _ _).drew.size))).mono ?_; rintro e w0 ⟨hk0, hr0⟩; rw [hg0] at hr0; obtain ⟨p0, bs0, rfl, ht0, hb0, hj0⟩ := hr0; obtain ⟨q0, rfl⟩ := tree_some ht0 (grow_is m hg0).1; have M0 := (Mid.start2 hba _ _ _ _ _ _).drew.call hk0 hj0; have hsW0 := (Mid.start2 hba _ _ _ _ _ _).drew.szOf hk0; obtain ⟨f0, f1, f2, f3, d0, d1, d2, d3⟩ := M0.facts; obtain ⟨b1, b2⟩ := M0.atc; have hsq := M0.size)
                    all_goals go_wp2
                    rw [rounds_succ]; go_wp2
                    go_region_with (go_at_call 72; refine (call (j0 + 1) _ h3 ((M0.set0 _).inc _).drew.at' (((M0.set0 _).inc _).drew.block b hb (Ne.symm hne)) (Nat.lt_of_lt_of_le hb (Nat.le_trans (Nat.le_add_right _ 2) ((M0.set0 _).inc _).drew.size))).mono ?_; rintro e w1 ⟨hk1, hr1⟩; rw [hg1] at hr1; obtain ⟨rfl, j1, hj1⟩ := hr1; have M1 := ((M0.set0 _).inc _).drew.call hk1 hj1; have hsW1 := ((M0.set0 _).inc _).drew.szOf hk1; obtain ⟨g0, g1, g2, g3, e0, e1, e2, e3⟩ := M1.facts; obtain ⟨a1, a2⟩ := M1.atc)
                    all_goals go_wp2
                    all_goals go_ret
                    all_goals exact Grown'.none' (by rw [growS hx, kid_good h20 h30, hg0, Option.bind_some, kid_good h2 h3, hg1]; rfl) (M1.set1 _).keptBa rfl (M1.set1 _).at'
                  | some r1 =>
                    obtain ⟨t1, j1⟩ := r1
                    go_enter Try.func72, Try.ntmps72
                    go_wp2
                    refine wp_loop_rounds 3 ?_
                    rw [rounds_succ]; go_wp2
                    go_region_with (go_at_call 72; refine (call (i + 1) _ h30 (Mid.start2 hba _ _ _ _ _ _).drew.at' ((Mid.start2 hba _ _ _ _ _ _).drew.block b hb (Ne.symm hne)) (Nat.lt_of_lt_of_le hb (Nat.le_trans (Nat.le_add_right _ 2) (Mid.start2 hba _ _ _ _ _ _).drew.size))).mono ?_; rintro e w0 ⟨hk0, hr0⟩; rw [hg0] at hr0; obtain ⟨p0, bs0, rfl, ht0, hb0, hj0⟩ := hr0; obtain ⟨q0, rfl⟩ := tree_some ht0 (grow_is m hg0).1; have M0 := (Mid.start2 hba _ _ _ _ _ _).drew.call hk0 hj0; have hsW0 := (Mid.start2 hba _ _ _ _ _ _).drew.szOf hk0; obtain ⟨f0, f1, f2, f3, d0, d1, d2, d3⟩ := M0.facts; obtain ⟨b1, b2⟩ := M0.atc; have hsq := M0.size)
                    all_goals go_wp2
                    rw [rounds_succ]; go_wp2
                    go_region_with (go_at_call 72; refine (call (j0 + 1) _ h3 ((M0.set0 _).inc _).drew.at' (((M0.set0 _).inc _).drew.block b hb (Ne.symm hne)) (Nat.lt_of_lt_of_le hb (Nat.le_trans (Nat.le_add_right _ 2) ((M0.set0 _).inc _).drew.size))).mono ?_; rintro e w1 ⟨hk1, hr1⟩; rw [hg1] at hr1; obtain ⟨p1, bs1, rfl, ht1, hb1, hj1⟩ := hr1; obtain ⟨q1, rfl⟩ := tree_some ht1 (grow_is m hg1).1; have M1 := ((M0.set0 _).inc _).drew.call hk1 hj1; have hsW1 := ((M0.set0 _).inc _).drew.szOf hk1; obtain ⟨g0, g1, g2, g3, e0, e1, e2, e3⟩ := M1.facts; obtain ⟨a1, a2⟩ := M1.atc)
                    all_goals go_wp2
                    all_goals (rw [rounds_succ]; go_wp2)
                    all_goals go_ret
                    all_goals (obtain ⟨y1, y2⟩ := (M1.set1 _).done ((((((Far.refl w w0).set0 M0 _).inc (M0.set0 _) _).drew.call hk1 halt).set1 M1 _).tree ht0 (fun k hk => Nat.le_trans hsW0 (hb0 k hk))) (((Far.refl w w1).set1 M1 _).tree ht1 (fun k hk => Nat.le_trans hsW1 (hb1 k hk))) w0.heap.size (fun k hk => ⟨Nat.le_trans hsW0 (hb0 k hk), ht0.lt k hk⟩) (fun k hk => Nat.le_trans ((((Far.refl w w0).set0 M0 _).inc (M0.set0 _) _).drew).1 (hb1 k hk)) M0.size)
                    all_goals exact Grown'.some' (by rw [growS hx, kid_good h20 h30, hg0, Option.bind_some, kid_good h2 h3, hg1]; rfl) (M1.set1 _).keptBa rfl y1 y2 (M1.set1 _).at'
                · have w2 : ¬ (j0 : Int) + 1 < (ns.length : Int) := by omega
                  go_enter Try.func72, Try.ntmps72
                  go_wp2
                  refine wp_loop_rounds 3 ?_
                  rw [rounds_succ]; go_wp2
                  go_region_with (go_at_call 72; refine (call (i + 1) _ h30 (Mid.start2 hba _ _ _ _ _ _).drew.at' ((Mid.start2 hba _ _ _ _ _ _).drew.block b hb (Ne.symm hne)) (Nat.lt_of_lt_of_le hb (Nat.le_trans (Nat.le_add_right _ 2) (Mid.start2 hba _ _ _ _ _ _).drew.size))).mono ?_; rintro e w0 ⟨hk0, hr0⟩; rw [hg0] at hr0; obtain ⟨p0, bs0, rfl, ht0, hb0, hj0⟩ := hr0; obtain ⟨q0, rfl⟩ := tree_some ht0 (grow_is m hg0).1; have M0 := (Mid.start2 hba _ _ _ _ _ _).drew.call hk0 hj0; have hsW0 := (Mid.start2 hba _ _ _ _ _ _).drew.szOf hk0; obtain ⟨f0, f1, f2, f3, d0, d1, d2, d3⟩ := M0.facts; obtain ⟨b1, b2⟩ := M0.atc; have hsq := M0.size)
                  all_goals go_wp2
                  rw [rounds_succ]; go_wp2
                  all_goals go_ret
                  all_goals exact Grown'.none' (by rw [growS hx, kid_good h20 h30, hg0, Option.bind_some, kid_bad h1 (.inr (.inl (by omega)))]; rfl) ((M0.set0 _).inc _).keptBa rfl ((M0.set0 _).inc _).at'
              · have w1 : (x.next1 == (j0 : Int) + 1) = false := by simpa using h2
                go_enter Try.func72, Try.ntmps72
                go_wp2
                refine wp_loop_rounds 3 ?_
                rw [rounds_succ]; go_wp2
                go_region_with (go_at_call 72; refine (call (i + 1) _ h30 (Mid.start2 hba _ _ _ _ _ _).drew.at' ((Mid.start2 hba _ _ _ _ _ _).drew.block b hb (Ne.symm hne)) (Nat.lt_of_lt_of_le hb (Nat.le_trans (Nat.le_add_right _ 2) (Mid.start2 hba _ _ _ _ _ _).drew.size))).mono ?_; rintro e w0 ⟨hk0, hr0⟩; rw [hg0] at hr0; obtain ⟨p0, bs0, rfl, ht0, hb0, hj0⟩ := hr0; obtain ⟨q0, rfl⟩ := tree_some ht0 (grow_is m hg0).1; have M0 := (Mid.start2 hba _ _ _ _ _ _).drew.call hk0 hj0; have hsW0 := (Mid.start2 hba _ _ _ _ _ _).drew.szOf hk0; obtain ⟨f0, f1, f2, f3, d0, d1, d2, d3⟩ := M0.facts; obtain ⟨b1, b2⟩ := M0.atc; have hsq := M0.size)
                all_goals go_wp2
                rw [rounds_succ]; go_wp2
                all_goals go_ret
                all_goals exact Grown'.none' (by rw [growS hx, kid_good h20 h30, hg0, Option.bind_some, kid_bad h1 (.inl h2)]; rfl) ((M0.set0 _).inc _).keptBa rfl ((M0.set0 _).inc _).at'
        · have w20 : ¬ (i : Int) + 1 < (ns.length : Int) := by omega
          go_enter Try.func72, Try.ntmps72
          go_wp2
          refine wp_loop_rounds 3 ?_
          rw [rounds_succ]; go_wp2
          go_ret
          exact Grown'.none' (by rw [growS hx, kid_bad h0 (.inr (.inl (by omega)))]; rfl) (Mid.start2 hba _ _ _ _ _ _).keptBa rfl (Mid.start2 hba _ _ _ _ _ _).at'
      · have w10 : (x.next0 == (i : Int) + 1) = false := by simpa using h20
        go_enter Try.func72, Try.ntmps72
        go_wp2
        refine wp_loop_rounds 3 ?_
        rw [rounds_succ]; go_wp2
        go_ret
        exact Grown'.none' (by rw [growS hx, kid_bad h0 (.inl h20)]; rfl) (Mid.start2 hba _ _ _ _ _ _).keptBa rfl (Mid.start2 hba _ _ _ _ _ _).at'
end Go.Proofs.Ythnijeclidpooaa.X
