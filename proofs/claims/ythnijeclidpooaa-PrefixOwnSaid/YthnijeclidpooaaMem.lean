/- Blocks of memory of the call's own, known whole; bytes in them. For whatever program. -/
import Derived.WalkKit
import Derived.Handy
import Derived.Below
import Derived.Laws.IdiomStrings
import Derived.Laws.OwnMore
import Derived.Laws.AppendOwn
import Derived.Lib.SmallJoins
import Derived.Lib.Strings
import Derived.PlainAid
namespace Go.Proofs.Ythnijeclidpooaa.Mem
open Go Go.RowKit Go.PlainAid

/-- Block g holds the cells cs; none of them is frozen. -/
def Blk (w : World) (g : Nat) (cs : Array Value) : Prop := ∃ T lo hi, w.heap[g]? = some (.cells cs T (lo, hi)) ∧ (cs.size ≤ lo ∨ hi = 0)

section
variable {w w' : World} {g : Nat} {cs : Array Value}

theorem Blk.lt (h : Blk w g cs) : g < w.heap.size := by
  obtain ⟨T, lo, hi, h1, _⟩ := h
  exact (Array.getElem?_eq_some_iff.1 h1).1

theorem Blk.cell (h : Blk w g cs) (j : Nat) : w.cell? ⟨g, j, none⟩ = cs[j]? := by
  obtain ⟨T, lo, hi, h1, _⟩ := h
  simp [World.cell?, h1]

theorem Blk.frozen (h : Blk w g cs) (j : Nat) (hj : j < cs.size) : w.frozen? ⟨g, j, none⟩ = false := by
  obtain ⟨T, lo, hi, h1, h2⟩ := h
  simp [World.frozen?, h1]; omega

theorem Blk.of_heap (h : Blk w g cs) (hh : w'.heap[g]? = w.heap[g]?) : Blk w' g cs := by
  obtain ⟨T, lo, hi, h1, h2⟩ := h
  exact ⟨T, lo, hi, hh.trans h1, h2⟩

theorem Blk.set (h : Blk w g cs) (j : Nat) (v : Value) : Blk (w.setCell ⟨g, j, none⟩ v) g (cs.setIfInBounds j v) := by
  obtain ⟨T, lo, hi, h1, h2⟩ := h
  refine ⟨T, lo, hi, ?_, by simpa using h2⟩
  exact Joins.block_setCell h1 v

theorem Blk.other (h : Blk w g cs) {a : Addr} (ha : a.block ≠ g) (v : Value) : Blk (w.setCell a v) g cs :=
  h.of_heap (Below.heap_setCell _ _ _ _ (fun e => ha e.symm))

theorem Blk.other' {b i : Nat} (ne : b ≠ g) {v : Value} (h : Blk w g cs) : Blk (w.setCell ⟨b, i, none⟩ v) g cs := h.other ne v
theorem Blk.set' {j : Nat} {v : Value} (h : Blk w g cs) : Blk (w.setCell ⟨g, j, none⟩ v) g (cs.setIfInBounds j v) := h.set j v

theorem Blk.alloc (h : Blk w g cs) (o : Obj) : Blk (w.alloc o) g cs := h.of_heap (Below.heap_alloc _ _ _ h.lt)
theorem Blk.drew (h : Blk w g cs) : Blk w.drew g cs := h
theorem Blk.drewN (h : Blk w g cs) (n : Nat) : Blk (w.drewN n) g cs := h
theorem Blk.below {B : Nat} (h : Blk w g cs) (hb : Below B w w') (hg : g < B) : Blk w' g cs := h.of_heap (hb.block g hg)

theorem Blk.new (w : World) (cs : Array Value) (T : TypeId) : Blk (w.alloc (.cells cs T)) w.heap.size cs := ⟨T, 0, 0, heap_alloc_new w _, Or.inr rfl⟩
theorem Blk.new_mark (w : World) (cs : Array Value) (T : TypeId) (n m : Nat) (h : cs.size ≤ n) : Blk (w.alloc (.cells cs T (n, m))) w.heap.size cs := ⟨T, n, m, heap_alloc_new w _, Or.inl h⟩
end

theorem Blk.conv {w : World} {g : Nat} {cs cs' : Array Value} (e : cs = cs') (h : Blk w g cs) : Blk w g cs' := e ▸ h
theorem Blk.new' {w : World} {g : Nat} {cs : Array Value} {T : TypeId} (h : g = w.heap.size) : Blk (w.alloc (.cells cs T)) g cs := by subst h; exact Blk.new _ _ _

theorem below_set {B b i : Nat} {a w : World} (hb : B ≤ b) {v : Value} (h : Below B a w) : Below B a (w.setCell ⟨b, i, none⟩ v) := h.setCell hb v
theorem below_drewN {B : Nat} {a w : World} (h : Below B a w) (n : Nat) : Below B a (w.drewN n) := h.trans (Joins.below_draws _ _ _)

/-! ### Bytes -/

def bv (b : UInt8) : Value := .int .u8 (b.toNat : Int)

/-- Block g holds the bytes l, and perhaps more behind them. -/
def Byt (w : World) (g : Nat) (l : List UInt8) : Prop := ∃ pad : Array Value, Blk w g ((l.map bv).toArray ++ pad)

section
variable {w w' : World} {g : Nat} {l : List UInt8}

theorem Byt.lt (h : Byt w g l) : g < w.heap.size := let ⟨_, hb⟩ := h; hb.lt

theorem Byt.cell (h : Byt w g l) (j : Nat) (hj : j < l.length) : w.cell? ⟨g, j, none⟩ = some (.int .u8 ((l[j]'hj).toNat : Int)) := by
  obtain ⟨pad, hb⟩ := h
  rw [hb.cell, Array.getElem?_append_left (by simpa using hj)]
  simp [hj, bv]

theorem Byt.frozen (h : Byt w g l) (j : Nat) (hj : j < l.length) : w.frozen? ⟨g, j, none⟩ = false := by
  obtain ⟨pad, hb⟩ := h
  exact hb.frozen j (by simp; omega)

theorem Byt.set (h : Byt w g l) (j : Nat) (hj : j < l.length) (x : Int) (h0 : 0 ≤ x) (h1 : x ≤ 255) : Byt (w.setCell ⟨g, j, none⟩ (.int .u8 x)) g (l.set j (UInt8.ofNat x.toNat)) := by
  obtain ⟨pad, hb⟩ := h
  refine ⟨pad, ?_⟩
  have := hb.set j (.int .u8 x)
  have e : ((l.map bv).toArray ++ pad).setIfInBounds j (.int .u8 x) = ((l.set j (UInt8.ofNat x.toNat)).map bv).toArray ++ pad := by
    have eb : bv (UInt8.ofNat x.toNat) = .int .u8 x := by
      unfold bv
      have : (UInt8.ofNat x.toNat).toNat = x.toNat := by simp; omega
      rw [this]; congr 1; omega
    rw [Array.setIfInBounds_append_left (by simpa using hj)]
    congr 1
    rw [List.map_set, eb]
    simp
  rw [e] at this
  exact this

theorem Byt.of_heap (h : Byt w g l) (hh : w'.heap[g]? = w.heap[g]?) : Byt w' g l := let ⟨pad, hb⟩ := h; ⟨pad, hb.of_heap hh⟩
theorem Byt.drewN (h : Byt w g l) (n : Nat) : Byt (w.drewN n) g l := h
theorem Byt.drew (h : Byt w g l) : Byt w.drew g l := h
theorem Byt.alloc (h : Byt w g l) (o : Obj) : Byt (w.alloc o) g l := let ⟨pad, hb⟩ := h; ⟨pad, hb.alloc o⟩
theorem Byt.below {B : Nat} (h : Byt w g l) (hb : Below B w w') (hg : g < B) : Byt w' g l := h.of_heap (hb.block g hg)

/-- What '[]byte(s)' lays. -/
theorem Byt.of_string (w : World) (s : ByteArray) (e : TypeId) (cap : Nat) : Byt (w.alloc (.cells (bytesRow s cap) e ((bytesRow s cap).size, (bytesRow s cap).size + 1))) w.heap.size s.data.toList := by
  have e1 : bytesRow s cap = (s.data.toList.map bv).toArray ++ Array.replicate (cap - s.size) (.int .u8 0) := by
    unfold bytesRow
    congr 1
    rw [← Array.toList_inj]
    simp only [Array.toList_map]
    rfl
  refine ⟨Array.replicate (cap - s.size) (.int .u8 0), ?_⟩
  rw [← e1]
  exact Blk.new_mark _ _ _ _ _ (Nat.le_refl _)

theorem bv_of (x : Int) (h0 : 0 ≤ x) (h1 : x ≤ 255) : Value.int .u8 x = bv (UInt8.ofNat x.toNat) := by
  unfold bv
  have : (UInt8.ofNat x.toNat).toNat = x.toNat := by simp; omega
  rw [this]; congr 1; omega

/-- A row of bytes that was written out. -/
theorem Byt.lit (w : World) (xs : List Int) (T : TypeId) (h : ∀ x ∈ xs, 0 ≤ x ∧ x ≤ 255) : Byt (w.alloc (.cells (xs.map (Value.int .u8)).toArray T)) w.heap.size (xs.map fun x => UInt8.ofNat x.toNat) := by
  refine ⟨#[], ?_⟩
  have e : (xs.map (Value.int .u8)).toArray = ((xs.map fun x => UInt8.ofNat x.toNat).map bv).toArray ++ #[] := by
    rw [Array.append_empty, List.map_map]
    congr 1
    exact List.map_congr_left fun x hx => bv_of x (h x hx).1 (h x hx).2
  rw [e]
  exact Blk.new _ _ _

/-- 'string(t)'. -/
theorem Byt.back {P : Program} (h : Byt w g l) (src dst e : TypeId) (cap : Nat) (hs : P.underlying src = some (.slice e)) (he : P.underlying e = some (.int .u8)) (hd : P.underlying dst = some .string) :
    (convert src dst (.slice (some ⟨g, 0, none⟩) l.length cap)).run P w = .ok (.string ⟨l.toArray⟩) w :=
  run_convert_bytes_back w src dst e _ cap l hs he hd (fun j hj => by rw [Addr.add_lit, Nat.zero_add]; exact h.cell j hj)
end

/-! ### '[]byte(s)' under one name -/

def bytesC (w : World) (e : TypeId) (s : ByteArray) : Nat := grownCap w s.size 0 e
/-- The world behind '[]byte(s)'. -/
def bytesW (w : World) (e : TypeId) (s : ByteArray) : World := w.drew.alloc (.cells (bytesRow s (bytesC w e s)) e ((bytesRow s (bytesC w e s)).size, (bytesRow s (bytesC w e s)).size + 1))

theorem run_bytesW {P : Program} (w : World) (src dst e : TypeId) (s : ByteArray) (hs : P.underlying src = some .string) (hd : P.underlying dst = some (.slice e)) (he : P.underlying e = some (.int .u8)) :
    (convert src dst (.string s)).run P w = .ok (.slice (some ⟨w.heap.size, 0, none⟩) s.size (bytesC w e s)) (bytesW w e s) := run_bytes_of_string w src dst e s hs hd he

@[go_sem] theorem bytesW_size (w : World) (e : TypeId) (s : ByteArray) : (bytesW w e s).heap.size = w.heap.size + 1 := by
  unfold bytesW; simp
theorem bytesW_byt (w : World) (e : TypeId) (s : ByteArray) : Byt (bytesW w e s) w.heap.size s.data.toList := Byt.of_string w.drew s e _
theorem bytesW_heap (w : World) (e : TypeId) (s : ByteArray) (k : Nat) (h : k < w.heap.size) : (bytesW w e s).heap[k]? = w.heap[k]? := by
  unfold bytesW; exact Below.heap_alloc _ _ _ h
@[go_sem] theorem bytesW_cell_past (w : World) (e : TypeId) (s : ByteArray) (n i : Nat) (h : n < w.heap.size) : (bytesW w e s).cell? ⟨n, i, none⟩ = w.cell? ⟨n, i, none⟩ :=
  World.cell?_of_block (w := w) (bytesW_heap w e s n h)
@[go_sem] theorem bytesW_frozen_past (w : World) (e : TypeId) (s : ByteArray) (n i : Nat) (h : n < w.heap.size) : (bytesW w e s).frozen? ⟨n, i, none⟩ = w.frozen? ⟨n, i, none⟩ :=
  World.frozen?_of_block (w := w) (bytesW_heap w e s n h)
theorem bytesW_cell (w : World) (e : TypeId) (s : ByteArray) (n i : Nat) (hn : n = w.heap.size) (hi : i < s.size) : (bytesW w e s).cell? ⟨n, i, none⟩ = some (.int .u8 (bt s i)) := by
  subst hn
  have h := (bytesW_byt w e s).cell i (by simpa using hi)
  rw [h]
  have e2 : bt s i = ((s.data.toList[i]'(by simpa using hi)).toNat : Int) := by unfold bt; rw [dif_pos hi]; rfl
  rw [e2]
theorem below_bytesW {B : Nat} {a w : World} (h : Below B a w) (hB : B ≤ w.heap.size) (e : TypeId) (s : ByteArray) : Below B a (bytesW w e s) := by
  unfold bytesW; exact h.drew.alloc (by simpa using hB) _

theorem Blk.bytesW {w : World} {g : Nat} {cs : Array Value} (h : Blk w g cs) (e : TypeId) (s : ByteArray) : Blk (bytesW w e s) g cs := h.of_heap (bytesW_heap w e s g h.lt)

end Go.Proofs.Ythnijeclidpooaa.Mem
