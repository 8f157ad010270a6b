/- prefix: walks over trees in memory. Conditions: none. -/
import Derived.Test.YthnijeclidpooaaRows
import Derived.Test.YthnijeclidpooaaBits
import Derived.Test.YthnijeclidpooaaPfxA
import Derived.WalkKit
import Derived.Handy
import Derived.BigQuiet
import Derived.Deep.QuietTactic
import Derived.Deep.DeepCutAuto
import Derived.Deep.RegionHeld3
import Derived.RegionTactic
import Derived.Outline
import Derived.Deep.RegionWith
import Derived.Laws.Pointers
import Derived.Laws.NewBlocks
import Derived.Laws.Shifts
import Derived.Laws.ShiftsVar
import Derived.Laws.ShiftsVarLaws
namespace Go.Proofs.Ythnijeclidpooaa.X
open Go Go.RowKit Go.Proofs.Ythnijeclidpooaa.Abs Go.Proofs.Ythnijeclidpooaa.Bits
set_option linter.unusedVariables false
set_option linter.unusedSimpArgs false
def bitB (a : Int) (i : Nat) : Bool := decide (a / 2 ^ (31 - i) % 2 = 1)
/-- The bits of an address from one on, so many. -/
def bitsN (a : Int) : Nat → Nat → List Bool
  | 0, _ => []
  | k + 1, d => bitB a d :: bitsN a k (d + 1)
def putN (a v : Int) (k d : Nat) (t : TT) : TT := putL v (bitsN a k d) t
def b01 (b : Bool) : Int := if b then 1 else 0
theorem and_one (x : Int) (h : 0 ≤ x ∧ x ≤ 4294967295) : wrap64 (bits BinOp.and IntKind.u32 x 1) = b01 (decide (x % 2 = 1)) := by
  have h1 : bits BinOp.and IntKind.u32 x 1 = x % 2 := bits_and_mask .u32 1 x h.1 (by show x < 4294967296; omega) (by decide) (fun e => by cases e)
  rw [h1]
  have h2 : wrap64 (x % 2) = x % 2 := by unfold wrap64; omega
  rw [h2]
  unfold b01
  by_cases h3 : x % 2 = 1
  · rw [h3]; rfl
  · rw [show x % 2 = 0 by omega]; rfl
set_option maxRecDepth 100000 in
theorem bit_any (a : Int) (i : Nat) (w : World) (ha : 0 ≤ a ∧ a ≤ 4294967295) (hi : i ≤ 31) :
    Calls Try.prog 49 #[.int .u32 a, .int .i64 i] w fun e w' => e = .returned (.int .i64 (b01 (bitB a i))) ∧ w' = w := by
  have hx : 0 ≤ a / 2 ^ (31 - i) ∧ a / 2 ^ (31 - i) ≤ 4294967295 := by
    refine ⟨Int.ediv_nonneg ha.1 (Int.le_of_lt (Int.pow_pos (by decide))), ?_⟩
    exact Int.le_trans (Int.ediv_le_self _ ha.1) ha.2
  go_enter Try.func49, Try.ntmps49
  go_wp2
  go_ret
  exact ⟨ret_int (by rw [and_one _ hx]; rfl), rfl⟩
/-- A tree in memory: the value that points to it, and the blocks that it fills. -/
def TreeAt (w : World) : TT → Value → List Nat → Prop
  | .nil, p, bs => p = .pointer none ∧ bs = []
  | .node l r s x, p, bs => ∃ b pl pr bl br, p = .pointer (some ⟨b, 0, none⟩) ∧ w.heap[b]? = some (.cells #[pl, pr, .bool s, .int .i64 x] 105 (0, 0)) ∧ TreeAt w l pl bl ∧ TreeAt w r pr br ∧ bs = b :: (bl ++ br) ∧ bs.Nodup
theorem TreeAt.frame {w w' : World} : ∀ {t : TT} {p : Value} {bs : List Nat}, TreeAt w t p bs → (∀ b ∈ bs, w'.heap[b]? = w.heap[b]?) → TreeAt w' t p bs
  | .nil, p, bs, h, _ => h
  | .node l r s x, p, bs, ⟨b, pl, pr, bl, br, h1, h2, h3, h4, h5, h6⟩, hk => by
    subst h5
    refine ⟨b, pl, pr, bl, br, h1, (hk b (by simp)).trans h2, h3.frame fun k hm => hk k (by simp [hm]), h4.frame fun k hm => hk k (by simp [hm]), rfl, h6⟩
theorem TreeAt.ptr {w : World} : ∀ {t : TT} {p : Value} {bs : List Nat}, TreeAt w t p bs → ∃ q, p = .pointer q
  | .nil, p, bs, h => ⟨_, h.1⟩
  | .node l r s x, p, bs, ⟨b, pl, pr, bl, br, h1, _⟩ => ⟨_, h1⟩
theorem TreeAt.lt {w : World} : ∀ {t : TT} {p : Value} {bs : List Nat}, TreeAt w t p bs → ∀ b ∈ bs, b < w.heap.size
  | .nil, p, bs, ⟨_, h⟩, b, hb => by rw [h] at hb; cases hb
  | .node l r s x, p, bs, ⟨c, pl, pr, bl, br, h1, h2, h3, h4, h5, h6⟩, b, hb => by
    subst h5
    simp only [List.mem_cons, List.mem_append] at hb
    rcases hb with rfl | hb | hb
    · exact (Array.getElem?_eq_some_iff.1 h2).1
    · exact h3.lt b hb
    · exact h4.lt b hb
/-- What of a world is as it was: all but these blocks; what is filled now was filled, or is new. -/
structure Kept (bs bs' : List Nat) (w w' : World) : Prop where
  os : w'.os = w.os
  tape : w'.tape = w.tape
  output : w'.output = w.output
  size : w.heap.size ≤ w'.heap.size
  block : ∀ b, b < w.heap.size → b ∉ bs → w'.heap[b]? = w.heap[b]?
  from' : ∀ b ∈ bs', b ∈ bs ∨ w.heap.size ≤ b
structure NodeF (w : World) (b : Nat) (pl pr : Value) (s : Bool) (x : Int) : Prop where
  c0 : w.cell? ⟨b, 0, none⟩ = some pl
  c1 : w.cell? ⟨b, 1, none⟩ = some pr
  c2 : w.cell? ⟨b, 2, none⟩ = some (.bool s)
  c3 : w.cell? ⟨b, 3, none⟩ = some (.int .i64 x)
  f0 : w.frozen? ⟨b, 0, none⟩ = false
  f1 : w.frozen? ⟨b, 1, none⟩ = false
  f2 : w.frozen? ⟨b, 2, none⟩ = false
  f3 : w.frozen? ⟨b, 3, none⟩ = false
theorem node_facts {w : World} {b : Nat} {pl pr : Value} {s : Bool} {x : Int} {T : TypeId} (h : w.heap[b]? = some (.cells #[pl, pr, .bool s, .int .i64 x] T (0, 0))) : NodeF w b pl pr s x := by
  constructor <;> simp [World.cell?, World.frozen?, h]
theorem TreeAt.nodup {w : World} : ∀ {t : TT} {p : Value} {bs : List Nat}, TreeAt w t p bs → bs.Nodup
  | .nil, p, bs, ⟨_, h⟩ => by rw [h]; exact List.nodup_nil
  | .node l r s x, p, bs, ⟨b, pl, pr, bl, br, h1, h2, h3, h4, h5, h6⟩ => h6
theorem set_heap {w : World} {b j : Nat} {cs : Array Value} {T : TypeId} {v : Value} (h : w.heap[b]? = some (.cells cs T (0, 0))) (hj : j < cs.size) :
    (w.setCell ⟨b, j, none⟩ v).heap[b]? = some (.cells (cs.set j v hj) T (0, 0)) ∧ (∀ k, k ≠ b → (w.setCell ⟨b, j, none⟩ v).heap[k]? = w.heap[k]?) ∧ (w.setCell ⟨b, j, none⟩ v).heap.size = w.heap.size ∧ (w.setCell ⟨b, j, none⟩ v).os = w.os ∧ (w.setCell ⟨b, j, none⟩ v).tape = w.tape ∧ (w.setCell ⟨b, j, none⟩ v).output = w.output := by
  have hs : w.setCell ⟨b, j, none⟩ v = w.setRow b (cs.set! j v) := setCell_eq_setRow w b j _ _ _ _ h
  rw [hs]
  refine ⟨?_, fun k hk => setRow_other w b k _ hk, by simp [World.setRow], rfl, rfl, rfl⟩
  rw [setRow_heap w b _ _ _ _ h]
  simp [Array.set!, Array.setIfInBounds, hj]
theorem next1 (i : Nat) (hi : i < 9223372036854775807) : IntKind.i64.wrap ((i : Int) + 1) = ((i + 1 : Nat) : Int) := by rw [IntKind.wrap_i64]; omega
theorem below_drew {n : Nat} {w w1 : World} (h : Below n w w1) : Below n w w1.drew := ⟨h.os, h.tape, h.output, h.size, h.block⟩
theorem below_alloc (w : World) (o : Obj) : Below w.heap.size w (w.alloc o) := (Below.refl _ _).alloc (Nat.le_refl _) _
/-- A node is as it was, where only its children turned. -/
theorem kept_at {w w1 w' : World} {b : Nat} {x : Obj} {bs bs' bl br : List Nat} (hw : Below w.heap.size w w1) (hk : Kept bs bs' w1 w') (hb : w.heap[b]? = some x) (hnd : (b :: (bl ++ br)).Nodup) (hs : ∀ k ∈ bs, k ∈ bl ++ br) : w'.heap[b]? = some x := by
  have hlt := (Array.getElem?_eq_some_iff.1 hb).1
  have := hw.size
  rw [hk.block b (by omega) (fun hm => (List.nodup_cons.1 hnd).1 (hs b hm)), hw.block b hlt, hb]
/-- One child turned, and stands in its node again. -/
theorem set_right {w w1 w' : World} {l r' : TT} {s : Bool} {x : Int} {b : Nat} {pl pr : Value} {q' : Option Addr} {bl br bs' : List Nat} (hw : Below w.heap.size w w1) (hb : w.heap[b]? = some (.cells #[pl, pr, .bool s, .int .i64 x] 105 (0, 0)))
    (hl : TreeAt w l pl bl) (hnd : (b :: (bl ++ br)).Nodup) (hk : Kept br bs' w1 w') (ht : TreeAt w' r' (.pointer q') bs') :
    TreeAt (w'.setCell ⟨b, 1, none⟩ (.pointer q')) (.node l r' s x) (.pointer (some ⟨b, 0, none⟩)) (b :: (bl ++ bs')) ∧ Kept (b :: (bl ++ br)) (b :: (bl ++ bs')) w (w'.setCell ⟨b, 1, none⟩ (.pointer q')) := by
  have hlt := (Array.getElem?_eq_some_iff.1 hb).1
  have hsz := hw.size
  have hb' := kept_at hw hk hb hnd (fun k hm => List.mem_append.2 (.inr hm))
  obtain ⟨e1, e2, e3, e4, e5, e6⟩ := set_heap (v := .pointer q') hb' (show 1 < 4 by decide)
  obtain ⟨n1, n2⟩ := List.nodup_cons.1 hnd
  obtain ⟨n3, n4, n5⟩ := List.nodup_append.1 n2
  have hbs : ∀ k ∈ bs', k ≠ b ∧ k ∉ bl := fun k hm => by
    rcases hk.from' k hm with h | h
    · exact ⟨fun e => n1 (by rw [← e]; exact List.mem_append.2 (.inr h)), fun h2 => n5 k h2 k h rfl⟩
    · exact ⟨by omega, fun h2 => by have := hl.lt k h2; omega⟩
  refine ⟨⟨b, pl, .pointer q', bl, bs', rfl, e1, hl.frame fun k hm => ?_, ht.frame fun k hm => e2 k (hbs k hm).1, rfl, ?_⟩, ⟨?_, ?_, ?_, ?_, fun k hk1 hk2 => ?_, fun k hm => ?_⟩⟩
  · have hkl := hl.lt k hm
    rw [e2 k (fun e => n1 (by rw [← e]; exact List.mem_append.2 (.inl hm))), hk.block k (by omega) (fun h2 => n5 k hm k h2 rfl), hw.block k hkl]
  · refine List.nodup_cons.2 ⟨fun h => ?_, List.nodup_append.2 ⟨n3, ht.nodup, fun k h1 k2 h2 e => (hbs k2 h2).2 (e ▸ h1)⟩⟩
    rcases List.mem_append.1 h with h | h
    · exact n1 (List.mem_append.2 (.inl h))
    · exact (hbs b h).1 rfl
  · rw [e4, hk.os, hw.os]
  · rw [e5, hk.tape, hw.tape]
  · rw [e6, hk.output, hw.output]
  · rw [e3]; have := hk.size; omega
  · simp only [List.mem_cons, List.mem_append, not_or] at hk2
    rw [e2 k hk2.1, hk.block k (by omega) hk2.2.2, hw.block k hk1]
  · simp only [List.mem_cons, List.mem_append] at hm ⊢
    rcases hm with h | h | h
    · exact .inl (.inl h)
    · exact .inl (.inr (.inl h))
    · rcases hk.from' k h with h | h
      · exact .inl (.inr (.inr h))
      · exact .inr (by omega)
theorem set_left {w w1 w' : World} {l' r : TT} {s : Bool} {x : Int} {b : Nat} {pl pr : Value} {q' : Option Addr} {bl br bs' : List Nat} (hw : Below w.heap.size w w1) (hb : w.heap[b]? = some (.cells #[pl, pr, .bool s, .int .i64 x] 105 (0, 0)))
    (hr : TreeAt w r pr br) (hnd : (b :: (bl ++ br)).Nodup) (hk : Kept bl bs' w1 w') (ht : TreeAt w' l' (.pointer q') bs') :
    TreeAt (w'.setCell ⟨b, 0, none⟩ (.pointer q')) (.node l' r s x) (.pointer (some ⟨b, 0, none⟩)) (b :: (bs' ++ br)) ∧ Kept (b :: (bl ++ br)) (b :: (bs' ++ br)) w (w'.setCell ⟨b, 0, none⟩ (.pointer q')) := by
  have hlt := (Array.getElem?_eq_some_iff.1 hb).1
  have hsz := hw.size
  have hb' := kept_at hw hk hb hnd (fun k hm => List.mem_append.2 (.inl hm))
  obtain ⟨e1, e2, e3, e4, e5, e6⟩ := set_heap (v := .pointer q') hb' (show 0 < 4 by decide)
  obtain ⟨n1, n2⟩ := List.nodup_cons.1 hnd
  obtain ⟨n3, n4, n5⟩ := List.nodup_append.1 n2
  have hbs : ∀ k ∈ bs', k ≠ b ∧ k ∉ br := fun k hm => by
    rcases hk.from' k hm with h | h
    · exact ⟨fun e => n1 (by rw [← e]; exact List.mem_append.2 (.inl h)), fun h2 => n5 k h k h2 rfl⟩
    · exact ⟨by omega, fun h2 => by have := hr.lt k h2; omega⟩
  refine ⟨⟨b, .pointer q', pr, bs', br, rfl, e1, ht.frame fun k hm => e2 k (hbs k hm).1, hr.frame fun k hm => ?_, rfl, ?_⟩, ⟨?_, ?_, ?_, ?_, fun k hk1 hk2 => ?_, fun k hm => ?_⟩⟩
  · have hkl := hr.lt k hm
    rw [e2 k (fun e => n1 (by rw [← e]; exact List.mem_append.2 (.inr hm))), hk.block k (by omega) (fun h2 => n5 k h2 k hm rfl), hw.block k hkl]
  · refine List.nodup_cons.2 ⟨fun h => ?_, List.nodup_append.2 ⟨ht.nodup, n4, fun k h1 k2 h2 e => (hbs k h1).2 (e ▸ h2)⟩⟩
    rcases List.mem_append.1 h with h | h
    · exact (hbs b h).1 rfl
    · exact n1 (List.mem_append.2 (.inr h))
  · rw [e4, hk.os, hw.os]
  · rw [e5, hk.tape, hw.tape]
  · rw [e6, hk.output, hw.output]
  · rw [e3]; have := hk.size; omega
  · simp only [List.mem_cons, List.mem_append, not_or] at hk2
    rw [e2 k hk2.1, hk.block k (by omega) hk2.2.1, hw.block k hk1]
  · simp only [List.mem_cons, List.mem_append] at hm ⊢
    rcases hm with h | h | h
    · exact .inl (.inl h)
    · rcases hk.from' k h with h | h
      · exact .inl (.inr (.inl h))
      · exact .inr (by omega)
    · exact .inl (.inr (.inr h))
/-- What was laid anew first, counts as new. -/
theorem Kept.of_new {w w1 w' : World} {bs bs' : List Nat} (hw : Below w.heap.size w w1) (hk : Kept bs bs' w1 w') (hn : ∀ k ∈ bs, w.heap.size ≤ k) : Kept [] bs' w w' := by
  have hsz := hw.size
  refine ⟨hk.os.trans hw.os, hk.tape.trans hw.tape, hk.output.trans hw.output, Nat.le_trans hsz hk.size, fun k h1 _ => ?_, fun k hm => .inr ?_⟩
  · rw [hk.block k (by omega) (fun h => by have := hn k h; omega), hw.block k h1]
  · rcases hk.from' k hm with h | h
    · exact hn k h
    · omega
theorem putN_t {a v : Int} {k d : Nat} (h : bitB a d = true) (t : TT) : putN a v (k + 1) d t = .node t.left (putN a v k (d + 1) t.right) t.on t.val := by unfold putN; rw [bitsN, h]; rfl
theorem putN_f {a v : Int} {k d : Nat} (h : bitB a d = false) (t : TT) : putN a v (k + 1) d t = .node (putN a v k (d + 1) t.left) t.right t.on t.val := by unfold putN; rw [bitsN, h]; rfl
theorem after_alloc {w0 w : World} {t : TT} {p : Value} {bs bs' : List Nat} (o : Obj) (ht : TreeAt w t p bs') (hk : Kept bs bs' w0 w) : TreeAt (w.alloc o) t p bs' ∧ Kept bs bs' w0 (w.alloc o) := by
  have hA := below_alloc w o
  refine ⟨ht.frame fun k hm => hA.block k (ht.lt k hm), ⟨hA.os.trans hk.os, hA.tape.trans hk.tape, hA.output.trans hk.output, Nat.le_trans hk.size hA.size, fun k h1 h2 => (hA.block k (by have := hk.size; omega)).trans (hk.block k h1 h2), hk.from'⟩⟩
/-- A new node of two children that are nil. -/
theorem new_node {w w1 : World} (hw : Below w.heap.size w w1) (pl pr : Value) (s : Bool) (x : Int) : (TreeAt (w1.alloc (.cells #[pl, pr, .bool s, .int .i64 x] 105)) .nil pl [] → TreeAt (w1.alloc (.cells #[pl, pr, .bool s, .int .i64 x] 105)) .nil pr [] → TreeAt (w1.alloc (.cells #[pl, pr, .bool s, .int .i64 x] 105)) (.node .nil .nil s x) (.pointer (some ⟨w1.heap.size, 0, none⟩)) [w1.heap.size]) ∧ Kept [] [w1.heap.size] w (w1.alloc (.cells #[pl, pr, .bool s, .int .i64 x] 105)) := by
  have hsz := hw.size
  have hA := below_alloc w1 (.cells #[pl, pr, .bool s, .int .i64 x] 105)
  refine ⟨fun h1 h2 => ⟨w1.heap.size, pl, pr, [], [], rfl, heap_alloc_new w1 _, h1, h2, rfl, by simp⟩, ⟨hA.os.trans hw.os, hA.tape.trans hw.tape, hA.output.trans hw.output, Nat.le_trans hsz hA.size, fun k h1 _ => (hA.block k (by omega)).trans (hw.block k h1), fun k hm => .inr ?_⟩⟩
  rw [List.mem_singleton.1 hm]; exact hsz
/-- A node whose cells are written anew. -/
theorem set_node {w w1 : World} {l r : TT} {s s' : Bool} {x x' : Int} {b : Nat} {pl pr : Value} {bl br : List Nat} (hw : Below w.heap.size w w1) (hb : w.heap[b]? = some (.cells #[pl, pr, .bool s, .int .i64 x] 105 (0, 0)))
    (hl : TreeAt w l pl bl) (hr : TreeAt w r pr br) (hnd : (b :: (bl ++ br)).Nodup) :
    TreeAt ((w1.setCell ⟨b, 2, none⟩ (.bool s')).setCell ⟨b, 3, none⟩ (.int .i64 x')) (.node l r s' x') (.pointer (some ⟨b, 0, none⟩)) (b :: (bl ++ br)) ∧ Kept (b :: (bl ++ br)) (b :: (bl ++ br)) w ((w1.setCell ⟨b, 2, none⟩ (.bool s')).setCell ⟨b, 3, none⟩ (.int .i64 x')) := by
  have hlt := (Array.getElem?_eq_some_iff.1 hb).1
  have hsz := hw.size
  obtain ⟨e1, e2, e3, e4, e5, e6⟩ := set_heap (v := .bool s') ((hw.block b hlt).trans hb) (show 2 < 4 by decide)
  obtain ⟨g1, g2, g3, g4, g5, g6⟩ := set_heap (v := .int .i64 x') e1 (show 3 < 4 by decide)
  obtain ⟨n1, n2⟩ := List.nodup_cons.1 hnd
  have old : ∀ k ∈ bl ++ br, k < w.heap.size → ((w1.setCell ⟨b, 2, none⟩ (.bool s')).setCell ⟨b, 3, none⟩ (.int .i64 x')).heap[k]? = w.heap[k]? := fun k hm hk => by
    have hne : k ≠ b := fun e => n1 (e ▸ hm)
    rw [g2 k hne, e2 k hne, hw.block k hk]
  refine ⟨⟨b, pl, pr, bl, br, rfl, g1, hl.frame fun k hm => old k (List.mem_append.2 (.inl hm)) (hl.lt k hm), hr.frame fun k hm => old k (List.mem_append.2 (.inr hm)) (hr.lt k hm), rfl, hnd⟩, ⟨?_, ?_, ?_, ?_, fun k hk1 hk2 => ?_, fun k hm => .inl hm⟩⟩
  · rw [g4, e4, hw.os]
  · rw [g5, e5, hw.tape]
  · rw [g6, e6, hw.output]
  · rw [g3, e3]; exact hsz
  · have hne : k ≠ b := fun e => hk2 (by rw [e]; simp)
    rw [g2 k hne, e2 k hne, hw.block k hk1]
set_option maxRecDepth 100000 in
set_option maxHeartbeats 1000000 in
theorem put_walk (a v : Int) (ha : 0 ≤ a ∧ a ≤ 4294967295) : ∀ (k d : Nat) (t : TT) (w : World) (p : Value) (bs : List Nat) (L D : Int), d + k ≤ 32 → TreeAt w t p bs → L = (d : Int) + (k : Int) → D = (d : Int) →
    Calls Try.prog 52 #[p, .agg #[.int .u32 a, .int .i64 L], .int .i64 v, .int .i64 D] w fun e w' => ∃ p' bs', e = .returned p' ∧ TreeAt w' (putN a v k d t) p' bs' ∧ Kept bs bs' w w' := by
  intro k
  induction k with
  | zero =>
    intro d t w p bs L D hd ht hL hD
    subst hL hD
    cases t with
    | nil =>
      obtain ⟨rfl, rfl⟩ := ht
      go_enter Try.func52, Try.ntmps52
      go_wp2
      go_ret
      obtain ⟨z1, z2⟩ := new_node (below_alloc w (.cells #[.int .u32 a, .int .i64 (d : Int)] 52)) (.pointer none) (.pointer none) true v
      replace z1 := z1 ⟨rfl, rfl⟩ ⟨rfl, rfl⟩
      rw [size_alloc] at z1 z2
      exact ⟨_, _, rfl, z1, z2⟩
    | node l r s x =>
      obtain ⟨b, pl, pr, bl, br, rfl, hb, hl, hr, rfl, hnd⟩ := ht
      obtain ⟨ql, rfl⟩ := hl.ptr
      obtain ⟨qr, rfl⟩ := hr.ptr
      obtain ⟨c0, c1, c2, c3, f0, f1, f2, f3⟩ := node_facts hb
      have hblt : b < w.heap.size := (Array.getElem?_eq_some_iff.1 hb).1
      go_enter Try.func52, Try.ntmps52
      go_wp2
      go_ret
      obtain ⟨z1, z2⟩ := set_node (s' := true) (x' := v) (Below.refl _ w) hb hl hr hnd
      obtain ⟨z3, z4⟩ := after_alloc (.cells #[.int .u32 a, .int .i64 (d : Int)] 52) z1 z2
      exact ⟨_, _, rfl, z3, z4⟩
  | succ k ih =>
    intro d t w p bs L D hd ht hL hD
    subst hL hD
    cases t with
    | nil =>
      obtain ⟨rfl, rfl⟩ := ht
      have hne : ¬ (d : Int) = (d : Int) + ((k + 1 : Nat) : Int) := by omega
      have call1 : ∀ w1 : World, Calls Try.prog 52 #[.pointer none, .agg #[.int .u32 a, .int .i64 ((d : Int) + ((k : Int) + 1))], .int .i64 v, .int .i64 (IntKind.i64.wrap ((d : Int) + 1))] w1 fun e w' => ∃ p' bs', e = .returned p' ∧ TreeAt w' (putN a v k (d + 1) .nil) p' bs' ∧ Kept [] bs' w1 w' := fun w1 =>
        ih (d + 1) .nil w1 (.pointer none) [] _ _ (by omega) ⟨rfl, rfl⟩ (by omega) (next1 d (by omega))
      cases hbit : bitB a d with
      | true =>
        go_enter Try.func52, Try.ntmps52
        go_wp2_with (go_at_call 49; refine (bit_any a d _ ha (by omega)).mono ?_; rintro e w' ⟨rfl, rfl⟩; rw [hbit, show b01 true = 1 from rfl])
        go_region_with (go_at_call 52; refine (call1 _).mono ?_; rintro e w' ⟨p', bs', rfl, ht', hk'⟩; obtain ⟨q', rfl⟩ := ht'.ptr; have hb' := kept_at (bl := []) (br := []) (below_drew (Below.refl _ _)) hk' (heap_alloc_new _ _) (by simp) (fun k hm => hm); rw [size_alloc] at hb'; obtain ⟨g0, g1, g2, g3, e0, e1, e2, e3⟩ := node_facts hb')
        all_goals go_wp2
        all_goals go_ret
        all_goals (obtain ⟨z1, z2⟩ := set_right (bl := []) (br := []) (l := .nil) (below_drew (Below.refl _ _)) (heap_alloc_new _ _) ⟨rfl, rfl⟩ (by simp) hk' ht')
        all_goals (replace z2 := z2.of_new ((below_alloc w _).alloc (below_alloc w _).size _) (fun k hm => by simp at hm; omega))
        all_goals (rw [size_alloc] at z1 z2)
        all_goals exact ⟨_, _, rfl, (by rw [putN_t hbit]; exact z1), z2⟩
      | false =>
        go_enter Try.func52, Try.ntmps52
        go_wp2_with (go_at_call 49; refine (bit_any a d _ ha (by omega)).mono ?_; rintro e w' ⟨rfl, rfl⟩; rw [hbit, show b01 false = 0 from rfl])
        go_region_with (go_at_call 52; refine (call1 _).mono ?_; rintro e w' ⟨p', bs', rfl, ht', hk'⟩; obtain ⟨q', rfl⟩ := ht'.ptr; have hb' := kept_at (bl := []) (br := []) (below_drew (Below.refl _ _)) hk' (heap_alloc_new _ _) (by simp) (fun k hm => hm); rw [size_alloc] at hb'; obtain ⟨g0, g1, g2, g3, e0, e1, e2, e3⟩ := node_facts hb')
        all_goals go_wp2
        all_goals go_ret
        all_goals (obtain ⟨z1, z2⟩ := set_left (bl := []) (br := []) (r := .nil) (below_drew (Below.refl _ _)) (heap_alloc_new _ _) ⟨rfl, rfl⟩ (by simp) hk' ht')
        all_goals (replace z2 := z2.of_new ((below_alloc w _).alloc (below_alloc w _).size _) (fun k hm => by simp at hm; omega))
        all_goals (rw [size_alloc] at z1 z2)
        all_goals exact ⟨_, _, rfl, (by rw [putN_f hbit]; exact z1), z2⟩
    | node l r s x =>
      obtain ⟨b, pl, pr, bl, br, rfl, hb, hl, hr, rfl, hnd⟩ := ht
      obtain ⟨ql, rfl⟩ := hl.ptr
      obtain ⟨qr, rfl⟩ := hr.ptr
      obtain ⟨c0, c1, c2, c3, f0, f1, f2, f3⟩ := node_facts hb
      have hblt : b < w.heap.size := (Array.getElem?_eq_some_iff.1 hb).1
      have hne : ¬ (d : Int) = (d : Int) + ((k + 1 : Nat) : Int) := by omega
      have old1 : ∀ (o : Obj), ∀ b' ∈ br, ((w.alloc o).drew).heap[b']? = w.heap[b']? := fun o b' hb' => (below_drew (below_alloc w o)).block b' (hr.lt b' hb')
      have old2 : ∀ (o : Obj), ∀ b' ∈ bl, ((w.alloc o).drew).heap[b']? = w.heap[b']? := fun o b' hb' => (below_drew (below_alloc w o)).block b' (hl.lt b' hb')
      have call1 : ∀ w1 : World, (∀ b' ∈ br, w1.heap[b']? = w.heap[b']?) → Calls Try.prog 52 #[.pointer qr, .agg #[.int .u32 a, .int .i64 ((d : Int) + ((k : Int) + 1))], .int .i64 v, .int .i64 (IntKind.i64.wrap ((d : Int) + 1))] w1 fun e w' => ∃ p' bs', e = .returned p' ∧ TreeAt w' (putN a v k (d + 1) r) p' bs' ∧ Kept br bs' w1 w' := fun w1 h1 =>
        ih (d + 1) r w1 (.pointer qr) br _ _ (by omega) (hr.frame h1) (by omega) (next1 d (by omega))
      have call2 : ∀ w1 : World, (∀ b' ∈ bl, w1.heap[b']? = w.heap[b']?) → Calls Try.prog 52 #[.pointer ql, .agg #[.int .u32 a, .int .i64 ((d : Int) + ((k : Int) + 1))], .int .i64 v, .int .i64 (IntKind.i64.wrap ((d : Int) + 1))] w1 fun e w' => ∃ p' bs', e = .returned p' ∧ TreeAt w' (putN a v k (d + 1) l) p' bs' ∧ Kept bl bs' w1 w' := fun w1 h1 =>
        ih (d + 1) l w1 (.pointer ql) bl _ _ (by omega) (hl.frame h1) (by omega) (next1 d (by omega))
      cases hbit : bitB a d with
      | true =>
        go_enter Try.func52, Try.ntmps52
        go_wp2_with (go_at_call 49; refine (bit_any a d _ ha (by omega)).mono ?_; rintro e w' ⟨rfl, rfl⟩; rw [hbit, show b01 true = 1 from rfl])
        go_region_with (go_at_call 52; refine (call1 _ (old1 _)).mono ?_; rintro e w' ⟨p', bs', rfl, ht', hk'⟩; obtain ⟨q', rfl⟩ := ht'.ptr; have hb' := kept_at (below_drew (below_alloc _ _)) hk' hb hnd (fun k hm => List.mem_append.2 (.inr hm)); obtain ⟨g0, g1, g2, g3, e0, e1, e2, e3⟩ := node_facts hb')
        all_goals go_wp2
        all_goals go_ret
        all_goals (obtain ⟨z1, z2⟩ := set_right (below_drew (below_alloc _ _)) hb hl hnd hk' ht')
        all_goals exact ⟨_, _, rfl, (by rw [putN_t hbit]; exact z1), z2⟩
      | false =>
        go_enter Try.func52, Try.ntmps52
        go_wp2_with (go_at_call 49; refine (bit_any a d _ ha (by omega)).mono ?_; rintro e w' ⟨rfl, rfl⟩; rw [hbit, show b01 false = 0 from rfl])
        go_region_with (go_at_call 52; refine (call2 _ (old2 _)).mono ?_; rintro e w' ⟨p', bs', rfl, ht', hk'⟩; obtain ⟨q', rfl⟩ := ht'.ptr; have hb' := kept_at (below_drew (below_alloc _ _)) hk' hb hnd (fun k hm => List.mem_append.2 (.inl hm)); obtain ⟨g0, g1, g2, g3, e0, e1, e2, e3⟩ := node_facts hb')
        all_goals go_wp2
        all_goals go_ret
        all_goals (obtain ⟨z1, z2⟩ := set_left (below_drew (below_alloc _ _)) hb hr hnd hk' ht')
        all_goals exact ⟨_, _, rfl, (by rw [putN_f hbit]; exact z1), z2⟩
end Go.Proofs.Ythnijeclidpooaa.X
