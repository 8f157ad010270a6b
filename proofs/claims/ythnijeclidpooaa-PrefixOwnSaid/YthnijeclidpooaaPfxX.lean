/- prefix: bare and remove, walked. Conditions: none. -/
import Derived.Test.YthnijeclidpooaaPfxW
import Derived.ChangeKeysEq
import Derived.KernelRfl
namespace Go.Proofs.Ythnijeclidpooaa.X
open Go Go.RowKit Go.Proofs.Ythnijeclidpooaa.Abs Go.Proofs.Ythnijeclidpooaa.Bits
set_option linter.unusedVariables false
set_option linter.unusedSimpArgs false
theorem tree_nil {w : World} : ∀ {t : TT} {q : Option Addr} {bs : List Nat}, TreeAt w t (.pointer q) bs → (q = none ↔ t.isNil = true)
  | .nil, q, bs, h => by have := h.1; simp at this; simp [this, TT.isNil]
  | .node l r s x, q, bs, ⟨b, pl, pr, bl, br, h1, _⟩ => by simp at h1; simp [h1, TT.isNil]
theorem tree_isNone {w : World} {t : TT} {q : Option Addr} {bs : List Nat} (h : TreeAt w t (.pointer q) bs) : q.isNone = t.isNil := by
  have := tree_nil h
  cases q <;> cases ht : t.isNil <;> simp_all
theorem run_eq_pp (w : World) (ql qr : Option Addr) : (Op.equalIn 10000 103 (.agg #[.pointer ql, .pointer qr]) (.agg #[.pointer none, .pointer none])).run Try.prog w = .ok (ql.isNone && qr.isNone) w := by
  have hu : Try.prog.underlying 103 = some (.array 2 99) := by kernel_rfl
  have hu2 : Try.prog.underlying 99 = some (.pointer 105) := by kernel_rfl
  have hc : Try.prog.cellsOf 99 = 1 := by kernel_rfl
  obtain ⟨i, hi⟩ : ∃ i, Try.prog.info? 99 = some i := by
    cases h : Try.prog.info? 99 with
    | none => unfold Program.underlying at hu2; rw [h] at hu2; cases hu2
    | some i => exact ⟨i, rfl⟩
  have ha : Try.prog.plainKey 99 = true ∨ True := .inr trivial
  have hp : ∀ (xs : Array Value) (o : Nat) (v : Value), xs[o]? = some v → (part 99 xs o).run Try.prog w = .ok v w := fun xs o v hv => by
    simp [part, isAgg, run_underlying hu2, hv]
  have he : ∀ (d : Nat) (q : Option Addr), (Op.equalIn (d + 1) 99 (.pointer q) (.pointer none)).run Try.prog w = .ok q.isNone w := fun d q => by
    cases q <;> simp [Op.equalIn, run_underlying hu2]
  rw [run_equalIn_array w 9999 _ _ hu hi, hc]
  simp only [List.range, List.range.loop, Op.eqItems, Sem.run_bind]
  rw [hp _ _ (.pointer ql) rfl, Result.andThen_ok, hp _ _ (.pointer none) rfl]
  simp only [Result.andThen_ok, he]
  cases ql with
  | some a => simp
  | none =>
    simp only [Option.isNone_none, Bool.not_true, Bool.false_eq_true, if_false, Sem.run_bind]
    rw [hp _ _ (.pointer qr) rfl, Result.andThen_ok, hp _ _ (.pointer none) rfl]
    simp only [Result.andThen_ok, he]
    cases qr <;> simp
set_option maxRecDepth 100000 in
set_option maxHeartbeats 1000000 in
theorem bare_walk {w : World} {l r : TT} {s : Bool} {x : Int} {b : Nat} {pl pr : Value} {bl br : List Nat} (hb : w.heap[b]? = some (.cells #[pl, pr, .bool s, .int .i64 x] 105 (0, 0)))
    (hl : TreeAt w l pl bl) (hr : TreeAt w r pr br) :
    Calls Try.prog 73 #[.pointer (some ⟨b, 0, none⟩)] w fun e w' => e = .returned (.bool (bareT (.node l r s x))) ∧ w' = w := by
  have e : bareT (.node l r s x) = (!s && (l.isNil && r.isNil)) := by cases l <;> cases r <;> cases s <;> rfl
  rw [e]
  obtain ⟨ql, rfl⟩ := hl.ptr
  obtain ⟨qr, rfl⟩ := hr.ptr
  rw [← tree_isNone hl, ← tree_isNone hr]
  obtain ⟨c0, c1, c2, c3, f0, f1, f2, f3⟩ := node_facts hb
  have hblt : b < w.heap.size := (Array.getElem?_eq_some_iff.1 hb).1
  cases s with
  | true =>
    go_enter Try.func73, Try.ntmps73
    go_wp2
    go_ret
    exact ⟨rfl, rfl⟩
  | false =>
    go_enter Try.func73, Try.ntmps73
    go_wp2
    rw [run_eq_pp]
    simp only [Result.andThen]
    rw [Oper.upon_value]
    go_wp2
    go_ret
    exact ⟨rfl, rfl⟩
theorem bare_at {w : World} {l r : TT} {s : Bool} {x : Int} {b : Nat} {bs : List Nat} (h : TreeAt w (.node l r s x) (.pointer (some ⟨b, 0, none⟩)) bs) :
    Calls Try.prog 73 #[.pointer (some ⟨b, 0, none⟩)] w fun e w' => e = .returned (.bool (bareT (.node l r s x))) ∧ w' = w := by
  obtain ⟨b', pl, pr, bl, br, hp, hb, hl, hr, rfl, hnd⟩ := h
  cases hp
  exact bare_walk hb hl hr
theorem prune_ret {w w1 : World} {t : TT} {p : Value} {bs bs' : List Nat} (ht : TreeAt w1 t p bs') (hk : Kept bs bs' w w1) :
    ∃ bs2, TreeAt w1 (prune t) (if bareT t = true then .pointer none else p) bs2 ∧ Kept bs bs2 w w1 := by
  unfold prune
  by_cases h : bareT t = true
  · rw [if_pos h, if_pos h]
    exact ⟨[], ⟨rfl, rfl⟩, ⟨hk.os, hk.tape, hk.output, hk.size, hk.block, fun b hb => by cases hb⟩⟩
  · rw [if_neg h, if_neg h]
    exact ⟨bs', ht, hk⟩
def remN (a : Int) (k d : Nat) (t : TT) : TT × Bool := remL (bitsN a k d) t
theorem remN_nil (a : Int) (k d : Nat) : remN a k d .nil = (.nil, false) := by unfold remN; cases bitsN a k d <;> rfl
theorem remN_0 (a : Int) (d : Nat) (l r : TT) (s : Bool) (x : Int) : remN a 0 d (.node l r s x) = (prune (.node l r false 0), s) := rfl
theorem remN_t {a : Int} {k d : Nat} (h : bitB a d = true) (l r : TT) (s : Bool) (x : Int) : remN a (k + 1) d (.node l r s x) = (prune (.node l (remN a k (d + 1) r).1 s x), (remN a k (d + 1) r).2) := by unfold remN; rw [bitsN, h]; rfl
theorem remN_f {a : Int} {k d : Nat} (h : bitB a d = false) (l r : TT) (s : Bool) (x : Int) : remN a (k + 1) d (.node l r s x) = (prune (.node (remN a k (d + 1) l).1 r s x), (remN a k (d + 1) l).2) := by unfold remN; rw [bitsN, h]; rfl
set_option maxRecDepth 100000 in
set_option maxHeartbeats 1000000 in
theorem rem_walk (a : Int) (ha : 0 ≤ a ∧ a ≤ 4294967295) : ∀ (k d : Nat) (t : TT) (w : World) (p : Value) (bs : List Nat) (L D : Int), d + k ≤ 32 → TreeAt w t p bs → L = (d : Int) + (k : Int) → D = (d : Int) →
    Calls Try.prog 53 #[p, .agg #[.int .u32 a, .int .i64 L], .int .i64 D] w fun e w' => ∃ p' bs', e = .returned (.tuple #[p', .bool (remN a k d t).2]) ∧ TreeAt w' (remN a k d t).1 p' bs' ∧ Kept bs bs' w w' := by
  intro k
  induction k with
  | zero =>
    intro d t w p bs L D hd ht hL hD
    subst hL hD
    cases t with
    | nil =>
      obtain ⟨rfl, rfl⟩ := ht
      go_enter Try.func53, Try.ntmps53
      go_wp2
      go_ret2
      rw [remN_nil]
      obtain ⟨y1, y2⟩ := after_alloc (w0 := w) (t := .nil) (.cells #[.int .u32 a, .int .i64 _] 52) (show TreeAt w .nil (.pointer none) [] from ⟨rfl, rfl⟩) (bs := []) ⟨rfl, rfl, rfl, Nat.le_refl _, fun _ _ _ => rfl, fun _ h => .inl h⟩
      exact ⟨_, _, rfl, y1, y2⟩
    | node l r s x =>
      obtain ⟨b, pl, pr, bl, br, rfl, hb, hl, hr, rfl, hnd⟩ := ht
      obtain ⟨ql, rfl⟩ := hl.ptr
      obtain ⟨qr, rfl⟩ := hr.ptr
      obtain ⟨c0, c1, c2, c3, f0, f1, f2, f3⟩ := node_facts hb
      have hblt : b < w.heap.size := (Array.getElem?_eq_some_iff.1 hb).1
      go_enter Try.func53, Try.ntmps53
      obtain ⟨z1, z2⟩ := set_node (s' := false) (x' := 0) (Below.refl _ w) hb hl hr hnd
      obtain ⟨z3, z4⟩ := after_alloc (.cells #[.int .u32 a, .int .i64 (d : Int)] 52) z1 z2
      cases hbare : bareT (.node l r false 0) with
      | true =>
        go_wp2_with (go_at_call 73; refine (bare_at z3).mono ?_; rintro e w' ⟨rfl, rfl⟩; rw [hbare])
        go_ret2
        obtain ⟨bs2, y1, y2⟩ := prune_ret z3 z4
        rw [hbare] at y1
        exact ⟨_, _, rfl, y1, y2⟩
      | false =>
        go_wp2_with (go_at_call 73; refine (bare_at z3).mono ?_; rintro e w' ⟨rfl, rfl⟩; rw [hbare])
        go_ret2
        obtain ⟨bs2, y1, y2⟩ := prune_ret z3 z4
        rw [hbare] at y1
        exact ⟨_, _, rfl, y1, y2⟩
  | succ k ih =>
    intro d t w p bs L D hd ht hL hD
    subst hL hD
    cases t with
    | nil =>
      obtain ⟨rfl, rfl⟩ := ht
      go_enter Try.func53, Try.ntmps53
      go_wp2
      go_ret2
      rw [remN_nil]
      obtain ⟨y1, y2⟩ := after_alloc (w0 := w) (t := .nil) (.cells #[.int .u32 a, .int .i64 _] 52) (show TreeAt w .nil (.pointer none) [] from ⟨rfl, rfl⟩) (bs := []) ⟨rfl, rfl, rfl, Nat.le_refl _, fun _ _ _ => rfl, fun _ h => .inl h⟩
      exact ⟨_, _, rfl, y1, y2⟩
    | node l r s x =>
      obtain ⟨b, pl, pr, bl, br, rfl, hb, hl, hr, rfl, hnd⟩ := ht
      obtain ⟨ql, rfl⟩ := hl.ptr
      obtain ⟨qr, rfl⟩ := hr.ptr
      obtain ⟨c0, c1, c2, c3, f0, f1, f2, f3⟩ := node_facts hb
      have hblt : b < w.heap.size := (Array.getElem?_eq_some_iff.1 hb).1
      have hne : ¬ (d : Int) = (d : Int) + ((k + 1 : Nat) : Int) := by omega
      have old1 : ∀ (o : Obj), ∀ b' ∈ br, ((w.alloc o).drew).heap[b']? = w.heap[b']? := fun o b' hb' => (below_drew (below_alloc w o)).block b' (hr.lt b' hb')
      have old2 : ∀ (o : Obj), ∀ b' ∈ bl, ((w.alloc o).drew).heap[b']? = w.heap[b']? := fun o b' hb' => (below_drew (below_alloc w o)).block b' (hl.lt b' hb')
      have call1 : ∀ w1 : World, (∀ b' ∈ br, w1.heap[b']? = w.heap[b']?) → Calls Try.prog 53 #[.pointer qr, .agg #[.int .u32 a, .int .i64 ((d : Int) + ((k : Int) + 1))], .int .i64 (IntKind.i64.wrap ((d : Int) + 1))] w1 fun e w' => ∃ p' bs', e = .returned (.tuple #[p', .bool (remN a k (d + 1) r).2]) ∧ TreeAt w' (remN a k (d + 1) r).1 p' bs' ∧ Kept br bs' w1 w' := fun w1 h1 =>
        ih (d + 1) r w1 (.pointer qr) br _ _ (by omega) (hr.frame h1) (by omega) (next1 d (by omega))
      have call2 : ∀ w1 : World, (∀ b' ∈ bl, w1.heap[b']? = w.heap[b']?) → Calls Try.prog 53 #[.pointer ql, .agg #[.int .u32 a, .int .i64 ((d : Int) + ((k : Int) + 1))], .int .i64 (IntKind.i64.wrap ((d : Int) + 1))] w1 fun e w' => ∃ p' bs', e = .returned (.tuple #[p', .bool (remN a k (d + 1) l).2]) ∧ TreeAt w' (remN a k (d + 1) l).1 p' bs' ∧ Kept bl bs' w1 w' := fun w1 h1 =>
        ih (d + 1) l w1 (.pointer ql) bl _ _ (by omega) (hl.frame h1) (by omega) (next1 d (by omega))
      cases hbit : bitB a d with
      | true =>
        go_enter Try.func53, Try.ntmps53
        go_wp2_with (go_at_call 49; refine (bit_any a d _ ha (by omega)).mono ?_; rintro e w' ⟨rfl, rfl⟩; rw [hbit, show b01 true = 1 from rfl])
        go_region_with (go_at_call 53; refine (call1 _ (old1 _)).mono ?_; rintro e w' ⟨p', bs', rfl, ht', hk'⟩; obtain ⟨q', rfl⟩ := ht'.ptr; have hb' := kept_at (below_drew (below_alloc _ _)) hk' hb hnd (fun k hm => List.mem_append.2 (.inr hm)); obtain ⟨g0, g1, g2, g3, e0, e1, e2, e3⟩ := node_facts hb')
        all_goals (obtain ⟨z1, z2⟩ := set_right (below_drew (below_alloc _ _)) hb hl hnd hk' ht')
        all_goals (cases hbare : bareT (.node l (remN a k (d + 1) r).1 s x))
        all_goals go_wp2_with (go_at_call 73; refine (bare_at z1).mono ?_; rintro e w' ⟨rfl, rfl⟩; rw [hbare])
        all_goals go_ret2
        all_goals (obtain ⟨bs2, y1, y2⟩ := prune_ret z1 z2)
        all_goals (rw [hbare] at y1)
        all_goals exact ⟨_, _, (by rw [remN_t hbit]; rfl), (by rw [remN_t hbit]; exact y1), y2⟩
      | false =>
        go_enter Try.func53, Try.ntmps53
        go_wp2_with (go_at_call 49; refine (bit_any a d _ ha (by omega)).mono ?_; rintro e w' ⟨rfl, rfl⟩; rw [hbit, show b01 false = 0 from rfl])
        go_region_with (go_at_call 53; refine (call2 _ (old2 _)).mono ?_; rintro e w' ⟨p', bs', rfl, ht', hk'⟩; obtain ⟨q', rfl⟩ := ht'.ptr; have hb' := kept_at (below_drew (below_alloc _ _)) hk' hb hnd (fun k hm => List.mem_append.2 (.inl hm)); obtain ⟨g0, g1, g2, g3, e0, e1, e2, e3⟩ := node_facts hb')
        all_goals (obtain ⟨z1, z2⟩ := set_left (below_drew (below_alloc _ _)) hb hr hnd hk' ht')
        all_goals (cases hbare : bareT (.node (remN a k (d + 1) l).1 r s x))
        all_goals go_wp2_with (go_at_call 73; refine (bare_at z1).mono ?_; rintro e w' ⟨rfl, rfl⟩; rw [hbare])
        all_goals go_ret2
        all_goals (obtain ⟨bs2, y1, y2⟩ := prune_ret z1 z2)
        all_goals (rw [hbare] at y1)
        all_goals exact ⟨_, _, (by rw [remN_f hbit]; rfl), (by rw [remN_f hbit]; exact y1), y2⟩
end Go.Proofs.Ythnijeclidpooaa.X
