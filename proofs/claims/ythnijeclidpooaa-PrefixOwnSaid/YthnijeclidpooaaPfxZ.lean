/- prefix: lay and flat, walked. Conditions: none. -/
import Derived.Test.YthnijeclidpooaaPfxN
import Derived.Laws.AppendOwn
import Derived.Deep.AppendLies
import Derived.Deep.RegionLaw
namespace Go.Proofs.Ythnijeclidpooaa.X
open Go Go.RowKit Go.Proofs.Ythnijeclidpooaa.Abs Go.Proofs.Ythnijeclidpooaa.Bits
set_option linter.unusedVariables false
set_option linter.unusedSimpArgs false
/-- Nodes that were laid, in a row of the call's own. -/
def Laid (w : World) (bl : Nat) (ns : List TNode) : Prop := ∃ v, w.heap[bl]? = some (.cells #[v] 44 (0, 0)) ∧ OwnN w (bl + 1) v ns
theorem laid_open {w : World} {bl : Nat} {ns : List TNode} (h : Laid w bl ns) (hne : 0 < ns.length) : ∃ g cap, w.heap[bl]? = some (.cells #[.slice (some ⟨g, 0, none⟩) ns.length cap] 44 (0, 0)) ∧ OwnN w (bl + 1) (.slice (some ⟨g, 0, none⟩) ns.length cap) ns := by
  obtain ⟨v, h1, h2⟩ := h
  obtain ⟨ao, cap, e1⟩ := h2.form
  rcases h2 with ⟨e0, e2⟩ | ⟨g, ys, e0, hh⟩
  · subst e2; simp at hne
  · rw [e0] at h1; exact ⟨g, _, h1, .inr ⟨g, ys, rfl, hh⟩⟩
theorem own_at {w : World} {base g n cap : Nat} {e : TypeId} {xs : List Value} (h : w.ownsRow base e 4 (.slice (some ⟨g, 0, none⟩) n cap) n xs) {j : Nat} {u : Value} (hj : xs[j]? = some u) : w.cell? ⟨g, j, none⟩ = some u ∧ w.frozen? ⟨g, j, none⟩ = false := by
  have h1 := h.cells (g := g) rfl j u hj
  have hadd : (⟨g, 0, none⟩ : Addr).add j = ⟨g, j, none⟩ := by unfold Addr.add; split <;> simp_all
  rw [hadd] at h1
  refine ⟨h1, ?_⟩
  rcases h.2 with ⟨e1, _⟩ | ⟨g', cap', cur, e1, h2, h3, _⟩
  · cases e1
  · cases e1; simp [World.frozen?, h3]
theorem own_set {w : World} {base g n cap : Nat} {e : TypeId} {xs : List Value} (h : w.ownsRow base e 4 (.slice (some ⟨g, 0, none⟩) n cap) n xs) {j : Nat} (hj : j < xs.length) (u : Value) :
    (w.setCell ⟨g, j, none⟩ u).ownsRow base e 4 (.slice (some ⟨g, 0, none⟩) n cap) n (xs.set j u) ∧ (∀ k, k ≠ g → (w.setCell ⟨g, j, none⟩ u).heap[k]? = w.heap[k]?) ∧ (w.setCell ⟨g, j, none⟩ u).heap.size = w.heap.size ∧ base ≤ g ∧ (w.setCell ⟨g, j, none⟩ u).os = w.os ∧ (w.setCell ⟨g, j, none⟩ u).tape = w.tape ∧ (w.setCell ⟨g, j, none⟩ u).output = w.output := by
  obtain ⟨h0, h2⟩ := h
  rcases h2 with ⟨e1, _⟩ | ⟨g', cap', cur, e1, h2, h3, h4, h5, h6, h7⟩
  · cases e1
  · cases e1
    have hjc : j < cur.size := by
      rw [← h7, List.length_take] at hj
      have : cur.toList.length = cur.size := Array.length_toList
      omega
    obtain ⟨e1, e2, e3, e4, e5, e6⟩ := set_heap (v := u) h3 hjc
    refine ⟨⟨by rw [List.length_set]; exact h0, .inr ⟨g, cap, cur.set j u hjc, rfl, h2, e1, h4, h5, by simp [h6], ?_⟩⟩, e2, e3, h2, e4, e5, e6⟩
    rw [Array.toList_set, List.take_set, h7]
theorem cellsN_set0 (n : Int) : ∀ (ns : List TNode) (i : Nat) (x : TNode), ns[i]? = some x → (cellsN ns).set (i * 4) (.int .i64 n) = cellsN (ns.set i { x with next0 := n })
  | [], i, x, h => by simp at h
  | y :: r, 0, x, h => by simp at h; subst h; simp [cellsN, nodeCells]
  | y :: r, i + 1, x, h => by
    have := cellsN_set0 n r i x (by simpa using h)
    show (nodeCells y ++ cellsN r).set ((i + 1) * 4) _ = nodeCells y ++ cellsN (r.set i _)
    rw [List.set_append_right _ _ (by simp [nodeCells]; omega), ← this]
    congr 2
    simp [nodeCells]; omega
theorem cellsN_set1 (n : Int) : ∀ (ns : List TNode) (i : Nat) (x : TNode), ns[i]? = some x → (cellsN ns).set (i * 4 + 1) (.int .i64 n) = cellsN (ns.set i { x with next1 := n })
  | [], i, x, h => by simp at h
  | y :: r, 0, x, h => by simp at h; subst h; simp [cellsN, nodeCells]
  | y :: r, i + 1, x, h => by
    have := cellsN_set1 n r i x (by simpa using h)
    show (nodeCells y ++ cellsN r).set ((i + 1) * 4 + 1) _ = nodeCells y ++ cellsN (r.set i _)
    rw [List.set_append_right _ _ (by simp [nodeCells]; omega), ← this]
    congr 2
    simp [nodeCells]; omega
theorem cellsN_get : ∀ (ns : List TNode) (i : Nat) (x : TNode), ns[i]? = some x → (cellsN ns)[i * 4]? = some (.int .i64 x.next0) ∧ (cellsN ns)[i * 4 + 1]? = some (.int .i64 x.next1)
  | [], i, x, h => by simp at h
  | y :: r, 0, x, h => by simp at h; subst h; simp [cellsN, nodeCells]
  | y :: r, i + 1, x, h => by
    have := cellsN_get r i x (by simpa using h)
    show (nodeCells y ++ cellsN r)[(i + 1) * 4]? = _ ∧ (nodeCells y ++ cellsN r)[(i + 1) * 4 + 1]? = _
    rw [List.getElem?_append_right (by simp [nodeCells]; omega), List.getElem?_append_right (by simp [nodeCells]; omega)]
    rw [show (i + 1) * 4 - (nodeCells y).length = i * 4 by simp [nodeCells]; omega, show (i + 1) * 4 + 1 - (nodeCells y).length = i * 4 + 1 by simp [nodeCells]; omega]
    exact this
/-- What an append leaves as it was. -/
theorem lay_app {w w1 : World} {o : Obj} {bl n : Nat} {e : TypeId} {v : Value} {xs : List Value} (hown : w.ownsRow (bl + 1) e 4 v n xs) (hg : (w.alloc o).drew.grownBy w1 v.ownBlock) (hlt : bl < w.heap.size) : (∀ k, k ≤ bl → w1.heap[k]? = w.heap[k]?) ∧ Below bl w w1 := by
  have key : ∀ k, k ≤ bl → w1.heap[k]? = w.heap[k]? := fun k hk => by
    rw [hg.block k (by show k < (w.alloc o).heap.size; rw [size_alloc]; omega) (fun e => by have := (hown.lt k e.symm).1; omega)]
    exact Below.heap_alloc _ _ _ (by omega)
  refine ⟨key, ⟨hg.os, hg.tape, hg.output, ?_, fun k hk => key k (by omega)⟩⟩
  have := hg.size
  have h2 : (w.alloc o).drew.heap.size = w.heap.size + 1 := size_alloc w o
  omega
theorem laid_box {w : World} {bl : Nat} {v v' : Value} {ns : List TNode} (hb : w.heap[bl]? = some (.cells #[v] 44 (0, 0))) (h : OwnN w (bl + 1) v' ns) :
    (w.setCell ⟨bl, 0, none⟩ v').heap[bl]? = some (.cells #[v'] 44 (0, 0)) ∧ OwnN (w.setCell ⟨bl, 0, none⟩ v') (bl + 1) v' ns ∧ Below bl w (w.setCell ⟨bl, 0, none⟩ v') := by
  obtain ⟨e1, e2, e3, e4, e5, e6⟩ := set_heap (v := v') hb (show 0 < 1 by decide)
  refine ⟨e1, ?_, ⟨e4, e5, e6, by rw [e3]; exact Nat.le_refl _, fun k hk => e2 k (by omega)⟩⟩
  exact h.kept fun g hg => e2 g (by have := (h.lt g hg).1; omega)
theorem laid_at {w : World} {bl : Nat} {ns : List TNode} (h : Laid w bl ns) {i : Nat} {x : TNode} (hx : ns[i]? = some x) : ∃ g n cap, w.cell? ⟨bl, 0, none⟩ = some (.slice (some ⟨g, 0, none⟩) n cap) ∧ w.frozen? ⟨bl, 0, none⟩ = false ∧ i < n ∧
    w.cell? ⟨g, i * 4, none⟩ = some (.int .i64 x.next0) ∧ w.frozen? ⟨g, i * 4, none⟩ = false ∧ w.cell? ⟨g, i * 4 + 1, none⟩ = some (.int .i64 x.next1) ∧ w.frozen? ⟨g, i * 4 + 1, none⟩ = false ∧
    (∀ n : Int, Laid (w.setCell ⟨g, i * 4, none⟩ (.int .i64 n)) bl (ns.set i { x with next0 := n }) ∧ Below bl w (w.setCell ⟨g, i * 4, none⟩ (.int .i64 n))) ∧
    (∀ n : Int, Laid (w.setCell ⟨g, i * 4 + 1, none⟩ (.int .i64 n)) bl (ns.set i { x with next1 := n }) ∧ Below bl w (w.setCell ⟨g, i * 4 + 1, none⟩ (.int .i64 n))) := by
  have hi := (List.getElem?_eq_some_iff.1 hx).1
  obtain ⟨g, cap, hb, ho⟩ := laid_open h (by omega)
  obtain ⟨k0, k1⟩ := cellsN_get ns i x hx
  have hl := cellsN_len ns
  have st : ∀ j, j < (cellsN ns).length → ∀ (u : Value) (ns' : List TNode), (cellsN ns).set j u = cellsN ns' → ns'.length = ns.length → Laid (w.setCell ⟨g, j, none⟩ u) bl ns' ∧ Below bl w (w.setCell ⟨g, j, none⟩ u) := fun j hj u ns' e1 e2 => by
    obtain ⟨q1, q2, q3, q4, q5, q6, q7⟩ := own_set ho.own hj u
    refine ⟨⟨.slice (some ⟨g, 0, none⟩) ns.length cap, (q2 bl (by omega)).trans hb, ?_⟩, ⟨q5, q6, q7, by rw [q3]; exact Nat.le_refl _, fun k hk => q2 k (by omega)⟩⟩
    exact ho.set hj u e1 e2
  exact ⟨g, ns.length, cap, by simp [World.cell?, hb], by simp [World.frozen?, hb], hi, (own_at ho.own k0).1, (own_at ho.own k0).2, (own_at ho.own k1).1, (own_at ho.own k1).2,
    fun n => st _ (by omega) _ _ (cellsN_set0 n ns i x hx) (by simp), fun n => st _ (by omega) _ _ (cellsN_set1 n ns i x hx) (by simp)⟩
theorem mid_get (ns tl : List TNode) (y : TNode) : (ns ++ y :: tl)[ns.length]? = some y := by simp
theorem mid_set (ns tl : List TNode) (y z : TNode) : (ns ++ y :: tl).set ns.length z = ns ++ z :: tl := by
  rw [List.set_append_right _ _ (Nat.le_refl _), Nat.sub_self]; rfl
def zI (t : TT) (v : Int) : Int := if t.isNil then 0 else v
theorem isNil_f {t : TT} (h : t ≠ .nil) : t.isNil = false := by cases t with | nil => exact absurd rfl h | node => rfl
theorem flat_node (l r : TT) (s : Bool) (x : Int) (n : Nat) : flatL n (.node l r s x) = ⟨zI l ((n : Int) + 1), zI r ((n : Int) + 1 + (l.size : Int)), s, x⟩ :: (flatL (n + 1) l ++ flatL (n + 1 + l.size) r) := by
  rw [flatL]; simp [num, zI]
theorem zI_f {t : TT} (h : t ≠ .nil) (v : Int) : zI t v = v := by unfold zI; rw [isNil_f h]; rfl
theorem len_mid (ns : List TNode) (z : TNode) (l : TT) : (ns ++ z :: flatL (ns.length + 1) l).length = ns.length + 1 + l.size := by simp [flatL_len]; omega
theorem node_info : ∃ i, Try.prog.info? 66 = some i ∧ i.zero = some (.agg #[.int .i64 0, .int .i64 0, .bool false, .int .i64 0]) ∧ i.size = 4 ∧ i.bytes = 32 :=
  ⟨Try.prog.types[66]!, by kernel_rfl, by kernel_rfl, by kernel_rfl, by kernel_rfl⟩
theorem node_slice : Try.prog.underlying 44 = some (.slice 66) := by kernel_rfl
set_option maxRecDepth 100000 in
set_option maxHeartbeats 4000000 in
theorem lay_walk : ∀ (t : TT) (w : World) (p : Value) (bs : List Nat) (ns : List TNode) (bl : Nat), TreeAt w t p bs → t ≠ .nil → (∀ k ∈ bs, k < bl) → Laid w bl ns → ns.length + t.size ≤ 100000 →
    Calls Try.prog 74 #[p, .pointer (some ⟨bl, 0, none⟩)] w fun e w' => e = .returned (.int .i64 (ns.length : Int)) ∧ Laid w' bl (ns ++ flatL ns.length t) ∧ Below bl w w' := by
  intro t
  induction t with
  | nil => intro w p bs ns bl _ h; exact absurd rfl h
  | node l r s x ihl ihr =>
    intro w p bs ns bl ht _ hbs hL hsz
    obtain ⟨b, pl, pr, bsl, bsr, rfl, hb, hl, hr, rfl, hnd⟩ := ht
    obtain ⟨ql, rfl⟩ := hl.ptr
    obtain ⟨qr, rfl⟩ := hr.ptr
    obtain ⟨c0, c1, c2, c3, f0, f1, f2, f3⟩ := node_facts hb
    have hblt : b < w.heap.size := (Array.getElem?_eq_some_iff.1 hb).1
    obtain ⟨v, hbl, hown⟩ := hL
    obtain ⟨ao, cap, rfl⟩ := hown.form
    have l0 : w.cell? ⟨bl, 0, none⟩ = some (.slice ao ns.length cap) := by simp [World.cell?, hbl]
    have lf : w.frozen? ⟨bl, 0, none⟩ = false := by simp [World.frozen?, hbl]
    have llt : bl < w.heap.size := (Array.getElem?_eq_some_iff.1 hbl).1
    go_enter Try.func74, Try.ntmps74
    go_wp2
    obtain ⟨i0, hi, hz0, hz1, hz2⟩ := node_info
    have hnl := cellsN_len ns
    have hown2 : ∀ o, OwnN ((w.alloc o).drew) (bl + 1) (.slice ao ns.length cap) ns := fun o => hown.kept fun g hg => Below.heap_alloc _ _ _ (hown.lt g hg).2
    have lneq : ∀ (xs : List TNode) (k : Nat), xs.length + 0 = k → xs.length = k := fun _ _ h => h
    go_region_law (refine step_append_node _ rfl (.tmp 16) (.tmp 26) 44 rfl (bl + 1) i0 node_slice hi hz0 hz1 hz2 (.slice ao ns.length cap) ns ⟨0, 0, s, x⟩ (by simp [Act.eval, Act.put]) (hown2 _) ⟨w.heap.size, 0, none⟩ (by simp [Act.eval, Act.put]) (World.news_of_block (w := (w.alloc _).drew) (heap_alloc_new w _)) (by unfold maxLen; omega) (by omega) (show bl + 1 ≤ (w.alloc _).heap.size by rw [size_alloc]; omega) (w.heap.size + 1) (size_alloc w _) ?_; intro g1 cap1 w1 ho1 hg1 hw1 hlt1; obtain ⟨hk1, hB1⟩ := lay_app hown.own hg1 llt; have hb1 := (hk1 b (Nat.le_of_lt (hbs b (by simp)))).trans hb; have hbl1 := (hk1 bl (Nat.le_refl _)).trans hbl; have l1 : w1.cell? ⟨bl, 0, none⟩ = some (.slice ao ns.length cap) := (by simp [World.cell?, hbl1]); have lf1 : w1.frozen? ⟨bl, 0, none⟩ = false := (by simp [World.frozen?, hbl1]))
    all_goals (have hn1 : (ns ++ [(⟨0, 0, s, x⟩ : TNode)]).length = ns.length + 1 := by simp)
    all_goals (obtain ⟨hbl2, ho2, hB2⟩ := laid_box (ns := ns ++ [(⟨0, 0, s, x⟩ : TNode)]) hbl1 ho1)
    all_goals (have hb2 := (hB2.block b (hbs b (by simp))).trans hb1)
    all_goals (have hBB : Below bl w (w1.setCell ⟨bl, 0, none⟩ (.slice (some ⟨g1, 0, none⟩) (ns.length + 1) cap1)) := hB1.trans hB2)
    all_goals (have L2 : Laid (w1.setCell ⟨bl, 0, none⟩ (.slice (some ⟨g1, 0, none⟩) (ns.length + 1) cap1)) bl (ns ++ [(⟨0, 0, s, x⟩ : TNode)]) := ⟨_, hbl2, ho2⟩)
    all_goals (generalize w1.setCell ⟨bl, 0, none⟩ (.slice (some ⟨g1, 0, none⟩) (ns.length + 1) cap1) = w2 at *)
    all_goals clear hbl2 ho2 hB2 ho1 hg1 hw1 hlt1 hk1 hB1 hb1 hbl1 l1 lf1 hown2 hown hbl c0 c1 c2 c3 f0 f1 f2 f3 l0 lf
    all_goals (obtain ⟨d0, d1, d2, d3, u0, u1, u2, u3⟩ := node_facts hb2)
    all_goals (have hlt2 : bl < w2.heap.size := Nat.lt_of_lt_of_le llt hBB.size)
    all_goals (
      by_cases hln : l = .nil
      · subst hln
        obtain ⟨eql, _⟩ := hl; cases eql
        by_cases hrn : r = .nil
        · subst hrn
          obtain ⟨eqr, _⟩ := hr; cases eqr
          go_wp2
          refine wp_loop_rounds 3 ?_
          rw [rounds_succ]; go_wp2
          rw [rounds_succ]; go_wp2
          rw [rounds_succ]; go_wp2
          go_ret
          exact ⟨rfl, L2, hBB⟩
        · obtain ⟨a, ea⟩ := tree_some hr hrn; cases ea
          go_wp2
          refine wp_loop_rounds 3 ?_
          rw [rounds_succ]; go_wp2
          rw [rounds_succ]; go_wp2_with (go_at_call 74; refine (ihr _ _ bsr _ bl (hr.frame fun k hk => (hBB.block k (hbs k (by simp [hk])))) hrn (fun k hk => hbs k (by simp [hk])) L2 (by simp [TT.size, flatL_len] at hsz ⊢; omega)).mono ?_; rintro e w3 ⟨he3, L3, hB3⟩; rw [hn1] at he3 L3; subst he3; have M3 : Laid w3 bl (ns ++ (⟨0, 0, s, x⟩ : TNode) :: (flatL (ns.length + 1) r)) := (by simpa using L3); obtain ⟨g3, n3, cap3, x30, x31, x32, x33, x34, x35, x36, st30, st31⟩ := laid_at M3 (mid_get ns _ _); simp only [mid_set] at st30 st31)
          rw [rounds_succ]; go_wp2
          go_ret
          refine ⟨rfl, ?_, hBB.trans (hB3.trans (st31 _).2)⟩
          rw [flat_node, zI_f hrn]
          have y := (st31 ((ns.length : Int) + 1)).1
          simpa [TT.size, zI, TT.isNil, flatL] using y
      · obtain ⟨al, eal⟩ := tree_some hl hln; cases eal
        by_cases hrn : r = .nil
        · subst hrn
          obtain ⟨eqr, _⟩ := hr; cases eqr
          go_wp2
          refine wp_loop_rounds 3 ?_
          rw [rounds_succ]; go_wp2_with (go_at_call 74; refine (ihl _ _ bsl _ bl (hl.frame fun k hk => (hBB.block k (hbs k (by simp [hk])))) hln (fun k hk => hbs k (by simp [hk])) L2 (by simp [TT.size, flatL_len] at hsz ⊢; omega)).mono ?_; rintro e w3 ⟨he3, L3, hB3⟩; rw [hn1] at he3 L3; subst he3; have M3 : Laid w3 bl (ns ++ (⟨0, 0, s, x⟩ : TNode) :: (flatL (ns.length + 1) l)) := (by simpa using L3); obtain ⟨g3, n3, cap3, x30, x31, x32, x33, x34, x35, x36, st30, st31⟩ := laid_at M3 (mid_get ns _ _); simp only [mid_set] at st30 st31)
          rw [rounds_succ]; go_wp2
          rw [rounds_succ]; go_wp2
          go_ret
          refine ⟨rfl, ?_, hBB.trans (hB3.trans (st30 _).2)⟩
          have y := (st30 ((ns.length : Int) + 1)).1
          rw [flat_node, zI_f hln]
          simpa [TT.size, zI, TT.isNil, flatL] using y
        · obtain ⟨ar, ear⟩ := tree_some hr hrn; cases ear
          go_wp2
          refine wp_loop_rounds 3 ?_
          rw [rounds_succ]; go_wp2_with (go_at_call 74; refine (ihl _ _ bsl _ bl (hl.frame fun k hk => (hBB.block k (hbs k (by simp [hk])))) hln (fun k hk => hbs k (by simp [hk])) L2 (by simp [TT.size, flatL_len] at hsz ⊢; omega)).mono ?_; rintro e w3 ⟨he3, L3, hB3⟩; rw [hn1] at he3 L3; subst he3; have M3 : Laid w3 bl (ns ++ (⟨0, 0, s, x⟩ : TNode) :: (flatL (ns.length + 1) l)) := (by simpa using L3); obtain ⟨g3, n3, cap3, x30, x31, x32, x33, x34, x35, x36, st30, st31⟩ := laid_at M3 (mid_get ns _ _); simp only [mid_set] at st30 st31)
          obtain ⟨y1, y2⟩ := st30 ((ns.length : Int) + 1)
          have hB4 := hBB.trans (hB3.trans y2)
          clear x30 x31 x32 x33 x34 x35 x36
          generalize w3.setCell ⟨g3, ns.length * 4, none⟩ (.int .i64 ((ns.length : Int) + 1)) = w4 at *
          rw [rounds_succ]; go_wp2_with (go_at_call 74; refine (ihr _ _ bsr _ bl (hr.frame fun k hk => (hB4.block k (hbs k (by simp [hk])))) hrn (fun k hk => hbs k (by simp [hk])) y1 (by simp [TT.size, flatL_len] at hsz ⊢; omega)).mono ?_; rintro e w5 ⟨he5, L5, hB5⟩; rw [len_mid] at he5 L5; subst he5; have M5 : Laid w5 bl (ns ++ (⟨(ns.length : Int) + 1, 0, s, x⟩ : TNode) :: (flatL (ns.length + 1) l ++ flatL (ns.length + 1 + l.size) r)) := (by simpa using L5); obtain ⟨g5, n5, cap5, x50, x51, x52, x53, x54, x55, x56, st50, st51⟩ := laid_at M5 (mid_get ns _ _); simp only [mid_set] at st50 st51)
          rw [rounds_succ]; go_wp2
          go_ret
          refine ⟨rfl, ?_, hB4.trans (hB5.trans (st51 _).2)⟩
          have y := (st51 ((ns.length : Int) + 1 + (l.size : Int))).1
          rw [flat_node, zI_f hln, zI_f hrn]
          exact y)
end Go.Proofs.Ythnijeclidpooaa.X
