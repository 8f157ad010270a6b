/- prefix: Put and Remove, walked. Conditions: none. -/
import Derived.Test.YthnijeclidpooaaPfxR
namespace Go.Proofs.Ythnijeclidpooaa.X
open Go Go.RowKit Go.Proofs.Ythnijeclidpooaa.Abs Go.Proofs.Ythnijeclidpooaa.Bits Go.Proofs.Ythnijeclidpooaa.Row
set_option linter.unusedVariables false
set_option linter.unusedSimpArgs false
def netB (a L : Int) : Bool := decide (0 ≤ L ∧ L ≤ 32) && decide (a * 2 ^ L.toNat % 4294967296 = 0)
set_option maxRecDepth 100000 in
theorem net_walk (a L : Int) (w : World) (ha : 0 ≤ a ∧ a ≤ 4294967295) (hL : -9223372036854775808 ≤ L ∧ L ≤ 9223372036854775807) :
    Calls Try.prog 50 #[.agg #[.int .u32 a, .int .i64 L]] w fun e w' => e = .returned (.bool (netB a L)) ∧ Below w.heap.size w w' := by
  by_cases h1 : 0 ≤ L
  · by_cases h2 : L ≤ 32
    · go_enter Try.func50, Try.ntmps50
      go_wp2
      go_ret
      refine ⟨?_, below_alloc _ _⟩
      unfold netB
      rw [decide_eq_true (show 0 ≤ L ∧ L ≤ 32 from ⟨h1, h2⟩), Bool.true_and]
      rfl
    · go_enter Try.func50, Try.ntmps50
      go_wp2
      go_ret
      refine ⟨?_, below_alloc _ _⟩
      unfold netB
      rw [decide_eq_false (show ¬ (0 ≤ L ∧ L ≤ 32) by omega)]
      rfl
  · go_enter Try.func50, Try.ntmps50
    go_wp2
    go_ret
    refine ⟨?_, below_alloc _ _⟩
    unfold netB
    rw [decide_eq_false (show ¬ (0 ≤ L ∧ L ≤ 32) by omega)]
    rfl
theorem below_kept {n : Nat} {W w2 w3 : World} {bs bs' : List Nat} (h : Below n W w2) (hk : Kept bs bs' w2 w3) (hb : ∀ k ∈ bs, n ≤ k) (hn : n ≤ w2.heap.size) : Below n W w3 :=
  ⟨hk.os.trans h.os, hk.tape.trans h.tape, hk.output.trans h.output, Nat.le_trans h.size hk.size, fun k h1 => (hk.block k (by omega) (fun hm => by have := hb k hm; omega)).trans (h.block k h1)⟩
theorem size_put (v : Int) : ∀ (bs : List Bool) (t : TT), (putL v bs t).size ≤ t.size + bs.length + 1
  | [], t => by cases t <;> simp [putL, TT.size, TT.left, TT.right] <;> omega
  | true :: bs, t => by
    have := size_put v bs t.right
    cases t <;> simp [putL, TT.size, TT.left, TT.right] at this ⊢ <;> omega
  | false :: bs, t => by
    have := size_put v bs t.left
    cases t <;> simp [putL, TT.size, TT.left, TT.right] at this ⊢ <;> omega
theorem bitsN_len (a : Int) : ∀ (k d : Nat), (bitsN a k d).length = k
  | 0, _ => rfl
  | k + 1, d => by simp [bitsN, bitsN_len a k]
theorem read_size (ns : List TNode) : (readT ns).1.size ≤ 500 := by
  unfold readT
  split
  · exact Nat.zero_le _
  · split
    · exact Nat.zero_le _
    · split
      · exact Nat.zero_le _
      · rename_i h1 h2 _ t j hg
        split
        · rename_i hc
          have := (grow_is 32 hg).2.1
          show t.size ≤ 500
          omega
        · exact Nat.zero_le _
theorem own_shape {w : World} {b n : Nat} {e : TypeId} {v : Value} {xs : List Value} (h : w.ownsRow b e 4 v n xs) : ∃ ao cap, v = .slice ao n cap := by
  rcases h.2 with ⟨h1, h2⟩ | ⟨g, cap, cur, h1, _⟩
  · rw [h1, h2]; exact ⟨_, _, rfl⟩
  · rw [h1]; exact ⟨_, _, rfl⟩
theorem size_prune (t : TT) : (prune t).size ≤ t.size := by
  unfold prune
  split
  · exact Nat.zero_le _
  · exact Nat.le_refl _
theorem size_rem : ∀ (bs : List Bool) (t : TT), (remL bs t).1.size ≤ t.size
  | bs, .nil => by cases bs <;> exact Nat.le_refl _
  | [], .node l r s v => Nat.le_trans (size_prune _) (Nat.le_refl _)
  | true :: bs, .node l r s v => by
    have := size_rem bs r
    refine Nat.le_trans (size_prune _) ?_
    simp only [TT.size]; omega
  | false :: bs, .node l r s v => by
    have := size_rem bs l
    refine Nat.le_trans (size_prune _) ?_
    simp only [TT.size]; omega
def remT (ns : List TNode) (a L : Int) : List TNode × Int :=
  if (readT ns).2 ≠ 0 then ([], (readT ns).2) else if netB a L = true ∧ (remN a L.toNat 0 (readT ns).1).2 = true then (flatL 0 (remN a L.toNat 0 (readT ns).1).1, 0) else ([], 7)
def putT (ns : List TNode) (a L x : Int) : List TNode × Int :=
  if (readT ns).2 ≠ 0 then ([], (readT ns).2) else if netB a L = false then ([], 1) else
    if 500 < (putN a x L.toNat 0 (readT ns).1).size then ([], 2) else (flatL 0 (putN a x L.toNat 0 (readT ns).1), 0)
set_option maxRecDepth 100000 in
set_option maxHeartbeats 8000000 in
theorem Put_walk (ns : List TNode) (a L x : Int) (w : World) (v : Value) (hv : NSl w v ns) (hv1 : ∃ ao n c, v = .slice ao n c) (ha : 0 ≤ a ∧ a ≤ 4294967295) (hL : -9223372036854775808 ≤ L ∧ L ≤ 9223372036854775807) :
    Calls Try.prog 24 #[.agg #[v], .agg #[.int .u32 a, .int .i64 L], .int .i64 x] w fun e w' => ∃ v', e = .returned (.tuple #[.agg #[v'], .int .i64 (putT ns a L x).2]) ∧ NewNodes w w' v' (putT ns a L x).1 ∧ Below w.heap.size w w' := by
  obtain ⟨W, hW⟩ : ∃ W, W = ((w.alloc (.cells #[v] 46)).alloc (.cells #[.int .u32 a, .int .i64 L] 52)).alloc (.cells #[.slice none 0 0] 46) := ⟨_, rfl⟩
  have s1 := size_alloc w (.cells #[v] 46)
  have s2 := size_alloc (w.alloc (.cells #[v] 46)) (.cells #[.int .u32 a, .int .i64 L] 52)
  have s3 := size_alloc ((w.alloc (.cells #[v] 46)).alloc (.cells #[.int .u32 a, .int .i64 L] 52)) (.cells #[.slice none 0 0] 46)
  have hWs : W.heap.size = w.heap.size + 3 := by rw [hW]; omega
  have hBW : Below w.heap.size w W := by rw [hW]; exact ((below_alloc w _).alloc (below_alloc w _).size _).alloc (by omega) _
  have W1 : W.heap[w.heap.size + 1]? = some (.cells #[.int .u32 a, .int .i64 L] 52 (0, 0)) := by
    rw [hW, (below_alloc _ _).block _ (by omega), ← s1]; exact heap_alloc_new _ _
  have W2 : W.heap[w.heap.size + 1 + 1]? = some (.cells #[.slice none 0 0] 46 (0, 0)) := by
    rw [hW, ← s1, ← s2]; exact heap_alloc_new _ _
  have fr : ∀ w', Below W.heap.size W w' → w'.cell? ⟨w.heap.size + 1, 0, none⟩ = some (.int .u32 a) ∧ w'.cell? ⟨w.heap.size + 1, 1, none⟩ = some (.int .i64 L) ∧ w'.heap[w.heap.size + 1 + 1]? = some (.cells #[.slice none 0 0] 46 (0, 0)) ∧ w'.cell? ⟨w.heap.size + 1 + 1, 0, none⟩ = some (.slice none 0 0) ∧ w'.frozen? ⟨w.heap.size + 1 + 1, 0, none⟩ = false ∧ w.heap.size + 3 ≤ w'.heap.size ∧ Below w.heap.size w w' := fun w' hB => by
    have g1 := (hB.block _ (by omega)).trans W1
    have g2 := (hB.block _ (by omega)).trans W2
    refine ⟨by simp [World.cell?, g1], by simp [World.cell?, g1], g2, by simp [World.cell?, g2], by simp [World.frozen?, g2], by have := hB.size; omega, hBW.trans (hB.mono (by omega))⟩
  have fin : ∀ (w' : World) (v' : Value) (l : List TNode), Below W.heap.size W w' → OwnN w' W.heap.size v' l → NewNodes w (w'.setCell ⟨w.heap.size + 1 + 1, 0, none⟩ v') v' l ∧ Below w.heap.size w (w'.setCell ⟨w.heap.size + 1 + 1, 0, none⟩ v') ∧ Holds (w'.setCell ⟨w.heap.size + 1 + 1, 0, none⟩ v') (w.heap.size + 1 + 1) 0 [v'] := fun w' v' l hB ho => by
    obtain ⟨_, _, g3, _, _, _, g7⟩ := fr w' hB
    obtain ⟨e1, e2, e3, e4, e5, e6⟩ := set_heap (v := v') g3 (show 0 < 1 by decide)
    refine ⟨?_, ⟨e4.trans g7.os, e5.trans g7.tape, e6.trans g7.output, by rw [e3]; exact g7.size, fun k hk => (e2 k (by omega)).trans (g7.block k hk)⟩, holds1 (by simp [World.cell?, e1])⟩
    exact (ho.base (by omega)).kept fun g hg => e2 g (by have := (ho.lt g hg).1; omega)
  have fin2 : ∀ (w' : World) (v' : Value) (l : List TNode) (o : Obj), Below W.heap.size W w' → OwnN w' W.heap.size v' l → NewNodes w ((w'.setCell ⟨w.heap.size + 1 + 1, 0, none⟩ v').alloc o) v' l ∧ Below w.heap.size w ((w'.setCell ⟨w.heap.size + 1 + 1, 0, none⟩ v').alloc o) ∧ Holds ((w'.setCell ⟨w.heap.size + 1 + 1, 0, none⟩ v').alloc o) (w.heap.size + 1 + 1) 0 [v'] := fun w' v' l o hB ho => by
    obtain ⟨f1, f2, f3⟩ := fin w' v' l hB ho
    have hc := f3 0 (by simp)
    have hs := hB.size
    have hs2 : (w'.setCell ⟨w.heap.size + 1 + 1, 0, none⟩ v').heap.size = w'.heap.size := (set_heap (v := v') (fr w' hB).2.2.1 (show 0 < 1 by decide)).2.2.1
    exact ⟨f1.kept fun g hg => Below.heap_alloc _ _ _ (f1.lt g hg).2, f2.alloc f2.size o, holds1 (((below_alloc _ o).cell (p := ⟨w.heap.size + 1 + 1, 0, none⟩) (by show w.heap.size + 1 + 1 < _; omega)).trans hc)⟩
  have hrd := read_walk ns W v (hv.frame hBW)
  rw [hW] at hrd
  obtain ⟨ao, n0, c0, rfl⟩ := hv1
  by_cases he : (readT ns).2 = 0
  · have he' : ((readT ns).2 != 0) = false := by simpa using he
    cases hn : netB a L with
    | false =>
      have hp : putT ns a L x = ([], 1) := by unfold putT; rw [if_neg (by simpa using he), if_pos hn]
      go_enter Try.func24, Try.ntmps24
      go_wp2_with (first | (go_at_call 46; refine hrd.mono ?_; rw [← hW]; rintro e w2 ⟨p, bs, rfl, ht, hbs, hB⟩; obtain ⟨g1, g2, g3, g4, g5, g6, g7⟩ := fr w2 hB) | (go_at_call 50; refine (net_walk a L _ ha hL).mono ?_; rintro e w3 ⟨rfl, hB3⟩; rw [hn]; have hBB := hB.trans (hB3.mono hB.size); obtain ⟨u1, u2, u3, u4, u5, u6, u7⟩ := fr w3 hBB))
      obtain ⟨f1, f2, f3⟩ := fin w3 (.slice none 0 0) [] hBB (OwnN.nil _ _)
      refine bodyPost_ret (results_h2 Try.results24 _ (w.heap.size + 1 + 1) [.slice none 0 0] _ rfl f3 trie_u trie_i) rfl ?_
      rw [hp]
      exact ⟨_, rfl, f1, f2⟩
    | true =>
      have hLr : 0 ≤ L ∧ L ≤ 32 := by
        unfold netB at hn
        simp only [Bool.and_eq_true, decide_eq_true_eq] at hn
        exact hn.1
      have hsz : (putN a x L.toNat 0 (readT ns).1).size ≤ 600 := by
        have h1 := size_put x (bitsN a L.toNat 0) (readT ns).1
        rw [bitsN_len] at h1
        have h2 := read_size ns
        unfold putN; omega
      by_cases hbig : 500 < (putN a x L.toNat 0 (readT ns).1).size
      · have hbig' : 500 < ((putN a x L.toNat 0 (readT ns).1).size : Int) := by omega
        have hp : putT ns a L x = ([], 2) := by unfold putT; rw [if_neg (by simpa using he), if_neg (by simp [hn]), if_pos hbig]
        go_enter Try.func24, Try.ntmps24
        go_wp2_with (first | (go_at_call 46; refine hrd.mono ?_; rw [← hW]; rintro e w2 ⟨p, bs, rfl, ht, hbs, hB⟩; obtain ⟨g1, g2, g3, g4, g5, g6, g7⟩ := fr w2 hB) | (go_at_call 50; refine (net_walk a L _ ha hL).mono ?_; rintro e w3 ⟨rfl, hB3⟩; rw [hn]; have hBB := hB.trans (hB3.mono hB.size); obtain ⟨u1, u2, u3, u4, u5, u6, u7⟩ := fr w3 hBB; have ht3 := ht.frame (fun k hk => hB3.block k (ht.lt k hk))) | (go_at_call 52; refine (put_walk a x ha L.toNat 0 _ _ _ bs L 0 (by omega) ht3 (by omega) rfl).mono ?_; rintro e w4 ⟨p4, bs4, rfl, ht4, hk4⟩; have hB4 := below_kept hBB hk4 hbs hBB.size; obtain ⟨q1, q2, q3, q4, q5, q6, q7⟩ := fr w4 hB4) | (go_at_call 51; refine (flat_walk _ _ _ _ ht4 (by omega)).mono ?_; rintro e w5 ⟨v5, rfl, ho5, hB5⟩; unfold NewNodes at ho5; obtain ⟨ao5, c5, hv5⟩ := ho5.form; rw [flatL_len] at hv5; subst hv5; have hB6 := hB4.trans (hB5.mono hB4.size); have ho6 := ho5.base hB4.size; obtain ⟨x1, x2, x3, x4, x5, x6, x7⟩ := fr w5 hB6; have x8 : w.heap.size + 1 + 1 < w5.heap.size := (by omega)))
        obtain ⟨f1, f2, f3⟩ := fin2 w5 (.slice none 0 0) [] (.cells #[.slice ao5 (putN a x L.toNat 0 (readT ns).1).size c5] 46) hB6 (OwnN.nil _ _)
        refine bodyPost_ret (results_h2 Try.results24 _ (w.heap.size + 1 + 1) [.slice none 0 0] _ rfl f3 trie_u trie_i) rfl ?_
        rw [hp]
        exact ⟨_, rfl, f1, f2⟩
      · have hbig' : ¬ 500 < ((putN a x L.toNat 0 (readT ns).1).size : Int) := by omega
        have hp : putT ns a L x = (flatL 0 (putN a x L.toNat 0 (readT ns).1), 0) := by unfold putT; rw [if_neg (by simpa using he), if_neg (by simp [hn]), if_neg hbig]
        go_enter Try.func24, Try.ntmps24
        go_wp2_with (first | (go_at_call 46; refine hrd.mono ?_; rw [← hW]; rintro e w2 ⟨p, bs, rfl, ht, hbs, hB⟩; obtain ⟨g1, g2, g3, g4, g5, g6, g7⟩ := fr w2 hB) | (go_at_call 50; refine (net_walk a L _ ha hL).mono ?_; rintro e w3 ⟨rfl, hB3⟩; rw [hn]; have hBB := hB.trans (hB3.mono hB.size); obtain ⟨u1, u2, u3, u4, u5, u6, u7⟩ := fr w3 hBB; have ht3 := ht.frame (fun k hk => hB3.block k (ht.lt k hk))) | (go_at_call 52; refine (put_walk a x ha L.toNat 0 _ _ _ bs L 0 (by omega) ht3 (by omega) rfl).mono ?_; rintro e w4 ⟨p4, bs4, rfl, ht4, hk4⟩; have hB4 := below_kept hBB hk4 hbs hBB.size; obtain ⟨q1, q2, q3, q4, q5, q6, q7⟩ := fr w4 hB4) | (go_at_call 51; refine (flat_walk _ _ _ _ ht4 (by omega)).mono ?_; rintro e w5 ⟨v5, rfl, ho5, hB5⟩; unfold NewNodes at ho5; obtain ⟨ao5, c5, hv5⟩ := ho5.form; rw [flatL_len] at hv5; subst hv5; have hB6 := hB4.trans (hB5.mono hB4.size); have ho6 := ho5.base hB4.size; obtain ⟨x1, x2, x3, x4, x5, x6, x7⟩ := fr w5 hB6; have x8 : w.heap.size + 1 + 1 < w5.heap.size := (by omega)))
        obtain ⟨f1, f2, f3⟩ := fin2 w5 _ (flatL 0 (putN a x L.toNat 0 (readT ns).1)) (.cells #[.slice ao5 (putN a x L.toNat 0 (readT ns).1).size c5] 46) hB6 ho6
        refine bodyPost_ret (results_h2 Try.results24 _ (w.heap.size + 1 + 1) _ _ rfl f3 trie_u trie_i) rfl ?_
        rw [hp]
        exact ⟨_, rfl, f1, f2⟩
  · have he' : ((readT ns).2 != 0) = true := by simpa using he
    have hp : putT ns a L x = ([], (readT ns).2) := by unfold putT; rw [if_pos he]
    go_enter Try.func24, Try.ntmps24
    go_wp2_with (go_at_call 46; refine hrd.mono ?_; rw [← hW]; rintro e w2 ⟨p, bs, rfl, ht, hbs, hB⟩; obtain ⟨g1, g2, g3, g4, g5, g6, g7⟩ := fr w2 hB)
    obtain ⟨f1, f2, f3⟩ := fin w2 (.slice none 0 0) [] hB (OwnN.nil _ _)
    refine bodyPost_ret (results_h2 Try.results24 _ (w.heap.size + 1 + 1) [.slice none 0 0] _ rfl f3 trie_u trie_i) rfl ?_
    rw [hp]
    exact ⟨_, rfl, f1, f2⟩
set_option maxRecDepth 100000 in
set_option maxHeartbeats 8000000 in
theorem Rem_walk (ns : List TNode) (a L : Int) (w : World) (v : Value) (hv : NSl w v ns) (hv1 : ∃ ao n c, v = .slice ao n c) (ha : 0 ≤ a ∧ a ≤ 4294967295) (hL : -9223372036854775808 ≤ L ∧ L ≤ 9223372036854775807) :
    Calls Try.prog 26 #[.agg #[v], .agg #[.int .u32 a, .int .i64 L]] w fun e w' => ∃ v', e = .returned (.tuple #[.agg #[v'], .int .i64 (remT ns a L).2]) ∧ NewNodes w w' v' (remT ns a L).1 ∧ Below w.heap.size w w' := by
  obtain ⟨W, hW⟩ : ∃ W, W = ((w.alloc (.cells #[v] 46)).alloc (.cells #[.int .u32 a, .int .i64 L] 52)).alloc (.cells #[.slice none 0 0] 46) := ⟨_, rfl⟩
  have s1 := size_alloc w (.cells #[v] 46)
  have s2 := size_alloc (w.alloc (.cells #[v] 46)) (.cells #[.int .u32 a, .int .i64 L] 52)
  have s3 := size_alloc ((w.alloc (.cells #[v] 46)).alloc (.cells #[.int .u32 a, .int .i64 L] 52)) (.cells #[.slice none 0 0] 46)
  have hWs : W.heap.size = w.heap.size + 3 := by rw [hW]; omega
  have hBW : Below w.heap.size w W := by rw [hW]; exact ((below_alloc w _).alloc (below_alloc w _).size _).alloc (by omega) _
  have W1 : W.heap[w.heap.size + 1]? = some (.cells #[.int .u32 a, .int .i64 L] 52 (0, 0)) := by
    rw [hW, (below_alloc _ _).block _ (by omega), ← s1]; exact heap_alloc_new _ _
  have W2 : W.heap[w.heap.size + 1 + 1]? = some (.cells #[.slice none 0 0] 46 (0, 0)) := by
    rw [hW, ← s1, ← s2]; exact heap_alloc_new _ _
  have fr : ∀ w', Below W.heap.size W w' → w'.cell? ⟨w.heap.size + 1, 0, none⟩ = some (.int .u32 a) ∧ w'.cell? ⟨w.heap.size + 1, 1, none⟩ = some (.int .i64 L) ∧ w'.heap[w.heap.size + 1 + 1]? = some (.cells #[.slice none 0 0] 46 (0, 0)) ∧ w'.cell? ⟨w.heap.size + 1 + 1, 0, none⟩ = some (.slice none 0 0) ∧ w'.frozen? ⟨w.heap.size + 1 + 1, 0, none⟩ = false ∧ w.heap.size + 3 ≤ w'.heap.size ∧ Below w.heap.size w w' := fun w' hB => by
    have g1 := (hB.block _ (by omega)).trans W1
    have g2 := (hB.block _ (by omega)).trans W2
    refine ⟨by simp [World.cell?, g1], by simp [World.cell?, g1], g2, by simp [World.cell?, g2], by simp [World.frozen?, g2], by have := hB.size; omega, hBW.trans (hB.mono (by omega))⟩
  have fin : ∀ (w' : World) (v' : Value) (l : List TNode), Below W.heap.size W w' → OwnN w' W.heap.size v' l → NewNodes w (w'.setCell ⟨w.heap.size + 1 + 1, 0, none⟩ v') v' l ∧ Below w.heap.size w (w'.setCell ⟨w.heap.size + 1 + 1, 0, none⟩ v') ∧ Holds (w'.setCell ⟨w.heap.size + 1 + 1, 0, none⟩ v') (w.heap.size + 1 + 1) 0 [v'] := fun w' v' l hB ho => by
    obtain ⟨_, _, g3, _, _, _, g7⟩ := fr w' hB
    obtain ⟨e1, e2, e3, e4, e5, e6⟩ := set_heap (v := v') g3 (show 0 < 1 by decide)
    refine ⟨?_, ⟨e4.trans g7.os, e5.trans g7.tape, e6.trans g7.output, by rw [e3]; exact g7.size, fun k hk => (e2 k (by omega)).trans (g7.block k hk)⟩, holds1 (by simp [World.cell?, e1])⟩
    exact (ho.base (by omega)).kept fun g hg => e2 g (by have := (ho.lt g hg).1; omega)
  have fin2 : ∀ (w' : World) (v' : Value) (l : List TNode) (o : Obj), Below W.heap.size W w' → OwnN w' W.heap.size v' l → NewNodes w ((w'.setCell ⟨w.heap.size + 1 + 1, 0, none⟩ v').alloc o) v' l ∧ Below w.heap.size w ((w'.setCell ⟨w.heap.size + 1 + 1, 0, none⟩ v').alloc o) ∧ Holds ((w'.setCell ⟨w.heap.size + 1 + 1, 0, none⟩ v').alloc o) (w.heap.size + 1 + 1) 0 [v'] := fun w' v' l o hB ho => by
    obtain ⟨f1, f2, f3⟩ := fin w' v' l hB ho
    have hc := f3 0 (by simp)
    have hs := hB.size
    have hs2 : (w'.setCell ⟨w.heap.size + 1 + 1, 0, none⟩ v').heap.size = w'.heap.size := (set_heap (v := v') (fr w' hB).2.2.1 (show 0 < 1 by decide)).2.2.1
    exact ⟨f1.kept fun g hg => Below.heap_alloc _ _ _ (f1.lt g hg).2, f2.alloc f2.size o, holds1 (((below_alloc _ o).cell (p := ⟨w.heap.size + 1 + 1, 0, none⟩) (by show w.heap.size + 1 + 1 < _; omega)).trans hc)⟩
  have hrd := read_walk ns W v (hv.frame hBW)
  rw [hW] at hrd
  obtain ⟨ao, n0, c0, rfl⟩ := hv1
  by_cases he : (readT ns).2 = 0
  · have he' : ((readT ns).2 != 0) = false := by simpa using he
    cases hn : netB a L with
    | false =>
      have hp : remT ns a L = ([], 7) := by unfold remT; rw [if_neg (by simpa using he), if_neg (by simp [hn])]
      go_enter Try.func26, Try.ntmps26
      go_wp2_with (first | (go_at_call 46; refine hrd.mono ?_; rw [← hW]; rintro e w2 ⟨p, bs, rfl, ht, hbs, hB⟩; obtain ⟨g1, g2, g3, g4, g5, g6, g7⟩ := fr w2 hB) | (go_at_call 50; refine (net_walk a L _ ha hL).mono ?_; rintro e w3 ⟨rfl, hB3⟩; rw [hn]; have hBB := hB.trans (hB3.mono hB.size); obtain ⟨u1, u2, u3, u4, u5, u6, u7⟩ := fr w3 hBB; have ht3 := ht.frame (fun k hk => hB3.block k (ht.lt k hk))))
      obtain ⟨f1, f2, f3⟩ := fin w3 (.slice none 0 0) [] hBB (OwnN.nil _ _)
      refine bodyPost_ret (results_h2 Try.results26 _ (w.heap.size + 1 + 1) _ _ rfl f3 trie_u trie_i) rfl ?_
      rw [hp]
      exact ⟨_, rfl, f1, f2⟩
    | true =>
      have hLr : 0 ≤ L ∧ L ≤ 32 := by
        unfold netB at hn
        simp only [Bool.and_eq_true, decide_eq_true_eq] at hn
        exact hn.1
      have hsz : (remN a L.toNat 0 (readT ns).1).1.size ≤ 600 := by
        have h1 := size_rem (bitsN a L.toNat 0) (readT ns).1
        have h2 := read_size ns
        unfold remN; omega
      cases hh : (remN a L.toNat 0 (readT ns).1).2 with
      | false =>
        have hp : remT ns a L = ([], 7) := by unfold remT; rw [if_neg (by simpa using he), if_neg (by simp [hh])]
        go_enter Try.func26, Try.ntmps26
        go_wp2_with (first | (go_at_call 46; refine hrd.mono ?_; rw [← hW]; rintro e w2 ⟨p, bs, rfl, ht, hbs, hB⟩; obtain ⟨g1, g2, g3, g4, g5, g6, g7⟩ := fr w2 hB) | (go_at_call 50; refine (net_walk a L _ ha hL).mono ?_; rintro e w3 ⟨rfl, hB3⟩; rw [hn]; have hBB := hB.trans (hB3.mono hB.size); obtain ⟨u1, u2, u3, u4, u5, u6, u7⟩ := fr w3 hBB; have ht3 := ht.frame (fun k hk => hB3.block k (ht.lt k hk))) | (go_at_call 53; refine (rem_walk a ha L.toNat 0 _ _ _ bs L 0 (by omega) ht3 (by omega) rfl).mono ?_; rintro e w4 ⟨p4, bs4, rfl, ht4, hk4⟩; rw [hh]; have hB4 := below_kept hBB hk4 hbs hBB.size; obtain ⟨q1, q2, q3, q4, q5, q6, q7⟩ := fr w4 hB4))
        obtain ⟨f1, f2, f3⟩ := fin w4 (.slice none 0 0) [] hB4 (OwnN.nil _ _)
        refine bodyPost_ret (results_h2 Try.results26 _ (w.heap.size + 1 + 1) _ _ rfl f3 trie_u trie_i) rfl ?_
        rw [hp]
        exact ⟨_, rfl, f1, f2⟩
      | true =>
        have hp : remT ns a L = (flatL 0 (remN a L.toNat 0 (readT ns).1).1, 0) := by unfold remT; rw [if_neg (by simpa using he), if_pos ⟨hn, hh⟩]
        go_enter Try.func26, Try.ntmps26
        go_wp2_with (first | (go_at_call 46; refine hrd.mono ?_; rw [← hW]; rintro e w2 ⟨p, bs, rfl, ht, hbs, hB⟩; obtain ⟨g1, g2, g3, g4, g5, g6, g7⟩ := fr w2 hB) | (go_at_call 50; refine (net_walk a L _ ha hL).mono ?_; rintro e w3 ⟨rfl, hB3⟩; rw [hn]; have hBB := hB.trans (hB3.mono hB.size); obtain ⟨u1, u2, u3, u4, u5, u6, u7⟩ := fr w3 hBB; have ht3 := ht.frame (fun k hk => hB3.block k (ht.lt k hk))) | (go_at_call 53; refine (rem_walk a ha L.toNat 0 _ _ _ bs L 0 (by omega) ht3 (by omega) rfl).mono ?_; rintro e w4 ⟨p4, bs4, rfl, ht4, hk4⟩; rw [hh]; have hB4 := below_kept hBB hk4 hbs hBB.size; obtain ⟨q1, q2, q3, q4, q5, q6, q7⟩ := fr w4 hB4) | (go_at_call 51; refine (flat_walk _ _ _ _ ht4 (by omega)).mono ?_; rintro e w5 ⟨v5, rfl, ho5, hB5⟩; unfold NewNodes at ho5; obtain ⟨ao5, c5, hv5⟩ := ho5.form; rw [flatL_len] at hv5; subst hv5; have hB6 := hB4.trans (hB5.mono hB4.size); have ho6 := ho5.base hB4.size; obtain ⟨x1, x2, x3, x4, x5, x6, x7⟩ := fr w5 hB6; have x8 : w.heap.size + 1 + 1 < w5.heap.size := (by omega)))
        obtain ⟨f1, f2, f3⟩ := fin w5 _ (flatL 0 (remN a L.toNat 0 (readT ns).1).1) hB6 ho6
        refine bodyPost_ret (results_h2 Try.results26 _ (w.heap.size + 1 + 1) _ _ rfl f3 trie_u trie_i) rfl ?_
        rw [hp]
        exact ⟨_, rfl, f1, f2⟩
  · have he' : ((readT ns).2 != 0) = true := by simpa using he
    have hp : remT ns a L = ([], (readT ns).2) := by unfold remT; rw [if_pos he]
    go_enter Try.func26, Try.ntmps26
    go_wp2_with (go_at_call 46; refine hrd.mono ?_; rw [← hW]; rintro e w2 ⟨p, bs, rfl, ht, hbs, hB⟩; obtain ⟨g1, g2, g3, g4, g5, g6, g7⟩ := fr w2 hB)
    obtain ⟨f1, f2, f3⟩ := fin w2 (.slice none 0 0) [] hB (OwnN.nil _ _)
    refine bodyPost_ret (results_h2 Try.results26 _ (w.heap.size + 1 + 1) _ _ rfl f3 trie_u trie_i) rfl ?_
    rw [hp]
    exact ⟨_, rfl, f1, f2⟩
end Go.Proofs.Ythnijeclidpooaa.X
