/- prefix: flat and read, walked. Conditions: none. -/
import Derived.Test.YthnijeclidpooaaPfxZ
import Derived.Test.YthnijeclidpooaaRow
namespace Go.Proofs.Ythnijeclidpooaa.X
open Go Go.RowKit Go.Proofs.Ythnijeclidpooaa.Abs Go.Proofs.Ythnijeclidpooaa.Bits Go.Proofs.Ythnijeclidpooaa.Row
set_option linter.unusedVariables false
set_option linter.unusedSimpArgs false
section
variable {w : World}
theorem results_h1 {fn : Func} {p : Tmp} {ty : TypeId} (h : fn.results = #[.cell p ty]) (tmps : Array Value) (g : Nat) (cs : List Value) (fs : Array Field)
    (hp : tmps.getD p undef = .pointer (some ⟨g, 0, none⟩)) (hb : Holds w g 0 cs) (hu : Try.prog.underlying ty = some (.struct fs)) (hi : (Try.prog.info? ty).map (·.size) = some cs.length) :
    (results fn tmps).run Try.prog w = .ok (.agg cs.toArray) w := by
  have hl := run_loadVar_cells (P := Try.prog) (w := w) ty g 0 cs _ hu rfl hi hb
  simp only [results, h]
  simp [Sem.run_bind, Result.andThen]
  have hp' : tmps[p]?.getD undef = .pointer (some ⟨g, 0, none⟩) := by rw [← hp]; simp
  rw [hp']
  simp [asAddr, Result.andThen, Sem.run_pure, hl]
theorem results_h2 {fn : Func} {p u : Tmp} {ty : TypeId} (h : fn.results = #[.cell p ty, .tmp u]) (tmps : Array Value) (g : Nat) (cs : List Value) (fs : Array Field)
    (hp : tmps.getD p undef = .pointer (some ⟨g, 0, none⟩)) (hb : Holds w g 0 cs) (hu : Try.prog.underlying ty = some (.struct fs)) (hi : (Try.prog.info? ty).map (·.size) = some cs.length) :
    (results fn tmps).run Try.prog w = .ok (.tuple #[.agg cs.toArray, tmps.getD u undef]) w := by
  have hl := run_loadVar_cells (P := Try.prog) (w := w) ty g 0 cs _ hu rfl hi hb
  rw [results_cell_tmp h tmps Try.prog w, hp]
  simp [asAddr, Result.andThen, Sem.run_pure, hl]
theorem results_h3 {fn : Func} {p u v : Tmp} {ty : TypeId} (h : fn.results = #[.cell p ty, .tmp u, .tmp v]) (tmps : Array Value) (g : Nat) (cs : List Value) (fs : Array Field)
    (hp : tmps.getD p undef = .pointer (some ⟨g, 0, none⟩)) (hb : Holds w g 0 cs) (hu : Try.prog.underlying ty = some (.struct fs)) (hi : (Try.prog.info? ty).map (·.size) = some cs.length) :
    (results fn tmps).run Try.prog w = .ok (.tuple #[.agg cs.toArray, tmps.getD u undef, tmps.getD v undef]) w := by
  have hl := run_loadVar_cells (P := Try.prog) (w := w) ty g 0 cs _ hu rfl hi hb
  rw [results_cell_tmp2 h tmps Try.prog w, hp]
  simp [asAddr, Result.andThen, Sem.run_pure, hl]
theorem trie_u : Try.prog.underlying 46 = some (.struct (Try.prog.fieldsOf 46)) := by kernel_rfl
theorem trie_i : (Try.prog.info? 46).map (·.size) = some 1 := by kernel_rfl
theorem holds1 {g : Nat} {v : Value} (h : w.cell? ⟨g, 0, none⟩ = some v) : Holds w g 0 [v] := fun j hj => by
  have : j = 0 := by simp at hj; exact hj
  subst this; exact h
end
/-- A row of nodes that is new. -/
def NewNodes (w w' : World) (v : Value) (ns : List TNode) : Prop := OwnN w' w.heap.size v ns
theorem own_base {w : World} {a b n sz : Nat} {e : TypeId} {v : Value} {xs : List Value} (h : w.ownsRow b e sz v n xs) (hab : a ≤ b) : w.ownsRow a e sz v n xs := by
  refine ⟨h.1, ?_⟩
  rcases h.2 with h2 | ⟨g, cap, cur, h1, h2, h3⟩
  · exact .inl h2
  · exact .inr ⟨g, cap, cur, h1, Nat.le_trans hab h2, h3⟩
set_option maxRecDepth 100000 in
set_option maxHeartbeats 1000000 in
theorem flat_walk (t : TT) (w : World) (p : Value) (bs : List Nat) (ht : TreeAt w t p bs) (hs : t.size ≤ 100000) :
    Calls Try.prog 51 #[p] w fun e w' => ∃ v, e = .returned (.agg #[v]) ∧ NewNodes w w' v (flatL 0 t) ∧ Below w.heap.size w w' := by
  have hA := below_alloc w (.cells #[.slice none 0 0] 46)
  have hB := hA.trans (below_alloc (w.alloc (.cells #[.slice none 0 0] 46)) (.cells #[.slice none 0 0] 44) |>.mono (by rw [size_alloc]; omega))
  cases t with
  | nil =>
    obtain ⟨rfl, _⟩ := ht
    go_enter Try.func51, Try.ntmps51
    go_wp2
    refine bodyPost_ret (results_h1 Try.results51 _ w.heap.size [.slice none 0 0] _ rfl (holds1 ?_) trie_u trie_i) rfl ?_
    · go_simp
    · exact ⟨_, rfl, OwnN.nil _ _, hB⟩
  | node l r s x =>
    obtain ⟨a, rfl⟩ := tree_some ht (by simp)
    have hsz1 := size_alloc w (.cells #[.slice none 0 0] 46)
    have hL : Laid ((w.alloc (.cells #[.slice none 0 0] 46)).alloc (.cells #[.slice none 0 0] 44)) (w.heap.size + 1) [] := ⟨_, by rw [← hsz1]; exact heap_alloc_new _ _, OwnN.nil _ _⟩
    have hc := lay_walk (.node l r s x) ((w.alloc (.cells #[.slice none 0 0] 46)).alloc (.cells #[.slice none 0 0] 44)) _ bs [] (w.heap.size + 1) (ht.frame fun k hk => hB.block k (ht.lt k hk)) (by simp) (fun k hk => by have := ht.lt k hk; omega) hL (by simpa using hs)
    go_enter Try.func51, Try.ntmps51
    go_wp2_with (go_at_call 74; refine hc.mono ?_; rintro e w2 ⟨rfl, ⟨v, hb, ho⟩, hBB⟩; obtain ⟨ao, n2, cap2, rfl⟩ : ∃ ao n cap, v = .slice ao n cap := (by obtain ⟨ao, cap, h1⟩ := ho.form; exact ⟨_, _, _, h1⟩); have l0 : w2.cell? ⟨w.heap.size + 1, 0, none⟩ = some (.slice ao n2 cap2) := (by simp [World.cell?, hb]); have hr0 := hBB.block w.heap.size (by omega); have r0 : w2.heap[w.heap.size]? = some (.cells #[.slice none 0 0] 46 (0, 0)) := (by rw [hr0, (below_alloc _ _).block _ (by rw [size_alloc]; omega)]; exact heap_alloc_new _ _); have r1 : w2.cell? ⟨w.heap.size, 0, none⟩ = some (.slice none 0 0) := (by simp [World.cell?, r0]); have r2 : w2.frozen? ⟨w.heap.size, 0, none⟩ = false := (by simp [World.frozen?, r0]); have hlt2 := (Array.getElem?_eq_some_iff.1 r0).1)
    obtain ⟨e1, e2, e3, e4, e5, e6⟩ := set_heap (v := .slice ao n2 cap2) r0 (show 0 < 1 by decide)
    refine bodyPost_ret (results_h1 Try.results51 _ w.heap.size [.slice ao n2 cap2] _ rfl (holds1 ?_) trie_u trie_i) rfl ?_
    · simp [World.cell?, e1]
    · refine ⟨_, rfl, ?_, ⟨e4.trans (hBB.os.trans hB.os), e5.trans (hBB.tape.trans hB.tape), e6.trans (hBB.output.trans hB.output), by rw [e3]; omega, fun k hk => by rw [e2 k (by omega), hBB.block k (by omega), hB.block k hk]⟩⟩
      exact (ho.base (show w.heap.size ≤ w.heap.size + 1 + 1 by omega)).kept fun g hg => e2 g (by have := (ho.lt g hg).1; omega)
/-- A slice of nodes. -/
def NSl (w : World) (v : Value) (ns : List TNode) : Prop := (ns = [] ∧ ∃ a cap, v = .slice a 0 cap) ∨ ∃ b o cap, v = .slice (some ⟨b, o, none⟩) ns.length cap ∧ ns.length ≤ cap ∧ NodesAt w b o ns ∧ b < w.heap.size
theorem NSl.frame {w w' : World} {v : Value} {ns : List TNode} (h : NSl w v ns) (hB : Below w.heap.size w w') : NSl w' v ns := by
  rcases h with h | ⟨b, o, cap, h1, h2, h3, h4⟩
  · exact .inl h
  · exact .inr ⟨b, o, cap, h1, h2, h3.frame (hB.block b h4), Nat.lt_of_lt_of_le h4 hB.size⟩
def badN (x : TNode) : Bool := !x.set && (decide (x.value ≠ 0) || (decide (x.next0 = 0) && decide (x.next1 = 0)))
theorem run_eq_ii (w : World) (x y : Int) : (Op.equalIn 10000 64 (.agg #[.int .i64 x, .int .i64 y]) (.agg #[.int .i64 0, .int .i64 0])).run Try.prog w = .ok (decide (x = 0) && decide (y = 0)) w := by
  have hu : Try.prog.underlying 64 = some (.array 2 3) := by kernel_rfl
  have hu2 : Try.prog.underlying 3 = some (.int .i64) := by kernel_rfl
  have hc : Try.prog.cellsOf 3 = 1 := by kernel_rfl
  obtain ⟨i, hi⟩ : ∃ i, Try.prog.info? 3 = some i := by
    cases h : Try.prog.info? 3 with
    | none => unfold Program.underlying at hu2; rw [h] at hu2; cases hu2
    | some i => exact ⟨i, rfl⟩
  have hp : ∀ (xs : Array Value) (o : Nat) (v : Value), xs[o]? = some v → (part 3 xs o).run Try.prog w = .ok v w := fun xs o v hv => run_part_plain w (by kernel_rfl) hv
  have he : ∀ (d : Nat) (q : Int), (Op.equalIn (d + 1) 3 (.int .i64 q) (.int .i64 0)).run Try.prog w = .ok (q == 0) w := fun d q => run_equalIn_int w d _ _ _ _ _ hu2
  rw [run_equalIn_array w 9999 _ _ hu hi, hc]
  simp only [List.range, List.range.loop, Op.eqItems, Sem.run_bind]
  rw [hp _ _ (.int .i64 x) rfl, Result.andThen_ok, hp _ _ (.int .i64 0) rfl]
  simp only [Result.andThen_ok, he]
  by_cases h : x = 0
  · subst h
    simp only [beq_self_eq_true, Bool.not_true, Bool.false_eq_true, if_false, Sem.run_bind]
    rw [hp _ _ (.int .i64 y) rfl, Result.andThen_ok, hp _ _ (.int .i64 0) rfl]
    simp only [Result.andThen_ok, he]
    by_cases h2 : y = 0 <;> simp [h2]
  · simp [h]
theorem any_take {ns : List TNode} {k : Nat} {x : TNode} (hx : ns[k]? = some x) (ha : (ns.take k).any badN = false) (hb : badN x = false) : (ns.take (k + 1)).any badN = false := by
  obtain ⟨hk, e⟩ := List.getElem?_eq_some_iff.1 hx
  rw [List.take_succ_eq_append_getElem hk, List.any_append, ha, e]
  simp [hb]
theorem any_of {ns : List TNode} {k : Nat} {x : TNode} (hx : ns[k]? = some x) (hb : badN x = true) : ns.any badN = true := List.any_eq_true.2 ⟨x, List.mem_of_getElem? hx, hb⟩
def readT (ns : List TNode) : TT × Int :=
  if ns.length = 0 then (.nil, 0) else if 500 < ns.length then (.nil, 2) else match growT ns 32 0 with
    | none => (.nil, 4)
    | some (t, j) => if j + 1 = ns.length ∧ bareT t = false ∧ ns.any badN = false then (t, 0) else (.nil, 4)
set_option maxRecDepth 100000 in
set_option maxHeartbeats 16000000 in
theorem read_walk (ns : List TNode) (w : World) (v : Value) (hv : NSl w v ns) :
    Calls Try.prog 46 #[.agg #[v]] w fun e w' => ∃ p bs, e = .returned (.tuple #[p, .int .i64 (readT ns).2]) ∧ TreeAt w' (readT ns).1 p bs ∧ (∀ k ∈ bs, w.heap.size ≤ k) ∧ Below w.heap.size w w' := by
  have hA := below_alloc w (.cells #[v] 46)
  have hB := hA.trans (below_alloc (w.alloc (.cells #[v] 46)) (.cells #[.int .i64 0] 3) |>.mono (by rw [size_alloc]; omega))
  rcases hv with ⟨rfl, a, cap, rfl⟩ | ⟨b, o, cap, rfl, hcap, hn, hb⟩
  · go_enter Try.func46, Try.ntmps46
    go_wp2
    go_ret2
    exact ⟨_, [], rfl, ⟨rfl, rfl⟩, fun k hk => (by cases hk), hA⟩
  · by_cases h0 : ns.length = 0
    · obtain rfl : ns = [] := List.eq_nil_of_length_eq_zero h0
      go_enter Try.func46, Try.ntmps46
      go_wp2
      go_ret2
      exact ⟨_, [], rfl, ⟨rfl, rfl⟩, fun k hk => (by cases hk), hA⟩
    · have h0' : ((ns.length : Int) == 0) = false := by simpa using h0
      by_cases h5 : 500 < ns.length
      · have h5' : (500 < (ns.length : Int)) := by omega
        rw [show readT ns = (.nil, 2) by unfold readT; rw [if_neg h0, if_pos h5]]
        go_enter Try.func46, Try.ntmps46
        go_wp2
        go_ret2
        exact ⟨_, [], rfl, ⟨rfl, rfl⟩, fun k hk => (by cases hk), hA⟩
      · have h5' : ¬ (500 < (ns.length : Int)) := by omega
        have hsz1 := size_alloc w (.cells #[.slice (some ⟨b, o, none⟩) ns.length cap] 46)
        have hsz2 := size_alloc (w.alloc (.cells #[.slice (some ⟨b, o, none⟩) ns.length cap] 46)) (.cells #[.int .i64 0] 3)
        have hc := grow_walk b o cap ns hcap (by omega) 32 0 0 ((w.alloc (.cells #[.slice (some ⟨b, o, none⟩) ns.length cap] 46)).alloc (.cells #[.int .i64 0] 3)) (w.heap.size + 1) rfl (by omega) (hn.frame (hB.block b hb)) (by rw [← hsz1]; exact heap_alloc_new _ _) (by omega) (by omega)
        unfold Grown' at hc
        unfold readT
        rw [if_neg h0, if_neg h5]
        have kb : ∀ w2 : World, Kept [w.heap.size + 1] [] ((w.alloc (.cells #[.slice (some ⟨b, o, none⟩) ns.length cap] 46)).alloc (.cells #[.int .i64 0] 3)) w2 → Below w.heap.size w w2 ∧ w2.cell? ⟨w.heap.size, 0, none⟩ = some (.slice (some ⟨b, o, none⟩) ns.length cap) ∧ w.heap.size + 2 ≤ w2.heap.size := fun w2 hk => by
          have hk0 := hk.size
          refine ⟨⟨hk.os.trans hB.os, hk.tape.trans hB.tape, hk.output.trans hB.output, by omega, fun k hk1 => (hk.block k (by omega) (by simp; omega)).trans (hB.block k hk1)⟩, ?_, by omega⟩
          have : w2.heap[w.heap.size]? = some (.cells #[.slice (some ⟨b, o, none⟩) ns.length cap] 46 (0, 0)) := by
            rw [hk.block _ (by omega) (by simp), (below_alloc _ _).block _ (by omega)]; exact heap_alloc_new _ _
          simp [World.cell?, this]
        cases hg : growT ns 32 0 with
        | none =>
          rw [hg] at hc
          go_enter Try.func46, Try.ntmps46
          go_wp2_with (go_at_call 72; refine hc.mono ?_; rintro e w2 ⟨hk, rfl, j, hj⟩; obtain ⟨q1, q2, q3⟩ := kb w2 hk)
          go_ret2
          exact ⟨_, [], rfl, ⟨rfl, rfl⟩, fun k hk => (by cases hk), q1⟩
        | some r =>
          obtain ⟨t, j⟩ := r
          rw [hg] at hc
          dsimp only at hc ⊢
          have htn := (grow_is 32 hg).1
          cases t with
          | nil => exact absurd rfl htn
          | node l r s x =>
            have hj0 := (grow_lt hg).2
            by_cases hj : j + 1 = ns.length
            · have hjn : ((j : Int) != (ns.length : Int) - 1) = false := by simp; omega
              cases hbare : bareT (.node l r s x) with
              | true =>
                rw [if_neg (by simp)]
                go_enter Try.func46, Try.ntmps46
                go_wp2_with (first | (go_at_call 72; refine hc.mono ?_; rintro e w2 ⟨hk, p, bs, rfl, ht, hbs, hj1⟩; obtain ⟨q1, q2, q3⟩ := kb w2 hk; have htt := ht; obtain ⟨b', pl, pr, bl, br, rfl, _⟩ := htt; have a1 : w2.cell? ⟨w.heap.size + 1, 0, none⟩ = some (.int .i64 (j : Int)) := (by simp [World.cell?, hj1])) | (go_at_call 73; refine (bare_at ht).mono ?_; rintro e w3 ⟨rfl, rfl⟩; rw [hbare]))
                go_ret2
                exact ⟨_, [], rfl, ⟨rfl, rfl⟩, fun k hk => (by cases hk), q1⟩
              | false =>
                obtain ⟨R, hR⟩ : ∃ R, R = (if j + 1 = ns.length ∧ False = False ∧ ns.any badN = false then ((TT.node l r s x, 0) : TT × Int) else (.nil, 4)) := ⟨_, rfl⟩
                have hR' : (if j + 1 = ns.length ∧ (false = false) ∧ ns.any badN = false then ((TT.node l r s x, 0) : TT × Int) else (.nil, 4)) = R := by rw [hR]; simp
                rw [hR']
                clear hR'
                go_enter Try.func46, Try.ntmps46
                go_wp2_with (first | (go_at_call 72; refine hc.mono ?_; rintro e w2 ⟨hk, p, bs, rfl, ht, hbs, hj1⟩; obtain ⟨q1, q2, q3⟩ := kb w2 hk; have htt := ht; obtain ⟨b', pl, pr, bl, br, rfl, _⟩ := htt; have a1 : w2.cell? ⟨w.heap.size + 1, 0, none⟩ = some (.int .i64 (j : Int)) := (by simp [World.cell?, hj1])) | (go_at_call 73; refine (bare_at ht).mono ?_; rintro e w3 ⟨rfl, rfl⟩; rw [hbare]))
                have hbB := q1.size
                go_loopw [36] (fun i wr => ∃ k : Nat, k ≤ ns.length ∧ i = .int .i64 (k : Int) ∧ (ns.take k).any badN = false ∧ Below w3.heap.size w3 wr) (fun i _ => ns.length - (intOf i).toNat)
                case atStart => exact ⟨0, by omega, rfl, by simp, Below.refl _ _⟩
                case round =>
                  obtain ⟨k, hkn, rfl, ha, hBw⟩ := hrel
                  by_cases hlt : k < ns.length
                  · obtain ⟨x, hx⟩ : ∃ x, ns[k]? = some x := ⟨_, List.getElem?_eq_getElem hlt⟩
                    have hlt' : (k : Int) < (ns.length : Int) := by omega
                    obtain ⟨c0, c1, c2, c3⟩ := (hn.frame (by rw [hBw.block b (by omega), q1.block b hb])) k x hx
                    have hsw := hBw.size
                    cases hs : x.set with
                    | true =>
                      rw [hs] at c2
                      go_wp2
                      go_roundw
                      case rel => exact ⟨k + 1, by omega, by go_num, any_take hx ha (by simp [badN, hs]), by go_grown⟩
                      case measure => simp [intOf]; omega
                    | false =>
                      rw [hs] at c2
                      by_cases hv0 : x.value = 0
                      · have hv1 : (x.value != 0) = false := by simpa using hv0
                        by_cases hz : x.next0 = 0 ∧ x.next1 = 0
                        · have hbad := any_of hx (show badN x = true by simp [badN, hs, hz])
                          obtain ⟨z1, z2⟩ := hz
                          rw [z1] at c0; rw [z2] at c1
                          go_wp2
                          rw [run_eq_ii]
                          simp only [decide_true, Bool.and_self, Result.andThen]
                          rw [Oper.upon_value]
                          go_wp2
                          go_ret2
                          obtain rfl : R = (.nil, 4) := hR.trans (if_neg (by rw [hbad]; simp))
                          exact ⟨_, [], rfl, ⟨rfl, rfl⟩, fun k hk => (by cases hk), (q1.trans (hBw.mono hbB)).trans ((below_alloc wr _).mono (by omega))⟩
                        · have hzz : (decide (x.next0 = 0) && decide (x.next1 = 0)) = false := by
                            cases h1 : decide (x.next0 = 0) <;> cases h2 : decide (x.next1 = 0) <;> simp_all
                          go_wp2
                          rw [run_eq_ii, hzz]
                          simp only [Result.andThen]
                          rw [Oper.upon_value]
                          go_wp2
                          go_roundw
                          case rel => exact ⟨k + 1, by omega, by go_num, any_take hx ha (by simp [badN, hs, hv0]; simpa using hz), by go_grown⟩
                          case measure => simp [intOf]; omega
                      · have hv1 : (x.value != 0) = true := by simpa using hv0
                        have hbad := any_of hx (show badN x = true by simp [badN, hs, hv0])
                        go_wp2
                        go_ret2
                        obtain rfl : R = (.nil, 4) := hR.trans (if_neg (by rw [hbad]; simp))
                        exact ⟨_, [], rfl, ⟨rfl, rfl⟩, fun k hk => (by cases hk), (q1.trans (hBw.mono hbB)).trans ((below_alloc wr _).mono (by omega))⟩
                  · go_wp2
                    go_ret2
                    have hke : k = ns.length := by omega
                    rw [hke, List.take_length] at ha
                    obtain rfl : R = (.node l r s x, 0) := hR.trans (if_pos ⟨hj, by simp, ha⟩)
                    have y1 := ht.frame fun c hc => hBw.block c (ht.lt c hc)
                    have y2 : ∀ c ∈ bs, w.heap.size ≤ c := fun c hc => (by have := hbs c hc; omega)
                    have y3 := q1.trans (hBw.mono hbB)
                    refine ⟨.pointer (some ⟨b', 0, none⟩), bs, rfl, y1, y2, y3⟩
            · have hjn : ((j : Int) != (ns.length : Int) - 1) = true := by simp; omega
              rw [if_neg (fun h => hj h.1)]
              go_enter Try.func46, Try.ntmps46
              go_wp2_with (first | (go_at_call 72; refine hc.mono ?_; rintro e w2 ⟨hk, p, bs, rfl, ht, hbs, hj1⟩; obtain ⟨q1, q2, q3⟩ := kb w2 hk; have htt := ht; obtain ⟨b', pl, pr, bl, br, rfl, _⟩ := htt; have a1 : w2.cell? ⟨w.heap.size + 1, 0, none⟩ = some (.int .i64 (j : Int)) := (by simp [World.cell?, hj1])))
              go_ret2
              exact ⟨_, [], rfl, ⟨rfl, rfl⟩, fun k hk => (by cases hk), q1⟩
end Go.Proofs.Ythnijeclidpooaa.X
